/- A rule's links' names, which of them live, and which group counts. -/
import Derived.Test.YtjcdkemnflmfiaaGreatP30
set_option linter.unusedVariables false
set_option linter.unusedSimpArgs false
set_option maxRecDepth 100000
namespace Go.Proofs.YtjcdkemnflmfiaaGreatA
open Go Go.Proofs
section
variable {a : ByteArray} {b c : Int} {d : Bool} {gs : List (List Hop)}
theorem out4 {i k : Nat} (hi : i < gs.length) (hk : k < (gs.getD i []).length) {o : List ByteArray} (ho : o.length ≤ 1000) (hi4 : i ≤ 100) (hk5 : k ≤ 100)
  (next : ∀ o', o'.length ≤ o.length + 1 → ∃ z, ref24_Out_l3 (i : Int) (wi ((k : Int) + 1)) a b c d gs o' z ∧ z.length ≤ 100) :
  ∀ (n j : Nat) (is : Bool), j + n = o.length → ∃ z, ref24_Out_l4 (i : Int) (k : Int) is (j : Int) a b c d gs o z ∧ z.length ≤ 100
 | 0, j, is, hj => by
  cases is with
  | true =>
   obtain ⟨z, h1, h2⟩ := next o (by omega)
   exact ⟨z, ref24_Out_l4_go (.inr ⟨by omega, .inl ⟨rfl, h1⟩⟩), h2⟩
  | false =>
   obtain ⟨z, h1, h2⟩ := next (o ++ [((gs.getD i []).getD k (ByteArray.empty, 0)).1]) (by simp)
   exact ⟨z, ref24_Out_l4_go (.inr ⟨by omega, .inr ⟨by simp, by omega, by omega, by omega, by rw [Int.toNat_natCast]; omega, ((gs.getD i []).getD k (ByteArray.empty, 0)).1, ((gs.getD i []).getD k (ByteArray.empty, 0)).2, rfl, by omega, _, rfl, h1⟩⟩), h2⟩
 | n + 1, j, is, hj => by
  cases is with
  | true =>
   obtain ⟨z, h1, h2⟩ := out4 hi hk ho hi4 hk5 next n (j + 1) true (by omega)
   exact ⟨z, ref24_Out_l4_go (.inl ⟨by omega, .inl ⟨rfl, by rw [w_succ (by omega)]; exact h1⟩⟩), h2⟩
  | false =>
   obtain ⟨z, h1, h2⟩ := out4 hi hk ho hi4 hk5 next n (j + 1) _ (by omega)
   exact ⟨z, ref24_Out_l4_go (.inl ⟨by omega, .inr ⟨by simp, by omega, by omega, by omega, by omega, by rw [Int.toNat_natCast]; omega, ((gs.getD i []).getD k (ByteArray.empty, 0)).1, ((gs.getD i []).getD k (ByteArray.empty, 0)).2, rfl, by rw [w_succ (by omega)]; exact h1⟩⟩), h2⟩
theorem out3 {i : Nat} (hi : i < gs.length) (hi4 : i ≤ 100) (hg : (gs.getD i []).length ≤ 5) (next : ∀ o : List ByteArray, o.length ≤ 5 * (i + 1) → ∃ z, ref24_Out_l5 (wi ((i : Int) + 1)) a b c d gs o z ∧ z.length ≤ 100) :
  ∀ (n k : Nat) (o : List ByteArray), k + n = (gs.getD i []).length → o.length ≤ 5 * i + k → ∃ z, ref24_Out_l3 (i : Int) (k : Int) a b c d gs o z ∧ z.length ≤ 100
 | 0, k, o, hk, ho => by
  obtain ⟨z, h1, h2⟩ := next o (by omega)
  exact ⟨z, ref24_Out_l3_go ⟨by omega, by omega, .inr ⟨by rw [Int.toNat_natCast]; omega, h1⟩⟩, h2⟩
 | n + 1, k, o, hk, ho => by
  obtain ⟨z, h1, h2⟩ := out4 (a := a) (b := b) (c := c) (d := d) hi (show k < (gs.getD i []).length by omega) (o := o) (by omega) hi4 (by omega) (fun o' ho' => by
   rw [w_succ (by omega)]
   exact out3 hi hi4 hg next n (k + 1) o' (by omega) (by omega)) o.length 0 false (by omega)
  exact ⟨z, ref24_Out_l3_go ⟨by omega, by omega, .inl ⟨by rw [Int.toNat_natCast]; omega, h1⟩⟩, h2⟩
theorem getD_good (h : GoodGs gs) (i : Nat) : GoodG (gs.getD i []) := by
 rcases Nat.lt_or_ge i gs.length with hi | hi
 ·rw [List.getD_eq_getElem?_getD, List.getElem?_eq_getElem hi]
  exact h.2 _ (List.getElem_mem hi)
 ·rw [List.getD_eq_getElem?_getD, List.getElem?_eq_none hi]; exact .nil
theorem out5 (hg : GoodGs gs) : ∀ (n i : Nat) (o : List ByteArray), i + n = gs.length → o.length ≤ 5 * i → ∃ z, ref24_Out_l5 (i : Int) a b c d gs o z ∧ z.length ≤ 100
 | 0, i, o, hi, ho => ⟨o, ref24_Out_l5_go (.inr ⟨by omega, rfl⟩), by have := hg.1; omega⟩
 | n + 1, i, o, hi, ho => by
  have h4 := hg.1
  obtain ⟨z, h1, h2⟩ := out3 (a := a) (b := b) (c := c) (d := d) (show i < gs.length by omega) (by omega) (getD_good hg i).1 (fun o ho => by
   rw [w_succ (by omega)]
   exact out5 hg n (i + 1) o (by omega) (by omega)) (gs.getD i []).length 0 o (by omega) (by omega)
  exact ⟨z, ref24_Out_l5_go (.inl ⟨by omega, h1⟩), h2⟩
theorem out1 (hg : GoodGs gs) {i : Nat} (hi : i < gs.length) (next : ∃ z, ref24_Out_l0 (wi ((i : Int) + 1)) a b c d gs z ∧ z.length ≤ 100) : ∃ z, ref24_Out_l1 (i : Int) 0 a b c d gs z ∧ z.length ≤ 100 := by
 have h4 := hg.1
 by_cases h : 0 < (gs.getD i []).length
 ·have hg5 := (getD_good hg i).1
  have e1 : wi ((0 : Int) + 1) = ((1 : Nat) : Int) := by decide
  obtain ⟨z, h1, h2⟩ := out3 (a := a) (b := b) (c := c) (d := d) (show i < gs.length by omega) (by omega) hg5 (fun o ho => by
   rw [w_succ (by omega)]
   exact out5 hg (gs.length - (i + 1)) (i + 1) o (by omega) (by omega)) ((gs.getD i []).length - 1) 1 [((gs.getD i []).getD 0 (ByteArray.empty, 0)).1] (by omega) (by simp)
  refine ⟨z, ref24_Out_l1_go ⟨by omega, by omega, .inl ⟨by rw [Int.toNat_natCast]; omega, ref24_Out_l2_go (.inr ⟨by omega, .inr ⟨by simp, by omega, by omega, by omega, by rw [Int.toNat_natCast]; omega, ((gs.getD i []).getD 0 (ByteArray.empty, 0)).1, ((gs.getD i []).getD 0 (ByteArray.empty, 0)).2, rfl, by omega, _, rfl, ?_⟩⟩)⟩⟩, h2⟩
  rw [e1]; exact h1
 ·obtain ⟨z, h1, h2⟩ := next
  exact ⟨z, ref24_Out_l1_go ⟨by omega, by omega, .inr ⟨by rw [Int.toNat_natCast]; omega, h1⟩⟩, h2⟩
theorem out0 (hg : GoodGs gs) : ∀ (n i : Nat), i + n = gs.length → ∃ z, ref24_Out_l0 (i : Int) a b c d gs z ∧ z.length ≤ 100
 | 0, i, hi => ⟨[], ref24_Out_l0_go (.inr ⟨by omega, rfl⟩), by simp⟩
 | n + 1, i, hi => by
  have h4 := hg.1
  obtain ⟨z, h1, h2⟩ := out1 (a := a) (b := b) (c := c) (d := d) hg (show i < gs.length by omega) (by
   rw [w_succ (by omega)]
   exact out0 hg n (i + 1) (by omega))
  exact ⟨z, ref24_Out_l0_go (.inl ⟨by omega, h1⟩), h2⟩
theorem out_go (a : ByteArray) (b c : Int) (d : Bool) (hg : GoodGs gs) : ∃ z, ref24_Out_R a b c d gs z ∧ z.length ≤ 100 := by
 obtain ⟨z, h1, h2⟩ := out0 (a := a) (b := b) (c := c) (d := d) hg gs.length 0 (by omega)
 exact ⟨z, ref24_Out_go h1, h2⟩
end
def livesB : List ByteArray → ByteArray → Nat → Bool
 | [], _, _ => false
 | x :: L, s, n => (decide (x = s) && decide (n % 2 = 1)) || livesB L s (n / 2)
theorem str_drop {l : List ByteArray} {i : Nat} (h : i < l.length) : l.drop i = l.getD i ByteArray.empty :: l.drop (i + 1) := by
 rw [List.drop_eq_getElem_cons h, List.getD_eq_getElem?_getD, List.getElem?_eq_getElem h]; rfl
theorem lives_loop {L : List ByteArray} (hL : L.length ≤ 1000) {s : ByteArray} : ∀ (m i : Nat) (n : Nat), i + m = L.length → n < 18446744073709551616 → ref30_Lives_l0 L s (n : Int) (i : Int) (livesB (L.drop i) s n)
 | 0, i, n, hi, hn => ref30_Lives_l0_go (.inr ⟨by omega, by rw [List.drop_eq_nil_of_le (by omega)]; rfl⟩)
 | m + 1, i, n, hi, hn => by
  have h : i < L.length := by omega
  have e1 : (n : Int).tmod 2 = ((n % 2 : Nat) : Int) := by rw [Int.tmod_eq_emod_of_nonneg (by omega)]; omega
  have e2 : wu ((n : Int).tdiv 2) = ((n / 2 : Nat) : Int) := by rw [Int.tdiv_eq_ediv_of_nonneg (by omega), w64i (by omega) (by omega)]; omega
  have ih := lives_loop hL (s := s) m (i + 1) (n / 2) (by omega) (by omega)
  rw [str_drop h, livesB]
  refine ref30_Lives_l0_go (.inl ⟨by omega, by omega, ?_⟩)
  rw [Int.toNat_natCast, w_succ (by omega), e1, e2]
  by_cases h1 : L.getD i ByteArray.empty = s
  ·refine .inl ⟨h1, ?_⟩
   by_cases h2 : n % 2 = 1
   ·exact .inl ⟨by omega, by rw [decide_eq_true h1, decide_eq_true h2]; rfl⟩
   ·refine .inr ⟨by omega, ?_⟩
    rw [show (decide (n % 2 = 1)) = false from decide_eq_false h2, Bool.and_false, Bool.false_or]
    exact ih
  ·refine .inr ⟨h1, ?_⟩
   rw [show (decide (L.getD i ByteArray.empty = s)) = false from decide_eq_false h1, Bool.false_and, Bool.false_or]
   exact ih
theorem lives_go {L : List ByteArray} (hL : L.length ≤ 1000) (s : ByteArray) {n : Nat} (hn : n < 18446744073709551616) : ref30_Lives_R L s (n : Int) (livesB L s n) :=
 ref30_Lives_go (lives_loop hL L.length 0 n (by omega) hn)
theorem is_go {L : List ByteArray} (hL : L.length ≤ 1000) (s : ByteArray) {n : Nat} (hn : n < 18446744073709551616) : _law30_names__is_R L (n : Int) s (livesB L s n) :=
 _law30_names__is_go ⟨_, lives_go hL s hn, rfl⟩
def gi (p : ByteArray → Bool) : List (List Hop) → Nat → Int
 | [], _ => -1
 | g :: gs, i => if g.any (fun h => p h.1) then (i : Int) else gi p gs (i + 1)
theorem gi_tells (p : ByteArray → Bool) : ∀ (gs : List (List Hop)) (i : Nat), gi p gs i = -1 ∨ ∃ k : Nat, gi p gs i = ((i + k : Nat) : Int) ∧ k < gs.length ∧ (gs.getD k []).any (fun h => p h.1) = true
 | [], i => .inl rfl
 | g :: gs, i => by
  unfold gi
  by_cases h : g.any (fun h => p h.1) = true
  ·rw [if_pos h]; exact .inr ⟨0, by simp, by simp, by simpa using h⟩
  ·rw [if_neg h]
   rcases gi_tells p gs (i + 1) with h1 | ⟨k, h1, h2, h3⟩
   ·exact .inl h1
   ·exact .inr ⟨k + 1, by rw [h1]; omega, by simp; omega, by simpa using h3⟩
theorem hop_drop {l : List Hop} {i : Nat} (h : i < l.length) : l.drop i = l.getD i (ByteArray.empty, 0) :: l.drop (i + 1) := by
 rw [List.drop_eq_getElem_cons h, List.getD_eq_getElem?_getD, List.getElem?_eq_getElem h]; rfl
theorem grp_drop {l : List (List Hop)} {i : Nat} (h : i < l.length) : l.drop i = l.getD i [] :: l.drop (i + 1) := by
 rw [List.drop_eq_getElem_cons h, List.getD_eq_getElem?_getD, List.getElem?_eq_getElem h]; rfl
section
variable {L : List ByteArray} {n : Nat} {a : ByteArray} {b c : Int} {d : Bool} {gs : List (List Hop)}
theorem ref_group_in (hL : L.length ≤ 1000) (hn : n < 18446744073709551616) {i : Nat} (hi : i < gs.length) (hi4 : i ≤ 100) (hg5 : (gs.getD i []).length ≤ 5) {z : Int}
  (hy : (gs.getD i []).any (fun h => livesB L h.1 n) = true → z = (i : Int)) (hno : (gs.getD i []).any (fun h => livesB L h.1 n) = false → ref30_Group_l0 L (n : Int) (wi ((i : Int) + 1)) a b c d gs z) :
  ∀ (m k : Nat), k + m = (gs.getD i []).length → ((gs.getD i []).drop k).any (fun h => livesB L h.1 n) = (gs.getD i []).any (fun h => livesB L h.1 n) → ref30_Group_l1 L (n : Int) (i : Int) (k : Int) a b c d gs z
 | 0, k, hk, he => by
  rw [List.drop_eq_nil_of_le (by omega), List.any_nil] at he
  exact ref30_Group_l1_go ⟨by omega, by omega, .inr ⟨by rw [Int.toNat_natCast]; omega, hno he.symm⟩⟩
 | m + 1, k, hk, he => by
  have h : k < (gs.getD i []).length := by omega
  rw [hop_drop h, List.any_cons] at he
  refine ref30_Group_l1_go ⟨by omega, by omega, .inl ⟨by rw [Int.toNat_natCast]; omega, by omega, ((gs.getD i []).getD k (ByteArray.empty, 0)).1, ((gs.getD i []).getD k (ByteArray.empty, 0)).2, rfl, _, lives_go hL _ hn, ?_⟩⟩
  cases hb : livesB L ((gs.getD i []).getD k (ByteArray.empty, 0)).1 n with
  | true =>
   rw [hb, Bool.true_or] at he
   exact .inl ⟨rfl, hy he.symm⟩
  | false =>
   rw [hb, Bool.false_or] at he
   refine .inr ⟨by simp, ?_⟩
   rw [w_succ (by omega)]
   exact ref_group_in hL hn hi hi4 hg5 hy hno m (k + 1) (by omega) he
theorem ref_group_loop (hL : L.length ≤ 1000) (hn : n < 18446744073709551616) (hg : GoodGs gs) : ∀ (m i : Nat), i + m = gs.length → ref30_Group_l0 L (n : Int) (i : Int) a b c d gs (gi (fun s => livesB L s n) (gs.drop i) i)
 | 0, i, hi => ref30_Group_l0_go (.inr ⟨by omega, by rw [List.drop_eq_nil_of_le (by omega)]; rfl⟩)
 | m + 1, i, hi => by
  have h4 := hg.1
  have h : i < gs.length := by omega
  have ih := ref_group_loop hL hn hg m (i + 1) (by omega)
  rw [grp_drop h, gi]
  refine ref30_Group_l0_go (.inl ⟨by omega, ref_group_in hL hn h (by omega) (getD_good hg i).1 (fun hh => by rw [if_pos hh]) (fun hh => ?_) (gs.getD i []).length 0 (by omega) rfl⟩)
  rw [hh, if_neg (by simp), w_succ (by omega)]
  exact ih
theorem ref_group_go (a : ByteArray) (b c : Int) (d : Bool) (hL : L.length ≤ 1000) (hn : n < 18446744073709551616) (hg : GoodGs gs) : ref30_Group_R a b c d gs L (n : Int) (gi (fun s => livesB L s n) gs 0) :=
 ref30_Group_go (ref_group_loop hL hn hg gs.length 0 (by omega))
theorem hopidx_loop (hL : L.length ≤ 1000) (hn : n < 18446744073709551616) {g : List Hop} (hg : g.length ≤ 5) : ∀ (m k : Nat), k + m = g.length → ∃ z, slices_IndexFunc___api_Hop_api_Hop__v0_l0 g L (n : Int) (g.length : Int) (k : Int) z ∧ decide (0 ≤ z) = (g.drop k).any (fun h => livesB L h.1 n)
 | 0, k, hk => ⟨-1, slices_IndexFunc___api_Hop_api_Hop__v0_l0_go (.inr ⟨by omega, rfl⟩), by rw [List.drop_eq_nil_of_le (by omega)]; rfl⟩
 | m + 1, k, hk => by
  have h : k < g.length := by omega
  rw [hop_drop h, List.any_cons]
  cases hb : livesB L (g.getD k (ByteArray.empty, 0)).1 n with
  | true => exact ⟨(k : Int), slices_IndexFunc___api_Hop_api_Hop__v0_l0_go (.inl ⟨by omega, by omega, by omega, (g.getD k (ByteArray.empty, 0)).1, (g.getD k (ByteArray.empty, 0)).2, rfl, _, step_Group_1_1_v0_go ⟨_, is_go hL _ hn, rfl⟩, .inl ⟨hb, rfl⟩⟩), by simp⟩
  | false =>
   obtain ⟨z, h1, h2⟩ := hopidx_loop hL hn hg m (k + 1) (by omega)
   exact ⟨z, slices_IndexFunc___api_Hop_api_Hop__v0_l0_go (.inl ⟨by omega, by omega, by omega, (g.getD k (ByteArray.empty, 0)).1, (g.getD k (ByteArray.empty, 0)).2, rfl, _, step_Group_1_1_v0_go ⟨_, is_go hL _ hn, rfl⟩, .inr ⟨by rw [hb]; simp, by rw [w_succ (by omega)]; exact h1⟩⟩), by rw [Bool.false_or]; exact h2⟩
theorem group1_go (hL : L.length ≤ 1000) (hn : n < 18446744073709551616) {g : List Hop} (hg : g.length ≤ 5) : step_Group_1_v0_R g L (n : Int) (g.any (fun h => livesB L h.1 n)) := by
 obtain ⟨z, h1, h2⟩ := hopidx_loop hL hn hg g.length 0 (by omega)
 exact step_Group_1_v0_go ⟨_, slices_ContainsFunc___api_Hop_api_Hop__v0_go ⟨z, slices_IndexFunc___api_Hop_api_Hop__v0_go h1, rfl⟩, h2.symm⟩
theorem grpidx_loop (hL : L.length ≤ 1000) (hn : n < 18446744073709551616) (hg : GoodGs gs) : ∀ (m i : Nat), i + m = gs.length → slices_IndexFunc_____api_Hop___api_Hop__v0_l0 gs L (n : Int) (gs.length : Int) (i : Int) (gi (fun s => livesB L s n) (gs.drop i) i)
 | 0, i, hi => slices_IndexFunc_____api_Hop___api_Hop__v0_l0_go (.inr ⟨by omega, by rw [List.drop_eq_nil_of_le (by omega)]; rfl⟩)
 | m + 1, i, hi => by
  have h4 := hg.1
  have h : i < gs.length := by omega
  have ih := grpidx_loop hL hn hg m (i + 1) (by omega)
  rw [grp_drop h, gi]
  refine slices_IndexFunc_____api_Hop___api_Hop__v0_l0_go (.inl ⟨by omega, by omega, by omega, _, group1_go hL hn (getD_good hg _).1, ?_⟩)
  rw [Int.toNat_natCast]
  cases hb : (gs.getD i []).any (fun h => livesB L h.1 n) with
  | true => exact .inl ⟨rfl, by rw [if_pos rfl]⟩
  | false =>
   refine .inr ⟨by simp, ?_⟩
   rw [if_neg (by simp), w_succ (by omega)]
   exact ih
theorem step_group_go (a : ByteArray) (b c : Int) (d : Bool) (hL : L.length ≤ 1000) (hn : n < 18446744073709551616) (hg : GoodGs gs) : step_Group_v0_R a b c d gs L (n : Int) (gi (fun s => livesB L s n) gs 0) :=
 step_Group_v0_go ⟨_, slices_IndexFunc_____api_Hop___api_Hop__v0_go (grpidx_loop hL hn hg gs.length 0 (by omega)), rfl⟩
end
end Go.Proofs.YtjcdkemnflmfiaaGreatA
