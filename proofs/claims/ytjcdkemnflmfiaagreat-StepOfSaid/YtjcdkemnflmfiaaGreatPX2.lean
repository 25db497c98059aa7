/- A rule's links' names, told exactly; which of them live; which group counts; links and nodes by their names. -/
import Derived.Test.YtjcdkemnflmfiaaGreatPX1
import Derived.Test.YtjcdkemnflmfiaaGreatW12
import Derived.Test.YtjcdkemnflmfiaaGreatWX
import Derived.Test.YtjcdkemnflmfiaaGreatWlaw30One
import Derived.Test.YtjcdkemnflmfiaaGreatWlaw30few
import Derived.Test.YtjcdkemnflmfiaaGreatWlaw30works
set_option linter.unusedVariables false
set_option linter.unusedSimpArgs false
set_option maxRecDepth 100000
namespace Go.Proofs.YtjcdkemnflmfiaaGreatA
open Go Go.Proofs
section
variable {gs : List (List Hop)}
theorem getD_good (h : GoodGs gs) (i : Nat) : GoodG (gs.getD i []) := by
 rcases Nat.lt_or_ge i gs.length with hi | hi
 ·rw [List.getD_eq_getElem?_getD, List.getElem?_eq_getElem hi]
  exact h.2 _ (List.getElem_mem hi)
 ·rw [List.getD_eq_getElem?_getD, List.getElem?_eq_none hi]; exact .nil
end
def livesB : List ByteArray → ByteArray → Nat → Bool
 | [], _, _ => false
 | x :: L, s, n => (decide (x = s) && decide (n % 2 = 1)) || livesB L s (n / 2)
theorem str_drop {l : List ByteArray} {i : Nat} (h : i < l.length) : l.drop i = l.getD i ByteArray.empty :: l.drop (i + 1) := by
 rw [List.drop_eq_getElem_cons h, List.getD_eq_getElem?_getD, List.getElem?_eq_getElem h]; rfl
theorem lives_loop {L : List ByteArray} (hL : L.length ≤ 1000) {s : ByteArray} : ∀ (m i : Nat) (n : Nat), i + m = L.length → n < 18446744073709551616 → ref30_Lives_l0 L s (n : Int) (i : Int) (livesB (L.drop i) s n)
 | 0, i, n, hi, hn => ref30_Lives_l0_go (.inr ⟨by omega, by rw [List.drop_eq_nil_of_le (by omega)]; rfl⟩)
 | m + 1, i, n, hi, hn => by
  have h : i < L.length := by omega
  have e1 : (n : Int).tmod 2 = ((n % 2 : Nat) : Int) := by rw [Int.tmod_eq_emod_of_nonneg (by omega)]; omega
  have e2 : wu ((n : Int).tdiv 2) = ((n / 2 : Nat) : Int) := by rw [Int.tdiv_eq_ediv_of_nonneg (by omega), w64i (by omega) (by omega)]; omega
  have ih := lives_loop hL (s := s) m (i + 1) (n / 2) (by omega) (by omega)
  rw [str_drop h, livesB]
  refine ref30_Lives_l0_go (.inl ⟨by omega, by omega, ?_⟩)
  rw [Int.toNat_natCast, w_succ (by omega), e1, e2]
  by_cases h1 : L.getD i ByteArray.empty = s
  ·refine .inl ⟨h1, ?_⟩
   by_cases h2 : n % 2 = 1
   ·exact .inl ⟨by omega, by rw [decide_eq_true h1, decide_eq_true h2]; rfl⟩
   ·refine .inr ⟨by omega, ?_⟩
    rw [show (decide (n % 2 = 1)) = false from decide_eq_false h2, Bool.and_false, Bool.false_or]
    exact ih
  ·refine .inr ⟨h1, ?_⟩
   rw [show (decide (L.getD i ByteArray.empty = s)) = false from decide_eq_false h1, Bool.false_and, Bool.false_or]
   exact ih
theorem lives_go {L : List ByteArray} (hL : L.length ≤ 1000) (s : ByteArray) {n : Nat} (hn : n < 18446744073709551616) : ref30_Lives_R L s (n : Int) (livesB L s n) :=
 ref30_Lives_go (lives_loop hL L.length 0 n (by omega) hn)
def gi (p : ByteArray → Bool) : List (List Hop) → Nat → Int
 | [], _ => -1
 | g :: gs, i => if g.any (fun h => p h.1) then (i : Int) else gi p gs (i + 1)
theorem hop_drop {l : List Hop} {i : Nat} (h : i < l.length) : l.drop i = l.getD i (ByteArray.empty, 0) :: l.drop (i + 1) := by
 rw [List.drop_eq_getElem_cons h, List.getD_eq_getElem?_getD, List.getElem?_eq_getElem h]; rfl
theorem grp_drop {l : List (List Hop)} {i : Nat} (h : i < l.length) : l.drop i = l.getD i [] :: l.drop (i + 1) := by
 rw [List.drop_eq_getElem_cons h, List.getD_eq_getElem?_getD, List.getElem?_eq_getElem h]; rfl
section
variable {L : List ByteArray} {n : Nat} {a : ByteArray} {b c : Int} {d : Bool} {gs : List (List Hop)}
theorem ref_group_in (hL : L.length ≤ 1000) (hn : n < 18446744073709551616) {i : Nat} (hi : i < gs.length) (hi4 : i ≤ 100) (hg5 : (gs.getD i []).length ≤ 5) {z : Int}
  (hy : (gs.getD i []).any (fun h => livesB L h.1 n) = true → z = (i : Int)) (hno : (gs.getD i []).any (fun h => livesB L h.1 n) = false → ref30_Group_l0 L (n : Int) (wi ((i : Int) + 1)) a b c d gs z) :
  ∀ (m k : Nat), k + m = (gs.getD i []).length → ((gs.getD i []).drop k).any (fun h => livesB L h.1 n) = (gs.getD i []).any (fun h => livesB L h.1 n) → ref30_Group_l1 L (n : Int) (i : Int) (k : Int) a b c d gs z
 | 0, k, hk, he => by
  rw [List.drop_eq_nil_of_le (by omega), List.any_nil] at he
  exact ref30_Group_l1_go ⟨by omega, by omega, .inr ⟨by rw [Int.toNat_natCast]; omega, hno he.symm⟩⟩
 | m + 1, k, hk, he => by
  have h : k < (gs.getD i []).length := by omega
  rw [hop_drop h, List.any_cons] at he
  refine ref30_Group_l1_go ⟨by omega, by omega, .inl ⟨by rw [Int.toNat_natCast]; omega, by omega, ((gs.getD i []).getD k (ByteArray.empty, 0)).1, ((gs.getD i []).getD k (ByteArray.empty, 0)).2, rfl, _, lives_go hL _ hn, ?_⟩⟩
  cases hb : livesB L ((gs.getD i []).getD k (ByteArray.empty, 0)).1 n with
  | true =>
   rw [hb, Bool.true_or] at he
   exact .inl ⟨rfl, hy he.symm⟩
  | false =>
   rw [hb, Bool.false_or] at he
   refine .inr ⟨by simp, ?_⟩
   rw [w_succ (by omega)]
   exact ref_group_in hL hn hi hi4 hg5 hy hno m (k + 1) (by omega) he
theorem ref_group_loop (hL : L.length ≤ 1000) (hn : n < 18446744073709551616) (hg : GoodGs gs) : ∀ (m i : Nat), i + m = gs.length → ref30_Group_l0 L (n : Int) (i : Int) a b c d gs (gi (fun s => livesB L s n) (gs.drop i) i)
 | 0, i, hi => ref30_Group_l0_go (.inr ⟨by omega, by rw [List.drop_eq_nil_of_le (by omega)]; rfl⟩)
 | m + 1, i, hi => by
  have h4 := hg.1
  have h : i < gs.length := by omega
  have ih := ref_group_loop hL hn hg m (i + 1) (by omega)
  rw [grp_drop h, gi]
  refine ref30_Group_l0_go (.inl ⟨by omega, ref_group_in hL hn h (by omega) (getD_good hg i).1 (fun hh => by rw [if_pos hh]) (fun hh => ?_) (gs.getD i []).length 0 (by omega) rfl⟩)
  rw [hh, if_neg (by simp), w_succ (by omega)]
  exact ih
theorem ref_group_go (a : ByteArray) (b c : Int) (d : Bool) (hL : L.length ≤ 1000) (hn : n < 18446744073709551616) (hg : GoodGs gs) : ref30_Group_R a b c d gs L (n : Int) (gi (fun s => livesB L s n) gs 0) :=
 ref30_Group_go (ref_group_loop hL hn hg gs.length 0 (by omega))
end

noncomputable instance memDec (s : ByteArray) (o : List ByteArray) : Decidable (s ∈ o) := Classical.propDecidable _
noncomputable def addN (o : List ByteArray) (s : ByteArray) : List ByteArray := if s ∈ o then o else o ++ [s]
noncomputable def outs (o : List ByteArray) (l : List Hop) : List ByteArray := l.foldl (fun o h => addN o h.1) o
theorem outs_cons (o : List ByteArray) (h : Hop) (l : List Hop) : outs o (h :: l) = outs (addN o h.1) l := rfl
theorem outs_append (o : List ByteArray) (l m : List Hop) : outs o (l ++ m) = outs (outs o l) m := by simp [outs, List.foldl_append]
theorem addN_len (o : List ByteArray) (s : ByteArray) : (addN o s).length ≤ o.length + 1 := by
 unfold addN; split
 ·omega
 ·simp
theorem addN_nodup {o : List ByteArray} (h : o.Nodup) (s : ByteArray) : (addN o s).Nodup := by
 unfold addN; split
 ·exact h
 ·rename_i hs
  rw [List.nodup_append]
  refine ⟨h, by simp, fun a ha b hb e => hs ?_⟩
  rw [List.mem_singleton] at hb
  rw [← hb, ← e]; exact ha
theorem addN_mem {o : List ByteArray} {s x : ByteArray} : x ∈ addN o s ↔ x ∈ o ∨ x = s := by
 unfold addN; split
 ·rename_i h
  exact ⟨.inl, fun k => k.elim id fun e => e ▸ h⟩
 ·simp
theorem outs_nodup : ∀ (l : List Hop) {o : List ByteArray}, o.Nodup → (outs o l).Nodup
 | [], o, h => h
 | x :: l, o, h => outs_nodup l (addN_nodup h x.1)
theorem outs_mem : ∀ (l : List Hop) {o : List ByteArray} {x : ByteArray}, x ∈ outs o l ↔ x ∈ o ∨ ∃ h ∈ l, h.1 = x
 | [], o, x => by simp [outs]
 | y :: l, o, x => by
  rw [outs_cons, outs_mem l, addN_mem]
  constructor
  ·rintro ((h | h) | ⟨h, h1, h2⟩)
   ·exact .inl h
   ·exact .inr ⟨y, List.mem_cons_self .., h.symm⟩
   ·exact .inr ⟨h, List.mem_cons_of_mem _ h1, h2⟩
  ·rintro (h | ⟨h, h1, h2⟩)
   ·exact .inl (.inl h)
   ·rcases List.mem_cons.1 h1 with rfl | h1
    ·exact .inl (.inr h2.symm)
    ·exact .inr ⟨h, h1, h2⟩
theorem outs_len : ∀ (l : List Hop) (o : List ByteArray), (outs o l).length ≤ o.length + l.length
 | [], o => by simp [outs]
 | x :: l, o => by
  rw [outs_cons]
  have := outs_len l (addN o x.1)
  have := addN_len o x.1
  rw [List.length_cons]; omega
noncomputable def names (gs : List (List Hop)) : List ByteArray := outs [] gs.flatten
theorem flat_len : ∀ (gs : List (List Hop)), (∀ g ∈ gs, GoodG g) → gs.flatten.length ≤ 5 * gs.length
 | [], _ => by simp
 | g :: gs, h => by
  have := flat_len gs fun x hx => h x (List.mem_cons_of_mem _ hx)
  have := (h g (List.mem_cons_self ..)).1
  rw [List.flatten_cons, List.length_append, List.length_cons]; omega
section
variable {a : ByteArray} {b c : Int} {d : Bool} {gs : List (List Hop)} {z : List ByteArray}
theorem xout2 {i k : Nat} (hi : i < gs.length) (hk : k < (gs.getD i []).length) {o : List ByteArray} (ho : o.length ≤ 1000) (hi4 : i ≤ 100) (hk5 : k ≤ 100) :
  ∀ (n j : Nat) (is : Bool), j + n = o.length →
  ((is = true ∨ ((gs.getD i []).getD k (ByteArray.empty, 0)).1 ∈ o.drop j) → ref24_Out_l1 (i : Int) (wi ((k : Int) + 1)) a b c d gs o z) →
  (¬ (is = true ∨ ((gs.getD i []).getD k (ByteArray.empty, 0)).1 ∈ o.drop j) → ref24_Out_l1 (i : Int) (wi ((k : Int) + 1)) a b c d gs (o ++ [((gs.getD i []).getD k (ByteArray.empty, 0)).1]) z) →
  ref24_Out_l2 (i : Int) (k : Int) is (j : Int) a b c d gs o z
 | 0, j, is, hj, Hy, Hn => by
  cases is with
  | true => exact ref24_Out_l2_go (.inr ⟨by omega, .inl ⟨rfl, Hy (.inl rfl)⟩⟩)
  | false =>
   rw [List.drop_eq_nil_of_le (by omega)] at Hn
   exact ref24_Out_l2_go (.inr ⟨by omega, .inr ⟨by simp, by omega, by omega, by omega, by rw [Int.toNat_natCast]; omega, ((gs.getD i []).getD k (ByteArray.empty, 0)).1, ((gs.getD i []).getD k (ByteArray.empty, 0)).2, rfl, by omega, _, rfl, Hn (by simp)⟩⟩)
 | n + 1, j, is, hj, Hy, Hn => by
  cases is with
  | true =>
   refine ref24_Out_l2_go (.inl ⟨by omega, .inl ⟨rfl, ?_⟩⟩)
   rw [w_succ (by omega)]
   exact xout2 hi hk ho hi4 hk5 n (j + 1) true (by omega) (fun _ => Hy (.inl rfl)) (fun h => absurd (.inl rfl) h)
  | false =>
   refine ref24_Out_l2_go (.inl ⟨by omega, .inr ⟨by simp, by omega, by omega, by omega, by omega, by rw [Int.toNat_natCast]; omega, ((gs.getD i []).getD k (ByteArray.empty, 0)).1, ((gs.getD i []).getD k (ByteArray.empty, 0)).2, rfl, ?_⟩⟩)
   rw [w_succ (by omega), Int.toNat_natCast]
   have e : ((decide (o.getD j ByteArray.empty = ((gs.getD i []).getD k (ByteArray.empty, 0)).1) = true) ∨ ((gs.getD i []).getD k (ByteArray.empty, 0)).1 ∈ o.drop (j + 1)) ↔ ((false = true) ∨ ((gs.getD i []).getD k (ByteArray.empty, 0)).1 ∈ o.drop j) := by
    rw [str_drop (show j < o.length by omega), List.mem_cons, decide_eq_true_iff]
    constructor
    ·rintro (h | h)
     ·exact .inr (.inl h.symm)
     ·exact .inr (.inr h)
    ·rintro (h | h | h)
     ·cases h
     ·exact .inl h.symm
     ·exact .inr h
   exact xout2 hi hk ho hi4 hk5 n (j + 1) _ (by omega) (fun h => Hy (e.1 h)) (fun h => Hn fun k => h (e.2 k))
theorem xout1 {i : Nat} (hi : i < gs.length) (hi4 : i ≤ 100) (hg : (gs.getD i []).length ≤ 5) :
  ∀ (n k : Nat) (o : List ByteArray), k + n = (gs.getD i []).length → o.length ≤ 5 * i + k → ref24_Out_l0 (wi ((i : Int) + 1)) a b c d gs (outs o ((gs.getD i []).drop k)) z → ref24_Out_l1 (i : Int) (k : Int) a b c d gs o z
 | 0, k, o, hk, ho, H => by
  rw [List.drop_eq_nil_of_le (by omega)] at H
  exact ref24_Out_l1_go ⟨by omega, by omega, .inr ⟨by rw [Int.toNat_natCast]; omega, H⟩⟩
 | n + 1, k, o, hk, ho, H => by
  have h : k < (gs.getD i []).length := by omega
  rw [hop_drop h, outs_cons] at H
  have := addN_len o ((gs.getD i []).getD k (ByteArray.empty, 0)).1
  have key := xout1 hi hi4 hg n (k + 1) _ (by omega) (by omega) H
  refine ref24_Out_l1_go ⟨by omega, by omega, .inl ⟨by rw [Int.toNat_natCast]; omega, xout2 (a := a) (b := b) (c := c) (d := d) hi h (o := o) (by omega) hi4 (by omega) o.length 0 false (by omega) (fun hh => ?_) (fun hh => ?_)⟩⟩
  ·rw [w_succ (by omega)]
   rw [addN, if_pos (by simpa using hh)] at key
   exact key
  ·rw [w_succ (by omega)]
   rw [addN, if_neg (by simpa using hh)] at key
   exact key
theorem xout0 (hg : GoodGs gs) : ∀ (n i : Nat) (o : List ByteArray), i + n = gs.length → o.length ≤ 5 * i → ref24_Out_l0 (i : Int) a b c d gs o (outs o (gs.drop i).flatten)
 | 0, i, o, hi, ho => ref24_Out_l0_go (.inr ⟨by omega, by rw [List.drop_eq_nil_of_le (by omega)]; rfl⟩)
 | n + 1, i, o, hi, ho => by
  have h4 := hg.1
  have h : i < gs.length := by omega
  have h5 := (getD_good hg i).1
  rw [grp_drop h, List.flatten_cons, outs_append]
  refine ref24_Out_l0_go (.inl ⟨by omega, xout1 (a := a) (b := b) (c := c) (d := d) h (by omega) h5 (gs.getD i []).length 0 o (by omega) (by omega) ?_⟩)
  rw [w_succ (by omega), List.drop_zero]
  have := outs_len (gs.getD i []) o
  exact xout0 hg n (i + 1) _ (by omega) (by omega)
theorem ref_Out_is (a : ByteArray) (b c : Int) (d : Bool) (hg : GoodGs gs) : ref24_Out_R a b c d gs (names gs) :=
 ref24_Out_go (xout0 hg gs.length 0 [] (by omega) (by simp))
def Seen (m : List (ByteArray × Bool)) (o : List ByteArray) : Prop := ∀ s, (mget s m = some true ∧ s ∈ o) ∨ (mget s m = none ∧ ¬ s ∈ o)
theorem Seen.put {m : List (ByteArray × Bool)} {o : List ByteArray} (h : Seen m o) (s : ByteArray) : Seen (mput s true m) (o ++ [s]) := fun x => by
 rw [mget_put, List.mem_append, List.mem_singleton]
 by_cases e : x = s
 ·rw [if_pos e]; exact .inl ⟨rfl, .inr e⟩
 ·rw [if_neg e]
  rcases h x with ⟨h1, h2⟩ | ⟨h1, h2⟩
  ·exact .inl ⟨h1, .inl h2⟩
  ·exact .inr ⟨h1, fun k => k.elim h2 e⟩
theorem lout1 {i : Nat} {g : List Hop} (hg : g.length ≤ 5) (hi4 : i ≤ 100) : ∀ (n k : Nat) (m : List (ByteArray × Bool)) (o : List ByteArray), k + n = g.length → o.length ≤ 5 * i + k → Seen m o →
  (∀ m, Seen m (outs o (g.drop k)) → limits_Out_l0 gs (gs.length : Int) (wi ((i : Int) + 1)) m (outs o (g.drop k)) z) → limits_Out_l1 gs (gs.length : Int) (i : Int) g (g.length : Int) (k : Int) m o z
 | 0, k, m, o, hk, ho, hs, H => by
  rw [List.drop_eq_nil_of_le (by omega)] at H
  exact limits_Out_l1_go (.inr ⟨by omega, H m hs⟩)
 | n + 1, k, m, o, hk, ho, hs, H => by
  have h : k < g.length := by omega
  rw [hop_drop h, outs_cons] at H
  refine limits_Out_l1_go (.inl ⟨by omega, by omega, by omega, (g.getD k (ByteArray.empty, 0)).1, (g.getD k (ByteArray.empty, 0)).2, rfl, ?_⟩)
  rw [w_succ (by omega)]
  have hp := hs.put (g.getD k (ByteArray.empty, 0)).1
  rcases hs (g.getD k (ByteArray.empty, 0)).1 with ⟨h1, h2⟩ | ⟨h1, h2⟩
  ·rw [addN, if_pos h2] at H
   exact .inl ⟨true, h1, .inl ⟨rfl, lout1 hg hi4 n (k + 1) m o (by omega) (by omega) hs H⟩⟩
  ·rw [addN, if_neg h2] at H
   exact .inr ⟨h1, _, rfl, by omega, _, rfl, lout1 hg hi4 n (k + 1) _ _ (by omega) (by simp; omega) hp H⟩
theorem lout0 (hg : GoodGs gs) : ∀ (n i : Nat) (m : List (ByteArray × Bool)) (o : List ByteArray), i + n = gs.length → o.length ≤ 5 * i → Seen m o → limits_Out_l0 gs (gs.length : Int) (i : Int) m o (outs o (gs.drop i).flatten)
 | 0, i, m, o, hi, ho, hs => limits_Out_l0_go (.inr ⟨by omega, by rw [List.drop_eq_nil_of_le (by omega)]; rfl⟩)
 | n + 1, i, m, o, hi, ho, hs => by
  have h4 := hg.1
  have h : i < gs.length := by omega
  have h5 := (getD_good hg i).1
  rw [grp_drop h, List.flatten_cons, outs_append]
  refine limits_Out_l0_go (.inl ⟨by omega, by omega, by omega, ?_⟩)
  rw [Int.toNat_natCast]
  refine lout1 h5 (by omega) (gs.getD i []).length 0 m o (by omega) (by omega) hs fun m hm => ?_
  rw [w_succ (by omega), List.drop_zero]
  rw [List.drop_zero] at hm
  have := outs_len (gs.getD i []) o
  exact lout0 hg n (i + 1) _ _ (by omega) (by omega) hm
theorem lim_Out_is (a : ByteArray) (b c : Int) (d : Bool) (hg : GoodGs gs) : limits_Out_R a b c d gs (names gs) :=
 limits_Out_go (lout0 hg gs.length 0 [] [] (by omega) (by simp) (fun s => .inr ⟨rfl, by simp⟩))
theorem names_len (hg : GoodGs gs) : (names gs).length ≤ 20 := by
 have := outs_len gs.flatten []
 have := flat_len gs hg.2
 have := hg.1
 unfold names
 rw [List.length_nil] at *
 omega
theorem names_nodup (gs : List (List Hop)) : (names gs).Nodup := outs_nodup _ List.nodup_nil
theorem names_mem {g : List Hop} {h : Hop} (hg : g ∈ gs) (hh : h ∈ g) : h.1 ∈ names gs := (outs_mem _).2 (.inr ⟨h, List.mem_flatten.2 ⟨g, hg, hh⟩, rfl⟩)
end
end Go.Proofs.YtjcdkemnflmfiaaGreatA
namespace Go.Proofs.YtjcdkemnflmfiaaGreatA
open Go
theorem ref29_Right_loop {qs : List Rat} (hz : AZ 10000 qs) (hl : qs.length ≤ 1000000) (d : Nat) : ∀ i : Nat, i + d = qs.length →
  ref29_Right_l0 (qs.map fT) (i : Int) (decide (qs.length ≤ 8 ∧ ∀ q ∈ qs.drop i, Unit q)) := by
 have hL : (qs.map fT).length = qs.length := List.length_map _
 induction d with
 | zero =>
  intro i hi
  refine ref29_Right_l0_go (.inr ⟨by omega, decide_eq_decide.2 ?_⟩)
  rw [List.drop_of_length_le (by omega), hL]
  constructor
  ·intro g; omega
  ·intro g; exact ⟨by omega, fun q hq => by cases hq⟩
 | succ d ih =>
  intro i hi
  have h : i < qs.length := by omega
  refine ref29_Right_l0_go (.inl ⟨by omega, by omega, _, _, _, getD_fT h _, _, ref08_Sign_is _, ?_⟩)
  rw [w_succ (by omega)]
  by_cases h1 : qs.getD i 0 < 0
  ·exact .inl ⟨(sn_lt _).2 h1, decide_eq_false fun g => ((all_drop h).1 g.2).1.1 h1⟩
  ·refine .inr ⟨fun g => h1 ((sn_lt _).1 g), _, _, _, getD_fT h _, _, _, _, ref_Num11, _, ref08_Cmp_is (hz.get h) (SZ1.mono (by omega)), ?_⟩
   by_cases h2 : 1 < qs.getD i 0
   ·exact .inl ⟨cmp_pos.2 h2, decide_eq_false fun g => ((all_drop h).1 g.2).1.2 h2⟩
   ·refine .inr ⟨fun g => h2 (cmp_pos.1 g), ?_⟩
    have e : (qs.length ≤ 8 ∧ ∀ q ∈ qs.drop i, Unit q) ↔ (qs.length ≤ 8 ∧ ∀ q ∈ qs.drop (i + 1), Unit q) := by
     rw [all_drop h]
     exact ⟨fun g => ⟨g.1, g.2.2⟩, fun g => ⟨g.1, ⟨h1, h2⟩, g.2⟩⟩
    rw [decide_eq_decide.2 e]
    exact ih (i + 1) (by omega)
theorem ref29_Right_is {qs : List Rat} (hz : AZ 10000 qs) (hl : qs.length ≤ 1000000) : ref29_Right_R (qs.map fT) (decide (Rgt qs)) := by
 have := ref29_Right_loop hz hl qs.length 0 (by omega)
 rw [List.drop_zero] at this
 exact ref29_Right_go this
theorem ref29_Cases_loop {n : Nat} (hn : n ≤ 60) (d : Nat) : ∀ i : Nat, i + d = n → ref29_Cases_l0 (n : Int) ((2 ^ i : Nat) : Int) (i : Int) ((2 ^ n : Nat) : Int) := by
 induction d with
 | zero =>
  intro i hi
  obtain rfl : i = n := by omega
  exact ref29_Cases_l0_go (.inr ⟨by omega, rfl⟩)
 | succ d ih =>
  intro i hi
  have hp : 2 ^ (i + 1) ≤ 2 ^ 60 := Nat.pow_le_pow_right (by omega) (by omega)
  have e : wu (2 * ((2 ^ i : Nat) : Int)) = ((2 ^ (i + 1) : Nat) : Int) := by
   rw [Nat.pow_succ] at hp ⊢
   generalize 2 ^ i = m at hp ⊢
   rw [w64i (by omega) (by omega)]; omega
  refine ref29_Cases_l0_go (.inl ⟨by omega, ?_⟩)
  rw [e, w_succ (by omega)]
  exact ih (i + 1) (by omega)
theorem ref29_Cases_is {n : Nat} (hn : n ≤ 60) : ref29_Cases_R (n : Int) ((2 ^ n : Nat) : Int) := ref29_Cases_go (ref29_Cases_loop hn n 0 (by omega))
theorem ref29_Chance_loop {qs : List Rat} (hz : AZ 1 qs) (hl : qs.length ≤ 20) {u : Bool} (d : Nat) : ∀ (i m n : Nat) (s : Rat), i + d = qs.length → SZ m s → m + (qs.length - i) * 3 ≤ 900 → n < 18446744073709551616 →
  ref29_Chance_l0 (qs.map fT) (n : Int) (i : Int) u (ng s.num) (tn s.num) (ten s.den) (ng (chQ s (qs.drop i) n).num) (tn (chQ s (qs.drop i) n).num) (ten (chQ s (qs.drop i) n).den) := by
 have hL : (qs.map fT).length = qs.length := List.length_map _
 induction d with
 | zero =>
  intro i m n s hi hs hm hn
  rw [List.drop_of_length_le (by omega)]
  exact ref29_Chance_l0_go (.inr ⟨by omega, rfl, rfl, rfl⟩)
 | succ d ih =>
  intro i m n s hi hs hm hn
  have h : i < qs.length := by omega
  have hq := hz.get h
  have hm2 : m + 3 + (qs.length - (i + 1)) * 3 ≤ 900 := by omega
  have key := ih (i + 1) (m + 3) (n / 2) _ (by omega) (hs.mul2 (ch_step (n := n) hq)) hm2 (by omega)
  have e1 : wu ((n : Int).tdiv 2) = ((n / 2 : Nat) : Int) := by rw [td (by omega), w64i (by omega) (by omega)]; omega
  have e2 : (n : Int).tmod 2 = ((n % 2 : Nat) : Int) := by rw [tm (by omega)]; omega
  refine ref29_Chance_l0_go (.inl ⟨by omega, ?_⟩)
  rw [e1, e2, w_succ (by omega), drop_getD h, chQ]
  by_cases hb : n % 2 = 1
  ·rw [if_pos hb] at key ⊢
   exact .inl ⟨by omega, _, _, _, ref_Num11, by omega, _, _, _, getD_fT h _, _, _, _, ref08_Sub_is (SZ1.mono (by omega)) (hq.mono (by omega)), _, _, _, ref08_Mul_is (hs.mono (by omega)) (hq.not.mono (by omega)), key⟩
  ·rw [if_neg hb] at key ⊢
   exact .inr ⟨by omega, by omega, _, _, _, getD_fT h _, _, _, _, ref08_Mul_is (hs.mono (by omega)) (hq.mono (by omega)), key⟩
theorem ref29_Chance_is {qs : List Rat} (hz : AZ 1 qs) (hl : qs.length ≤ 20) {n : Nat} (hn : n < 18446744073709551616) : ref29_Chance_R (qs.map fT) (n : Int) (ng (chQ 1 qs n).num) (tn (chQ 1 qs n).num) (ten (chQ 1 qs n).den) := by
 have := ref29_Chance_loop hz hl (u := false) qs.length 0 1 n 1 (by omega) SZ1 (by omega) hn
 exact ref29_Chance_go ⟨_, _, _, ref_Num11, this⟩
end Go.Proofs.YtjcdkemnflmfiaaGreatA
namespace Go.Proofs.YtjcdkemnflmfiaaGreatA
open Go
def cast (w : List Int) : List Rat := w.map (fun n : Int => (n : Rat))
def Shr (w : List Int) (qs : List Rat) (e : Int) : Prop :=
 (w = [] ∧ qs = [] ∧ e = 9) ∨ (w ≠ [] ∧ (∃ x ∈ w, x < 0) ∧ qs = [] ∧ e = 2) ∨ (w ≠ [] ∧ (∀ x ∈ w, 0 ≤ x) ∧ sumQ 0 (cast w) = 0 ∧ qs = [] ∧ e = 3) ∨
 (w ≠ [] ∧ (∀ x ∈ w, 0 ≤ x) ∧ sumQ 0 (cast w) ≠ 0 ∧ qs = (cast w).map (· / sumQ 0 (cast w)) ∧ e = 0)
theorem cast_len (w : List Int) : (cast w).length = w.length := List.length_map _
def W64 (w : List Int) : Prop := ∀ x ∈ w, -9223372036854775808 ≤ x ∧ x < 9223372036854775808
theorem int_mem {w : List Int} {i : Nat} (h : i < w.length) : w.getD i 0 ∈ w := by
 rw [List.getD_eq_getElem?_getD, List.getElem?_eq_getElem h]; exact List.getElem_mem h
theorem int_take {w : List Int} {i : Nat} (h : i < w.length) : w.take (i + 1) = w.take i ++ [w.getD i 0] := by
 rw [List.take_succ_eq_append_getElem h, List.getD_eq_getElem?_getD, List.getElem?_eq_getElem h]; rfl
theorem cast_AZ {w : List Int} (hw : W64 w) : AZ 2 (cast w) := fun q hq => by
 obtain ⟨n, hn, rfl⟩ := List.mem_map.1 hq
 exact SZ_int (hw n hn).1 (hw n hn).2
theorem cast_fits {w : List Int} (hw : W64 w) (hl : w.length ≤ 100) : Fits (cast w) := ⟨2, cast_AZ hw, by rw [cast_len]; omega⟩
theorem take_nn {w : List Int} {i : Nat} (h : ∀ j, j < i → ¬ w.getD j 0 < 0) (hi : w.length ≤ i) : ∀ x ∈ w, 0 ≤ x := fun x hx => by
 obtain ⟨j, hj, rfl⟩ := List.getElem_of_mem hx
 have := h j (by omega)
 rw [List.getD_eq_getElem?_getD, List.getElem?_eq_getElem hj] at this
 have this : ¬ w[j] < 0 := this
 omega
theorem cast_snoc {w : List Int} {i : Nat} (h : i < w.length) : cast (w.take (i + 1)) = cast (w.take i) ++ [((w.getD i 0 : Int) : Rat)] := by
 rw [int_take h, cast, List.map_append]; rfl
theorem ext0 {L M : List Rat} (hl : L.length = M.length) (h : ∀ j, j < L.length → L.getD j 0 = M.getD j 0) : L = M := by
 refine List.ext_getElem hl fun i h1 h2 => ?_
 have := h i h1
 rw [List.getD_eq_getElem?_getD, List.getD_eq_getElem?_getD, List.getElem?_eq_getElem h1, List.getElem?_eq_getElem h2] at this
 exact this
theorem q_set_eq {l : List Rat} {i : Nat} (h : i < l.length) (v : Rat) : (l.set i v).getD i 0 = v := by
 rw [List.getD_eq_getElem?_getD, List.getElem?_set_self h]; rfl
theorem q_set_ne {l : List Rat} {i j : Nat} (h : i ≠ j) (v : Rat) : (l.set i v).getD j 0 = l.getD j 0 := by
 rw [List.getD_eq_getElem?_getD, List.getD_eq_getElem?_getD, List.getElem?_set_ne h]
theorem fold_Shares_div {qs : List Rat} {a : Rat} (ha : a ≠ 0) (hz : AZ 2 qs) (hza : SZ 500 a) (hl : qs.length ≤ 100) (d : Nat) : ∀ (i : Nat) (L : List Rat), i + d = qs.length → L.length = qs.length → (∀ j, j < i → L.getD j 0 = qs.getD j 0 / a) → (∀ j, i ≤ j → L.getD j 0 = qs.getD j 0) →
  fold_Shares_l3 (qs.length : Int) (i : Int) (ng a.num) (ab a.num) (lim a.den) (L.map fQ) ((qs.map (· / a)).map fQ) 0 := by
 induction d with
 | zero =>
  intro i L hi hL h1 h2
  have e : L = qs.map (· / a) := ext0 (by rw [List.length_map, hL]) fun j hj => by
   rw [h1 j (by omega), map_getD (f := (· / a)) (by omega) 0 0]
  rw [e]
  exact fold_Shares_l3_go (.inr ⟨by omega, rfl, rfl⟩)
 | succ d ih =>
  intro i L hi hL h1 h2
  have h : i < L.length := by omega
  have hml : (L.map fQ).length = L.length := List.length_map _
  have hq := (hz.get (i := i) (by omega)).mono (show 2 ≤ 10000 by omega)
  have hdv := rat_Div_is ha hq (hza.mono (by omega))
  refine fold_Shares_l3_go (.inl ⟨by omega, by omega, by omega, _, _, _, getD_fQ h _, ?_⟩)
  rw [h2 i (Nat.le_refl _)]
  refine ⟨_, _, _, _, hdv, .inl ⟨rfl, (L.set i (qs.getD i 0 / a)).map fQ, by rw [List.map_set, Int.toNat_natCast]; rfl, ?_⟩⟩
  rw [w_succ (by omega)]
  refine ih (i + 1) _ (by omega) (by rw [List.length_set, hL]) (fun j hj => ?_) (fun j hj => ?_)
  ·by_cases hji : i = j
   ·subst hji; rw [q_set_eq h]
   ·rw [q_set_ne hji, h1 j (by omega)]
  ·rw [q_set_ne (by omega), h2 j (by omega)]
theorem fold_Shares_loop {w : List Int} (hw : W64 w) (hl : w.length ≤ 100) (d : Nat) : ∀ i : Nat, i + d = w.length → 0 < i → (∀ j, j < i → ¬ w.getD j 0 < 0) →
  ∃ qs e, Shr w qs e ∧ fold_Shares_l1 w (w.length : Int) (i : Int) ((cast (w.take i)).map fQ) (qs.map fQ) e := by
 induction d with
 | zero =>
  intro i hi h0 hn
  have hne : w ≠ [] := fun h => by subst h; simp at hi; omega
  have hnn := take_nn hn (by omega)
  rw [List.take_of_length_le (by omega)]
  have hs := fold_Sum_S_is (cast_fits hw hl)
  have hL : ((cast w).map fQ).length = (cast w).length := List.length_map _
  have hza := SZ.sum (cast_AZ hw) SZ0
  rw [cast_len] at hza
  by_cases ha : sumQ 0 (cast w) = 0
  ·refine ⟨[], 3, .inr (.inr (.inl ⟨hne, hnn, ha, rfl, rfl⟩)), fold_Shares_l1_go (.inr ⟨by omega, _, _, _, _, rfl, hs, ?_⟩)⟩
   rw [ha]
   exact fold_Shares_l3_go (.inl ⟨by rw [hL, cast_len]; omega, by omega, by rw [hL, cast_len]; omega, _, _, _, getD_fQ (by rw [cast_len]; show 0 < w.length; omega) _, _, _, _, _, rat_Div_zero, .inr ⟨by omega, rfl, rfl⟩⟩)
  ·refine ⟨_, 0, .inr (.inr (.inr ⟨hne, hnn, ha, rfl, rfl⟩)), fold_Shares_l1_go (.inr ⟨by omega, _, _, _, _, rfl, hs, ?_⟩)⟩
   rw [hL]
   exact fold_Shares_div ha (cast_AZ hw) (hza.mono (by omega)) (by rw [cast_len]; exact hl) (cast w).length 0 _ (by omega) rfl (fun j hj => by omega) (fun j _ => rfl)
 | succ d ih =>
  intro i hi h0 hn
  have h : i < w.length := by omega
  have hr := hw _ (int_mem h)
  have hL : ((cast (w.take i)).map fQ).length = i := by rw [List.length_map, cast_len, List.length_take]; omega
  by_cases hneg : w.getD i 0 < 0
  ·refine ⟨[], 2, .inr (.inl ⟨fun h => (by subst h; simp at hi), ⟨_, int_mem h, hneg⟩, rfl, rfl⟩), fold_Shares_l1_go (.inl ⟨by omega, by omega, by omega, .inl ⟨hneg, rfl, rfl⟩⟩)⟩
  ·obtain ⟨qs, e, h1, h2⟩ := ih (i + 1) (by omega) (by omega) (fun j hj => by
    by_cases hji : j = i
    ·subst hji; exact hneg
    ·exact hn j (by omega))
   refine ⟨qs, e, h1, fold_Shares_l1_go (.inl ⟨by omega, by omega, by omega, .inr ⟨hneg, _, _, _, rat_Of_is hr.1 hr.2, by omega, (cast (w.take (i + 1))).map fQ, by rw [cast_snoc h, List.map_append]; rfl, ?_⟩⟩)⟩
   rw [w_succ (by omega)]
   exact h2
theorem fold_Shares_is {w : List Int} (hw : W64 w) (hl : w.length ≤ 100) : ∃ qs e, Shr w qs e ∧ fold_Shares_R w (qs.map fQ) e := by
 by_cases h0 : w = []
 ·subst h0
  exact ⟨[], 9, .inl ⟨rfl, rfl, rfl⟩, fold_Shares_go (.inl ⟨rfl, rfl, rfl⟩)⟩
 ·have h : 0 < w.length := List.length_pos_iff.2 h0
  have hr := hw _ (int_mem h)
  by_cases hneg : w.getD 0 0 < 0
  ·exact ⟨[], 2, .inr (.inl ⟨h0, ⟨_, int_mem h, hneg⟩, rfl, rfl⟩), fold_Shares_go (.inr ⟨by omega, fold_Shares_l0_go (.inl ⟨by omega, by omega, by omega, .inl ⟨hneg, rfl, rfl⟩⟩)⟩)⟩
  ·obtain ⟨qs, e, h1, h2⟩ := fold_Shares_loop hw hl (w.length - 1) 1 (by omega) (by omega) (fun j hj => by rw [show j = 0 by omega]; exact hneg)
   refine ⟨qs, e, h1, fold_Shares_go (.inr ⟨by omega, fold_Shares_l0_go (.inl ⟨by omega, by omega, by omega, .inr ⟨hneg, _, _, _, rat_Of_is hr.1 hr.2, by omega, (cast (w.take 1)).map fQ, by rw [show (1 : Nat) = 0 + 1 from rfl, cast_snoc h]; rfl, ?_⟩⟩)⟩)⟩
   rw [s64i (n := 0 + 1) (by omega) (by omega)]
   exact h2
end Go.Proofs.YtjcdkemnflmfiaaGreatA
namespace Go.Proofs.YtjcdkemnflmfiaaGreatA
open Go Go.Proofs
abbrev LinkT := ByteArray × ByteArray × ByteArray × Bool × List Int × List Int
abbrev NodeT := ByteArray × List (Int × Int)
abbrev ldef : LinkT := (ByteArray.empty, ByteArray.empty, ByteArray.empty, false, [], [])
abbrev ndef : NodeT := (ByteArray.empty, [])
abbrev hdef : Hop := (ByteArray.empty, 0)
theorem drop_get {α : Type} {l : List α} {i : Nat} (h : i < l.length) (d : α) : l.drop i = l.getD i d :: l.drop (i + 1) := by
 rw [List.drop_eq_getElem_cons h, List.getD_eq_getElem?_getD, List.getElem?_eq_getElem h]; rfl
def ix {α : Type} (p : α → Bool) : List α → Nat → Int
 | [], _ => -1
 | x :: l, i => if p x = true then (i : Int) else ix p l (i + 1)
theorem ix_pos {α : Type} {p : α → Bool} {x : α} {l : List α} {i : Nat} (h : p x = true) : ix p (x :: l) i = (i : Int) := if_pos h
theorem ix_neg {α : Type} {p : α → Bool} {x : α} {l : List α} {i : Nat} (h : p x = false) : ix p (x :: l) i = ix p l (i + 1) := if_neg (Bool.eq_false_iff.1 h)
theorem ix_tells {α : Type} (p : α → Bool) : ∀ (l : List α) (i : Nat), (ix p l i = -1 ∧ l.any p = false) ∨ ∃ k : Nat, ix p l i = ((i + k : Nat) : Int) ∧ k < l.length ∧ l.any p = true ∧ ∀ d, p (l.getD k d) = true
 | [], i => .inl ⟨rfl, rfl⟩
 | x :: l, i => by
  unfold ix
  by_cases h : p x = true
  ·rw [if_pos h]; exact .inr ⟨0, by simp, by simp, by simp [h], fun d => by simpa using h⟩
  ·rw [if_neg h]
   rcases ix_tells p l (i + 1) with ⟨h1, h2⟩ | ⟨k, h1, h2, h3, h4⟩
   ·exact .inl ⟨h1, by simp [h, h2]⟩
   ·exact .inr ⟨k + 1, by rw [h1]; omega, by simp; omega, by simp [h3], fun d => by simpa using h4 d⟩
theorem ix_dec {α : Type} (p : α → Bool) (l : List α) (i : Nat) : decide (0 ≤ ix p l i) = l.any p := by
 rcases ix_tells p l i with ⟨h1, h2⟩ | ⟨k, h1, _, h3, _⟩
 ·rw [h1, h2]; rfl
 ·rw [h1, h3]; exact decide_eq_true (by omega)
def lk (L : List LinkT) (s : ByteArray) : Int := ix (fun l => decide (l.1 = s)) L 0
def nd (N : List NodeT) (s : ByteArray) : Int := ix (fun l => decide (l.1 = s)) N 0
theorem link_loop {L : List LinkT} {s : ByteArray} (hL : L.length ≤ 1000) : ∀ (m i : Nat), i + m = L.length → slices_IndexFunc___api_Link_api_Link__v0_l0 L s (L.length : Int) (i : Int) (ix (fun (l : LinkT) => decide (l.1 = s)) (L.drop i) i)
 | 0, i, hi => slices_IndexFunc___api_Link_api_Link__v0_l0_go (.inr ⟨by omega, by rw [List.drop_eq_nil_of_le (by omega)]; rfl⟩)
 | m + 1, i, hi => by
  have h : i < L.length := by omega
  have ih := link_loop (s := s) hL m (i + 1) (by omega)
  rw [drop_get h ldef]
  refine slices_IndexFunc___api_Link_api_Link__v0_l0_go (.inl ⟨by omega, by omega, by omega, (L.getD i ldef).1, (L.getD i ldef).2.1, (L.getD i ldef).2.2.1, (L.getD i ldef).2.2.2.1, (L.getD i ldef).2.2.2.2.1, (L.getD i ldef).2.2.2.2.2, rfl, _, formed_Link_1_v0_go rfl, ?_⟩)
  rw [w_succ (by omega)]
  cases hb : (fun (l : LinkT) => decide (l.1 = s)) (L.getD i ldef) with
  | true => exact .inl ⟨hb, ix_pos (p := fun (l : LinkT) => decide (l.1 = s)) hb⟩
  | false => exact .inr ⟨Bool.eq_false_iff.1 hb, by rw [ix_neg (p := fun (l : LinkT) => decide (l.1 = s)) hb]; exact ih⟩
theorem node_loop {L : List NodeT} {s : ByteArray} (hL : L.length ≤ 1000) : ∀ (m i : Nat), i + m = L.length → slices_IndexFunc___api_Node_api_Node__v0_l0 L s (L.length : Int) (i : Int) (ix (fun (l : NodeT) => decide (l.1 = s)) (L.drop i) i)
 | 0, i, hi => slices_IndexFunc___api_Node_api_Node__v0_l0_go (.inr ⟨by omega, by rw [List.drop_eq_nil_of_le (by omega)]; rfl⟩)
 | m + 1, i, hi => by
  have h : i < L.length := by omega
  have ih := node_loop (s := s) hL m (i + 1) (by omega)
  rw [drop_get h ndef]
  refine slices_IndexFunc___api_Node_api_Node__v0_l0_go (.inl ⟨by omega, by omega, by omega, (L.getD i ndef).1, (L.getD i ndef).2, rfl, _, formed_Node_1_v0_go rfl, ?_⟩)
  rw [w_succ (by omega)]
  cases hb : (fun (l : NodeT) => decide (l.1 = s)) (L.getD i ndef) with
  | true => exact .inl ⟨hb, ix_pos (p := fun (l : NodeT) => decide (l.1 = s)) hb⟩
  | false => exact .inr ⟨Bool.eq_false_iff.1 hb, by rw [ix_neg (p := fun (l : NodeT) => decide (l.1 = s)) hb]; exact ih⟩
theorem mx_pos {a : Int} (h : 0 ≤ a) : mx a 0 = a := by unfold mx; rw [if_neg (by omega)]
theorem formed_Link_is {N : List NodeT} {L : List LinkT} {R : List T_api_Rule} (hL : L.length ≤ 1000) (a s : ByteArray) : formed_Link_R a N L R s (mx (lk L s) 0) (decide (0 ≤ lk L s)) :=
 formed_Link_go ⟨_, slices_IndexFunc___api_Link_api_Link__v0_go (link_loop hL L.length 0 (by omega)), rfl, rfl⟩
theorem formed_Node_is {N : List NodeT} {L : List LinkT} {R : List T_api_Rule} (hN : N.length ≤ 1000) (a s : ByteArray) : formed_Node_R a N L R s (mx (nd N s) 0) (decide (0 ≤ nd N s)) :=
 formed_Node_go ⟨_, slices_IndexFunc___api_Node_api_Node__v0_go (node_loop hN N.length 0 (by omega)), rfl, rfl⟩
section
variable {a : ByteArray} {N : List NodeT} {L : List LinkT} {R : List T_api_Rule} {s : ByteArray}
theorem ref_link_loop (hL : L.length ≤ 1000) : ∀ (m i : Nat), i + m = L.length → ref23_Link_l0 s (i : Int) a N L R (ix (fun l => decide (l.1 = s)) (L.drop i) i)
 | 0, i, hi => ref23_Link_l0_go (.inr ⟨by omega, by rw [List.drop_eq_nil_of_le (by omega)]; rfl⟩)
 | m + 1, i, hi => by
  have h : i < L.length := by omega
  have ih := ref_link_loop hL m (i + 1) (by omega)
  rw [drop_get h ldef, ix]
  refine ref23_Link_l0_go (.inl ⟨by omega, by omega, (L.getD i ldef).1, (L.getD i ldef).2.1, (L.getD i ldef).2.2.1, (L.getD i ldef).2.2.2.1, (L.getD i ldef).2.2.2.2.1, (L.getD i ldef).2.2.2.2.2, rfl, ?_⟩)
  rw [w_succ (by omega)]
  by_cases hb : (L.getD i ldef).1 = s
  ·exact .inl ⟨hb, by rw [if_pos (decide_eq_true hb)]⟩
  ·exact .inr ⟨hb, by rw [if_neg (by simpa using hb)]; exact ih⟩
theorem ref_Link_is (hL : L.length ≤ 1000) : ref23_Link_R a N L R s (lk L s) := ref23_Link_go (ref_link_loop hL L.length 0 (by omega))
theorem ref_node_loop (hN : N.length ≤ 1000) : ∀ (m i : Nat), i + m = N.length → ref23_Node_l0 s (i : Int) a N L R (ix (fun l => decide (l.1 = s)) (N.drop i) i)
 | 0, i, hi => ref23_Node_l0_go (.inr ⟨by omega, by rw [List.drop_eq_nil_of_le (by omega)]; rfl⟩)
 | m + 1, i, hi => by
  have h : i < N.length := by omega
  have ih := ref_node_loop hN m (i + 1) (by omega)
  rw [drop_get h ndef, ix]
  refine ref23_Node_l0_go (.inl ⟨by omega, by omega, (N.getD i ndef).1, (N.getD i ndef).2, rfl, ?_⟩)
  rw [w_succ (by omega)]
  by_cases hb : (N.getD i ndef).1 = s
  ·exact .inl ⟨hb, by rw [if_pos (decide_eq_true hb)]⟩
  ·exact .inr ⟨hb, by rw [if_neg (by simpa using hb)]; exact ih⟩
theorem ref_Node_is (hN : N.length ≤ 1000) : ref23_Node_R a N L R s (nd N s) := ref23_Node_go (ref_node_loop hN N.length 0 (by omega))
end
theorem lk_lt {L : List LinkT} {s : ByteArray} (h : 0 ≤ lk L s) : (lk L s).toNat < L.length := by
 rcases ix_tells (fun l : LinkT => decide (l.1 = s)) L 0 with ⟨h1, _⟩ | ⟨k, h1, h2, _⟩ <;> unfold lk at * <;> omega
theorem nd_lt {N : List NodeT} {s : ByteArray} (h : 0 ≤ nd N s) : (nd N s).toNat < N.length := by
 rcases ix_tells (fun l : NodeT => decide (l.1 = s)) N 0 with ⟨h1, _⟩ | ⟨k, h1, h2, _⟩ <;> unfold nd at * <;> omega
def light (gs : List (List Hop)) : Bool := gs.any fun g => g.any fun h => decide (h.2 < 1)
theorem lhop_loop {L : List Hop}  (hL : L.length ≤ 1000) : ∀ (m i : Nat), i + m = L.length → slices_IndexFunc___api_Hop_api_Hop__v0_l0 L  (L.length : Int) (i : Int) (ix (fun (h : Hop) => decide (h.2 < 1)) (L.drop i) i)
 | 0, i, hi => slices_IndexFunc___api_Hop_api_Hop__v0_l0_go (.inr ⟨by omega, by rw [List.drop_eq_nil_of_le (by omega)]; rfl⟩)
 | m + 1, i, hi => by
  have h : i < L.length := by omega
  have ih := lhop_loop  hL m (i + 1) (by omega)
  rw [drop_get h hdef]
  refine slices_IndexFunc___api_Hop_api_Hop__v0_l0_go (.inl ⟨by omega, by omega, by omega, (L.getD i hdef).1, (L.getD i hdef).2, rfl, _, step_light_1_1_go rfl, ?_⟩)
  rw [w_succ (by omega)]
  cases hb : (fun (h : Hop) => decide (h.2 < 1)) (L.getD i hdef) with
  | true => exact .inl ⟨hb, ix_pos (p := fun (h : Hop) => decide (h.2 < 1)) hb⟩
  | false => exact .inr ⟨Bool.eq_false_iff.1 hb, by rw [ix_neg (p := fun (h : Hop) => decide (h.2 < 1)) hb]; exact ih⟩
theorem light_hops {g : List Hop} (hg : g.length ≤ 1000) : step_light_1_R g (g.any fun h => decide (h.2 < 1)) :=
 step_light_1_go ⟨_, slices_ContainsFunc___api_Hop_api_Hop__v0_go ⟨_, slices_IndexFunc___api_Hop_api_Hop__v0_go (lhop_loop hg g.length 0 (by omega)), rfl⟩, (ix_dec _ _ _).symm⟩
theorem lgrp_loop {L : List (List Hop)} (hG : ∀ i : Nat, (L.getD i []).length ≤ 1000) (hL : L.length ≤ 1000) : ∀ (m i : Nat), i + m = L.length → slices_IndexFunc_____api_Hop___api_Hop__v1_l0 L  (L.length : Int) (i : Int) (ix (fun (g : (List Hop)) => g.any fun h => decide (h.2 < 1)) (L.drop i) i)
 | 0, i, hi => slices_IndexFunc_____api_Hop___api_Hop__v1_l0_go (.inr ⟨by omega, by rw [List.drop_eq_nil_of_le (by omega)]; rfl⟩)
 | m + 1, i, hi => by
  have h : i < L.length := by omega
  have ih := lgrp_loop hG hL m (i + 1) (by omega)
  rw [drop_get h []]
  refine slices_IndexFunc_____api_Hop___api_Hop__v1_l0_go (.inl ⟨by omega, by omega, by omega, _, light_hops (hG i), ?_⟩)
  rw [w_succ (by omega)]
  cases hb : (fun (g : (List Hop)) => g.any fun h => decide (h.2 < 1)) (L.getD i []) with
  | true => exact .inl ⟨hb, ix_pos (p := fun (g : (List Hop)) => g.any fun h => decide (h.2 < 1)) hb⟩
  | false => exact .inr ⟨Bool.eq_false_iff.1 hb, by rw [ix_neg (p := fun (g : (List Hop)) => g.any fun h => decide (h.2 < 1)) hb]; exact ih⟩
theorem light_is (a : ByteArray) (b c : Int) (d : Bool) {gs : List (List Hop)} (hg : GoodGs gs) : step_light_R a b c d gs (light gs) :=
 step_light_go ⟨_, slices_ContainsFunc_____api_Hop___api_Hop__v0_go ⟨_, slices_IndexFunc_____api_Hop___api_Hop__v1_go (lgrp_loop (fun i => by have := (getD_good hg i).1; omega) (by have := hg.1; omega) gs.length 0 (by omega)), rfl⟩, (ix_dec _ _ _).symm⟩
theorem getD_mem' {α : Type} {l : List α} {i : Nat} {d : α} (h : i < l.length) : l.getD i d ∈ l := by
 rw [List.getD_eq_getElem?_getD, List.getElem?_eq_getElem h]; exact List.getElem_mem h
theorem str_loop {L : List ByteArray} {s : ByteArray} (hL : L.length ≤ 1000) : ∀ (m i : Nat), i + m = L.length → slices_Index___string_string__l0 L s (L.length : Int) (i : Int) (ix (fun x => decide (s = x)) (L.drop i) i)
 | 0, i, hi => slices_Index___string_string__l0_go (.inr ⟨by omega, by rw [List.drop_eq_nil_of_le (by omega)]; rfl⟩)
 | m + 1, i, hi => by
  have h : i < L.length := by omega
  have ih := str_loop (s := s) hL m (i + 1) (by omega)
  rw [drop_get h ByteArray.empty, ix]
  refine slices_Index___string_string__l0_go (.inl ⟨by omega, by omega, by omega, ?_⟩)
  rw [w_succ (by omega)]
  by_cases hb : s = L.getD i ByteArray.empty
  ·exact .inl ⟨hb, by rw [if_pos (decide_eq_true hb)]⟩
  ·exact .inr ⟨hb, by rw [if_neg (by simpa using hb)]; exact ih⟩
theorem lives_none : ∀ {L : List ByteArray} {s : ByteArray} {n : Nat}, ¬ s ∈ L → livesB L s n = false
 | [], s, n, _ => rfl
 | x :: L, s, n, h => by
  rw [livesB, decide_eq_false (fun e => h (by rw [e]; exact List.mem_cons_self ..)), Bool.false_and, Bool.false_or]
  exact lives_none fun k => h (List.mem_cons_of_mem _ k)
theorem lives_from : ∀ {L : List ByteArray} {s : ByteArray} {n i : Nat}, L.Nodup → s ∈ L → ∃ k : Nat, ix (fun x => decide (s = x)) L i = ((i + k : Nat) : Int) ∧ k < L.length ∧ livesB L s n = decide (n / 2 ^ k % 2 = 1)
 | [], s, n, i, _, h => by cases h
 | x :: L, s, n, i, hn, h => by
  rw [List.nodup_cons] at hn
  by_cases e : s = x
  ·subst e
   refine ⟨0, by rw [ix, if_pos (decide_eq_true rfl)]; simp, by simp, ?_⟩
   rw [livesB, lives_none hn.1, decide_eq_true rfl, Bool.true_and, Bool.or_false, Nat.pow_zero, Nat.div_one]
  ·have hs : s ∈ L := by
    rcases List.mem_cons.1 h with h | h
    ·exact absurd h e
    ·exact h
   obtain ⟨k, h1, h2, h3⟩ := lives_from (n := n / 2) (i := i + 1) hn.2 hs
   refine ⟨k + 1, by rw [ix, if_neg (by simpa using e), h1]; omega, by simp; omega, ?_⟩
   rw [livesB, decide_eq_false (fun h => e h.symm), Bool.false_and, Bool.false_or, h3, Nat.div_div_eq_div_mul, Nat.pow_succ, Nat.mul_comm 2]
section
variable {b : Bool} {u v : List Int} {M : List (ByteArray × Int)} {ps : List T_api_Rat}
theorem live_is {L : List ByteArray} (hL : L.length ≤ 60) (hn : L.Nodup) {s : ByteArray} (hs : s ∈ L) {n : Nat} (h : n < 18446744073709551616) : step_Of_1_v0_R s (n : Int) b u v L M ps (livesB L s n) := by
 obtain ⟨k, h1, h2, h3⟩ := lives_from (n := n) (i := 0) hn hs
 rw [Nat.zero_add] at h1
 refine step_Of_1_v0_go ⟨(k : Int), ?_, by omega, ?_⟩
 ·rw [← h1]; exact slices_Index___string_string__go (str_loop (by omega) L.length 0 (by omega))
 ·rw [h3, Int.toNat_natCast, bit_test n k h (by omega)]
  exact decide_eq_decide.2 (by omega)
end
section
variable {b : Bool} {u v : List Int} {M : List (ByteArray × Int)} {ps : List T_api_Rat} {NS : List ByteArray} {n : Nat}
abbrev lvp (L : List ByteArray) (n : Nat) : ByteArray → Bool := fun s => livesB L s n
abbrev lvs (L : List ByteArray) (n : Nat) (g : List Hop) : List Hop := g.filter fun h => livesB L h.1 n
theorem ghop_loop {L : List Hop} (hN : NS.length ≤ 60) (hd : NS.Nodup) (hn : n < 18446744073709551616) (hs : ∀ i : Nat, i < L.length → (L.getD i hdef).1 ∈ NS) (hL : L.length ≤ 1000) : ∀ (m i : Nat), i + m = L.length → slices_IndexFunc___api_Hop_api_Hop__v2_l0 L (n : Int) b u v NS M ps (L.length : Int) (i : Int) (ix (fun (h : Hop) => livesB NS h.1 n) (L.drop i) i)
 | 0, i, hi => slices_IndexFunc___api_Hop_api_Hop__v2_l0_go (.inr ⟨by omega, by rw [List.drop_eq_nil_of_le (by omega)]; rfl⟩)
 | m + 1, i, hi => by
  have h : i < L.length := by omega
  have ih := ghop_loop hN hd hn hs hL m (i + 1) (by omega)
  rw [drop_get h hdef]
  refine slices_IndexFunc___api_Hop_api_Hop__v2_l0_go (.inl ⟨by omega, by omega, by omega, (L.getD i hdef).1, (L.getD i hdef).2, rfl, _, step_Group_1_1_v1_go ⟨_, live_is hN hd (hs i h) hn, rfl⟩, ?_⟩)
  rw [w_succ (by omega)]
  cases hb : (fun (h : Hop) => livesB NS h.1 n) (L.getD i hdef) with
  | true => exact .inl ⟨hb, ix_pos (p := fun (h : Hop) => livesB NS h.1 n) hb⟩
  | false => exact .inr ⟨Bool.eq_false_iff.1 hb, by rw [ix_neg (p := fun (h : Hop) => livesB NS h.1 n) hb]; exact ih⟩
theorem grp_hops (hN : NS.length ≤ 60) (hd : NS.Nodup) (hn : n < 18446744073709551616) {g : List Hop} (hs : ∀ i : Nat, i < g.length → (g.getD i hdef).1 ∈ NS) (hg : g.length ≤ 1000) : step_Group_1_v1_R g (n : Int) b u v NS M ps (g.any fun h => livesB NS h.1 n) :=
 step_Group_1_v1_go ⟨_, slices_ContainsFunc___api_Hop_api_Hop__v2_go ⟨_, slices_IndexFunc___api_Hop_api_Hop__v2_go (ghop_loop hN hd hn hs hg g.length 0 (by omega)), rfl⟩, (ix_dec _ _ _).symm⟩
theorem ggrp_loop {L : List (List Hop)} (hN : NS.length ≤ 60) (hd : NS.Nodup) (hn : n < 18446744073709551616) (hs : ∀ i : Nat, i < L.length → (∀ j : Nat, j < (L.getD i []).length → ((L.getD i []).getD j hdef).1 ∈ NS) ∧ (L.getD i []).length ≤ 1000) (hL : L.length ≤ 1000) : ∀ (m i : Nat), i + m = L.length → slices_IndexFunc_____api_Hop___api_Hop__v2_l0 L (n : Int) b u v NS M ps (L.length : Int) (i : Int) (ix (fun (g : (List Hop)) => g.any fun h => livesB NS h.1 n) (L.drop i) i)
 | 0, i, hi => slices_IndexFunc_____api_Hop___api_Hop__v2_l0_go (.inr ⟨by omega, by rw [List.drop_eq_nil_of_le (by omega)]; rfl⟩)
 | m + 1, i, hi => by
  have h : i < L.length := by omega
  have ih := ggrp_loop hN hd hn hs hL m (i + 1) (by omega)
  rw [drop_get h []]
  refine slices_IndexFunc_____api_Hop___api_Hop__v2_l0_go (.inl ⟨by omega, by omega, by omega, _, grp_hops hN hd hn (hs i h).1 (hs i h).2, ?_⟩)
  rw [w_succ (by omega)]
  cases hb : (fun (g : (List Hop)) => g.any fun h => livesB NS h.1 n) (L.getD i []) with
  | true => exact .inl ⟨hb, ix_pos (p := fun (g : (List Hop)) => g.any fun h => livesB NS h.1 n) hb⟩
  | false => exact .inr ⟨Bool.eq_false_iff.1 hb, by rw [ix_neg (p := fun (g : (List Hop)) => g.any fun h => livesB NS h.1 n) hb]; exact ih⟩
theorem grp_is (hN : NS.length ≤ 60) (hd : NS.Nodup) (hn : n < 18446744073709551616) (a : ByteArray) (c e : Int) (d : Bool) {gs : List (List Hop)} (hg : GoodGs gs) (hm : ∀ g ∈ gs, ∀ h ∈ g, h.1 ∈ NS) :
  step_Group_v1_R a c e d gs (n : Int) b u v NS M ps (ix (fun g => g.any fun h => livesB NS h.1 n) gs 0) :=
 step_Group_v1_go ⟨_, slices_IndexFunc_____api_Hop___api_Hop__v2_go (ggrp_loop hN hd hn (fun i hi => ⟨fun j hj => hm _ (getD_mem' hi) _ (getD_mem' hj), by have := (getD_good hg i).1; omega⟩) (by have := hg.1; omega) gs.length 0 (by omega)), rfl⟩
end
theorem gi_ix (p : ByteArray → Bool) : ∀ (gs : List (List Hop)) (i : Nat), gi p gs i = ix (fun g => g.any fun h => p h.1) gs i
 | [], _ => rfl
 | g :: gs, i => by unfold gi ix; rw [gi_ix p gs (i + 1)]
end Go.Proofs.YtjcdkemnflmfiaaGreatA
namespace Go.Proofs.YtjcdkemnflmfiaaGreatA
open Go Go.Proofs
abbrev RuleT := ByteArray × Int × Int × Bool × List (List Hop)
abbrev NetT := ByteArray × List NodeT × List LinkT × List RuleT
def W32 (a : Int) : Prop := 0 ≤ a ∧ a < 4294967296
def RawL (l : LinkT) : Prop := ((∀ x ∈ l.2.2.2.2.1, 0 ≤ x) ∧ l.2.2.2.2.1.length ≤ 9223372036854775807) ∧ (∀ x ∈ l.2.2.2.2.2, 0 ≤ x) ∧ l.2.2.2.2.2.length ≤ 9223372036854775807
def RawN (n : NetT) : Prop := (∀ m ∈ n.2.1, ∀ p ∈ m.2, W32 p.1) ∧ (∀ l ∈ n.2.2.1, RawL l) ∧ ∀ r ∈ n.2.2.2, W32 r.2.1
def FL (l : LinkT) : Prop := ∃ q : Rat, l.2.2.2 = fQ q ∧ SZ 1 q
def OkN (N : List NodeT) : Prop := N.length ≤ 5 ∧ ∀ n ∈ N, n.2.length ≤ 3 ∧ ∀ p ∈ n.2, W32 p.1
def OkL (L : List LinkT) : Prop := L.length ≤ 8 ∧ ∀ l ∈ L, FL l
def OkR (R : List RuleT) : Prop := R.length ≤ 8 ∧ ∀ r ∈ R, W32 r.2.1 ∧ GoodGs r.2.2.2.2
def OkNet (n : NetT) : Prop := OkN n.2.1 ∧ OkL n.2.2.1 ∧ OkR n.2.2.2
theorem take_small {α : Type} (l : List α) (w : Int) (h : w ≤ 3) : ((l.take w.toNat).length + 192) * (16 + 1) ≤ 70368744177664 := by rw [List.length_take]; omega
theorem mn3 (n : Nat) : 0 ≤ mn (n : Int) 3 ∧ mn (n : Int) 3 ≤ (n : Int) ∧ mn (n : Int) 3 ≤ 3 := by unfold mn; split <;> omega
abbrev rdef : RuleT := (ByteArray.empty, 0, 0, false, [])
theorem mem_snoc {α : Type} {l : List α} {x : α} {P : α → Prop} (h : ∀ y ∈ l, P y) (hx : P x) : ∀ y ∈ l ++ [x], P y := fun y hy => by
 rcases List.mem_append.1 hy with hy | hy
 ·exact h y hy
 ·rw [List.mem_singleton.1 hy]; exact hx
section
variable {x0 : List NetT} {i : Nat} {nm c : ByteArray} {ns nodes : List NodeT} {ls links : List LinkT} {rs : List RuleT} {acc : List NetT}
abbrev OkNets (z : List NetT) : Prop := ∀ n ∈ z, OkNet n
theorem cl3 (hacc : acc.length ≤ 3) (hrs : ∀ r ∈ rs, W32 r.2.1) (next : ∀ R, OkR R → ∃ z, ref22_Clean_l0 x0 (wi ((i : Int) + 1)) (acc ++ [(c, nodes, links, R)]) z ∧ OkNets z) :
  ∀ (m k : Nat) (R : List RuleT), k + m = 8 → R.length ≤ k → (∀ r ∈ R, W32 r.2.1 ∧ GoodGs r.2.2.2.2) → ∃ z, ref22_Clean_l3 x0 (i : Int) (k : Int) nm ns ls rs c nodes links R acc z ∧ OkNets z
 | 0, k, R, hk, hl, hR => by
  obtain ⟨z, h1, h2⟩ := next R ⟨by omega, hR⟩
  by_cases h : k < rs.length
  ·exact ⟨z, ref22_Clean_l3_go (.inl ⟨by omega, .inr ⟨by omega, by omega, _, rfl, h1⟩⟩), h2⟩
  ·exact ⟨z, ref22_Clean_l3_go (.inr ⟨by omega, by omega, _, rfl, h1⟩), h2⟩
 | m + 1, k, R, hk, hl, hR => by
  by_cases h : k < rs.length
  ·obtain ⟨gz, g1, g2⟩ := clean_go (rs.getD k rdef).1 (rs.getD k rdef).2.1 (rs.getD k rdef).2.2.1 (rs.getD k rdef).2.2.2.1 (rs.getD k rdef).2.2.2.2
   obtain ⟨z, h1, h2⟩ := cl3 hacc hrs next m (k + 1) (R ++ [(short20 (rs.getD k rdef).1, (rs.getD k rdef).2.1, (rs.getD k rdef).2.2.1, (rs.getD k rdef).2.2.2.1, gz)]) (by omega) (by rw [List.length_append]; simp; omega) (mem_snoc hR ⟨hrs (rs.getD k rdef) (getD_mem' h), g2⟩)
   refine ⟨z, ref22_Clean_l3_go (.inl ⟨by omega, .inl ⟨by omega, by omega, (rs.getD k rdef).1, (rs.getD k rdef).2.1, (rs.getD k rdef).2.2.1, (rs.getD k rdef).2.2.2.1, (rs.getD k rdef).2.2.2.2, rfl, _, _, _, _, _, g1, by omega, _, rfl, ?_⟩⟩), h2⟩
   rw [w_succ (by omega)]; exact h1
  ·obtain ⟨z, h1, h2⟩ := next R ⟨by omega, hR⟩
   exact ⟨z, ref22_Clean_l3_go (.inr ⟨by omega, by omega, _, rfl, h1⟩), h2⟩
theorem cl2 (hls : ∀ l ∈ ls, RawL l) (next : ∀ L, OkL L → ∃ z, ref22_Clean_l3 x0 (i : Int) 0 nm ns ls rs c nodes L [] acc z ∧ OkNets z) :
  ∀ (m k : Nat) (L : List LinkT), k + m = 8 → L.length ≤ k → (∀ l ∈ L, FL l) → ∃ z, ref22_Clean_l2 x0 (i : Int) (k : Int) nm ns ls rs c nodes L acc z ∧ OkNets z
 | 0, k, L, hk, hl, hf => by
  obtain ⟨z, h1, h2⟩ := next L ⟨by omega, hf⟩
  by_cases h : k < ls.length
  ·exact ⟨z, ref22_Clean_l2_go (.inl ⟨by omega, .inr ⟨by omega, h1⟩⟩), h2⟩
  ·exact ⟨z, ref22_Clean_l2_go (.inr ⟨by omega, h1⟩), h2⟩
 | m + 1, k, L, hk, hl, hf => by
  by_cases h : k < ls.length
  ·have hr := hls _ (getD_mem' (d := ldef) h)
   obtain ⟨q, q1, q2⟩ := ref08_Clean_is (b := (ls.getD k ldef).2.2.2.1) hr.1.1 hr.2.1 (n := 1) (by omega) (by omega) hr.1.2 hr.2.2
   obtain ⟨z, h1, h2⟩ := cl2 hls next m (k + 1) (L ++ [(short20 (ls.getD k ldef).1, short20 (ls.getD k ldef).2.1, short20 (ls.getD k ldef).2.2.1, ng q.num, ab q.num, lim q.den)]) (by omega) (by rw [List.length_append]; simp; omega) (mem_snoc hf ⟨q, rfl, q2⟩)
   refine ⟨z, ref22_Clean_l2_go (.inl ⟨by omega, .inl ⟨by omega, by omega, (ls.getD k ldef).1, (ls.getD k ldef).2.1, (ls.getD k ldef).2.2.1, (ls.getD k ldef).2.2.2.1, (ls.getD k ldef).2.2.2.2.1, (ls.getD k ldef).2.2.2.2.2, rfl, _, short_go _, _, short_go _, _, short_go _, _, _, _, q1, by omega, _, rfl, ?_⟩⟩), h2⟩
   rw [w_succ (by omega)]; exact h1
  ·obtain ⟨z, h1, h2⟩ := next L ⟨by omega, hf⟩
   exact ⟨z, ref22_Clean_l2_go (.inr ⟨by omega, h1⟩), h2⟩
theorem cl1 (hns : ∀ n ∈ ns, ∀ p ∈ n.2, W32 p.1) (next : ∀ N, OkN N → ∃ z, ref22_Clean_l2 x0 (i : Int) 0 nm ns ls rs c N [] acc z ∧ OkNets z) :
  ∀ (m k : Nat) (N : List NodeT), k + m = 5 → N.length ≤ k → (∀ n ∈ N, n.2.length ≤ 3 ∧ ∀ p ∈ n.2, W32 p.1) → ∃ z, ref22_Clean_l1 x0 (i : Int) (k : Int) nm ns ls rs c N acc z ∧ OkNets z
 | 0, k, N, hk, hl, hN => by
  obtain ⟨z, h1, h2⟩ := next N ⟨by omega, hN⟩
  by_cases h : k < ns.length
  ·exact ⟨z, ref22_Clean_l1_go (.inl ⟨by omega, .inr ⟨by omega, h1⟩⟩), h2⟩
  ·exact ⟨z, ref22_Clean_l1_go (.inr ⟨by omega, h1⟩), h2⟩
 | m + 1, k, N, hk, hl, hN => by
  by_cases h : k < ns.length
  ·have f1 : (k : Int) < (ns.length : Int) := by omega
   have f2 : (k : Int) < 5 := by omega
   have f3 : 0 ≤ (k : Int) := by omega
   have hNl : (N.length + 1 + 192) * (40 + 1) ≤ 70368744177664 := by omega
   have hw : wi ((k : Int) + 1) = ((k + 1 : Nat) : Int) := w_succ (by omega)
   have hl1 : ∀ x : NodeT, (N ++ [x]).length ≤ k + 1 := fun x => by rw [List.length_append, List.length_singleton]; omega
   have hk1 : k + 1 + m = 5 := by omega
   have get : ns.getD (k : Int).toNat (ByteArray.empty, []) = ((ns.getD k (ByteArray.empty, [])).1, (ns.getD k (ByteArray.empty, [])).2) := rfl
   have hh := hns _ (getD_mem' (d := ndef) h)
   generalize ns.getD k (ByteArray.empty, []) = nd at get hh
   obtain ⟨e0, e1, e2⟩ := mn3 nd.2.length
   have hb := take_small nd.2 _ e2
   obtain ⟨z, h1, h2⟩ := cl1 hns next m (k + 1) (N ++ [(short20 nd.1, nd.2.take (mn (nd.2.length : Int) 3).toNat)]) hk1 (hl1 _) (mem_snoc hN ⟨by rw [List.length_take]; omega, fun p hp => hh p (List.mem_of_mem_take hp)⟩)
   have h1' : ref22_Clean_l1 x0 (i : Int) (wi ((k : Int) + 1)) nm ns ls rs c (N ++ [(short20 nd.1, nd.2.take (mn (nd.2.length : Int) 3).toNat)]) acc z := by rw [hw]; exact h1
   exact ⟨z, ref22_Clean_l1_go (.inl ⟨f1, .inl ⟨f2, f3, nd.1, nd.2, get, short20 nd.1, short_go nd.1, nd.1, nd.2, get, nd.1, nd.2, get, e0, e1, hb, _, rfl, hNl, _, rfl, h1'⟩⟩), h2⟩
  ·obtain ⟨z, h1, h2⟩ := next N ⟨by omega, hN⟩
   exact ⟨z, ref22_Clean_l1_go (.inr ⟨by omega, h1⟩), h2⟩
end
abbrev netdef : NetT := (ByteArray.empty, [], [], [])
theorem cl0 {x0 : List NetT} (hx : ∀ n ∈ x0, RawN n) : ∀ (m i : Nat) (acc : List NetT), i + m = 3 → acc.length ≤ i → OkNets acc → ∃ z, ref22_Clean_l0 x0 (i : Int) acc z ∧ OkNets z
 | 0, i, acc, hi, hl, ha => by
  by_cases h : i < x0.length
  ·exact ⟨acc, ref22_Clean_l0_go (.inl ⟨by omega, .inr ⟨by omega, rfl⟩⟩), ha⟩
  ·exact ⟨acc, ref22_Clean_l0_go (.inr ⟨by omega, rfl⟩), ha⟩
 | m + 1, i, acc, hi, hl, ha => by
  by_cases h : i < x0.length
  ·have hr := hx _ (getD_mem' (d := netdef) h)
   obtain ⟨z, h1, h2⟩ := cl1 (x0 := x0) (i := i) (nm := (x0.getD i netdef).1) (ns := (x0.getD i netdef).2.1) (ls := (x0.getD i netdef).2.2.1) (rs := (x0.getD i netdef).2.2.2) (c := short20 (x0.getD i netdef).1) (acc := acc)
    hr.1 (fun N hN => cl2 hr.2.1 (fun L hL => cl3 (by omega) hr.2.2 (fun R hR => by
     rw [w_succ (by omega)]
     exact cl0 hx m (i + 1) _ (by omega) (by rw [List.length_append]; simp; omega) (mem_snoc ha ⟨hN, hL, hR⟩)) 8 0 [] (by omega) (by simp) (fun r hr => by cases hr)) 8 0 [] (by omega) (by simp) (fun r hr => by cases hr)) 5 0 [] (by omega) (by simp) (fun r hr => by cases hr)
   exact ⟨z, ref22_Clean_l0_go (.inl ⟨by omega, .inl ⟨by omega, by omega, (x0.getD i netdef).1, (x0.getD i netdef).2.1, (x0.getD i netdef).2.2.1, (x0.getD i netdef).2.2.2, rfl, _, short_go _, h1⟩⟩), h2⟩
  ·exact ⟨acc, ref22_Clean_l0_go (.inr ⟨by omega, rfl⟩), ha⟩
theorem one_go {x0 : List NetT} (hx : ∀ n ∈ x0, RawN n) : ∃ a N L R, law30_One_R x0 a N L R ∧ OkN N ∧ OkL L ∧ OkR R := by
 obtain ⟨z, h1, h2⟩ := cl0 hx 3 0 [] (by omega) (by simp) (fun n hn => by cases hn)
 by_cases h : z.length = 0
 ·exact ⟨_, _, _, _, law30_One_go ⟨z, ref22_Clean_go h1, .inl ⟨by omega, rfl, rfl, rfl, rfl⟩⟩, ⟨by simp, fun r hr => by cases hr⟩, ⟨by simp, fun r hr => by cases hr⟩, by simp, fun r hr => by cases hr⟩
 ·have hm := h2 _ (getD_mem' (d := netdef) (show 0 < z.length by omega))
  exact ⟨(z.getD 0 netdef).1, (z.getD 0 netdef).2.1, (z.getD 0 netdef).2.2.1, (z.getD 0 netdef).2.2.2, law30_One_go ⟨z, ref22_Clean_go h1, .inr ⟨by omega, by omega, (z.getD 0 netdef).1, (z.getD 0 netdef).2.1, (z.getD 0 netdef).2.2.1, (z.getD 0 netdef).2.2.2, rfl, rfl, rfl, rfl, rfl⟩⟩, hm.1, hm.2.1, hm.2.2⟩
end Go.Proofs.YtjcdkemnflmfiaaGreatA
namespace Go.Proofs.YtjcdkemnflmfiaaGreatA
open Go Go.Proofs
def ws (l : List Hop) : List Int := l.map (·.2)
theorem ws_snoc (l : List Hop) (h : Hop) : ws (l ++ [h]) = ws l ++ [h.2] := by simp [ws]
def isum (l : List Int) : Int := l.foldl (· + ·) 0
theorem isum_from (l : List Int) : ∀ s : Int, l.foldl (· + ·) s = s + isum l := by
 induction l with
 | nil => intro s; simp [isum]
 | cons x l ih =>
  intro s
  have e : isum (x :: l) = l.foldl (· + ·) (0 + x) := rfl
  rw [List.foldl_cons, ih, e, ih (0 + x)]; omega
theorem isum_cons (x : Int) (l : List Int) : isum (x :: l) = x + isum l := by
 have e : isum (x :: l) = l.foldl (· + ·) (0 + x) := rfl
 rw [e, isum_from]; omega
theorem sumQ_cast (l : List Int) : ∀ s : Int, sumQ (s : Rat) (cast l) = ((s + isum l : Int) : Rat) := by
 induction l with
 | nil => intro s; simp [isum, sumQ, cast]
 | cons x l ih =>
  intro s
  have : sumQ (s : Rat) (cast (x :: l)) = sumQ ((s : Rat) + (x : Rat)) (cast l) := rfl
  rw [this, ← Rat.intCast_add, ih, isum_cons, Int.add_assoc]
def GoodW (l : List Hop) : Prop := l.length ≤ 5 ∧ ∀ h ∈ l, 1 ≤ h.2 ∧ h.2 ≤ 2147483648
theorem isum_ge : ∀ {l : List Hop}, (∀ h ∈ l, 1 ≤ h.2 ∧ h.2 ≤ 2147483648) → (l.length : Int) ≤ isum (ws l) ∧ isum (ws l) ≤ 2147483648 * (l.length : Int)
 | [], _ => by simp [isum, ws]
 | x :: l, h => by
  have e : ws (x :: l) = x.2 :: ws l := rfl
  rw [e, isum_cons]
  obtain ⟨h1, h2⟩ := isum_ge (l := l) fun y hy => h y (List.mem_cons_of_mem _ hy)
  have := h x (List.mem_cons_self ..)
  rw [List.length_cons]
  omega
abbrev S_ (l : List Hop) : Rat := ((isum (ws l) : Int) : Rat)
theorem S_ne {l : List Hop} (h : GoodW l) (h0 : l ≠ []) : S_ l ≠ 0 := fun e => by
 have h1 := Rat.intCast_eq_zero_iff.1 e
 have h2 := (isum_ge h.2).1
 have := List.length_pos_iff.2 h0
 omega
theorem S_SZ {l : List Hop} (h : GoodW l) : SZ 2 (S_ l) := by
 obtain ⟨h1, h2⟩ := isum_ge h.2
 have := h.1
 exact SZ_int (by omega) (by omega)
def shs (l : List Hop) : List Rat := (cast (ws l)).map (· / S_ l)
theorem shs_len (l : List Hop) : (shs l).length = l.length := by simp [shs, cast, ws]
theorem shs_get {l : List Hop} {k : Nat} (h : k < l.length) : (shs l).getD k 0 = (((l.getD k hdef).2 : Int) : Rat) / S_ l := by
 rw [shs, List.getD_eq_getElem?_getD, List.getElem?_map, cast, List.getElem?_map, ws, List.getElem?_map, List.getD_eq_getElem?_getD, List.getElem?_eq_getElem h]
 rfl
theorem GoodW.get {l : List Hop} (h : GoodW l) {k : Nat} (hk : k < l.length) : 1 ≤ (l.getD k hdef).2 ∧ (l.getD k hdef).2 ≤ 2147483648 := h.2 _ (getD_mem' hk)
theorem GoodW.filter {l : List Hop} (h : GoodW l) (p : Hop → Bool) : GoodW (l.filter p) := ⟨Nat.le_trans (List.length_filter_le ..) h.1, fun x hx => h.2 x (List.mem_filter.1 hx).1⟩
theorem good_light {gs : List (List Hop)} (hg : GoodGs gs) (hl : light gs = false) : ∀ g ∈ gs, GoodW g := fun g hgm => by
 obtain ⟨h1, h2⟩ := hg.2 g hgm
 refine ⟨h1, fun h hh => ?_⟩
 unfold light at hl
 rw [List.any_eq_false] at hl
 have := hl g hgm
 have := Bool.eq_false_iff.2 this
 rw [List.any_eq_false] at this
 have := this h hh
 have h3 := (h2 h hh).2
 simp at this
 omega
theorem GoodW.nil : GoodW [] := ⟨by simp, fun h hh => by cases hh⟩
theorem good_get {gs : List (List Hop)} (h : ∀ g ∈ gs, GoodW g) (i : Nat) : GoodW (gs.getD i []) := by
 rcases Nat.lt_or_ge i gs.length with hi | hi
 ·exact h _ (getD_mem' hi)
 ·rw [List.getD_eq_getElem?_getD, List.getElem?_eq_none hi]; exact .nil
theorem shares_of {l : List Hop} (h : GoodW l) (h0 : l ≠ []) : fold_Shares_R (ws l) ((shs l).map fQ) 0 := by
 have hwl : (ws l).length = l.length := by simp [ws]
 have h5 := h.1
 obtain ⟨qs, e, h1, h2⟩ := fold_Shares_is (w := ws l) (fun x hx => by
  obtain ⟨y, hy, rfl⟩ := List.mem_map.1 hx
  have := h.2 y hy
  omega) (by omega)
 have hne : ws l ≠ [] := fun e => h0 (List.map_eq_nil_iff.1 e)
 have hs : sumQ 0 (cast (ws l)) = S_ l := by
  have := sumQ_cast (ws l) 0
  rwa [Rat.intCast_zero, Int.zero_add] at this
 have hS := S_ne h h0
 rcases h1 with ⟨a, _, _⟩ | ⟨_, ⟨x, hx, hx0⟩, _⟩ | ⟨_, _, a, _⟩ | ⟨_, _, _, a, b⟩
 ·exact absurd a hne
 ·obtain ⟨y, hy, rfl⟩ := List.mem_map.1 hx
  have := h.2 y hy
  omega
 ·rw [hs] at a; exact absurd a hS
 ·rw [a, b, hs] at h2; exact h2
section
variable {b : Bool} {u v : List Int} {M : List (ByteArray × Int)} {ps : List T_api_Rat} {NS : List ByteArray} {n : Nat}
theorem sh1 (hN : NS.length ≤ 60) (hd : NS.Nodup) (hn : n < 18446744073709551616) {g : List Hop} (hs : ∀ i : Nat, i < g.length → (g.getD i hdef).1 ∈ NS) (hg : GoodW g) {zt0 : List Hop} {zt1 : List T_api_Rat} : ∀ (m k : Nat) (acc : List Hop), k + m = g.length → acc.length ≤ k →
  (∃ t e, fold_Shares_R (ws (acc ++ lvs NS n (g.drop k))) t e ∧ ((e = 0 ∧ zt0 = acc ++ lvs NS n (g.drop k) ∧ zt1 = t) ∨ (¬ e = 0 ∧ zt0 = [] ∧ zt1 = []))) →
  step_Shares_v1_l1 (n : Int) b u v NS M ps g (g.length : Int) (k : Int) acc (ws acc) zt0 zt1
 | 0, k, acc, hk, ha, Ho => by
  rw [List.drop_eq_nil_of_le (by omega)] at Ho
  obtain ⟨t, e, h1, h2⟩ := Ho
  rw [lvs, List.filter_nil, List.append_nil] at h1 h2
  exact step_Shares_v1_l1_go (.inr ⟨by omega, t, e, h1, h2⟩)
 | m + 1, k, acc, hk, ha, Ho => by
  have h : k < g.length := by omega
  have h5 := hg.1
  have hwl : (ws acc).length = acc.length := by simp [ws]
  have hw := hg.get h
  rw [drop_get h hdef, lvs] at Ho
  refine step_Shares_v1_l1_go (.inl ⟨by omega, by omega, by omega, (g.getD k hdef).1, (g.getD k hdef).2, rfl, _, live_is hN hd (hs k h) hn, ?_⟩)
  rw [w_succ (by omega)]
  cases hb : livesB NS (g.getD k hdef).1 n with
  | true =>
   rw [List.filter_cons_of_pos (by rw [hb])] at Ho
   refine .inl ⟨rfl, .inr ⟨by omega, by omega, _, rfl, by omega, _, rfl, ?_⟩⟩
   rw [← ws_snoc acc (g.getD k hdef)]
   refine sh1 hN hd hn hs hg m (k + 1) (acc ++ [g.getD k hdef]) (by omega) (by rw [List.length_append]; simp; omega) ?_
   rw [List.append_assoc]
   exact Ho
  | false =>
   rw [List.filter_cons_of_neg (by rw [hb]; decide)] at Ho
   exact .inr ⟨by simp, sh1 hN hd hn hs hg m (k + 1) acc (by omega) (by omega) Ho⟩
theorem sh0 (hN : NS.length ≤ 60) (hd : NS.Nodup) (hn : n < 18446744073709551616) {g : List Hop} (hs : ∀ i : Nat, i < g.length → (g.getD i hdef).1 ∈ NS) (hg : GoodW g) {zt0 : List Hop} {zt1 : List T_api_Rat} : ∀ (m k : Nat), k + m = g.length →
  (∃ t e, fold_Shares_R (ws (lvs NS n (g.drop k))) t e ∧ ((e = 0 ∧ zt0 = lvs NS n (g.drop k) ∧ zt1 = t) ∨ (¬ e = 0 ∧ zt0 = [] ∧ zt1 = []))) →
  step_Shares_v1_l0 (n : Int) b u v NS M ps g (g.length : Int) (k : Int) zt0 zt1
 | 0, k, hk, Ho => by
  rw [List.drop_eq_nil_of_le (by omega)] at Ho
  obtain ⟨t, e, h1, h2⟩ := Ho
  exact step_Shares_v1_l0_go (.inr ⟨by omega, t, e, h1, h2⟩)
 | m + 1, k, hk, Ho => by
  have h : k < g.length := by omega
  have h5 := hg.1
  have hw := hg.get h
  rw [drop_get h hdef, lvs] at Ho
  refine step_Shares_v1_l0_go (.inl ⟨by omega, by omega, by omega, (g.getD k hdef).1, (g.getD k hdef).2, rfl, _, live_is hN hd (hs k h) hn, ?_⟩)
  rw [w_succ (by omega)]
  cases hb : livesB NS (g.getD k hdef).1 n with
  | true =>
   rw [List.filter_cons_of_pos (by rw [hb])] at Ho
   exact .inl ⟨rfl, .inr ⟨by omega, by omega, _, rfl, by omega, _, rfl, sh1 hN hd hn hs hg m (k + 1) [g.getD k hdef] (by omega) (by simp) Ho⟩⟩
  | false =>
   rw [List.filter_cons_of_neg (by rw [hb]; decide)] at Ho
   exact .inr ⟨by simp, sh0 hN hd hn hs hg m (k + 1) (by omega) Ho⟩
end
def hopsB (NS : List ByteArray) (gs : List (List Hop)) (n : Nat) : List Hop :=
 if ix (fun g => g.any fun h => livesB NS h.1 n) gs 0 < 0 then [] else lvs NS n (gs.getD (ix (fun g => g.any fun h => livesB NS h.1 n) gs 0).toNat [])
theorem hopsB_tells (NS : List ByteArray) (gs : List (List Hop)) (n : Nat) : (ix (fun g => g.any fun h => livesB NS h.1 n) gs 0 = -1 ∧ hopsB NS gs n = []) ∨ ∃ k : Nat, ix (fun g => g.any fun h => livesB NS h.1 n) gs 0 = (k : Int) ∧ k < gs.length ∧ hopsB NS gs n = lvs NS n (gs.getD k []) ∧ hopsB NS gs n ≠ [] := by
 rcases ix_tells (fun g : List Hop => g.any fun h => livesB NS h.1 n) gs 0 with ⟨h1, _⟩ | ⟨k, h1, h2, _, h4⟩
 ·exact .inl ⟨h1, by unfold hopsB; rw [h1, if_pos (by decide)]⟩
 ·rw [Nat.zero_add] at h1
  have e : hopsB NS gs n = lvs NS n (gs.getD k []) := by unfold hopsB; rw [h1, if_neg (by omega), Int.toNat_natCast]
  refine .inr ⟨k, h1, h2, e, fun h0 => ?_⟩
  rw [e] at h0
  have h5 := h4 []
  obtain ⟨x, hx, hl⟩ := List.any_eq_true.1 h5
  have : x ∈ lvs NS n (gs.getD k []) := List.mem_filter.2 ⟨hx, hl⟩
  rw [h0] at this; cases this
theorem hopsB_good {NS : List ByteArray} {gs : List (List Hop)} (hw : ∀ g ∈ gs, GoodW g) (n : Nat) : GoodW (hopsB NS gs n) := by
 rcases hopsB_tells NS gs n with ⟨_, h⟩ | ⟨k, _, _, h, _⟩
 ·rw [h]; exact .nil
 ·rw [h]; exact (good_get hw k).filter _
theorem hopsB_mem {NS : List ByteArray} {gs : List (List Hop)} {n : Nat} {h : Hop} (hh : h ∈ hopsB NS gs n) : ∃ g ∈ gs, h ∈ g := by
 rcases hopsB_tells NS gs n with ⟨_, e⟩ | ⟨k, _, hk, e, _⟩
 ·rw [e] at hh; cases hh
 ·rw [e] at hh; exact ⟨_, getD_mem' hk, (List.mem_filter.1 hh).1⟩
section
variable {b : Bool} {u v : List Int} {M : List (ByteArray × Int)} {ps : List T_api_Rat} {gs : List (List Hop)} {n : Nat}
theorem shares_is (a : ByteArray) (c e : Int) (d : Bool) (hg : GoodGs gs) (hw : ∀ g ∈ gs, GoodW g) (hn : n < 18446744073709551616) : step_Shares_v1_R a c e d gs (n : Int) b u v (names gs) M ps (hopsB (names gs) gs n) ((shs (hopsB (names gs) gs n)).map fQ) := by
 have hl := names_len hg
 have hm : ∀ g ∈ gs, ∀ h ∈ g, h.1 ∈ names gs := fun g hg' h hh => names_mem hg' hh
 have hgr := grp_is (b := b) (u := u) (v := v) (M := M) (ps := ps) (by omega) (names_nodup gs) hn a c e d hg hm
 have h4 := hg.1
 rcases hopsB_tells (names gs) gs n with ⟨h1, h2⟩ | ⟨k, h1, h2, h3, h5⟩
 ·rw [h1] at hgr
  rw [h2]
  exact step_Shares_v1_go ⟨_, hgr, .inl ⟨by decide, rfl, rfl⟩⟩
 ·rw [h1] at hgr
  refine step_Shares_v1_go ⟨_, hgr, .inr ⟨by omega, by omega, by omega, ?_⟩⟩
  rw [Int.toNat_natCast]
  have hgw := good_get hw k
  refine sh0 (by omega) (names_nodup gs) hn (fun i hi => hm _ (getD_mem' h2) _ (getD_mem' hi)) hgw (gs.getD k []).length 0 (by omega) ?_
  rw [List.drop_zero, ← h3]
  exact ⟨_, 0, shares_of (hopsB_good hw n) h5, .inl ⟨rfl, rfl, rfl⟩⟩
end
abbrev lnk (L : List LinkT) (s : ByteArray) : LinkT := L.getD (lk L s).toNat ldef
abbrev toI (N : List NodeT) (L : List LinkT) (s : ByteArray) : Int := nd N (lnk L s).2.2.1
def roadOk (N : List NodeT) (L : List LinkT) (s : ByteArray) : Bool := decide (0 ≤ lk L s) && decide (0 ≤ toI N L s)
def putAll (N : List NodeT) (L : List LinkT) (l : List ByteArray) (M : List (ByteArray × Int)) : List (ByteArray × Int) := l.foldl (fun M s => mput s (toI N L s) M) M
theorem putAll_get (N : List NodeT) (L : List LinkT) (s : ByteArray) : ∀ (l : List ByteArray) (M : List (ByteArray × Int)), (s ∈ l ∨ mget s M = some (toI N L s)) → mget s (putAll N L l M) = some (toI N L s)
 | [], M, h => h.elim (fun h => by cases h) id
 | x :: l, M, h => by
  refine putAll_get N L s l _ ?_
  rw [mget_put]
  by_cases e : s = x
  ·rw [if_pos e, e]; exact .inr rfl
  ·rw [if_neg e]
   rcases h with h | h
   ·exact .inl ((List.mem_cons.1 h).resolve_left e)
   ·exact .inr h
section
variable {a x : ByteArray} {N : List NodeT} {L : List LinkT} {R : List T_api_Rule} {NS : List ByteArray} {z0 : List ByteArray} {z1 : List (ByteArray × Int)} {z2 : List T_api_Rat} {z3 : Int}
theorem links_loop (hN : N.length ≤ 1000) (hL : L.length ≤ 1000) (hNS : NS.length ≤ 1000) : ∀ (m i : Nat) (M : List (ByteArray × Int)) (P : List T_api_Rat), i + m = NS.length → P.length ≤ i →
  ((NS.drop i).all (roadOk N L) = true → z0 = NS ∧ z1 = putAll N L (NS.drop i) M ∧ z2 = P ++ (NS.drop i).map (fun s => (lnk L s).2.2.2) ∧ z3 = 0) →
  ((NS.drop i).all (roadOk N L) = false → z0 = [] ∧ z1 = [] ∧ z2 = [] ∧ z3 = 9) →
  step_links_l0 NS (NS.length : Int) (i : Int) a N L R NS M P z0 z1 z2 z3
 | 0, i, M, P, hi, hP, Ht, Hf => by
  rw [List.drop_eq_nil_of_le (by omega)] at Ht
  obtain ⟨h0, h1, h2, h3⟩ := Ht rfl
  exact step_links_l0_go (.inr ⟨by omega, h0, h1, by rw [h2]; simp, h3⟩)
 | m + 1, i, M, P, hi, hP, Ht, Hf => by
  have h : i < NS.length := by omega
  rw [drop_get h ByteArray.empty, List.all_cons] at Ht Hf
  refine step_links_l0_go (.inl ⟨by omega, by omega, by omega, _, _, formed_Link_is hL a _, ?_⟩)
  rw [Int.toNat_natCast]
  by_cases h1 : 0 ≤ lk L (NS.getD i ByteArray.empty)
  ·have hlt := lk_lt h1
   rw [mx_pos h1]
   refine .inl ⟨decide_eq_true h1, h1, by omega, (lnk L (NS.getD i ByteArray.empty)).1, (lnk L (NS.getD i ByteArray.empty)).2.1, (lnk L (NS.getD i ByteArray.empty)).2.2.1, (lnk L (NS.getD i ByteArray.empty)).2.2.2.1, (lnk L (NS.getD i ByteArray.empty)).2.2.2.2.1, (lnk L (NS.getD i ByteArray.empty)).2.2.2.2.2, rfl, _, _, formed_Node_is hN a _, ?_⟩
   by_cases h2 : 0 ≤ toI N L (NS.getD i ByteArray.empty)
   ·have ho : roadOk N L (NS.getD i ByteArray.empty) = true := by unfold roadOk; rw [decide_eq_true h1, decide_eq_true h2]; rfl
    rw [ho, Bool.true_and] at Ht Hf
    refine .inl ⟨decide_eq_true h2, _, rfl, (lnk L (NS.getD i ByteArray.empty)).1, (lnk L (NS.getD i ByteArray.empty)).2.1, (lnk L (NS.getD i ByteArray.empty)).2.2.1, (lnk L (NS.getD i ByteArray.empty)).2.2.2.1, (lnk L (NS.getD i ByteArray.empty)).2.2.2.2.1, (lnk L (NS.getD i ByteArray.empty)).2.2.2.2.2, rfl, by omega, _, rfl, ?_⟩
    rw [w_succ (by omega), mx_pos h2]
    refine links_loop hN hL hNS m (i + 1) _ _ (by omega) (by rw [List.length_append, List.length_singleton]; omega) (fun hh => ?_) Hf
    obtain ⟨g0, g1, g2, g3⟩ := Ht hh
    exact ⟨g0, g1, by rw [g2, List.map_cons, List.append_assoc]; rfl, g3⟩
   ·have ho : roadOk N L (NS.getD i ByteArray.empty) = false := by unfold roadOk; rw [decide_eq_false h2, Bool.and_false]
    rw [ho, Bool.false_and] at Hf
    exact .inr ⟨by rw [decide_eq_false h2]; simp, Hf rfl⟩
  ·have ho : roadOk N L (NS.getD i ByteArray.empty) = false := by unfold roadOk; rw [decide_eq_false h1, Bool.false_and]
   rw [ho, Bool.false_and] at Hf
   exact .inr ⟨by rw [decide_eq_false h1]; simp, Hf rfl⟩
theorem links_ok (hN : N.length ≤ 1000) (hL : L.length ≤ 1000) {c e : Int} {d : Bool} {gs : List (List Hop)} (hg : GoodGs gs) (h : (names gs).all (roadOk N L) = true) :
  step_links_R a N L R x c e d gs (names gs) (putAll N L (names gs) []) ((names gs).map fun s => (lnk L s).2.2.2) 0 :=
 step_links_go ⟨_, lim_Out_is x c e d hg, links_loop hN hL (by have := names_len hg; omega) (names gs).length 0 [] [] (by omega) (by simp) (fun _ => ⟨rfl, rfl, rfl, rfl⟩) (fun h' => by rw [List.drop_zero, h] at h'; cases h')⟩
theorem links_no (hN : N.length ≤ 1000) (hL : L.length ≤ 1000) {c e : Int} {d : Bool} {gs : List (List Hop)} (hg : GoodGs gs) (h : (names gs).all (roadOk N L) = false) :
  step_links_R a N L R x c e d gs [] [] [] 9 :=
 step_links_go ⟨_, lim_Out_is x c e d hg, links_loop hN hL (by have := names_len hg; omega) (names gs).length 0 [] [] (by omega) (by simp) (fun h' => by rw [List.drop_zero, h] at h'; cases h') (fun _ => ⟨rfl, rfl, rfl, rfl⟩)⟩
end
theorem fails_of {N : List NodeT} {L : List LinkT} (hL : ∀ l ∈ L, FL l) : ∀ {l : List ByteArray}, l.all (roadOk N L) = true → ∃ qs : List Rat, (l.map fun s => (lnk L s).2.2.2) = qs.map fQ ∧ AZ 1 qs ∧ qs.length = l.length
 | [], _ => ⟨[], rfl, (fun q hq => by cases hq), rfl⟩
 | s :: l, h => by
  rw [List.all_cons, Bool.and_eq_true] at h
  obtain ⟨qs, h1, h2, h3⟩ := fails_of hL h.2
  have hs := h.1
  unfold roadOk at hs
  rw [Bool.and_eq_true, decide_eq_true_iff] at hs
  obtain ⟨q, q1, q2⟩ := hL _ (getD_mem' (d := ldef) (lk_lt hs.1))
  exact ⟨q :: qs, by rw [List.map_cons, List.map_cons, h1, ← q1], fun p hp => by
   rcases List.mem_cons.1 hp with rfl | hp
   ·exact q2
   ·exact h2 p hp, by rw [List.length_cons, List.length_cons, h3]⟩
end Go.Proofs.YtjcdkemnflmfiaaGreatA
namespace Go.Proofs.YtjcdkemnflmfiaaGreatA
open Go Go.Proofs
def addF (k : Int) (x : Rat) (f : Int → Rat) : Int → Rat := fun j => if j = k then f j + x else f j
def caseF (t : ByteArray → Int) (p S : Rat) (l : List Hop) (f : Int → Rat) : Int → Rat := l.foldl (fun f h => addF (t h.1) (p * (((h.2 : Int) : Rat) / S)) f) f
def stepF (t : ByteArray → Int) (NS : List ByteArray) (gs : List (List Hop)) (n : Nat) (p : Rat) (f : Int → Rat) : Int → Rat := caseF t p (S_ (hopsB NS gs n)) (hopsB NS gs n) f
def stepL (NS : List ByteArray) (gs : List (List Hop)) (n : Nat) (p x : Rat) : Rat := if (hopsB NS gs n).isEmpty = true then x + p else x
def allF (t : ByteArray → Int) (NS : List ByteArray) (gs : List (List Hop)) (cs : List (Nat × Rat)) (f : Int → Rat) : Int → Rat := cs.foldl (fun f c => stepF t NS gs c.1 c.2 f) f
def allL (NS : List ByteArray) (gs : List (List Hop)) (cs : List (Nat × Rat)) (x : Rat) : Rat := cs.foldl (fun x c => stepL NS gs c.1 c.2 x) x
def BF (z : Nat) (f : Int → Rat) : Prop := ∀ k, SZ z (f k)
theorem addF_at (k : Int) (x : Rat) (f : Int → Rat) : addF k x f k = f k + x := if_pos rfl
theorem addF_ne {k j : Int} (h : j ≠ k) (x : Rat) (f : Int → Rat) : addF k x f j = f j := if_neg h
theorem BF.mono {y z : Nat} {f : Int → Rat} (h : BF y f) (hz : y ≤ z) : BF z f := fun k => (h k).mono hz
theorem BF.add {z w : Nat} {f : Int → Rat} (h : BF z f) {x : Rat} (hx : SZ w x) (k : Int) : BF (z + w + 1) (addF k x f) := fun j => by
 by_cases e : j = k
 ·subst e; rw [addF_at]; exact (h j).add2 hx
 ·rw [addF_ne e]; exact (h j).mono (by omega)
theorem share_SZ {l : List Hop} (hl : GoodW l) (h0 : l ≠ []) {h : Hop} (hh : 1 ≤ h.2 ∧ h.2 ≤ 2147483648) {w : Nat} {p : Rat} (hp : SZ w p) : SZ 4 (((h.2 : Int) : Rat) / S_ l) ∧ SZ (w + 4) (p * (((h.2 : Int) : Rat) / S_ l)) := by
 have h1 : SZ 4 (((h.2 : Int) : Rat) / S_ l) := (SZ_int (n := h.2) (by omega) (by omega)).div2 (S_ne hl h0) (S_SZ hl)
 exact ⟨h1, hp.mul2 h1⟩
theorem caseF_SZ (t : ByteArray → Int) {w : Nat} {p : Rat} (hp : SZ w p) {L : List Hop} (hL : GoodW L) (h0 : L ≠ []) : ∀ (l : List Hop) {z : Nat} {f : Int → Rat}, (∀ h ∈ l, 1 ≤ h.2 ∧ h.2 ≤ 2147483648) → BF z f → BF (z + l.length * (w + 5)) (caseF t p (S_ L) l f)
 | [], z, f, _, hf => hf.mono (by omega)
 | x :: l, z, f, hl, hf => by
  have h1 := hf.add (share_SZ hL h0 (hl x (List.mem_cons_self ..)) hp).2 (t x.1)
  have h2 := caseF_SZ t hp hL h0 l (fun h hh => hl h (List.mem_cons_of_mem _ hh)) h1
  have e : caseF t p (S_ L) (x :: l) f = caseF t p (S_ L) l (addF (t x.1) (p * (((x.2 : Int) : Rat) / S_ L)) f) := rfl
  rw [e]
  refine h2.mono ?_
  rw [List.length_cons, Nat.succ_mul]; omega
theorem stepF_SZ (t : ByteArray → Int) {NS : List ByteArray} {gs : List (List Hop)} (hw : ∀ g ∈ gs, GoodW g) {n : Nat} {w z : Nat} {p : Rat} (hp : SZ w p) {f : Int → Rat} (hf : BF z f) : BF (z + 5 * (w + 5)) (stepF t NS gs n p f) := by
 have hg := hopsB_good (NS := NS) hw n
 unfold stepF
 by_cases h0 : hopsB NS gs n = []
 ·rw [h0]; exact hf.mono (by omega)
 ·refine (caseF_SZ t hp hg h0 _ hg.2 hf).mono ?_
  have := Nat.mul_le_mul_right (w + 5) hg.1
  omega
theorem stepL_SZ {NS : List ByteArray} {gs : List (List Hop)} {n : Nat} {w z : Nat} {p x : Rat} (hp : SZ w p) (hx : SZ z x) : SZ (z + 5 * (w + 5)) (stepL NS gs n p x) := by
 unfold stepL
 split
 ·exact (hx.add2 hp).mono (by omega)
 ·exact hx.mono (by omega)
def Rep (m : List (Int × T_api_Rat)) (f : Int → Rat) : Prop := ∀ k : Int, mget k m = some (fQ (f k)) ∨ (mget k m = none ∧ f k = 0)
theorem Rep.nil : Rep [] (fun _ => 0) := fun k => .inr ⟨rfl, rfl⟩
theorem Rep.put {m : List (Int × T_api_Rat)} {f : Int → Rat} (h : Rep m f) (k : Int) (x : Rat) : Rep (mput k (fQ (f k + x)) m) (addF k x f) := fun j => by
 rw [mget_put]
 by_cases e : j = k
 ·subst e; rw [if_pos rfl, addF_at]; exact .inl rfl
 ·rw [if_neg e, addF_ne e]; exact h j
theorem Rep.zero {m : List (Int × T_api_Rat)} {f : Int → Rat} (h : Rep m f) {k : Int} (hk : f k = 0) : Rep (mput k (fQ 0) m) f := fun j => by
 rw [mget_put]
 by_cases e : j = k
 ·subst e; rw [if_pos rfl, hk]; exact .inl rfl
 ·rw [if_neg e]; exact h j
section
variable {a x : ByteArray} {N : List NodeT} {L : List LinkT} {R : List T_api_Rule} {c e : Int} {d d4 : Bool} {gs : List (List Hop)} {NS : List ByteArray} {M : List (ByteArray × Int)} {ps : List T_api_Rat} {z0 : List Int} {z1 : List T_api_Rat} {z2 : Bool} {z3 z4 : List Int} {z5 : Int} {CS : List T_fail_Case} {K i : Int}
theorem hop_loop {t : ByteArray → Int} {n : Int} {w : Nat} {p lost : Rat} (hp : SZ w p) (hw : w ≤ 1000) {l : List Hop} (hl : GoodW l) (hM : ∀ h ∈ l, mget h.1 M = some (t h.1)) : ∀ (mm j : Nat) (m : List (Int × T_api_Rat)) (f : Int → Rat) (z : Nat), j + mm = l.length → Rep m f → BF z f → z + mm * (w + 5) ≤ 9000 →
  (∀ m', Rep m' (caseF t p (S_ l) (l.drop j) f) → step_Of_l0 CS K (wi (i + 1)) a N L R d4 x c e d gs NS M ps (ng lost.num) (ab lost.num) (lim lost.den) m' z0 z1 z2 z3 z4 z5) →
  step_Of_l1 ((shs l).map fQ) CS K i l (l.length : Int) (j : Int) a N L R d4 x c e d gs NS M ps (ng lost.num) (ab lost.num) (lim lost.den) n (ng p.num) (ab p.num) (lim p.den) m z0 z1 z2 z3 z4 z5
 | 0, j, m, f, z, hj, hr, hf, hz, H => by
  rw [List.drop_eq_nil_of_le (by omega)] at H
  exact step_Of_l1_go (.inr ⟨by omega, H m hr⟩)
 | mm + 1, j, m, f, z, hj, hr, hf, hz, H => by
  have h : j < l.length := by omega
  have h5 := hl.1
  have h0 : l ≠ [] := fun e => by rw [e] at h; cases h
  have hh := hl.get h
  obtain ⟨s1, s2⟩ := share_SZ hl h0 hh hp
  have hsl := shs_len l
  have hlm : ((shs l).map fQ).length = l.length := by rw [List.length_map, hsl]
  have g1 := getD_fQ (qs := shs l) (i := j) (by omega) (false, [], [])
  rw [shs_get h] at g1
  rw [Nat.succ_mul] at hz
  have hm := hM _ (getD_mem' (d := hdef) h)
  have mul := rat_Mul_is (hp.mono (show w ≤ 10000 by omega)) (s1.mono (show 4 ≤ 10000 by omega))
  have add := rat_Add_is ((hf (t (l.getD j hdef).1)).mono (show z ≤ 10000 by omega)) (s2.mono (show w + 4 ≤ 10000 by omega))
  rw [drop_get h hdef] at H
  refine step_Of_l1_go (.inl ⟨by omega, by omega, by omega, (l.getD j hdef).1, (l.getD j hdef).2, rfl, _, hm, ?_⟩)
  rw [w_succ (by omega)]
  rcases hr (t (l.getD j hdef).1) with hg | ⟨hg, hg0⟩
  ·exact .inl ⟨_, hg, _, hg, by omega, _, _, _, g1, _, _, _, mul, _, _, _, add, _, rfl, hop_loop hp hw hl hM mm (j + 1) _ _ (z + (w + 4) + 1) (by omega) (hr.put _ _) (hf.add s2 _) (by omega) H⟩
  ·have hr2 := hr.zero hg0
   have hg2 : mget (t (l.getD j hdef).1) (mput (t (l.getD j hdef).1) (fQ 0) m) = some (fQ (f (t (l.getD j hdef).1))) := by rw [mget_put, if_pos rfl, hg0]
   exact .inr ⟨hg, _, _, _, rat_Of0, _, rfl, _, hg2, by omega, _, _, _, g1, _, _, _, mul, _, _, _, add, _, rfl, hop_loop hp hw hl hM mm (j + 1) _ _ (z + (w + 4) + 1) (by omega) (hr2.put _ _) (hf.add s2 _) (by omega) H⟩
end
section
variable {a x : ByteArray} {N : List NodeT} {L : List LinkT} {R : List T_api_Rule} {c e : Int} {d d4 : Bool} {gs : List (List Hop)} {M : List (ByteArray × Int)} {ps : List T_api_Rat} {z0 : List Int} {z1 : List T_api_Rat} {z2 : Bool} {z3 z4 : List Int} {z5 : Int}
theorem case_loop {t : ByteArray → Int} (hg : GoodGs gs) (hgw : ∀ g ∈ gs, GoodW g) (hM : ∀ s ∈ names gs, mget s M = some (t s)) {w : Nat} (hw : w ≤ 1000) {cs : List (Nat × Rat)} (hcl : cs.length ≤ 1000) (hcs : ∀ c ∈ cs, c.1 < 18446744073709551616 ∧ SZ w c.2) :
  ∀ (mm i : Nat) (m : List (Int × T_api_Rat)) (f : Int → Rat) (lost : Rat) (z : Nat), i + mm = cs.length → Rep m f → BF z f → SZ z lost → z + mm * (5 * (w + 5)) ≤ 9000 →
  (∀ m', Rep m' (allF t (names gs) gs (cs.drop i) f) → step_Of_l2 (N.length : Int) 0 d4 (ng (allL (names gs) gs (cs.drop i) lost).num) (ab (allL (names gs) gs (cs.drop i) lost).num) (lim (allL (names gs) gs (cs.drop i) lost).den) m' [] z0 z1 z2 z3 z4 z5) →
  step_Of_l0 (cs.map fC) (cs.length : Int) (i : Int) a N L R d4 x c e d gs (names gs) M ps (ng lost.num) (ab lost.num) (lim lost.den) m z0 z1 z2 z3 z4 z5
 | 0, i, m, f, lost, z, hi, hr, hf, hlost, hz, H => by
  rw [List.drop_eq_nil_of_le (by omega)] at H
  exact step_Of_l0_go (.inr ⟨by omega, H m hr⟩)
 | mm + 1, i, m, f, lost, z, hi, hr, hf, hlost, hz, H => by
  have h : i < cs.length := by omega
  have hlm : (cs.map fC).length = cs.length := List.length_map _
  have hcc := hcs _ (getD_mem' (d := (0, 0)) h)
  have g1 := getD_fC (cs := cs) h (0, false, [], [])
  rw [drop_get h (0, 0)] at H
  generalize cs.getD i (0, 0) = cc at hcc g1 H
  obtain ⟨n, p⟩ := cc
  obtain ⟨hn, hp⟩ := hcc
  have hgd := hopsB_good (NS := names gs) hgw n
  have hh5 := hgd.1
  rw [Nat.succ_mul] at hz
  have hMM : ∀ h ∈ hopsB (names gs) gs n, mget h.1 M = some (t h.1) := fun h hh => by
   obtain ⟨g, hgm, hhg⟩ := hopsB_mem hh
   exact hM _ (names_mem hgm hhg)
  have hmul := Nat.mul_le_mul_right (w + 5) hh5
  have next : ∀ m', Rep m' (caseF t p (S_ (hopsB (names gs) gs n)) ((hopsB (names gs) gs n).drop 0) f) → step_Of_l0 (cs.map fC) (cs.length : Int) (wi ((i : Int) + 1)) a N L R d4 x c e d gs (names gs) M ps (ng (stepL (names gs) gs n p lost).num) (ab (stepL (names gs) gs n p lost).num) (lim (stepL (names gs) gs n p lost).den) m' z0 z1 z2 z3 z4 z5 := fun m' hr' => by
   rw [w_succ (by omega)]
   rw [List.drop_zero] at hr'
   exact case_loop hg hgw hM hw hcl hcs mm (i + 1) m' _ _ (z + 5 * (w + 5)) (by omega) hr' (stepF_SZ t hgw hp hf) (stepL_SZ hp hlost) (by omega) H
  refine step_Of_l0_go (.inl ⟨by omega, by omega, by omega, _, _, _, _, g1, _, _, shares_is x c e d hg hgw hn, ?_⟩)
  by_cases h0 : (hopsB (names gs) gs n).isEmpty = true
  ·have e0 : hopsB (names gs) gs n = [] := List.isEmpty_iff.1 h0
   have eL : stepL (names gs) gs n p lost = lost + p := if_pos h0
   rw [eL] at next
   exact .inl ⟨by rw [e0]; rfl, _, _, _, rat_Add_is (hlost.mono (by omega)) (hp.mono (by omega)), hop_loop hp hw hgd hMM (hopsB (names gs) gs n).length 0 m f z (by omega) hr hf (by omega) next⟩
  ·have e0 : hopsB (names gs) gs n ≠ [] := fun e => h0 (List.isEmpty_iff.2 e)
   have eL : stepL (names gs) gs n p lost = lost := if_neg h0
   rw [eL] at next
   exact .inr ⟨fun e => e0 (List.length_eq_zero_iff.1 (Int.natCast_eq_zero.1 e)), hop_loop hp hw hgd hMM (hopsB (names gs) gs n).length 0 m f z (by omega) hr hf (by omega) next⟩
def outI (f : Int → Rat) (n : Nat) : List Nat := (List.range n).filter fun k => decide (f (k : Int) ≠ 0)
theorem outI_succ (f : Int → Rat) (n : Nat) : outI f (n + 1) = if f (n : Int) = 0 then outI f n else outI f n ++ [n] := by
 unfold outI
 rw [List.range_succ, List.filter_append]
 by_cases h : f (n : Int) = 0
 ·rw [if_pos h, List.filter_cons_of_neg (by simpa using h)]; simp
 ·rw [if_neg h, List.filter_cons_of_pos (by simpa using h)]; simp
theorem outI_len (f : Int → Rat) (n : Nat) : (outI f n).length ≤ n := by
 have := List.length_filter_le (fun k : Nat => decide (f (k : Int) ≠ 0)) (List.range n)
 rw [List.length_range] at this
 exact this
def outT (f : Int → Rat) (n : Nat) : List Int := (outI f n).map fun k : Nat => (k : Int)
def outP (f : Int → Rat) (n : Nat) : List T_api_Rat := (outI f n).map fun k : Nat => fQ (f (k : Int))
theorem outT_succ {f : Int → Rat} {n : Nat} (h : ¬ f (n : Int) = 0) : outT f (n + 1) = outT f n ++ [(n : Int)] ∧ outP f (n + 1) = outP f n ++ [fQ (f (n : Int))] := by
 unfold outT outP
 rw [outI_succ, if_neg h]
 constructor <;> simp
theorem outT_same {f : Int → Rat} {n : Nat} (h : f (n : Int) = 0) : outT f (n + 1) = outT f n ∧ outP f (n + 1) = outP f n := by
 unfold outT outP
 rw [outI_succ, if_pos h]
 exact ⟨rfl, rfl⟩
theorem out_l3 {n : Nat} (hn : n ≤ 1000) {m : List (Int × T_api_Rat)} {f : Int → Rat} (hr : Rep m f) {lost : Rat} : ∀ (mm i : Nat), i + mm = n →
  step_Of_l3 (n : Int) (i : Int) d4 (ng lost.num) (ab lost.num) (lim lost.den) m (outT f i) (outP f i) (outT f n) (outP f n) (ng lost.num) (ab lost.num) (lim lost.den) 0
 | 0, i, hi => by
  obtain rfl : i = n := by omega
  exact step_Of_l3_go (.inr ⟨by omega, rfl, rfl, rfl, rfl, rfl, rfl⟩)
 | mm + 1, i, hi => by
  have ih := out_l3 hn hr (lost := lost) mm (i + 1) (by omega)
  have hl := outI_len f i
  have l1 : (outT f i).length = (outI f i).length := List.length_map _
  have l2 : (outP f i).length = (outI f i).length := List.length_map _
  refine step_Of_l3_go (.inl ⟨by omega, ?_⟩)
  rw [w_succ (by omega)]
  rcases hr (i : Int) with hg | ⟨hg, hg0⟩
  ·refine .inl ⟨_, hg, _, rat_Sign_is (f (i : Int)), ?_⟩
   by_cases h0 : f (i : Int) = 0
   ·rw [(outT_same h0).1, (outT_same h0).2] at ih
    exact .inl ⟨(sn_zero _).2 h0, ih⟩
   ·rw [(outT_succ h0).1, (outT_succ h0).2] at ih
    exact .inr ⟨fun e => h0 ((sn_zero _).1 e), by omega, _, rfl, by omega, _, rfl, ih⟩
  ·rw [(outT_same hg0).1, (outT_same hg0).2] at ih
   exact .inr ⟨hg, ih⟩
theorem out_l2 {n : Nat} (hn : n ≤ 1000) {m : List (Int × T_api_Rat)} {f : Int → Rat} (hr : Rep m f) {lost : Rat} : ∀ (mm i : Nat), i + mm = n → outI f i = [] →
  step_Of_l2 (n : Int) (i : Int) d4 (ng lost.num) (ab lost.num) (lim lost.den) m [] (outT f n) (outP f n) (ng lost.num) (ab lost.num) (lim lost.den) 0
 | 0, i, hi, h0 => by
  obtain rfl : i = n := by omega
  have e1 : outT f i = [] := by unfold outT; rw [h0]; rfl
  have e2 : outP f i = [] := by unfold outP; rw [h0]; rfl
  exact step_Of_l2_go (.inr ⟨by omega, e1, e2, rfl, rfl, rfl, rfl⟩)
 | mm + 1, i, hi, h0 => by
  have e1 : outT f i = [] := by unfold outT; rw [h0]; rfl
  have e2 : outP f i = [] := by unfold outP; rw [h0]; rfl
  refine step_Of_l2_go (.inl ⟨by omega, ?_⟩)
  rw [w_succ (by omega)]
  rcases hr (i : Int) with hg | ⟨hg, hg0⟩
  ·refine .inl ⟨_, hg, _, rat_Sign_is (f (i : Int)), ?_⟩
   by_cases hz : f (i : Int) = 0
   ·exact .inl ⟨(sn_zero _).2 hz, out_l2 hn hr mm (i + 1) (by omega) (by rw [outI_succ, if_pos hz, h0])⟩
   ·have ih := out_l3 (d4 := d4) hn hr (lost := lost) mm (i + 1) (by omega)
    rw [(outT_succ hz).1, (outT_succ hz).2, e1, e2] at ih
    exact .inr ⟨fun e => hz ((sn_zero _).1 e), by omega, _, rfl, by simp, _, rfl, ih⟩
  ·exact .inr ⟨hg, out_l2 hn hr mm (i + 1) (by omega) (by rw [outI_succ, if_pos hg0, h0])⟩
end
end Go.Proofs.YtjcdkemnflmfiaaGreatA
namespace Go.Proofs.YtjcdkemnflmfiaaGreatA
open Go Go.Proofs
section
variable {a : ByteArray} {N : List NodeT} {L : List LinkT} {R : List RuleT}
theorem step_bad {k : Int} (h : k < 0 ∨ (R.length : Int) ≤ k) : step_Of_R a N L R k [] [] false [] [] 9 := by
 by_cases h0 : k < 0
 ·exact step_Of_go (.inl ⟨h0, rfl, rfl, rfl, rfl, rfl, rfl⟩)
 ·exact step_Of_go (.inr ⟨h0, .inl ⟨by omega, rfl, rfl, rfl, rfl, rfl, rfl⟩⟩)
theorem step_drop {k : Nat} (hk : k < R.length) (hd : (R.getD k rdef).2.2.2.1 = true) : step_Of_R a N L R (k : Int) [] [] (ng ((0 : Rat)).num) (ab ((0 : Rat)).num) (lim ((0 : Rat)).den) 0 :=
 step_Of_go (.inr ⟨by omega, .inr ⟨by omega, by omega, by omega, (R.getD k rdef).1, (R.getD k rdef).2.1, (R.getD k rdef).2.2.1, (R.getD k rdef).2.2.2.1, (R.getD k rdef).2.2.2.2, rfl, .inl ⟨hd, _, _, _, rat_Of0, rfl, rfl, rfl, rfl, rfl, rfl⟩⟩⟩)
theorem step_none (hN : OkN N) (hL : OkL L) (hR : OkR R) {k : Nat} (hk : k < R.length) (hd : (R.getD k rdef).2.2.2.1 = false) (h : (names (R.getD k rdef).2.2.2.2).all (roadOk N L) = false) : step_Of_R a N L R (k : Int) [] [] false [] [] 9 := by
 have hg := (hR.2 _ (getD_mem' (d := rdef) hk)).2
 have h1 := hN.1
 have h2 := hL.1
 exact step_Of_go (.inr ⟨by omega, .inr ⟨by omega, by omega, by omega, (R.getD k rdef).1, (R.getD k rdef).2.1, (R.getD k rdef).2.2.1, (R.getD k rdef).2.2.2.1, (R.getD k rdef).2.2.2.2, rfl, .inr ⟨by rw [hd]; simp, _, _, _, _, links_no (by omega) (by omega) hg h, .inr ⟨by decide, rfl, rfl, rfl, rfl, rfl, rfl⟩⟩⟩⟩)
theorem step_arg (hN : OkN N) (hL : OkL L) (hR : OkR R) {k : Nat} (hk : k < R.length) (hd : (R.getD k rdef).2.2.2.1 = false) (h : (names (R.getD k rdef).2.2.2.2).all (roadOk N L) = true) {qs : List Rat} (hq : ((names (R.getD k rdef).2.2.2.2).map fun s => (lnk L s).2.2.2) = qs.map fQ) (hz : AZ 1 qs) (hl : qs.length = (names (R.getD k rdef).2.2.2.2).length)
  (hb : ¬ Rgt qs ∨ light (R.getD k rdef).2.2.2.2 = true) : step_Of_R a N L R (k : Int) [] [] false [] [] 2 := by
 have hg := (hR.2 _ (getD_mem' (d := rdef) hk)).2
 have h1 := hN.1
 have h2 := hL.1
 have h3 := names_len hg
 obtain ⟨a1, a2⟩ := fail_All_is hz (by omega)
 refine step_Of_go (.inr ⟨by omega, .inr ⟨by omega, by omega, by omega, (R.getD k rdef).1, (R.getD k rdef).2.1, (R.getD k rdef).2.2.1, (R.getD k rdef).2.2.2.1, (R.getD k rdef).2.2.2.2, rfl, .inr ⟨by rw [hd]; simp, _, _, _, _, links_ok (by omega) (by omega) hg h, .inl ⟨rfl, ?_⟩⟩⟩⟩)
 rw [hq]
 by_cases hR' : Rgt qs
 ·have hb' := hb.resolve_left (fun g => g hR')
  exact ⟨_, _, a1 hR', .inl ⟨rfl, _, light_is _ _ _ _ hg, .inl ⟨hb', rfl, rfl, rfl, rfl, rfl, rfl⟩⟩⟩
 ·exact ⟨_, _, a2 hR', .inr ⟨by decide, rfl, rfl, rfl, rfl, rfl, rfl⟩⟩
noncomputable abbrev wayF (N : List NodeT) (L : List LinkT) (gs : List (List Hop)) (cs : List (Nat × Rat)) : Int → Rat := allF (toI N L) (names gs) gs cs fun _ => 0
noncomputable abbrev wayL (gs : List (List Hop)) (cs : List (Nat × Rat)) : Rat := allL (names gs) gs cs 0
theorem pow5 {n : Nat} (h : n ≤ 5) : 2 ^ n ≤ 32 := Nat.pow_le_pow_right (by omega) h
theorem cases_ok {qs : List Rat} (hz : AZ 1 qs) (hl : qs.length ≤ 5) : ∀ c ∈ casesTo qs (2 ^ qs.length), c.1 < 18446744073709551616 ∧ SZ 16 c.2 := fun c hc => by
 have hp := pow5 hl
 obtain ⟨n, hn, rfl⟩ := List.mem_map.1 hc
 have := List.mem_range.1 (List.mem_filter.1 hn).1
 exact ⟨by show n < _; omega, (SZ.ch (n := n) hz SZ1).mono (by omega)⟩
theorem step_way (hN : OkN N) (hL : OkL L) (hR : OkR R) {k : Nat} (hk : k < R.length) (hd : (R.getD k rdef).2.2.2.1 = false) (h : (names (R.getD k rdef).2.2.2.2).all (roadOk N L) = true) {qs : List Rat} (hq : ((names (R.getD k rdef).2.2.2.2).map fun s => (lnk L s).2.2.2) = qs.map fQ) (hz : AZ 1 qs) (hl : qs.length = (names (R.getD k rdef).2.2.2.2).length)
  (hr : Rgt qs) (hw : light (R.getD k rdef).2.2.2.2 = false) (h5 : qs.length ≤ 5) :
  step_Of_R a N L R (k : Int) (outT (wayF N L (R.getD k rdef).2.2.2.2 (casesTo qs (2 ^ qs.length))) N.length) (outP (wayF N L (R.getD k rdef).2.2.2.2 (casesTo qs (2 ^ qs.length))) N.length) (ng (wayL (R.getD k rdef).2.2.2.2 (casesTo qs (2 ^ qs.length))).num) (ab (wayL (R.getD k rdef).2.2.2.2 (casesTo qs (2 ^ qs.length))).num) (lim (wayL (R.getD k rdef).2.2.2.2 (casesTo qs (2 ^ qs.length))).den) 0 := by
 have hg := (hR.2 _ (getD_mem' (d := rdef) hk)).2
 have h1 := hN.1
 have h2 := hL.1
 have hp := pow5 h5
 have hcl := casesTo_len qs (2 ^ qs.length)
 obtain ⟨a1, _⟩ := fail_All_is hz (by omega)
 refine step_Of_go (.inr ⟨by omega, .inr ⟨by omega, by omega, by omega, (R.getD k rdef).1, (R.getD k rdef).2.1, (R.getD k rdef).2.2.1, (R.getD k rdef).2.2.2.1, (R.getD k rdef).2.2.2.2, rfl, .inr ⟨by rw [hd]; simp, _, _, _, _, links_ok (by omega) (by omega) hg h, .inl ⟨rfl, ?_⟩⟩⟩⟩)
 rw [hq]
 refine ⟨_, _, a1 hr, .inl ⟨rfl, _, light_is _ _ _ _ hg, .inr ⟨by rw [hw]; simp, _, _, _, rat_Of0, ?_⟩⟩⟩
 rw [List.length_map]
 refine case_loop (t := toI N L) hg (good_light hg hw) (fun s hs => putAll_get N L s _ _ (.inl hs)) (w := 16) (by omega) (by omega) (cases_ok hz h5) (casesTo qs (2 ^ qs.length)).length 0 [] (fun _ => 0) 0 1 (by omega) .nil (fun _ => SZ0) SZ0 (by omega) fun m' hr' => ?_
 rw [List.drop_zero] at hr'
 rw [List.drop_zero]
 exact out_l2 (by omega) hr' N.length 0 (by omega) rfl
end
def lstT (f : Int → Rat) (n : Nat) : List T_ref08_Q := (List.range n).map fun k : Nat => fT (f (k : Int))
theorem lstT_len (f : Int → Rat) (n : Nat) : (lstT f n).length = n := by simp [lstT]
theorem lstT_succ (f : Int → Rat) (n : Nat) : lstT f (n + 1) = lstT f n ++ [fT (f (n : Int))] := by simp [lstT, List.range_succ]
theorem lstT_get {f : Int → Rat} {n k : Nat} (h : k < n) (d : T_ref08_Q) : (lstT f n).getD k d = (ng (f (k : Int)).num, tn (f (k : Int)).num, ten (f (k : Int)).den) := by
 rw [lstT, List.getD_eq_getElem?_getD, List.getElem?_map, List.getElem?_range h]; rfl
theorem lstT_set {f : Int → Rat} {n k : Nat} (h : k < n) (x : Rat) : (lstT f n).set k (fT (f (k : Int) + x)) = lstT (addF (k : Int) x f) n := by
 refine List.ext_getElem (by simp [lstT]) fun i h1 h2 => ?_
 have hi : i < n := by rw [lstT_len] at h2; exact h2
 rw [List.getElem_set]
 by_cases e : k = i
 ·subst e
  rw [if_pos rfl]
  simp [lstT, addF_at]
 ·rw [if_neg e]
  have : ((i : Nat) : Int) ≠ (k : Int) := by omega
  simp [lstT, addF_ne this]
section
variable {a x : ByteArray} {N : List NodeT} {L : List LinkT} {R : List RuleT} {c e : Int} {d d4 : Bool} {gs : List (List Hop)} {NS : List ByteArray} {z0 : List T_ref08_Q} {z1 : Bool} {z2 z3 : List Int} {z5 : Int} {P0 : List T_ref08_Q} {l1 : Bool} {l2 l3 : List Int}
abbrev Err (z0 : List T_ref08_Q) (z1 : Bool) (z2 z3 : List Int) (z5 v : Int) : Prop := z0 = [] ∧ z1 = false ∧ z2 = [] ∧ z3 = [] ∧ z5 = v
theorem rl1 (hN : N.length ≤ 1000) (hL : OkL L) (hNS : NS.length ≤ 1000) : ∀ (m i : Nat) (P : List T_ref08_Q), i + m = NS.length → P.length ≤ i →
  ((NS.drop i).all (roadOk N L) = true → ∀ qs : List Rat, ((NS.drop i).map fun s => (lnk L s).2.2.2) = qs.map fQ → AZ 1 qs → qs.length = m → ref30_Of_l1 NS (NS.length : Int) a N L R d4 x c e d gs l1 l2 l3 P0 (P ++ qs.map fT) z0 z1 z2 z3 z5) →
  ((NS.drop i).all (roadOk N L) = false → Err z0 z1 z2 z3 z5 9) →
  ref30_Of_l1 NS (i : Int) a N L R d4 x c e d gs l1 l2 l3 P0 P z0 z1 z2 z3 z5
 | 0, i, P, hi, hP, Ht, Hf => by
  obtain rfl : i = NS.length := by omega
  rw [List.drop_eq_nil_of_le (by omega)] at Ht
  have := Ht rfl [] rfl (fun q hq => by cases hq) rfl
  rwa [List.map_nil, List.append_nil] at this
 | m + 1, i, P, hi, hP, Ht, Hf => by
  have h : i < NS.length := by omega
  have h8 := hL.1
  rw [drop_get h ByteArray.empty, List.all_cons] at Ht Hf
  refine ref30_Of_l1_go (.inl ⟨by omega, by omega, _, ref_Link_is (by omega), ?_⟩)
  rw [Int.toNat_natCast]
  by_cases h1 : 0 ≤ lk L (NS.getD i ByteArray.empty)
  ·have hlt := lk_lt h1
   refine .inr ⟨by omega, h1, by omega, (lnk L (NS.getD i ByteArray.empty)).1, (lnk L (NS.getD i ByteArray.empty)).2.1, (lnk L (NS.getD i ByteArray.empty)).2.2.1, (lnk L (NS.getD i ByteArray.empty)).2.2.2.1, (lnk L (NS.getD i ByteArray.empty)).2.2.2.2.1, (lnk L (NS.getD i ByteArray.empty)).2.2.2.2.2, rfl, _, ref_Node_is hN, ?_⟩
   by_cases h2 : 0 ≤ toI N L (NS.getD i ByteArray.empty)
   ·have ho : roadOk N L (NS.getD i ByteArray.empty) = true := by unfold roadOk; rw [decide_eq_true h1, decide_eq_true h2]; rfl
    rw [ho, Bool.true_and] at Ht Hf
    obtain ⟨q, q1, q2⟩ := hL.2 _ (getD_mem' (d := ldef) hlt)
    have e1 : (lnk L (NS.getD i ByteArray.empty)).2.2.2.1 = ng q.num := by rw [q1]; rfl
    have e2 : (lnk L (NS.getD i ByteArray.empty)).2.2.2.2.1 = ab q.num := by rw [q1]; rfl
    have e3 : (lnk L (NS.getD i ByteArray.empty)).2.2.2.2.2 = lim q.den := by rw [q1]; rfl
    refine .inr ⟨Int.not_lt.2 h2, (lnk L (NS.getD i ByteArray.empty)).1, (lnk L (NS.getD i ByteArray.empty)).2.1, (lnk L (NS.getD i ByteArray.empty)).2.2.1, (lnk L (NS.getD i ByteArray.empty)).2.2.2.1, (lnk L (NS.getD i ByteArray.empty)).2.2.2.2.1, (lnk L (NS.getD i ByteArray.empty)).2.2.2.2.2, rfl, _, _, _, by rw [e1, e2, e3]; exact ref08_Of_is (q2.mono (by omega)), by omega, _, rfl, ?_⟩
    rw [w_succ (by omega)]
    refine rl1 hN hL hNS m (i + 1) _ (by omega) (by rw [List.length_append, List.length_singleton]; omega) (fun hh qs g1 g2 g3 => ?_) Hf
    have := Ht hh (q :: qs) (by rw [List.map_cons, List.map_cons, g1, ← q1]) (fun p hp => by
     rcases List.mem_cons.1 hp with rfl | hp
     ·exact q2
     ·exact g2 p hp) (by rw [List.length_cons, g3])
    rw [List.append_assoc]
    exact this
   ·have ho : roadOk N L (NS.getD i ByteArray.empty) = false := by unfold roadOk; rw [decide_eq_false h2, Bool.and_false]
    rw [ho, Bool.false_and] at Hf
    exact .inl ⟨Int.not_le.1 h2, Hf rfl⟩
  ·have ho : roadOk N L (NS.getD i ByteArray.empty) = false := by unfold roadOk; rw [decide_eq_false h1, Bool.false_and]
   rw [ho, Bool.false_and] at Hf
   exact .inl ⟨by omega, Hf rfl⟩
variable {PT : List T_ref08_Q}
theorem rl3 {i : Nat} (hi : i < gs.length) (hi4 : i ≤ 100) (hg : (gs.getD i []).length ≤ 5) : ∀ (m k : Nat), k + m = (gs.getD i []).length →
  (((gs.getD i []).drop k).any (fun h => decide (h.2 < 1)) = false → ref30_Of_l2 NS (wi ((i : Int) + 1)) a N L R d4 x c e d gs l1 l2 l3 P0 PT z0 z1 z2 z3 z5) →
  (((gs.getD i []).drop k).any (fun h => decide (h.2 < 1)) = true → Err z0 z1 z2 z3 z5 2) →
  ref30_Of_l3 NS (i : Int) (k : Int) a N L R d4 x c e d gs l1 l2 l3 P0 PT z0 z1 z2 z3 z5
 | 0, k, hk, Ht, Hf => by
  rw [List.drop_eq_nil_of_le (by omega)] at Ht
  exact ref30_Of_l3_go ⟨by omega, by omega, .inr ⟨by rw [Int.toNat_natCast]; omega, Ht rfl⟩⟩
 | m + 1, k, hk, Ht, Hf => by
  have h : k < (gs.getD i []).length := by omega
  rw [drop_get h hdef, List.any_cons] at Ht Hf
  refine ref30_Of_l3_go ⟨by omega, by omega, .inl ⟨by rw [Int.toNat_natCast]; omega, by omega, ((gs.getD i []).getD k hdef).1, ((gs.getD i []).getD k hdef).2, rfl, ?_⟩⟩
  rw [w_succ (by omega)]
  by_cases hw : ((gs.getD i []).getD k hdef).2 < 1
  ·rw [decide_eq_true hw, Bool.true_or] at Hf
   exact .inl ⟨hw, Hf rfl⟩
  ·rw [decide_eq_false hw, Bool.false_or] at Ht Hf
   exact .inr ⟨hw, rl3 hi hi4 hg m (k + 1) (by omega) Ht Hf⟩
theorem rl2 (hg : GoodGs gs) : ∀ (m i : Nat), i + m = gs.length → (light (gs.drop i) = false → ref30_Of_l4 NS 0 a N L R d4 x c e d gs l1 l2 l3 P0 PT z0 z1 z2 z3 z5) → (light (gs.drop i) = true → Err z0 z1 z2 z3 z5 2) →
  ref30_Of_l2 NS (i : Int) a N L R d4 x c e d gs l1 l2 l3 P0 PT z0 z1 z2 z3 z5
 | 0, i, hi, Ht, Hf => by
  rw [List.drop_eq_nil_of_le (by omega)] at Ht
  exact ref30_Of_l2_go (.inr ⟨by omega, Ht rfl⟩)
 | m + 1, i, hi, Ht, Hf => by
  have h4 := hg.1
  have h : i < gs.length := by omega
  rw [drop_get h [], light, List.any_cons] at Ht Hf
  refine ref30_Of_l2_go (.inl ⟨by omega, rl3 h (by omega) (getD_good hg i).1 (gs.getD i []).length 0 (by omega) (fun hh => ?_) (fun hh => ?_)⟩)
  ·rw [List.drop_zero] at hh
   rw [w_succ (by omega)]
   rw [hh, Bool.false_or] at Ht Hf
   exact rl2 hg m (i + 1) (by omega) Ht Hf
  ·rw [List.drop_zero] at hh
   rw [hh, Bool.true_or] at Hf
   exact Hf rfl
variable {n : Nat}
theorem rl5 (hNS : NS.length ≤ 1000) (hn : n < 18446744073709551616) {g : Nat} (hgl : g < gs.length) (hg4 : g ≤ 100) (hg : GoodW (gs.getD g [])) {p : T_ref08_Q} : ∀ (m j : Nat) (s : Int), j + m = (gs.getD g []).length → 0 ≤ s → s ≤ 2147483648 * (j : Int) →
  ref30_Of_l6 NS (n : Int) (g : Int) 0 a N L R d4 x c e d gs l1 l2 l3 p.1 p.2.1 p.2.2 (ng (((s + isum (ws (lvs NS n ((gs.getD g []).drop j))) : Int) : Rat)).num) (tn (((s + isum (ws (lvs NS n ((gs.getD g []).drop j))) : Int) : Rat)).num) (ten (((s + isum (ws (lvs NS n ((gs.getD g []).drop j))) : Int) : Rat)).den) P0 PT z0 z1 z2 z3 z5 →
  ref30_Of_l5 NS (n : Int) (g : Int) (j : Int) a N L R d4 x c e d gs l1 l2 l3 p.1 p.2.1 p.2.2 (ng ((s : Rat)).num) (tn ((s : Rat)).num) (ten ((s : Rat)).den) P0 PT z0 z1 z2 z3 z5
 | 0, j, s, hj, h0, h1, H => by
  rw [List.drop_eq_nil_of_le (by omega), lvs, List.filter_nil] at H
  have e : isum (ws []) = 0 := rfl
  rw [e, Int.add_zero] at H
  exact ref30_Of_l5_go ⟨by omega, by omega, .inr ⟨by rw [Int.toNat_natCast]; omega, H⟩⟩
 | m + 1, j, s, hj, h0, h1, H => by
  have h : j < (gs.getD g []).length := by omega
  have h5 := hg.1
  have hw := hg.get h
  rw [drop_get h hdef, lvs] at H
  refine ref30_Of_l5_go ⟨by omega, by omega, .inl ⟨by rw [Int.toNat_natCast]; omega, by omega, ((gs.getD g []).getD j hdef).1, ((gs.getD g []).getD j hdef).2, rfl, _, lives_go hNS _ hn, ?_⟩⟩
  rw [w_succ (by omega)]
  cases hb : livesB NS ((gs.getD g []).getD j hdef).1 n with
  | true =>
   rw [List.filter_cons_of_pos (by rw [hb])] at H
   have add := ref08_Add_is ((SZ_int (n := s) (by omega) (by omega)).mono (show 2 ≤ 10000 by omega)) ((SZ_int (n := ((gs.getD g []).getD j hdef).2) (by omega) (by omega)).mono (show 2 ≤ 10000 by omega))
   rw [← Rat.intCast_add] at add
   refine .inl ⟨rfl, ((gs.getD g []).getD j hdef).1, ((gs.getD g []).getD j hdef).2, rfl, _, _, _, ref_Num1 (by omega) (by omega), _, _, _, add, ?_⟩
   refine rl5 hNS hn hgl hg4 hg m (j + 1) _ (by omega) (by omega) (by push_cast; omega) ?_
   have e : ∀ l : List Hop, ws ((gs.getD g []).getD j hdef :: l) = ((gs.getD g []).getD j hdef).2 :: ws l := fun _ => rfl
   rw [e, isum_cons, ← Int.add_assoc] at H
   exact H
  | false =>
   rw [List.filter_cons_of_neg (by rw [hb]; decide)] at H
   exact .inr ⟨by simp, rl5 hNS hn hgl hg4 hg m (j + 1) s (by omega) h0 (by push_cast; omega) H⟩
theorem rl6 (hN : N.length ≤ 1000) (hL : L.length ≤ 1000) (hNS : NS.length ≤ 1000) (hn : n < 18446744073709551616) (hroad : ∀ s ∈ NS, roadOk N L s = true) {g : Nat} (hgl : g < gs.length) (hg4 : g ≤ 100) (hg : GoodW (gs.getD g [])) (hs : ∀ j : Nat, j < (gs.getD g []).length → ((gs.getD g []).getD j hdef).1 ∈ NS)
  {l : List Hop} (hl : GoodW l) (h0 : l ≠ []) {w : Nat} (hw : w ≤ 1000) {p : Rat} (hp : SZ w p) : ∀ (m j : Nat) (f : Int → Rat) (z : Nat), j + m = (gs.getD g []).length → BF z f → z + m * (w + 5) ≤ 9000 →
  ref30_Of_l4 NS (wu ((n : Int) + 1)) a N L R d4 x c e d gs l1 l2 l3 (lstT (caseF (toI N L) p (S_ l) (lvs NS n ((gs.getD g []).drop j)) f) N.length) PT z0 z1 z2 z3 z5 →
  ref30_Of_l6 NS (n : Int) (g : Int) (j : Int) a N L R d4 x c e d gs l1 l2 l3 (ng p.num) (tn p.num) (ten p.den) (ng (S_ l).num) (tn (S_ l).num) (ten (S_ l).den) (lstT f N.length) PT z0 z1 z2 z3 z5
 | 0, j, f, z, hj, hf, hz, H => by
  rw [List.drop_eq_nil_of_le (by omega), lvs, List.filter_nil] at H
  exact ref30_Of_l6_go ⟨by omega, by omega, .inr ⟨by rw [Int.toNat_natCast]; omega, H⟩⟩
 | m + 1, j, f, z, hj, hf, hz, H => by
  have h : j < (gs.getD g []).length := by omega
  have h5 := hg.1
  have hh := hg.get h
  have hmem := hs j h
  have hro := hroad _ hmem
  rw [Nat.succ_mul] at hz
  rw [drop_get h hdef, lvs] at H
  refine ref30_Of_l6_go ⟨by omega, by omega, .inl ⟨by rw [Int.toNat_natCast]; omega, by omega, ((gs.getD g []).getD j hdef).1, ((gs.getD g []).getD j hdef).2, rfl, _, lives_go hNS _ hn, ?_⟩⟩
  rw [w_succ (by omega)]
  generalize (gs.getD g []).getD j hdef = hp' at hh hmem hro H
  obtain ⟨nm, wt⟩ := hp'
  unfold roadOk at hro
  rw [Bool.and_eq_true, decide_eq_true_iff, decide_eq_true_iff] at hro
  have hro : 0 ≤ lk L nm ∧ 0 ≤ toI N L nm := hro
  cases hb : livesB NS nm n with
  | true =>
   have ht : (toI N L nm).toNat < N.length := nd_lt hro.2
   rw [List.filter_cons_of_pos (by rw [hb])] at H
   obtain ⟨s1, s2⟩ := share_SZ hl h0 hh hp
   obtain ⟨q, hq⟩ := Int.eq_ofNat_of_zero_le hro.2
   rw [hq, Int.toNat_natCast] at ht
   have mul := ref08_Mul_is (hp.mono (show w ≤ 10000 by omega)) (s1.mono (show 4 ≤ 10000 by omega))
   have add := ref08_Add_is ((hf (q : Int)).mono (show z ≤ 10000 by omega)) (s2.mono (show w + 4 ≤ 10000 by omega))
   have hdv := ref08_Div_is (S_ne hl h0) ((SZ_int (n := wt) (by omega) (by omega)).mono (show 2 ≤ 10000 by omega)) ((S_SZ hl).mono (show 2 ≤ 10000 by omega))
   have hset := lstT_set (f := f) ht (p * (((wt : Int) : Rat) / S_ l))
   refine .inl ⟨rfl, _, ref_Link_is hL, hro.1, by have := lk_lt hro.1; show lk L nm < _; omega, (lnk L nm).1, (lnk L nm).2.1, (lnk L nm).2.2.1, (lnk L nm).2.2.2.1, (lnk L nm).2.2.2.2.1, (lnk L nm).2.2.2.2.2, rfl, (q : Int), by rw [← hq]; exact ref_Node_is hN, by omega, by rw [lstT_len]; omega, _, _, _, lstT_get ht _, _, _, _, ref_Num1 (by omega) (by omega), _, _, _, hdv, _, _, _, mul, _, _, _, add, _, hset.symm, ?_⟩
   refine rl6 hN hL hNS hn hroad hgl hg4 hg hs hl h0 hw hp m (j + 1) _ (z + (w + 4) + 1) (by omega) (hf.add s2 _) (by omega) ?_
   have e : ∀ k : List Hop, caseF (toI N L) p (S_ l) ((nm, wt) :: k) f = caseF (toI N L) p (S_ l) k (addF (toI N L nm) (p * (((wt : Int) : Rat) / S_ l)) f) := fun _ => rfl
   rw [e, hq] at H
   exact H
  | false =>
   rw [List.filter_cons_of_neg (by rw [hb]; decide)] at H
   exact .inr ⟨by simp, rl6 hN hL hNS hn hroad hgl hg4 hg hs hl h0 hw hp m (j + 1) f z (by omega) hf (by omega) H⟩
end
def csR (qs : List Rat) (n m : Nat) : List (Nat × Rat) := (List.range' n m).map fun k => (k, chQ 1 qs k)
section
variable {a x : ByteArray} {N : List NodeT} {L : List LinkT} {R : List RuleT} {c e : Int} {d d4 : Bool} {gs : List (List Hop)} {z0 : List T_ref08_Q} {z1 : Bool} {z2 z3 : List Int} {z5 : Int}
theorem rl4 (hN : N.length ≤ 1000) (hL : L.length ≤ 1000) (hg : GoodGs gs) (hgw : ∀ g ∈ gs, GoodW g) (hroad : ∀ s ∈ names gs, roadOk N L s = true) {qs : List Rat} (hz : AZ 1 qs) (hql : qs.length = (names gs).length) (h5 : qs.length ≤ 5) :
  ∀ (m n : Nat) (f : Int → Rat) (lost : Rat) (z : Nat), n + m = 2 ^ qs.length → BF z f → SZ z lost → z + m * 105 ≤ 9000 →
  (z0 = lstT (allF (toI N L) (names gs) gs (csR qs n m) f) N.length ∧ (z1, z2, z3) = fT (allL (names gs) gs (csR qs n m) lost) ∧ z5 = 0) →
  ref30_Of_l4 (names gs) (n : Int) a N L R d4 x c e d gs (ng lost.num) (tn lost.num) (ten lost.den) (lstT f N.length) (qs.map fT) z0 z1 z2 z3 z5
 | 0, n, f, lost, z, hn, hf, hlost, hzz, H => by
  obtain ⟨e0, e1, e2⟩ := H
  cases e1
  exact ref30_Of_l4_go ⟨_, by rw [← hql]; exact ref29_Cases_is (n := qs.length) (by omega), .inr ⟨by omega, e0, rfl, rfl, rfl, e2⟩⟩
 | m + 1, n, f, lost, z, hn, hf, hlost, hzz, H => by
  have hp := pow5 h5
  have hn64 : n < 18446744073709551616 := by omega
  have hw : wu ((n : Int) + 1) = ((n + 1 : Nat) : Int) := by rw [w64i (by omega) (by omega)]; rfl
  have hch : SZ 16 (chQ 1 qs n) := (SZ.ch (n := n) hz SZ1).mono (by omega)
  have hNS := names_len hg
  have hgr := ref_group_go (L := names gs) x c e d (by omega) hn64 hg
  rw [gi_ix] at hgr
  have h4 := hg.1
  have ecs : csR qs n (m + 1) = (n, chQ 1 qs n) :: csR qs (n + 1) m := rfl
  have eF : allF (toI N L) (names gs) gs (csR qs n (m + 1)) f = allF (toI N L) (names gs) gs (csR qs (n + 1) m) (stepF (toI N L) (names gs) gs n (chQ 1 qs n) f) := by rw [ecs]; rfl
  have eL : allL (names gs) gs (csR qs n (m + 1)) lost = allL (names gs) gs (csR qs (n + 1) m) (stepL (names gs) gs n (chQ 1 qs n) lost) := by rw [ecs]; rfl
  rw [eF, eL] at H
  have next := rl4 hN hL hg hgw hroad hz hql h5 m (n + 1) _ _ (z + 105) (by omega) (stepF_SZ (toI N L) hgw hch hf) (stepL_SZ hch hlost) (by omega) H
  refine ref30_Of_l4_go ⟨_, by rw [← hql]; exact ref29_Cases_is (n := qs.length) (by omega), .inl ⟨by omega, _, _, _, ref29_Chance_is hz (by omega) hn64, _, hgr, ?_⟩⟩
  rcases hopsB_tells (names gs) gs n with ⟨h1, h2⟩ | ⟨k, h1, h2, h3, h0⟩
  ·have q1 : stepF (toI N L) (names gs) gs n (chQ 1 qs n) f = f := by unfold stepF; rw [h2]; rfl
   have q2 : stepL (names gs) gs n (chQ 1 qs n) lost = lost + chQ 1 qs n := by unfold stepL; rw [h2]; rfl
   rw [q1, q2] at next
   rw [h1, hw]
   exact .inl ⟨by decide, _, _, _, ref08_Add_is (hlost.mono (by omega)) (hch.mono (by omega)), next⟩
  ·have hgk := good_get hgw k
   have hk5 := hgk.1
   have q2 : stepL (names gs) gs n (chQ 1 qs n) lost = lost := if_neg fun e => h0 (List.isEmpty_iff.1 e)
   rw [q2] at next
   rw [h1]
   refine .inr ⟨by omega, _, _, _, ref_Num00, ?_⟩
   have key := rl6 (x := x) (c := c) (e := e) (d := d) (d4 := d4) (a := a) (R := R) (gs := gs) (NS := names gs) (n := n) (g := k) (PT := qs.map fT) (l1 := ng lost.num) (l2 := tn lost.num) (l3 := ten lost.den) (z0 := z0) (z1 := z1) (z2 := z2) (z3 := z3) (z5 := z5) hN hL (by omega) hn64 hroad h2 (by omega) hgk (fun j hj => names_mem (getD_mem' h2) (getD_mem' hj)) (l := hopsB (names gs) gs n) (hopsB_good hgw n) h0 (w := 16) (by omega) hch (gs.getD k []).length 0 f z (by omega) hf (by omega)
    (by
     rw [hw, List.drop_zero, ← h3]
     exact next)
   have key2 := rl5 (x := x) (c := c) (e := e) (d := d) (d4 := d4) (a := a) (N := N) (L := L) (R := R) (gs := gs) (NS := names gs) (n := n) (g := k) (PT := qs.map fT) (l1 := ng lost.num) (l2 := tn lost.num) (l3 := ten lost.den) (z0 := z0) (z1 := z1) (z2 := z2) (z3 := z3) (z5 := z5) (P0 := lstT f N.length) (p := fT (chQ 1 qs n)) (by omega) hn64 h2 (by omega) hgk (gs.getD k []).length 0 0 (by omega) (by omega) (by omega) (by
     rw [List.drop_zero, ← h3, Int.zero_add]
     exact key)
   rw [Rat.intCast_zero] at key2
   exact key2
end
end Go.Proofs.YtjcdkemnflmfiaaGreatA
namespace Go.Proofs.YtjcdkemnflmfiaaGreatA
open Go Go.Proofs
theorem addF_zero (k : Int) (f : Int → Rat) : addF k 0 f = f := funext fun j => by
 unfold addF
 split
 ·exact Rat.add_zero _
 ·rfl
theorem caseF_zero (t : ByteArray → Int) (S : Rat) : ∀ (l : List Hop) (f : Int → Rat), caseF t 0 S l f = f
 | [], f => rfl
 | h :: l, f => by
  have e : caseF t 0 S (h :: l) f = caseF t 0 S l (addF (t h.1) (0 * (((h.2 : Int) : Rat) / S)) f) := rfl
  rw [e, Rat.zero_mul, addF_zero, caseF_zero t S l f]
theorem stepF_zero (t : ByteArray → Int) (NS : List ByteArray) (gs : List (List Hop)) (n : Nat) (f : Int → Rat) : stepF t NS gs n 0 f = f := caseF_zero t _ _ f
theorem stepL_zero (NS : List ByteArray) (gs : List (List Hop)) (n : Nat) (x : Rat) : stepL NS gs n 0 x = x := by
 unfold stepL
 split
 ·exact Rat.add_zero _
 ·rfl
theorem csR_succ (qs : List Rat) (K : Nat) : csR qs 0 (K + 1) = csR qs 0 K ++ [(K, chQ 1 qs K)] := by
 unfold csR
 rw [← List.range_eq_range', ← List.range_eq_range', List.range_succ, List.map_append]; rfl
theorem allF_snoc (t : ByteArray → Int) (NS : List ByteArray) (gs : List (List Hop)) (cs : List (Nat × Rat)) (c : Nat × Rat) (f : Int → Rat) : allF t NS gs (cs ++ [c]) f = stepF t NS gs c.1 c.2 (allF t NS gs cs f) := by
 unfold allF; rw [List.foldl_append]; rfl
theorem allL_snoc (NS : List ByteArray) (gs : List (List Hop)) (cs : List (Nat × Rat)) (c : Nat × Rat) (x : Rat) : allL NS gs (cs ++ [c]) x = stepL NS gs c.1 c.2 (allL NS gs cs x) := by
 unfold allL; rw [List.foldl_append]; rfl
theorem all_same (t : ByteArray → Int) (NS : List ByteArray) (gs : List (List Hop)) (qs : List Rat) (f : Int → Rat) (x : Rat) : ∀ K : Nat, allF t NS gs (csR qs 0 K) f = allF t NS gs (casesTo qs K) f ∧ allL NS gs (csR qs 0 K) x = allL NS gs (casesTo qs K) x
 | 0 => ⟨rfl, rfl⟩
 | K + 1 => by
  obtain ⟨h1, h2⟩ := all_same t NS gs qs f x K
  rw [csR_succ, casesTo_succ, allF_snoc, allL_snoc, h1, h2]
  by_cases h : chQ 1 qs K = 0
  ·rw [if_pos h, h, stepF_zero, stepL_zero]; exact ⟨rfl, rfl⟩
  ·rw [if_neg h, allF_snoc, allL_snoc]; exact ⟨rfl, rfl⟩
theorem all_SZ (t : ByteArray → Int) {NS : List ByteArray} {gs : List (List Hop)} (hw : ∀ g ∈ gs, GoodW g) {w : Nat} : ∀ (cs : List (Nat × Rat)) {z : Nat} {f : Int → Rat} {x : Rat}, (∀ c ∈ cs, SZ w c.2) → BF z f → SZ z x → BF (z + cs.length * (5 * (w + 5))) (allF t NS gs cs f) ∧ SZ (z + cs.length * (5 * (w + 5))) (allL NS gs cs x)
 | [], z, f, x, _, hf, hx => ⟨hf.mono (by omega), hx.mono (by omega)⟩
 | c :: cs, z, f, x, hc, hf, hx => by
  have h := hc c (List.mem_cons_self ..)
  obtain ⟨h1, h2⟩ := all_SZ t hw cs (fun d hd => hc d (List.mem_cons_of_mem _ hd)) (stepF_SZ t (NS := NS) hw (n := c.1) h hf) (stepL_SZ (NS := NS) (gs := gs) (n := c.1) h hx)
  rw [List.length_cons, Nat.succ_mul]
  exact ⟨h1.mono (by omega), h2.mono (by omega)⟩
theorem way_SZ {t : ByteArray → Int} {NS : List ByteArray} {gs : List (List Hop)} (hw : ∀ g ∈ gs, GoodW g) {qs : List Rat} (hz : AZ 1 qs) (hl : qs.length ≤ 5) : BF 4000 (allF t NS gs (casesTo qs (2 ^ qs.length)) fun _ => 0) ∧ SZ 4000 (allL NS gs (casesTo qs (2 ^ qs.length)) 0) := by
 have hp := pow5 hl
 have hcl := casesTo_len qs (2 ^ qs.length)
 obtain ⟨h1, h2⟩ := all_SZ t (NS := NS) hw (w := 16) (casesTo qs (2 ^ qs.length)) (fun c hc => (cases_ok hz hl c hc).2) (fun _ => SZ0) SZ0
 exact ⟨h1.mono (by omega), h2.mono (by omega)⟩
theorem fQ_inj {p q : Rat} (h : fQ p = fQ q) : p = q := by
 have h1 : ng p.num = ng q.num := congrArg (·.1) h
 have h2 : ab p.num = ab q.num := congrArg (·.2.1) h
 have h3 : lim p.den = lim q.den := congrArg (·.2.2) h
 have h4 := lim_inj h2
 have h5 : p.num < 0 ↔ q.num < 0 := decide_eq_decide.1 h1
 exact Rat.ext (by omega) (lim_inj h3)
theorem fT_of : ∀ {ps qs : List Rat}, qs.map fQ = ps.map fQ → ps = qs
 | [], [], _ => rfl
 | [], q :: qs, h => by simp at h
 | p :: ps, [], h => by simp at h
 | p :: ps, q :: qs, h => by
  rw [List.map_cons, List.map_cons] at h
  injection h with h1 h2
  rw [fQ_inj h1, fT_of h2]
section
variable {a : ByteArray} {N : List NodeT} {L : List LinkT} {R : List RuleT}
theorem ref_bad {k : Int} (h : k < 0 ∨ (R.length : Int) ≤ k) : ref30_Of_R a N L R k [] false [] [] 9 := by
 by_cases h0 : k < 0
 ·exact ref30_Of_go (.inl ⟨h0, rfl, rfl, rfl, rfl, rfl⟩)
 ·exact ref30_Of_go (.inr ⟨h0, .inl ⟨by omega, rfl, rfl, rfl, rfl, rfl⟩⟩)
theorem rl0 (hN : N.length ≤ 1000) {x : ByteArray} {c e : Int} {d d4 : Bool} {gs : List (List Hop)} {z0 : List T_ref08_Q} {z1 : Bool} {z2 z3 : List Int} {z5 : Int} (H : ref30_Of_l0 (N.length : Int) a N L R d4 x c e d gs (ng ((0 : Rat)).num) (tn ((0 : Rat)).num) (ten ((0 : Rat)).den) (lstT (fun _ => 0) N.length) z0 z1 z2 z3 z5) : ∀ (m i : Nat), i + m = N.length →
  ref30_Of_l0 (i : Int) a N L R d4 x c e d gs (ng ((0 : Rat)).num) (tn ((0 : Rat)).num) (ten ((0 : Rat)).den) (lstT (fun _ => 0) i) z0 z1 z2 z3 z5
 | 0, i, hi => by
  obtain rfl : i = N.length := by omega
  exact H
 | m + 1, i, hi => by
  have ih := rl0 hN H m (i + 1) (by omega)
  rw [lstT_succ] at ih
  refine ref30_Of_l0_go (.inl ⟨by omega, _, _, _, ref_Num00, by rw [lstT_len]; omega, _, rfl, ?_⟩)
  rw [w_succ (by omega)]
  exact ih
theorem ref_of (hN : OkN N) {k : Nat} (hk : k < R.length) {z0 : List T_ref08_Q} {z1 : Bool} {z2 z3 : List Int} {z5 : Int}
  (H : ref30_Of_l0 (N.length : Int) a N L R false (R.getD k rdef).1 (R.getD k rdef).2.1 (R.getD k rdef).2.2.1 (R.getD k rdef).2.2.2.1 (R.getD k rdef).2.2.2.2 (ng ((0 : Rat)).num) (tn ((0 : Rat)).num) (ten ((0 : Rat)).den) (lstT (fun _ => 0) N.length) z0 z1 z2 z3 z5) : ref30_Of_R a N L R (k : Int) z0 z1 z2 z3 z5 := by
 have h1 := hN.1
 exact ref30_Of_go (.inr ⟨by omega, .inr ⟨by omega, by omega, by omega, (R.getD k rdef).1, (R.getD k rdef).2.1, (R.getD k rdef).2.2.1, (R.getD k rdef).2.2.2.1, (R.getD k rdef).2.2.2.2, rfl, _, _, _, ref_Num00, rl0 (by omega) H N.length 0 (by omega)⟩⟩)
theorem ref_drop (hN : OkN N) {k : Nat} (hk : k < R.length) (hd : (R.getD k rdef).2.2.2.1 = true) : ref30_Of_R a N L R (k : Int) (lstT (fun _ => 0) N.length) (ng (0 : Rat).num) (tn (0 : Rat).num) (ten (0 : Rat).den) 0 :=
 ref_of hN hk (ref30_Of_l0_go (.inr ⟨by omega, .inl ⟨hd, rfl, rfl, rfl, rfl, rfl⟩⟩))
theorem ref_none (hN : OkN N) (hL : OkL L) (hR : OkR R) {k : Nat} (hk : k < R.length) (hd : (R.getD k rdef).2.2.2.1 = false) (h : (names (R.getD k rdef).2.2.2.2).all (roadOk N L) = false) : ref30_Of_R a N L R (k : Int) [] false [] [] 9 := by
 have hg := (hR.2 _ (getD_mem' (d := rdef) hk)).2
 have h1 := hN.1
 have h3 := names_len hg
 exact ref_of hN hk (ref30_Of_l0_go (.inr ⟨by omega, .inr ⟨by rw [hd]; simp, _, ref_Out_is _ _ _ _ hg, rl1 (by omega) hL (by omega) _ 0 [] (Nat.zero_add _) (by simp) (fun h' => by rw [List.drop_zero, h] at h'; cases h') (fun _ => ⟨rfl, rfl, rfl, rfl, rfl⟩)⟩⟩))
theorem ref_arg (hN : OkN N) (hL : OkL L) (hR : OkR R) {k : Nat} (hk : k < R.length) (hd : (R.getD k rdef).2.2.2.1 = false) (h : (names (R.getD k rdef).2.2.2.2).all (roadOk N L) = true) {qs : List Rat} (hq : ((names (R.getD k rdef).2.2.2.2).map fun s => (lnk L s).2.2.2) = qs.map fQ) (hz : AZ 1 qs) (hl : qs.length = (names (R.getD k rdef).2.2.2.2).length)
  (hb : ¬ Rgt qs ∨ light (R.getD k rdef).2.2.2.2 = true) : ref30_Of_R a N L R (k : Int) [] false [] [] 2 := by
 have hg := (hR.2 _ (getD_mem' (d := rdef) hk)).2
 have h1 := hN.1
 have h3 := names_len hg
 refine ref_of hN hk (ref30_Of_l0_go (.inr ⟨by omega, .inr ⟨by rw [hd]; simp, _, ref_Out_is _ _ _ _ hg, rl1 (by omega) hL (by omega) _ 0 [] (Nat.zero_add _) (by simp) (fun _ ps hp _ _ => ?_) (fun h' => by rw [List.drop_zero, h] at h'; cases h')⟩⟩))
 rw [List.drop_zero, hq] at hp
 have hr := ref29_Right_is (hz.mono (show 1 ≤ 10000 by omega)) (by omega)
 have e : ps.map fT = qs.map fT := by rw [fT_of hp]
 rw [List.nil_append, e]
 refine ref30_Of_l1_go (.inr ⟨by omega, _, hr, ?_⟩)
 by_cases hR' : Rgt qs
 ·have hb' := hb.resolve_left (fun g => g hR')
  exact .inl ⟨decide_eq_true hR', rl2 hg _ 0 (Nat.zero_add _) (fun h' => by rw [List.drop_zero, hb'] at h'; cases h') (fun _ => ⟨rfl, rfl, rfl, rfl, rfl⟩)⟩
 ·exact .inr ⟨by rw [decide_eq_false hR']; simp, rfl, rfl, rfl, rfl, rfl⟩
theorem ref_way (hN : OkN N) (hL : OkL L) (hR : OkR R) {k : Nat} (hk : k < R.length) (hd : (R.getD k rdef).2.2.2.1 = false) (h : (names (R.getD k rdef).2.2.2.2).all (roadOk N L) = true) {qs : List Rat} (hq : ((names (R.getD k rdef).2.2.2.2).map fun s => (lnk L s).2.2.2) = qs.map fQ) (hz : AZ 1 qs) (hl : qs.length = (names (R.getD k rdef).2.2.2.2).length)
  (hr : Rgt qs) (hw : light (R.getD k rdef).2.2.2.2 = false) (h5 : qs.length ≤ 5) :
  ref30_Of_R a N L R (k : Int) (lstT (wayF N L (R.getD k rdef).2.2.2.2 (casesTo qs (2 ^ qs.length))) N.length) (ng (wayL (R.getD k rdef).2.2.2.2 (casesTo qs (2 ^ qs.length))).num) (tn (wayL (R.getD k rdef).2.2.2.2 (casesTo qs (2 ^ qs.length))).num) (ten (wayL (R.getD k rdef).2.2.2.2 (casesTo qs (2 ^ qs.length))).den) 0 := by
 have hg := (hR.2 _ (getD_mem' (d := rdef) hk)).2
 have h1 := hN.1
 have h2 := hL.1
 have h3 := names_len hg
 have hp2 := pow5 h5
 refine ref_of hN hk (ref30_Of_l0_go (.inr ⟨by omega, .inr ⟨by rw [hd]; simp, _, ref_Out_is _ _ _ _ hg, rl1 (by omega) hL (by omega) _ 0 [] (Nat.zero_add _) (by simp) (fun _ ps hp _ _ => ?_) (fun h' => by rw [List.drop_zero, h] at h'; cases h')⟩⟩))
 rw [List.drop_zero, hq] at hp
 have hrr := ref29_Right_is (hz.mono (show 1 ≤ 10000 by omega)) (by omega)
 have e : ps.map fT = qs.map fT := by rw [fT_of hp]
 rw [List.nil_append, e]
 refine ref30_Of_l1_go (.inr ⟨by omega, _, hrr, .inl ⟨decide_eq_true hr, rl2 hg _ 0 (Nat.zero_add _) (fun _ => ?_) (fun h' => by rw [List.drop_zero, hw] at h'; cases h')⟩⟩)
 obtain ⟨s1, s2⟩ := all_same (toI N L) (names (R.getD k rdef).2.2.2.2) (R.getD k rdef).2.2.2.2 qs (fun _ => 0) 0 (2 ^ qs.length)
 refine rl4 (by omega) (by omega) hg (good_light hg hw) (fun s hs => List.all_eq_true.1 h s hs) hz hl h5 (2 ^ qs.length) 0 (fun _ => 0) 0 1 (Nat.zero_add _) (fun _ => SZ0) SZ0 (by omega) ⟨?_, ?_, rfl⟩
 ·rw [s1]
 ·rw [s2]; rfl
end
end Go.Proofs.YtjcdkemnflmfiaaGreatA
namespace Go.Proofs.YtjcdkemnflmfiaaGreatA
open Go Go.Proofs
section
variable {a : ByteArray} {N : List NodeT} {L : List LinkT} {R : List RuleT}
theorem few_bad {k : Int} (h : k < 0 ∨ (R.length : Int) ≤ k) : law30_few_R a N L R k true := by
 by_cases h0 : k < 0
 ·exact law30_few_go (.inl ⟨h0, rfl⟩)
 ·exact law30_few_go (.inr ⟨h0, .inl ⟨by omega, rfl⟩⟩)
theorem few_is (hR : OkR R) {k : Nat} (hk : k < R.length) : law30_few_R a N L R (k : Int) (decide ((names (R.getD k rdef).2.2.2.2).length ≤ 5 ∨ 8 < (names (R.getD k rdef).2.2.2.2).length)) := by
 have hg := (hR.2 _ (getD_mem' (d := rdef) hk)).2
 refine law30_few_go (.inr ⟨by omega, .inr ⟨by omega, by omega, by omega, (R.getD k rdef).1, (R.getD k rdef).2.1, (R.getD k rdef).2.2.1, (R.getD k rdef).2.2.2.1, (R.getD k rdef).2.2.2.2, rfl, _, ref_Out_is _ _ _ _ hg, ?_⟩⟩)
 by_cases h : (names (R.getD k rdef).2.2.2.2).length ≤ 5
 ·exact .inl ⟨by omega, decide_eq_true (.inl h)⟩
 ·exact .inr ⟨by omega, (R.getD k rdef).1, (R.getD k rdef).2.1, (R.getD k rdef).2.2.1, (R.getD k rdef).2.2.2.1, (R.getD k rdef).2.2.2.2, rfl, _, ref_Out_is _ _ _ _ hg, decide_eq_decide.2 (by omega)⟩
end
theorem outI_prefix (f : Int → Rat) {m n : Nat} (h : m ≤ n) : outI f m <+: outI f n := by
  induction n with
  | zero => obtain rfl : m = 0 := by omega
            exact List.prefix_rfl
  | succ n ih =>
    rcases Nat.lt_or_eq_of_le h with h1 | h1
    · refine (ih (by omega)).trans ?_
      rw [outI_succ]
      split
      · exact List.prefix_rfl
      · exact List.prefix_append ..
    · subst h1; exact List.prefix_rfl
theorem outI_at (f : Int → Rat) {i n : Nat} (hi : i < n) (h : f (i : Int) ≠ 0) : (outI f i).length < (outI f n).length ∧ (outI f n).getD (outI f i).length 0 = i := by
 have hp := outI_prefix f (show i + 1 ≤ n by omega)
 rw [outI_succ, if_neg h] at hp
 obtain ⟨t, ht⟩ := hp
 rw [← ht]
 refine ⟨by simp, ?_⟩
 rw [List.getD_eq_getElem?_getD, List.append_assoc, List.getElem?_append_right (Nat.le_refl _), Nat.sub_self]
 rfl
theorem outT_get {f : Int → Rat} {n k : Nat} (h : k < (outI f n).length) : (outT f n).getD k 0 = (((outI f n).getD k 0 : Nat) : Int) ∧ (outP f n).getD k (false, [], []) = fQ (f (((outI f n).getD k 0 : Nat) : Int)) := by
 unfold outT outP
 rw [List.getD_eq_getElem?_getD, List.getD_eq_getElem?_getD, List.getD_eq_getElem?_getD, List.getElem?_map, List.getElem?_map, List.getElem?_eq_getElem h]
 exact ⟨rfl, rfl⟩
theorem outT_len (f : Int → Rat) (n : Nat) : (outT f n).length = (outI f n).length ∧ (outP f n).length = (outI f n).length := ⟨List.length_map _, List.length_map _⟩
theorem outI_zero (n : Nat) : outI (fun _ => 0) n = [] := by
 unfold outI
 rw [List.filter_eq_nil_iff]
 intro k _
 simp
end Go.Proofs.YtjcdkemnflmfiaaGreatA
namespace Go.Proofs.YtjcdkemnflmfiaaGreatA
open Go Go.Proofs
namespace Ex
abbrev q : Rat := Rat.divInt 1 3
abbrev x : ByteArray := ⟨#[120]⟩
abbrev k : ByteArray := ⟨#[107]⟩
abbrev N : List NodeT := [(x, [])]
abbrev L : List LinkT := [(k, x, x, ng q.num, ab q.num, lim q.den)]
abbrev gs : List (List Hop) := [[(k, 1)]]
abbrev R : List RuleT := [(x, 0, 0, false, gs)]
theorem hz : SZ 1 q := SZ.divInt (by omega) (lim_len_one (by decide)) (lim_len_one (by decide))
theorem hnames : names gs = [k] := by simp [names, outs, addN]
theorem hcs : casesTo [q] (2 ^ [q].length) = [(0, q), (1, 1 - q)] := by decide +kernel
theorem hgood : GoodGs gs := ⟨by decide, fun g hg => by
 rw [List.mem_singleton.1 hg]
 refine ⟨by decide, fun h hh => ?_⟩
 rw [List.mem_singleton.1 hh]; exact ⟨by decide, by decide⟩⟩
theorem way : step_Of_R ⟨#[]⟩ N L R 0 [0] [fQ (1 - q)] (ng q.num) (ab q.num) (lim q.den) 0 := by
 have h := step_way (a := ⟨#[]⟩) (N := N) (L := L) (R := R) (k := 0) ⟨by decide, fun n hn => by rw [List.mem_singleton.1 hn]; exact ⟨by decide, fun p hp => by cases hp⟩⟩ ⟨by decide, fun l hl => by rw [List.mem_singleton.1 hl]; exact ⟨q, rfl, hz⟩⟩
  ⟨by decide, fun r hr => by rw [List.mem_singleton.1 hr]; exact ⟨⟨by decide, by decide⟩, hgood⟩⟩ (by decide) rfl (by show (names gs).all _ = true; rw [hnames]; decide +kernel) (qs := [q]) (by show (names gs).map _ = _; rw [hnames]; rfl) (fun p hp => by rw [List.mem_singleton.1 hp]; exact hz) (by show _ = (names gs).length; rw [hnames]; rfl)
  (by
   refine ⟨by simp, fun p hp => ?_⟩
   rw [List.mem_singleton.1 hp]; decide +kernel) (by decide) (by simp)
 have hcs := hcs
 rw [hcs] at h
 have e1 : wayF N L gs [(0, q), (1, 1 - q)] 0 = 1 - q := by
  show allF (toI N L) (names gs) gs _ _ 0 = _
  rw [hnames]; decide +kernel
 have e2 : wayL gs [(0, q), (1, 1 - q)] = q := by
  show allL (names gs) gs _ _ = _
  rw [hnames]; decide +kernel
 have h' : step_Of_R ⟨#[]⟩ N L R 0 (outT (wayF N L gs [(0, q), (1, 1 - q)]) 1) (outP (wayF N L gs [(0, q), (1, 1 - q)]) 1) (ng (wayL gs [(0, q), (1, 1 - q)]).num) (ab (wayL gs [(0, q), (1, 1 - q)]).num) (lim (wayL gs [(0, q), (1, 1 - q)]).den) 0 := h
 rw [e2] at h'
 have hne : ¬ wayF N L gs [(0, q), (1, 1 - q)] ((0 : Nat) : Int) = 0 := by
  rw [Int.natCast_zero, e1]; decide +kernel
 obtain ⟨t1, t2⟩ := outT_succ hne
 rw [t1, t2, Int.natCast_zero, e1] at h'
 exact h'
end Ex
theorem law30_works_is : law30_works_R true := by
 have s1 := rat_Same_is (Ex.hz.mono (show 1 ≤ 10000 by omega)) (Ex.hz.mono (show 1 ≤ 10000 by omega))
 have s2 := rat_Same_is (Ex.hz.not.mono (show 3 ≤ 10000 by omega)) (Ex.hz.not.mono (show 3 ≤ 10000 by omega))
 rw [decide_eq_true rfl] at s1 s2
 exact law30_works_go ⟨_, _, _, _, rat_Frac_is (n := 1) (d := 3) (by omega) (by omega) (by omega) (by omega) (by omega), _, _, _, _, _, _, Ex.way, .inl ⟨rfl, .inl ⟨rfl, by decide, .inl ⟨rfl, by simp, _, _, _, rfl, _, _, _, fold_Not_is (Ex.hz.mono (by omega)), _, s2, .inl ⟨rfl, _, s1, rfl⟩⟩⟩⟩⟩
end Go.Proofs.YtjcdkemnflmfiaaGreatA
