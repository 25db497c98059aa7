/- The reference's sums, differences, quotients and common divisors: what they answer. -/
import Derived.Test.YtfijdkdpcjfiaaaGreatP7
set_option linter.unusedVariables false
set_option linter.unusedSimpArgs false
namespace Go.Proofs.YtfijdkdpcjfiaaaGreatA
open Go
theorem ref_Cmp_loop {a b : List Int} (ha : Dig 10000 a) (hb : Dig 10000 b) (hl : a.length = b.length) (hs : a.length ≤ 1000000000000) : ∀ i : Nat, i ≤ a.length → val 10000 (a.drop i) = val 10000 (b.drop i) →
  ref02_Cmp_l0 a b ((i : Int) - 1) (if val 10000 a < val 10000 b then -1 else if val 10000 b < val 10000 a then 1 else 0) := by
 intro i
 induction i with
 | zero =>
  intro hi he
  have he : val 10000 a = val 10000 b := he
  rw [if_neg (by omega), if_neg (by omega)]
  exact ref02_Cmp_l0_go (.inr ⟨by omega, rfl⟩)
 | succ i ih =>
  intro hi he
  have hw : ((i + 1 : Nat) : Int) - 1 = (i : Int) := by omega
  rw [hw]
  refine ref02_Cmp_l0_go (.inl ⟨by omega, by omega, by omega, ?_⟩)
  rw [Int.toNat_natCast]
  by_cases h1 : a.getD i 0 < b.getD i 0
  ·rw [if_pos (val_lt_of_top (by omega) ha hb hl i (by omega) he h1)]
   exact .inl ⟨h1, rfl⟩
  ·by_cases h2 : b.getD i 0 < a.getD i 0
   ·have := val_lt_of_top (by omega) hb ha hl.symm i (by omega) he.symm h2
    rw [if_neg (by omega), if_pos this]
    exact .inr ⟨h1, .inl ⟨h2, rfl⟩⟩
   ·refine .inr ⟨h1, .inr ⟨h2, ?_⟩⟩
    rw [s64i (by omega) (by omega)]
    refine ih (by omega) ?_
    rw [val_drop _ a i (by omega), val_drop _ b i (by omega), he]
    omega
theorem ref_Cmp_is {x y : Nat} (hx : (ten x).length ≤ 1000000000000) (hy : (ten y).length ≤ 1000000000000) : ref02_Cmp_R (ten x) (ten y) (if x < y then -1 else if y < x then 1 else 0) := by
 have mono : ∀ {x y : Nat}, (ten x).length < (ten y).length → x < y := by
  intro x y h
  rcases Nat.lt_or_ge x y with h1 | h1
  ·exact h1
  ·have := digs_len_mono (b := 10000) (by omega) h1
   have h2 : (ten y).length ≤ (ten x).length := this
   omega
 refine ref02_Cmp_go ?_
 by_cases h : ((ten x).length : Int) = ((ten y).length : Int)
 ·refine .inl ⟨h, ?_⟩
  rw [s64i (by omega) (by omega)]
  have := ref_Cmp_loop (ten_dig x) (ten_dig y) (by omega) hx (ten x).length (Nat.le_refl _) (by rw [List.drop_eq_nil_of_le (Nat.le_refl _), List.drop_eq_nil_of_le (by omega)])
  rw [ten_val, ten_val] at this
  simp only [Int.ofNat_lt] at this
  exact this
 ·by_cases h1 : ((ten x).length : Int) < ((ten y).length : Int)
  ·refine .inr ⟨h, .inl ⟨h1, ?_⟩⟩
   rw [if_pos (mono (by omega))]
  ·have := mono (x := y) (y := x) (by omega)
   rw [if_neg (by omega), if_pos this]
   exact .inr ⟨h, .inr ⟨h1, rfl⟩⟩
theorem alg_rsub (vo P c c' u A B VA VB : Int) (e : u + B + c = A + 10000 * c') (hv : vo + VB = VA + P * c) : vo + P * u + (VB + P * B) = VA + P * A + P * 10000 * c' := by grind
theorem ref_Sub_loop {a b : List Int} (ha : Dig 10000 a) (hb : Dig 10000 b) (hsa : a.length ≤ 100000000000) (hsb : b.length ≤ a.length) {x : Nat} (hx : val 10000 a - val 10000 b = (x : Int)) (d : Nat) : ∀ (i : Nat) (o : List Int) (c : Int),
  i + d = a.length → o.length = i → Dig 10000 o → 0 ≤ c → c ≤ 1 → val 10000 o + val 10000 (b.take i) = val 10000 (a.take i) + 10000 ^ i * c →
  (o = [] → ref02_Sub_l0 a b c (i : Int) (ten x)) ∧ (o ≠ [] → ref02_Sub_l1 a b c (i : Int) o (ten x)) := by
 induction d with
 | zero =>
  intro i o c hi ho hdg hc0 hc hv
  rw [List.take_of_length_le (by omega), List.take_of_length_le (by omega)] at hv
  have hlt := val_lt (by omega) hdg
  rw [ho] at hlt
  have hc1 : c = 0 := by
   rcases (show c = 0 ∨ c = 1 by omega) with h | h
   ·exact h
   ·subst h; omega
  subst hc1
  refine ⟨fun h => ?_, fun h => ?_⟩
  ·subst h
   exact ref02_Sub_l0_go (.inr ⟨by omega, _, ref_Trim_is (Dig.nil _) (by simp) (by omega), rfl⟩)
  ·exact ref02_Sub_l1_go (.inr ⟨by omega, _, ref_Trim_is hdg (by omega) (by omega), rfl⟩)
 | succ d ih =>
  intro i o c hi ho hdg hc0 hc hv
  have hi1 : i + 1 < 9223372036854775808 := by omega
  have ga := Dig.getD (by omega) ha i
  have gb := Dig.getD (by omega) hb i
  obtain ⟨s, hs⟩ : ∃ s, s = a.getD i 0 - c - b.getD i 0 := ⟨_, rfl⟩
  have key : ∀ c' : Int, 0 ≤ c' → c' ≤ 1 → 0 ≤ s + 10000 * c' → s + 10000 * c' < 10000 → ref02_Sub_l1 a b c' ((i + 1 : Nat) : Int) (o ++ [s + 10000 * c']) (ten x) := fun c' h0 h1 h2 h3 =>
   (ih (i + 1) (o ++ [s + 10000 * c']) c' (by omega) (by rw [List.length_append]; simp; omega) (hdg.append (Dig.cons ⟨h2, h3⟩ (Dig.nil _))) h0 h1 (by
    rw [val_snoc, ho, val_take_succ', val_take_succ', Int.pow_succ]
    exact alg_rsub _ _ _ _ _ _ _ _ _ (by omega) hv)).2 (by simp)
  have hb0 : ¬ i < b.length → b.getD i 0 = 0 := fun h => getD_ge (by omega)
  have hw := w_succ hi1
  have e1 : wi (a.getD i 0 - c) = a.getD i 0 - c := s64i (by omega) (by omega)
  have e2 : wi s = s := s64i (by omega) (by omega)
  have e3 : wi (s + 10000) = s + 10000 * 1 := by rw [s64i (by omega) (by omega)]; omega
  have e4 : s = s + 10000 * 0 := by omega
  refine ⟨fun h => ?_, fun h => ?_⟩
  ·rw [h] at key
   refine ref02_Sub_l0_go (.inl ⟨by omega, by omega, ?_⟩)
   rw [Int.toNat_natCast, hw, e1, ← hs]
   by_cases hB : i < b.length
   ·refine .inl ⟨by omega, ?_⟩
    rw [e2, e3]
    by_cases hn : s < 0
    ·exact .inl ⟨hn, _, rfl, by omega, _, rfl, key 1 (by omega) (by omega) (by omega) (by omega)⟩
    ·refine .inr ⟨hn, by omega, _, rfl, ?_⟩
     have := key 0 (by omega) (by omega) (by omega) (by omega)
     rw [← e4] at this
     exact this
   ·refine .inr ⟨by omega, ?_⟩
    rw [show a.getD i 0 - c = s by have := hb0 hB; omega, e3]
    by_cases hn : s < 0
    ·exact .inl ⟨hn, by omega, _, rfl, key 1 (by omega) (by omega) (by omega) (by omega)⟩
    ·refine .inr ⟨hn, by omega, _, rfl, ?_⟩
     have := key 0 (by omega) (by omega) (by omega) (by omega)
     rw [← e4] at this
     exact this
  ·refine ref02_Sub_l1_go (.inl ⟨by omega, by omega, ?_⟩)
   rw [Int.toNat_natCast, hw, e1, ← hs]
   by_cases hB : i < b.length
   ·refine .inl ⟨by omega, ?_⟩
    rw [e2, e3]
    by_cases hn : s < 0
    ·exact .inl ⟨hn, _, rfl, by omega, _, rfl, key 1 (by omega) (by omega) (by omega) (by omega)⟩
    ·refine .inr ⟨hn, by omega, _, rfl, ?_⟩
     have := key 0 (by omega) (by omega) (by omega) (by omega)
     rw [← e4] at this
     exact this
   ·refine .inr ⟨by omega, ?_⟩
    rw [show a.getD i 0 - c = s by have := hb0 hB; omega, e3]
    by_cases hn : s < 0
    ·exact .inl ⟨hn, by omega, _, rfl, key 1 (by omega) (by omega) (by omega) (by omega)⟩
    ·refine .inr ⟨hn, by omega, _, rfl, ?_⟩
     have := key 0 (by omega) (by omega) (by omega) (by omega)
     rw [← e4] at this
     exact this
theorem ten_len_mono {x y : Nat} (h : x ≤ y) : (ten x).length ≤ (ten y).length := digs_len_mono (by omega) h
theorem ref_Sub_is {x y : Nat} (hx : (ten x).length ≤ 100000000000) (h : y ≤ x) : ref02_Sub_R (ten x) (ten y) (ten (x - y)) := by
 refine ref02_Sub_go ((ref_Sub_loop (ten_dig x) (ten_dig y) hx (ten_len_mono h) (by rw [ten_val, ten_val]; omega) (ten x).length 0 [] 0 (by omega) rfl (Dig.nil _) (by omega) (by omega) (by simp [val])).1 rfl)
theorem ref_Div_bis {a q z0 z1 : List Int} {y R i : Nat} (hy : (ten y).length ≤ 100000000) (hR : (ten R).length ≤ 1000000000) (hi : i < q.length) (hq : q.length ≤ 1000000000)
  (K : ∀ lo : Nat, lo < 10000 → lo * y ≤ R → R < (lo + 1) * y → ref02_Div_l2 a (ten y) (ten (R - lo * y)) ((i : Int) - 1) (q.set i (lo : Int)) z0 z1) : ∀ (d lo hi : Nat), hi - lo ≤ d → lo < hi → hi ≤ 10000 → lo * y ≤ R → R < hi * y →
  ref02_Div_l1 a (ten y) (ten R) (i : Int) (lo : Int) (hi : Int) q z0 z1 := by
 intro d
 induction d with
 | zero => intro lo hi h1 h2; omega
 | succ d ih =>
  intro lo hi h1 h2 h3 h4 h5
  have e1 : wi ((hi : Int) - (lo : Int)) = ((hi - lo : Nat) : Int) := by rw [s64i (by omega) (by omega)]; omega
  by_cases h : hi = lo + 1
  ·subst h
   have hm : ref02_MulAdd_R (ten y) (lo : Int) 0 (ten (lo * y)) := by
    have := ref_MulAdd_is (x := y) (m := lo) (c := 0) (by omega) (by omega) (by omega)
    rwa [Nat.add_zero, Nat.mul_comm] at this
   refine ref02_Div_l1_go (.inr ⟨by rw [e1]; omega, by omega, by omega, _, rfl, _, hm, _, ref_Sub_is (by omega) h4, ?_⟩)
   rw [Int.toNat_natCast, s64i (by omega) (by omega)]
   exact K lo (by omega) h4 h5
  ·have e2 : wi ((wi ((lo : Int) + (hi : Int))).tdiv 2) = (((lo + hi) / 2 : Nat) : Int) := by
    rw [s64i (n := (lo : Int) + (hi : Int)) (by omega) (by omega), td (by omega), s64i (by omega) (by omega)]; omega
   obtain ⟨m, hm⟩ : ∃ m, m = (lo + hi) / 2 := ⟨_, rfl⟩
   have hml : ref02_MulAdd_R (ten y) (m : Int) 0 (ten (m * y)) := by
    have := ref_MulAdd_is (x := y) (m := m) (c := 0) (by omega) (by omega) (by omega)
    rwa [Nat.add_zero, Nat.mul_comm] at this
   have hsz : (ten (m * y)).length ≤ 1000000000000 := by
    have h1 : (ten y).length ≤ (ten y).length := Nat.le_refl _
    have h2 : m * y < 10000 ^ ((ten y).length + 1) := by
     rw [Nat.pow_succ, Nat.mul_comm m]
     exact Nat.mul_lt_mul'' (ten_len.1 h1) (by omega)
    exact Nat.le_trans (ten_len.2 h2) (by omega)
   refine ref02_Div_l1_go (.inl ⟨by rw [e1]; omega, ?_⟩)
   rw [e2, ← hm]
   refine ⟨_, hml, _, ref_Cmp_is hsz (by omega), ?_⟩
   by_cases hc : m * y ≤ R
   ·exact .inl ⟨by split <;> (try split) <;> omega, ih m hi (by omega) (by omega) (by omega) hc h5⟩
   ·exact .inr ⟨by rw [if_neg (by omega), if_pos (by omega)]; omega, ih lo m (by omega) (by omega) (by omega) h4 (by omega)⟩
theorem alg_rdiv (A Q y R lo R2 : Int) (h : A + 10000 * R = lo * y + R2) : A + 10000 * (Q * y + R) = (lo + 10000 * Q) * y + R2 := by grind
theorem ref_Div_next {a : List Int} (ha : Dig 10000 a) {x y : Nat} (hy : (ten y).length ≤ 100000000) (hy0 : 0 < y) (hs : a.length ≤ 100000000) (hx : val 10000 a = (x : Int)) {i R : Nat} {q : List Int} (hi : i + 1 ≤ a.length) (hql : q.length = a.length) (hqd : Dig 10000 q) (hR : R < y)
  (hv : val 10000 (a.drop (i + 1)) = val 10000 (q.drop (i + 1)) * (y : Int) + (R : Int))
  (ih : ∀ (R2 : Nat) (q2 : List Int), q2.length = a.length → Dig 10000 q2 → R2 < y → val 10000 (a.drop i) = val 10000 (q2.drop i) * (y : Int) + (R2 : Int) → ref02_Div_l2 a (ten y) (ten R2) ((i : Int) - 1) q2 (ten (x / y)) (ten (x % y)))
  {A : Nat} (hA : a.getD i 0 = (A : Int)) : ref02_Div_l1 a (ten y) (ten (A + 10000 * R)) (i : Int) 0 10000 q (ten (x / y)) (ten (x % y)) := by
 have ga := Dig.getD (by omega) ha i
 rw [hA] at ga
 have hsz : (ten (A + 10000 * R)).length ≤ 1000000000 := by
  have h2 : A + 10000 * R < 10000 ^ ((ten y).length + 1) := by
   rw [Nat.pow_succ]
   have := ten_len.1 (Nat.le_refl (ten y).length)
   omega
  exact Nat.le_trans (ten_len.2 h2) (by omega)
 refine ref_Div_bis (i := i) hy hsz (by omega) (by omega) (fun lo hlo h1 h2 => ?_) 10000 0 10000 (by omega) (by omega) (by omega) (by omega) (by omega)
 refine ih _ _ (by rw [List.length_set]; exact hql) (hqd.set (by omega) _) (by rw [Nat.add_mul] at h2; omega) ?_
 rw [val_drop _ a i (by omega), val_drop _ (q.set i _) i (by rw [List.length_set]; omega), getD_set_eq (by omega), List.drop_set_of_lt (by omega), hv, hA]
 refine alg_rdiv _ _ _ _ _ _ ?_
 rw [← Int.natCast_mul]
 omega
theorem ref_Div_loop {a : List Int} (ha : Dig 10000 a) {x y : Nat} (hy : (ten y).length ≤ 100000000) (hy0 : 0 < y) (hs : a.length ≤ 100000000) (hx : val 10000 a = (x : Int)) : ∀ (i R : Nat) (q : List Int),
  i ≤ a.length → q.length = a.length → Dig 10000 q → R < y → val 10000 (a.drop i) = val 10000 (q.drop i) * (y : Int) + (R : Int) →
  ref02_Div_l2 a (ten y) (ten R) ((i : Int) - 1) q (ten (x / y)) (ten (x % y)) := by
 intro i
 induction i with
 | zero =>
  intro R q hi hql hqd hR hv
  rw [List.drop_zero, List.drop_zero, hx] at hv
  have hu := divmod_unique (n := (x : Int)) (d := (y : Int)) (q := val 10000 q) (r := (R : Int)) hv.symm (by omega) (by omega)
  refine ref02_Div_l2_go (.inr ⟨by omega, _, ref_Trim_is hqd (by omega) (x := x / y) (by rw [← hu.1, Int.natCast_ediv]), rfl, ?_⟩)
  have : x % y = R := by
   have h := hu.2
   rw [← Int.natCast_emod] at h
   omega
  rw [this]
 | succ i ih =>
  intro R q hi hql hqd hR hv
  have hw : ((i + 1 : Nat) : Int) - 1 = (i : Int) := by omega
  rw [hw]
  have ga := Dig.getD (by omega) ha i
  obtain ⟨A, hA⟩ := Int.eq_ofNat_of_zero_le ga.1
  have hRl : (ten R).length ≤ 100000000 := Nat.le_trans (ten_len_mono (Nat.le_of_lt hR)) hy
  have trim : ref02_Trim_R ([a.getD (i : Int).toNat 0] ++ ten R) (ten (A + 10000 * R)) := by
   rw [Int.toNat_natCast]
   refine ref_Trim_is ((Dig.cons ga (Dig.nil _)).append (ten_dig R)) (by simp; omega) ?_
   rw [List.singleton_append, val_cons, ten_val, hA]; omega
  have next := ref_Div_next ha hy hy0 hs hx hi hql hqd hR hv (fun R2 q2 h1 h2 h3 h4 => ih R2 q2 (by omega) h1 h2 h3 h4) hA
  by_cases hn : ten R = []
  ·exact ref02_Div_l2_go (.inl ⟨by omega, by omega, .inl ⟨hn, ten (A + 10000 * R), by rw [hn, List.append_nil] at trim; exact trim, next⟩⟩)
  ·exact ref02_Div_l2_go (.inl ⟨by omega, by omega, .inr ⟨hn, by simp; omega, _, rfl, ten (A + 10000 * R), trim, next⟩⟩)
theorem ref_Div_is {x y : Nat} (hx : (ten x).length ≤ 100000000) (hyl : (ten y).length ≤ 100000000) (hy : 0 < y) : ref02_Div_R (ten x) (ten y) (ten (x / y)) (ten (x % y)) := by
 refine ref02_Div_go ⟨by omega, by omega, _, rfl, ?_⟩
 rw [s64i (by omega) (by omega), Int.toNat_natCast]
 have hz := Dig.zeros (b := 10000) (by omega) (ten x).length
 rcases Nat.eq_zero_or_pos (ten x).length with h0 | h0
 ·have hx0 : x = 0 := ten_nil.1 (List.length_eq_zero_iff.1 h0)
  subst hx0
  rw [Nat.zero_div, Nat.zero_mod]
  exact ref02_Div_l0_go (.inr ⟨by omega, _, ref_Trim_is hz (by rw [List.length_replicate]; omega) (by rw [val_zeros]; rfl), rfl, ten_nil.2 rfl⟩)
 ·obtain ⟨i, hi⟩ : ∃ i, (ten x).length = i + 1 := ⟨(ten x).length - 1, by omega⟩
  rw [show ((ten x).length : Int) - 1 = (i : Int) by omega]
  have ga := Dig.getD (by omega) (ten_dig x) i
  obtain ⟨A, hA⟩ := Int.eq_ofNat_of_zero_le ga.1
  have := ref_Div_next (ten_dig x) hyl hy hx (ten_val x) (i := i) (R := 0) (q := List.replicate (ten x).length 0) (by omega) (by rw [List.length_replicate]) hz hy (by rw [List.drop_of_length_le (by omega), List.drop_of_length_le (by rw [List.length_replicate]; omega)]; simp [val])
   (fun R2 q2 h1 h2 h3 h4 => ref_Div_loop (ten_dig x) hyl hy hx (ten_val x) i R2 q2 (by omega) h1 h2 h3 h4) hA
  refine ref02_Div_l0_go (.inl ⟨by omega, by omega, _, ?_, this⟩)
  rw [Int.toNat_natCast]
  refine ref_Trim_is (Dig.cons ga (Dig.nil _)) (by simp) ?_
  rw [val_cons, val_nil, hA]; omega
theorem ref_Gcd_loop : ∀ (y : Nat) (x : Nat), (ten x).length ≤ 100000000 → (ten y).length ≤ 100000000 → ref02_Gcd_l0 (ten x) (ten y) (ten (Nat.gcd x y)) := by
 intro y
 induction y using Nat.strongRecOn with
 | _ y ih =>
  intro x hx hy
  rcases Nat.eq_zero_or_pos y with rfl | h0
  ·rw [Nat.gcd_zero_right]
   exact ref02_Gcd_l0_go (.inr ⟨by rw [ten_nil.2 rfl]; simp, rfl⟩)
  ·refine ref02_Gcd_l0_go (.inl ⟨?_, _, _, ref_Div_is hx hy h0, ?_⟩)
   ·have : (ten y).length ≠ 0 := fun h => by have := ten_nil.1 (List.length_eq_zero_iff.1 h); omega
    omega
   ·have := ih (x % y) (Nat.mod_lt _ h0) y hy (Nat.le_trans (ten_len_mono (Nat.le_of_lt (Nat.mod_lt x h0))) hy)
    rw [Nat.gcd_comm x y, Nat.gcd_rec, Nat.gcd_comm]
    exact this
theorem ref_Gcd_is {x y : Nat} (hx : (ten x).length ≤ 100000000) (hy : (ten y).length ≤ 100000000) : ref02_Gcd_R (ten x) (ten y) (ten (Nat.gcd x y)) := ref02_Gcd_go (ref_Gcd_loop y x hx hy)
end Go.Proofs.YtfijdkdpcjfiaaaGreatA
