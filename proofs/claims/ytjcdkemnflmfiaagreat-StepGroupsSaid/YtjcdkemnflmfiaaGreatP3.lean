/- Natural numbers and products: what the functions answer. -/
import Derived.Test.YtjcdkemnflmfiaaGreatP2
import Derived.Test.YtjcdkemnflmfiaaGreatW2
set_option linter.unusedVariables false
set_option linter.unusedSimpArgs false
namespace Go.Proofs.YtjcdkemnflmfiaaGreatA
open Go
theorem val_lt_of_top {b : Int} (hb : 0 < b) {l m : List Int} (hl : Dig b l) (hm : Dig b m) (h : l.length = m.length) (i : Nat) (hi : i < l.length) (he : val b (l.drop (i + 1)) = val b (m.drop (i + 1))) (hlt : l.getD i 0 < m.getD i 0) : val b l < val b m := by
 rw [val_take_drop b l i (by omega), val_take_drop b m i (by omega), val_drop b l i hi, val_drop b m i (by omega), he]
 have h1 := val_lt hb (hl.take i)
 rw [List.length_take, Nat.min_eq_left (by omega)] at h1
 have h2 := val_nonneg hb (hm.take i)
 have h3 : b ^ i * (l.getD i 0 + 1) ≤ b ^ i * m.getD i 0 := Int.mul_le_mul_of_nonneg_left (by omega) (Int.le_of_lt (powb_pos hb i))
 rw [Int.mul_add, Int.mul_one] at h3
 rw [Int.mul_add, Int.mul_add]
 omega
theorem nat_Cmp_loop {a b : List Int} (ha : Dig 4294967296 a) (hb : Dig 4294967296 b) (hl : a.length = b.length) (hs : a.length ≤ 1000000000000) : ∀ i : Nat, i ≤ a.length → val 4294967296 (a.drop i) = val 4294967296 (b.drop i) →
  nat_Cmp_l0 a b ((i : Int) - 1) (if val 4294967296 a < val 4294967296 b then -1 else if val 4294967296 b < val 4294967296 a then 1 else 0) := by
 intro i
 induction i with
 | zero =>
  intro hi he
  have he : val 4294967296 a = val 4294967296 b := he
  rw [if_neg (by omega), if_neg (by omega)]
  exact nat_Cmp_l0_go (.inr ⟨by omega, rfl⟩)
 | succ i ih =>
  intro hi he
  have hw : ((i + 1 : Nat) : Int) - 1 = (i : Int) := by omega
  rw [hw]
  refine nat_Cmp_l0_go (.inl ⟨by omega, by omega, by omega, ?_⟩)
  rw [Int.toNat_natCast]
  by_cases h1 : a.getD i 0 < b.getD i 0
  ·rw [if_pos (val_lt_of_top (by omega) ha hb hl i (by omega) he h1)]
   exact .inl ⟨h1, rfl⟩
  ·by_cases h2 : b.getD i 0 < a.getD i 0
   ·have := val_lt_of_top (by omega) hb ha hl.symm i (by omega) he.symm h2
    rw [if_neg (by omega), if_pos this]
    exact .inr ⟨h1, .inl ⟨h2, rfl⟩⟩
   ·refine .inr ⟨h1, .inr ⟨h2, ?_⟩⟩
    rw [s64i (by omega) (by omega)]
    refine ih (by omega) ?_
    rw [val_drop _ a i (by omega), val_drop _ b i (by omega), he]
    omega
theorem nat_Cmp_is {x y : Nat} (hx : (lim x).length ≤ 1000000000000) (hy : (lim y).length ≤ 1000000000000) : nat_Cmp_R (lim x) (lim y) (if x < y then -1 else if y < x then 1 else 0) := by
 have mono : ∀ {x y : Nat}, (lim x).length < (lim y).length → x < y := by
  intro x y h
  rcases Nat.lt_or_ge x y with h1 | h1
  ·exact h1
  ·have := digs_len_mono (b := 4294967296) (by omega) h1
   have h2 : (lim y).length ≤ (lim x).length := this
   omega
 refine nat_Cmp_go ?_
 by_cases h1 : ((lim x).length : Int) < ((lim y).length : Int)
 ·refine .inl ⟨h1, ?_⟩
  rw [if_pos (mono (by omega))]
 ·by_cases h2 : ((lim y).length : Int) < ((lim x).length : Int)
  ·have := mono (x := y) (y := x) (by omega)
   rw [if_neg (by omega), if_pos this]
   exact .inr ⟨h1, .inl ⟨h2, rfl⟩⟩
  ·refine .inr ⟨h1, .inr ⟨h2, ?_⟩⟩
   rw [s64i (by omega) (by omega)]
   have := nat_Cmp_loop (lim_dig x) (lim_dig y) (by omega) hx (lim x).length (Nat.le_refl _) (by rw [List.drop_eq_nil_of_le (Nat.le_refl _), List.drop_eq_nil_of_le (by omega)])
   rw [lim_val, lim_val] at this
   simp only [Int.ofNat_lt] at this
   exact this
theorem nat_Sub_loop {a b : List Int} (ha : Dig 4294967296 a) (hb : Dig 4294967296 b) {n x : Nat} (hn : n ≤ 1000000000000) (hna : a.length = n) (hnb : b.length ≤ n) (hx : val 4294967296 a - val 4294967296 b = (x : Int)) (d : Nat) : ∀ (i : Nat) (s : List Int) (c : Int),
  i + d = n → s.length = n → Dig 4294967296 s → 0 ≤ c → c ≤ 1 → (∀ j, i ≤ j → s.getD j 0 = 0) → val 4294967296 s + val 4294967296 (b.take i) = val 4294967296 (a.take i) + c * 4294967296 ^ i →
  nat_Sub_l0 a b c (n : Int) (i : Int) s (lim x) 0 := by
 induction d with
 | zero =>
  intro i s c hi hl hs h0 h1 hz hv
  obtain rfl : i = n := by omega
  rw [List.take_of_length_le (l := b) hnb, List.take_of_length_le (l := a) (by omega)] at hv
  have hlt := val_lt (by omega) hs
  rw [hl] at hlt
  have hp := powb_pos (b := 4294967296) (by omega) i
  have hc : c = 0 := by
   rcases (show c = 0 ∨ c = 1 by omega) with h | h
   ·exact h
   ·subst h; omega
  refine nat_Sub_l0_go (.inr ⟨by omega, lim x, nat_trim_is hs (by omega) ?_, rfl, rfl⟩)
  subst hc
  omega
 | succ d ih =>
  intro i s c hi hl hs h0 h1 hz hv
  have ga := Dig.getD (by omega) ha i
  have gb := Dig.getD (by omega) hb i
  by_cases h : a.getD i 0 < b.getD i 0 + c
  ·have hsub : limb_Sub_R (a.getD i 0) (b.getD i 0) c (a.getD i 0 + 4294967296 - b.getD i 0 - c) 1 := by
    have := limb_Sub_lt (a := a.getD i 0) (b := b.getD i 0) (c := c) (by omega) (by omega) (by omega) (by omega)
    rw [show (b.getD i 0 % 4294967296 + c % 4294967296 - a.getD i 0 % 4294967296 + 4294967295) / 4294967296 = 1 by omega] at this
    rw [show a.getD i 0 + 4294967296 - b.getD i 0 - c = a.getD i 0 % 4294967296 + 1 * 4294967296 - (b.getD i 0 % 4294967296 + c % 4294967296) by omega]
    exact this
   refine nat_Sub_l0_go (.inl ⟨by omega, by omega, by omega, _, nat_at_is b i, _, _, hsub, by omega, _, rfl, ?_⟩)
   rw [s64i (by omega) (by omega), Int.toNat_natCast]
   refine ih (i + 1) _ _ (by omega) (by rw [List.length_set]; exact hl) (hs.set (by omega) _) (by omega) (by omega) (fun j hj => ?_) ?_
   ·rw [getD_set_ne (by omega)]; exact hz j (by omega)
   ·rw [val_set _ _ _ _ (by omega), hz i (Nat.le_refl _), val_take_succ', val_take_succ', Int.sub_zero, Int.pow_succ]
    generalize (4294967296 : Int) ^ i = P at hv ⊢
    generalize a.getD i 0 = p at *
    generalize b.getD i 0 = q at *
    grind
  ·have hsub : limb_Sub_R (a.getD i 0) (b.getD i 0) c (a.getD i 0 - b.getD i 0 - c) 0 := by
    have := limb_Sub_ge (a := a.getD i 0) (b := b.getD i 0) (c := c) (by omega) (by omega) (by omega) (by omega)
    rw [show a.getD i 0 - b.getD i 0 - c = a.getD i 0 % 4294967296 - (b.getD i 0 % 4294967296 + c % 4294967296) by omega]
    exact this
   refine nat_Sub_l0_go (.inl ⟨by omega, by omega, by omega, _, nat_at_is b i, _, _, hsub, by omega, _, rfl, ?_⟩)
   rw [s64i (by omega) (by omega), Int.toNat_natCast]
   refine ih (i + 1) _ _ (by omega) (by rw [List.length_set]; exact hl) (hs.set (by omega) _) (by omega) (by omega) (fun j hj => ?_) ?_
   ·rw [getD_set_ne (by omega)]; exact hz j (by omega)
   ·rw [val_set _ _ _ _ (by omega), hz i (Nat.le_refl _), val_take_succ', val_take_succ', Int.sub_zero, Int.pow_succ]
    generalize (4294967296 : Int) ^ i = P at hv ⊢
    generalize a.getD i 0 = p at *
    generalize b.getD i 0 = q at *
    grind
theorem nat_Sub_lt {x y : Nat} (hx : (lim x).length ≤ 1000000000000) (hy : (lim y).length ≤ 1000000000000) (h : x < y) : nat_Sub_R (lim x) (lim y) [] 6 := by
 have := nat_Cmp_is hx hy
 rw [if_pos h] at this
 exact nat_Sub_go ⟨_, this, .inl ⟨by omega, rfl, rfl⟩⟩
theorem nat_Sub_ge {x y : Nat} (hx : (lim x).length ≤ 1000000000000) (hy : (lim y).length ≤ 1000000000000) (h : y ≤ x) : nat_Sub_R (lim x) (lim y) (lim (x - y)) 0 := by
 refine nat_Sub_go ⟨_, nat_Cmp_is hx hy, .inr ⟨by rw [if_neg (by omega)]; split <;> omega, by omega, by omega, _, rfl, ?_⟩⟩
 rw [Int.toNat_natCast, List.length_replicate]
 refine nat_Sub_loop (lim_dig x) (lim_dig y) (n := (lim x).length) hx rfl (digs_len_mono (by omega) (by omega)) (by rw [lim_val, lim_val]; omega) (lim x).length 0 _ 0 (by omega) (by rw [List.length_replicate]) (Dig.zeros (by omega) _) (by omega) (by omega) (fun j _ => getD_zeros _ j) ?_
 rw [val_zeros]; rfl
theorem nat_May_lim {x : Nat} (hs : (lim x).length ≤ 1000000000000) : nat_May_R (lim x) true := by
 have loop : ∀ d i : Nat, i + d = (lim x).length → nat_May_l0 (lim x) (lim x) ((lim x).length : Int) (i : Int) true := by
  intro d
  induction d with
  | zero =>
   intro i hi
   refine nat_May_l0_go (.inr ⟨by omega, ?_⟩)
   by_cases h : ((lim x).length : Int) = 0
   ·exact .inl ⟨h, rfl⟩
   ·obtain ⟨n, hn⟩ : ∃ n, (lim x).length = n + 1 := ⟨(lim x).length - 1, by omega⟩
    have hw : wi (((lim x).length : Int) - 1) = (n : Int) := by rw [hn]; exact w_pred (by omega)
    refine .inr ⟨h, ?_⟩
    rw [hw]
    refine ⟨by omega, by omega, ?_⟩
    rw [Int.toNat_natCast]
    have hnz := (norm_iff (lim x)).1 (lim_norm x)
    rw [hn, Nat.add_sub_cancel] at hnz
    rcases hnz with hnz | hnz
    ·rw [hnz] at hn; simp at hn
    ·rw [decide_eq_false hnz]; rfl
  | succ d ih =>
   intro i hi
   have hi1 : i + 1 < 9223372036854775808 := by omega
   have g := Dig.getD (by omega) (lim_dig x) i
   refine nat_May_l0_go (.inl ⟨by omega, by omega, by omega, .inr ⟨by rw [Int.toNat_natCast]; omega, ?_⟩⟩)
   rw [w_succ hi1]
   exact ih (i + 1) (by omega)
 exact nat_May_go (loop (lim x).length 0 (by omega))
theorem mul_made_is {l : List Int} (hl : Dig 4294967296 l) (hs : l.length ≤ 1099511627776) {x : Nat} (hx : val 4294967296 l = (x : Int)) : mul_made_R l (lim x) :=
 mul_made_go ⟨_, _, nat_Make_is hl hs hx, rfl⟩
theorem up64 {x : Int} (h : 0 ≤ x ∧ x < 4294967296) : 0 ≤ x ∧ x < 18446744073709551616 := ⟨h.1, by omega⟩
theorem divmod32 {T : Int} (h : 0 ≤ T ∧ T < 18446744073709551616) : (0 ≤ T % 4294967296 ∧ T % 4294967296 < 4294967296) ∧ (0 ≤ T / 4294967296 ∧ T / 4294967296 < 4294967296) ∧ T % 4294967296 + 4294967296 * (T / 4294967296) = T := by omega
theorem alg_long (vp P R u v z x y c v0 V T : Int) (e : u + 4294967296 * v = T) (hT : x * y + z + c = T) (hv : vp + P * R * c = v0 + P * (x * V)) : vp + P * R * (u - z) + P * R * 4294967296 * v = v0 + P * (x * (V + R * y)) := by grind
theorem mul_Long_inner {a b : List Int} (ha : Dig 4294967296 a) (hb : Dig 4294967296 b) (hs : a.length + b.length ≤ 100000000000) {r : List Int} {i : Nat} (hi : i < a.length) (p0 : List Int)
  (hend : ∀ q : List Int, q.length = a.length + b.length → Dig 4294967296 q → (∀ j, i + 1 + b.length ≤ j → q.getD j 0 = 0) → val 4294967296 q = val 4294967296 p0 + 4294967296 ^ i * (a.getD i 0 * val 4294967296 b) → mul_Long_l0 b a (a.length : Int) ((i + 1 : Nat) : Int) q r) (d : Nat) : ∀ (j : Nat) (p : List Int) (c : Int),
  j + d = b.length → p.length = a.length + b.length → Dig 4294967296 p → 0 ≤ c → c < 4294967296 → (∀ j, i + b.length ≤ j → p.getD j 0 = 0) → val 4294967296 p + 4294967296 ^ (i + j) * c = val 4294967296 p0 + 4294967296 ^ i * (a.getD i 0 * val 4294967296 (b.take j)) →
  mul_Long_l1 b (i : Int) (a.getD i 0) c a (a.length : Int) (i : Int) b (b.length : Int) (j : Int) p r := by
 induction d with
 | zero =>
  intro j p c hj hl hp h0 h4 hz hv
  obtain rfl : j = b.length := by omega
  have h1 : i + b.length < 9223372036854775808 := by omega
  have h2 : i + b.length < p.length := by omega
  have h3 : i + 1 < 9223372036854775808 := by omega
  refine mul_Long_l1_go (.inr ⟨by omega, w_add_nn h1, w_add_lt h1 h2, _, rfl, ?_⟩)
  rw [w_add h1, Int.toNat_natCast, w_succ h3]
  refine hend _ (by rw [List.length_set]; exact hl) (hp.set ⟨h0, h4⟩ _) (fun j hj => ?_) ?_
  ·rw [getD_set_ne (by omega)]; exact hz j (by omega)
  ·rw [val_set _ _ _ _ (by omega), hz _ (Nat.le_refl _), Int.sub_zero]
   rw [List.take_of_length_le (Nat.le_refl _)] at hv
   exact hv
 | succ d ih =>
  intro j p c hj hl hp h0 h4 hz hv
  have hij : i + j < p.length := by omega
  have hij2 : i + j < 9223372036854775808 := by omega
  have hj2 : j + 1 < 9223372036854775808 := by omega
  refine mul_Long_l1_go (.inl ⟨by omega, by omega, by omega, w_add_nn hij2, w_add_lt hij2 hij, ?_⟩)
  have ga := Dig.getD (by omega) ha i
  have gb := Dig.getD (by omega) hb j
  have gp := Dig.getD (by omega) hp (i + j)
  have hpr := prod32 (x := a.getD i 0) (y := b.getD j 0) ga.1 ga.2 gb.1 gb.2
  rw [w_add hij2, Int.toNat_natCast, Int.toNat_natCast]
  refine ⟨_, _, limb_Mul_is (up64 ga) (up64 gb) (up64 gp) (up64 ⟨h0, h4⟩), _, rfl, ?_⟩
  rw [w_succ hj2]
  rw [Int.emod_eq_of_lt ga.1 ga.2, Int.emod_eq_of_lt gb.1 gb.2, Int.emod_eq_of_lt gp.1 gp.2, Int.emod_eq_of_lt h0 h4]
  obtain ⟨T, hT⟩ : ∃ T, a.getD i 0 * b.getD j 0 + p.getD (i + j) 0 + c = T := ⟨_, rfl⟩
  have hT0 : 0 ≤ T ∧ T < 18446744073709551616 := by omega
  rw [hT]
  clear hpr
  have dm := divmod32 hT0
  refine ih (j + 1) _ _ (by omega) (by rw [List.length_set]; exact hl) (hp.set dm.1 _) dm.2.1.1 dm.2.1.2 (fun j hj => ?_) ?_
  ·rw [getD_set_ne (by omega)]; exact hz j (by omega)
  ·rw [val_set _ _ _ _ (by omega), val_take_succ', ← Nat.add_assoc, Int.pow_succ]
   have e := dm.2.2
   have hpw : (4294967296 : Int) ^ (i + j) = 4294967296 ^ i * 4294967296 ^ j := Int.pow_add ..
   rw [hpw] at hv ⊢
   exact alg_long _ _ _ _ _ _ _ _ _ _ _ _ e hT hv
theorem mul_Long_loop {a b : List Int} (ha : Dig 4294967296 a) (hb : Dig 4294967296 b) (hs : a.length + b.length ≤ 100000000000) {x : Nat} (hx : val 4294967296 a * val 4294967296 b = (x : Int)) (d : Nat) : ∀ (i : Nat) (p : List Int),
  i + d = a.length → p.length = a.length + b.length → Dig 4294967296 p → (∀ j, i + b.length ≤ j → p.getD j 0 = 0) → val 4294967296 p = val 4294967296 (a.take i) * val 4294967296 b →
  mul_Long_l0 b a (a.length : Int) (i : Int) p (lim x) := by
 induction d with
 | zero =>
  intro i p hi hl hp hz hv
  refine mul_Long_l0_go (.inr ⟨by omega, lim x, mul_made_is hp (by omega) ?_, rfl⟩)
  rw [hv, List.take_of_length_le (by omega), hx]
 | succ d ih =>
  intro i p hi hl hp hz hv
  refine mul_Long_l0_go (.inl ⟨by omega, by omega, by omega, ?_⟩)
  rw [Int.toNat_natCast]
  refine mul_Long_inner ha hb hs (i := i) (by omega) p ?_ b.length 0 p 0 (by omega) hl hp (by omega) (by omega) hz (by simp [val])
  intro q hq hqd hqz hqv
  refine ih (i + 1) q (by omega) hq hqd (fun j hj => hqz j (by omega)) ?_
  rw [hqv, hv, val_take_succ', Int.add_mul, Int.mul_assoc]
theorem mul_Long_is {x y : Nat} (hs : (lim x).length + (lim y).length ≤ 100000000000) : mul_Long_R (lim x) (lim y) (lim (x * y)) := by
 refine mul_Long_go ?_
 rw [s64i (n := ((lim x).length : Int) + ((lim y).length : Int)) (by omega) (by omega)]
 refine ⟨by omega, by omega, _, rfl, ?_⟩
 refine mul_Long_loop (lim_dig x) (lim_dig y) hs (by rw [lim_val, lim_val, Int.natCast_mul]) (lim x).length 0 _ (by omega) ?_ (Dig.zeros (by omega) _) (fun j _ => getD_zeros _ j) ?_
 ·rw [List.length_replicate]; omega
 ·rw [val_zeros]; simp [val]
end Go.Proofs.YtjcdkemnflmfiaaGreatA
