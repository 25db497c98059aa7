/- The reference's Clean, Same and Mul, and the powers: what the functions answer. -/
import Derived.Test.YtjcdkemnflmfiaaGreatP5
set_option linter.unusedVariables false
set_option linter.unusedSimpArgs false
namespace Go.Proofs.YtjcdkemnflmfiaaGreatA
open Go
theorem ref_Same_loop (l m : List Int) (hl : l.length = m.length) (hs : l.length ≤ 1000000000000000) (d : Nat) : ∀ i : Nat, i + d = l.length → l.take i = m.take i → ref02_Same_l0 l m (i : Int) (decide (l = m)) := by
 induction d with
 | zero =>
  intro i hi he
  rw [List.take_of_length_le (by omega), List.take_of_length_le (by omega)] at he
  rw [decide_eq_true he]
  exact ref02_Same_l0_go (.inr ⟨by omega, rfl⟩)
 | succ d ih =>
  intro i hi he
  have hi1 : i + 1 < 9223372036854775808 := by omega
  refine ref02_Same_l0_go (.inl ⟨by omega, by omega, by omega, ?_⟩)
  rw [Int.toNat_natCast, w_succ hi1]
  by_cases h : l.getD i 0 = m.getD i 0
  ·refine .inl ⟨h, ih (i + 1) (by omega) ?_⟩
   rw [take_snoc_getD l i (by omega), take_snoc_getD m i (by omega), he, h]
  ·exact .inr ⟨h, decide_eq_false (fun hlm => h (by rw [hlm]))⟩
theorem ref_Same_is (l m : List Int) (hs : l.length ≤ 1000000000000000) : ref02_Same_R l m (decide (l = m)) := by
 by_cases h : (l.length : Int) = (m.length : Int)
 ·exact ref02_Same_go (.inl ⟨h, ref_Same_loop l m (by omega) hs l.length 0 (by omega) rfl⟩)
 ·exact ref02_Same_go (.inr ⟨h, decide_eq_false (fun hlm => h (by rw [hlm]))⟩)
theorem alg_rmul (vp P R u v z x y c v0 V T : Int) (e : u + 10000 * v = T) (hT : c + z + x * y = T) (hv : vp + P * R * c = v0 + P * (x * V)) : vp + P * R * (u - z) + P * R * 10000 * v = v0 + P * (x * (V + R * y)) := by grind
theorem ref_Mul_carry {a b : List Int} (ha : Dig 10000 a) (hb : Dig 10000 b) (hs : a.length + b.length ≤ 100000000000) {r : List Int} {i : Nat} (hi : i < a.length) (T : Int) (hT : T < 10000 ^ (i + 1 + b.length))
  (hend : ∀ q : List Int, q.length = a.length + b.length + 1 → Dig 10000 q → val 10000 q = T → ref02_Mul_l0 a b ((i + 1 : Nat) : Int) q r) (d : Nat) : ∀ (n : Nat) (p : List Int) (c : Int),
  n + d = a.length + b.length + 1 → p.length = a.length + b.length + 1 → Dig 10000 p → 0 ≤ c → c < 10000 → val 10000 p + 10000 ^ n * c = T →
  ref02_Mul_l2 a b (i : Int) c (n : Int) p r := by
 induction d with
 | zero =>
  intro n p c hn hl hp h0 h1 hv
  have hv0 := val_nonneg (by omega) hp
  have hc : c = 0 := by
   rcases (show c = 0 ∨ 1 ≤ c by omega) with h | h
   ·exact h
   ·have h2 : (10000 : Int) ^ n * 1 ≤ 10000 ^ n * c := Int.mul_le_mul_of_nonneg_left h (Int.le_of_lt (powb_pos (by omega) n))
    have h3 : (10000 : Int) ^ (i + 1 + b.length) ≤ 10000 ^ n := powb_mono (by omega) (by omega)
    omega
  subst hc
  refine ref02_Mul_l2_go (.inr ⟨by omega, ?_⟩)
  have h3 : i + 1 < 9223372036854775808 := by omega
  rw [w_succ h3]
  exact hend p hl hp (by rw [← hv]; simp)
 | succ d ih =>
  intro n p c hn hl hp h0 h1 hv
  by_cases hc : c = 0
  ·subst hc
   refine ref02_Mul_l2_go (.inr ⟨by omega, ?_⟩)
   have h3 : i + 1 < 9223372036854775808 := by omega
   rw [w_succ h3]
   exact hend p hl hp (by rw [← hv]; simp)
  ·have gp := Dig.getD (by omega) hp n
   have h3 : n + 1 < 9223372036854775808 := by omega
   refine ref02_Mul_l2_go (.inl ⟨by omega, by omega, by omega, _, rfl, ?_⟩)
   rw [w_succ h3, Int.toNat_natCast, s64i (n := c + p.getD n 0) (by omega) (by omega), td (by omega), tm (by omega), s64i (by omega) (by omega)]
   refine ih (n + 1) _ _ (by omega) (by rw [List.length_set]; exact hl) (hp.set (by omega) _) (by omega) (by omega) ?_
   rw [val_set _ _ _ _ (by omega), Int.pow_succ]
   have e : (c + p.getD n 0) % 10000 + 10000 * ((c + p.getD n 0) / 10000) = c + p.getD n 0 := by omega
   generalize (c + p.getD n 0) % 10000 = u at e ⊢
   generalize (c + p.getD n 0) / 10000 = v at e ⊢
   generalize (10000 : Int) ^ n = P at hv ⊢
   generalize p.getD n 0 = z at e ⊢
   rw [← hv, Int.mul_assoc, Int.add_assoc, ← Int.mul_add, show u - z + 10000 * v = c by omega]
theorem ref_Mul_inner {a b : List Int} (ha : Dig 10000 a) (hb : Dig 10000 b) (hs : a.length + b.length ≤ 100000000000) {r : List Int} {i : Nat} (hi : i < a.length) (p0 : List Int) (hT : val 10000 p0 + 10000 ^ i * (a.getD i 0 * val 10000 b) < 10000 ^ (i + 1 + b.length))
  (hend : ∀ q : List Int, q.length = a.length + b.length + 1 → Dig 10000 q → val 10000 q = val 10000 p0 + 10000 ^ i * (a.getD i 0 * val 10000 b) → ref02_Mul_l0 a b ((i + 1 : Nat) : Int) q r) (d : Nat) : ∀ (j : Nat) (p : List Int) (c : Int),
  j + d = b.length → p.length = a.length + b.length + 1 → Dig 10000 p → 0 ≤ c → c < 10000 → val 10000 p + 10000 ^ (i + j) * c = val 10000 p0 + 10000 ^ i * (a.getD i 0 * val 10000 (b.take j)) →
  ref02_Mul_l1 a b (i : Int) c (j : Int) p r := by
 induction d with
 | zero =>
  intro j p c hj hl hp h0 h1 hv
  obtain rfl : j = b.length := by omega
  have hij : i + b.length < 9223372036854775808 := by omega
  rw [List.take_of_length_le (Nat.le_refl _)] at hv
  refine ref02_Mul_l1_go (.inr ⟨by omega, ?_⟩)
  rw [w_add hij]
  exact (ref_Mul_carry ha hb hs hi _ hT hend (a.length + b.length + 1 - (i + b.length)) (i + b.length) p c (by omega) hl hp h0 h1 hv)
 | succ d ih =>
  intro j p c hj hl hp h0 h1 hv
  have hij : i + j < p.length := by omega
  have hij2 : i + j < 9223372036854775808 := by omega
  have hj2 : j + 1 < 9223372036854775808 := by omega
  refine ref02_Mul_l1_go (.inl ⟨by omega, w_add_nn hij2, w_add_lt hij2 hij, by omega, by omega, by omega, _, rfl, _, rfl, ?_⟩)
  rw [w_add hij2, w_succ hj2, Int.toNat_natCast, Int.toNat_natCast, Int.toNat_natCast]
  have ga := Dig.getD (by omega) ha i
  have gb := Dig.getD (by omega) hb j
  have gp := Dig.getD (by omega) hp (i + j)
  have hxy0 := mul_nn ga.1 gb.1
  have hxy1 : a.getD i 0 * b.getD j 0 ≤ 9999 * 9999 := mul_le_ ga.1 (by omega) gb.1 (by omega)
  obtain ⟨T, hT'⟩ : ∃ T, c + p.getD (i + j) 0 + a.getD i 0 * b.getD j 0 = T := ⟨_, rfl⟩
  rw [s64i (n := a.getD i 0 * b.getD j 0) (by omega) (by omega), s64i (n := c + p.getD (i + j) 0) (by omega) (by omega), hT']
  have hT0 : 0 ≤ T ∧ T < 100000000 := by omega
  clear hxy0 hxy1
  rw [s64i (n := T) (by omega) (by omega), td hT0.1, tm hT0.1, s64i (by omega) (by omega)]
  refine ih (j + 1) _ _ (by omega) (by rw [List.length_set]; exact hl) (hp.set (by omega) _) (by omega) (by omega) ?_
  rw [val_set _ _ _ _ hij, val_take_succ', ← Nat.add_assoc, Int.pow_succ]
  have e : T % 10000 + 10000 * (T / 10000) = T := by omega
  have hpw : (10000 : Int) ^ (i + j) = 10000 ^ i * 10000 ^ j := Int.pow_add ..
  rw [hpw] at hv ⊢
  exact alg_rmul _ _ _ _ _ _ _ _ _ _ _ _ e hT' hv
theorem ref_Mul_loop {a b : List Int} (ha : Dig 10000 a) (hb : Dig 10000 b) (hs : a.length + b.length ≤ 100000000000) {x : Nat} (hx : val 10000 a * val 10000 b = (x : Int)) (d : Nat) : ∀ (i : Nat) (p : List Int),
  i + d = a.length → p.length = a.length + b.length + 1 → Dig 10000 p → val 10000 p = val 10000 (a.take i) * val 10000 b →
  ref02_Mul_l0 a b (i : Int) p (ten x) := by
 induction d with
 | zero =>
  intro i p hi hl hp hv
  refine ref02_Mul_l0_go (.inr ⟨by omega, _, ref_Trim_is hp (by omega) ?_, rfl⟩)
  rw [hv, List.take_of_length_le (by omega), hx]
 | succ d ih =>
  intro i p hi hl hp hv
  refine ref02_Mul_l0_go (.inl ⟨by omega, ?_⟩)
  have hnew : val 10000 p + 10000 ^ i * (a.getD i 0 * val 10000 b) = val 10000 (a.take (i + 1)) * val 10000 b := by
   rw [hv, val_take_succ', Int.add_mul, Int.mul_assoc]
  refine ref_Mul_inner ha hb hs (i := i) (by omega) p ?_ ?_ b.length 0 p 0 (by omega) hl hp (by omega) (by omega) (by simp [val])
  ·rw [hnew, Int.pow_add]
   have h1 := val_lt (b := 10000) (by omega) (ha.take (i + 1))
   rw [List.length_take, Nat.min_eq_left (by omega)] at h1
   have h2 := val_lt (b := 10000) (by omega) hb
   have h3 := val_nonneg (b := 10000) (by omega) (ha.take (i + 1))
   have h4 := val_nonneg (b := 10000) (by omega) hb
   exact mul_lt2 h3 h1 h4 h2
  ·intro q hq hqd hqv
   exact ih (i + 1) q (by omega) hq hqd (by rw [hqv, hnew])
theorem ref_Mul_is {x y : Nat} (hs : (ten x).length + (ten y).length ≤ 100000000000) : ref02_Mul_R (ten x) (ten y) (ten (x * y)) := by
 have h1 : (ten x).length + (ten y).length < 9223372036854775808 := by omega
 have h2 : (ten x).length + (ten y).length + 1 < 9223372036854775808 := by omega
 refine ref02_Mul_go ?_
 rw [w_add h1, w_succ h2, Int.toNat_natCast]
 refine ⟨by omega, by omega, _, rfl, ?_⟩
 refine ref_Mul_loop (ten_dig x) (ten_dig y) hs (by rw [ten_val, ten_val, Int.natCast_mul]) (ten x).length 0 _ (by omega) (by rw [List.length_replicate]) (Dig.zeros (by omega) _) ?_
 rw [val_zeros]; simp [val]
end Go.Proofs.YtjcdkemnflmfiaaGreatA
