/- Shifts: what the functions answer. -/
import Derived.Test.YtjcdkemnflmfiaaGreatP8
set_option linter.unusedVariables false
set_option linter.unusedSimpArgs false
namespace Go.Proofs.YtjcdkemnflmfiaaGreatA
open Go
theorem alg_shl (V P a s t u : Int) (h : t + 4294967296 * u = a * s) : V * s + (P * t + P * 4294967296 * u) = (V + P * a) * s := by grind
theorem pow_le31 {s : Nat} (hs : s < 32) : 2 ^ s ≤ 2147483648 := by
 have h2 : 2 ^ s ≤ 2 ^ 31 := Nat.pow_le_pow_right (by omega) (by omega)
 have h4 : (2 : Nat) ^ 31 = 2147483648 := by decide
 omega
theorem shl_nat {A s : Nat} (hA : A < 4294967296) (hs : s < 32) : wu ((A : Int) * 2 ^ (min s 64)) = ((A * 2 ^ s : Nat) : Int) := by
 have h3 : A * 2 ^ s ≤ 4294967296 * 2147483648 := Nat.mul_le_mul (by omega) (pow_le31 hs)
 rw [Nat.min_eq_left (by omega)]
 have h5 : ((A : Int) * 2 ^ s) = ((A * 2 ^ s : Nat) : Int) := by
  rw [Int.natCast_mul, Int.natCast_pow]; rfl
 rw [h5, w64i (by omega) (by omega)]
theorem shr_nat' {A s : Nat} (hs : s < 32) : (A : Int) / 2 ^ (min s 64) = ((A / 2 ^ s : Nat) : Int) := by
 rw [Nat.min_eq_left (by omega), Int.natCast_ediv, Int.natCast_pow]; rfl
theorem mul_pow_mod (A : Nat) {s : Nat} (hs : s < 32) : A * 2 ^ s % 4294967296 = 2 ^ s * (A % 2 ^ (32 - s)) := by
 have h : (4294967296 : Nat) = 2 ^ s * 2 ^ (32 - s) := by
  rw [← Nat.pow_add, show s + (32 - s) = 32 by omega]
 rw [h, Nat.mul_comm A, Nat.mul_mod_mul_left]
theorem or_carry {c A s : Nat} (hs : s < 32) (hc : c < 2 ^ s) : Go.bits .or .u64 (c : Int) ((A * 2 ^ s % 4294967296 : Nat) : Int) = ((c + A * 2 ^ s % 4294967296 : Nat) : Int) := by
 have h1 := pow_le31 hs
 have h2 : A * 2 ^ s % 4294967296 < 4294967296 := Nat.mod_lt _ (by omega)
 rw [(bits_nat .u64 64 (by decide) wraps_u64' c (A * 2 ^ s % 4294967296) (by simp; omega) (by simp; omega)).2, mul_pow_mod A hs, Nat.or_comm, ← Nat.two_pow_add_eq_or_of_lt hc, Nat.add_comm]
theorem carry_lt {c A s : Nat} (hs : s < 32) (hc : c < 2 ^ s) : c + A * 2 ^ s % 4294967296 < 4294967296 := by
 rw [mul_pow_mod A hs]
 have h : (4294967296 : Nat) = 2 ^ s * 2 ^ (32 - s) := by
  rw [← Nat.pow_add, show s + (32 - s) = 32 by omega]
 have h2 : A % 2 ^ (32 - s) < 2 ^ (32 - s) := Nat.mod_lt _ (Nat.two_pow_pos _)
 have h3 : 2 ^ s * (A % 2 ^ (32 - s) + 1) ≤ 2 ^ s * 2 ^ (32 - s) := Nat.mul_le_mul_left _ h2
 rw [Nat.mul_add, Nat.mul_one] at h3
 omega
theorem carry_next {A s : Nat} (hA : A < 4294967296) (hs : s < 32) : A * 2 ^ s / 4294967296 < 2 ^ s := by
 refine Nat.div_lt_of_lt_mul ?_
 exact Nat.mul_lt_mul_of_pos_right hA (Nat.two_pow_pos _)
theorem nat_Shl_loop {a : List Int} (ha : Dig 4294967296 a) (hl : a.length ≤ 1000000000) {s : Nat} (hs : s < 32) {x : Nat} (hx : val 4294967296 a = (x : Int)) (d : Nat) : ∀ (i : Nat) (z : List Int) (c : Nat),
  i + d = a.length → z.length = a.length + 1 → Dig 4294967296 z → z.getD i 0 = (c : Int) → c < 2 ^ s → (∀ j, i < j → z.getD j 0 = 0) → val 4294967296 z = val 4294967296 (a.take i) * ((2 ^ s : Nat) : Int) →
  nat_Shl_l0 (s : Int) a (a.length : Int) (i : Int) z (lim (x * 2 ^ s)) 0 := by
 have hw0 : ∀ _ : Unit, wi (Int.tdiv (s : Int) 32) = 0 := fun _ => by
  rw [td (by omega), s64i (by omega) (by omega)]; omega
 have hm0 : ∀ _ : Unit, Int.tmod (s : Int) 32 = (s : Int) := fun _ => by rw [tm (by omega)]; omega
 induction d with
 | zero =>
  intro i z c hi hz hdz hc hc2 h0 hv
  obtain rfl : i = a.length := by omega
  rw [List.take_of_length_le (Nat.le_refl _), hx, ← Int.natCast_mul] at hv
  exact nat_Shl_l0_go (.inr ⟨by omega, _, nat_trim_is hdz (by omega) hv, rfl, rfl⟩)
 | succ d ih =>
  intro i z c hi hz hdz hc hc2 h0 hv
  have ga := Dig.getD (by omega) ha i
  obtain ⟨A, hA⟩ := Int.eq_ofNat_of_zero_le ga.1
  rw [hA] at ga
  have hi0 : ∀ _ : Unit, wi ((i : Int) + 0) = (i : Int) := fun _ => by rw [s64i (by omega) (by omega)]; omega
  have hA2 : A < 4294967296 := by omega
  have hcl := carry_lt (A := A) hs hc2
  have hcn := carry_next hA2 hs
  have hp := pow_le31 hs
  refine nat_Shl_l0_go (.inl ⟨by omega, by omega, by omega, by rw [hm0 ()]; omega, by rw [hw0 (), hi0 ()]; omega, by rw [hw0 (), hi0 ()]; omega, _, rfl, _, rfl, _, rfl, by rw [hw0 (), hi0 (), w_succ (by omega)]; omega, by rw [hw0 (), hi0 (), w_succ (by omega), List.length_set]; omega, _, rfl, ?_⟩)
  rw [hw0 (), hi0 (), w_succ (by omega), hm0 (), Int.toNat_natCast, Int.toNat_natCast, Int.toNat_natCast, hc, hA, shl_nat hA2 hs, tm (by omega), show (2 : Int) ^ 32 = 4294967296 from rfl]
  have e1 : ((A * 2 ^ s : Nat) : Int) % 4294967296 = ((A * 2 ^ s % 4294967296 : Nat) : Int) := by rw [Int.natCast_emod]; rfl
  have e2 : ((A * 2 ^ s : Nat) : Int) / 4294967296 = ((A * 2 ^ s / 4294967296 : Nat) : Int) := by rw [Int.natCast_ediv]; rfl
  rw [e1, e2, or_carry hs hc2]
  have e3 : A * 2 ^ s % 4294967296 + 4294967296 * (A * 2 ^ s / 4294967296) = A * 2 ^ s := Nat.mod_add_div _ _
  clear e1 e2
  generalize A * 2 ^ s % 4294967296 = t at *
  generalize A * 2 ^ s / 4294967296 = u at *
  refine ih (i + 1) _ u (by omega) (by rw [List.length_set, List.length_set]; exact hz) ((hdz.set (by omega) _).set (by omega) _) ?_ hcn ?_ ?_
  ·rw [getD_set_eq (by rw [List.length_set]; omega)]
  ·intro j hj
   rw [getD_set_ne (by omega), getD_set_ne (by omega)]
   exact h0 j (by omega)
  ·rw [val_set _ _ _ _ (by rw [List.length_set]; omega), val_set _ _ _ _ (by omega), getD_set_ne (by omega), hc, h0 (i + 1) (by omega), hv, val_take_succ _ _ _ (by omega), hA, Int.pow_succ]
   have h := alg_shl (val 4294967296 (a.take i)) (4294967296 ^ i) (A : Int) ((2 ^ s : Nat) : Int) (t : Int) (u : Int) (by rw [← Int.natCast_mul, ← e3]; omega)
   rw [← h, Int.natCast_add]
   have g : ∀ (V P c t u : Int), V + P * (c + t - c) + P * 4294967296 * (u - 0) = V + (P * t + P * 4294967296 * u) := by intros; grind
   exact g _ _ _ _ _
theorem nat_Shl_is {x s : Nat} (hx : (lim x).length ≤ 1000000000) (hs : s < 32) : nat_Shl_R (lim x) (s : Int) (lim (x * 2 ^ s)) 0 := by
 have hw0 : wi (Int.tdiv (s : Int) 32) = 0 := by
  rw [td (by omega), s64i (by omega) (by omega)]; omega
 refine nat_Shl_go ⟨0, nat_shift_go (.inr ⟨by omega, .inr ⟨by omega, rfl⟩⟩), .inl ⟨rfl, ?_⟩⟩
 by_cases h : x = 0
 ·subst h
  rw [Nat.zero_mul, lim_nil.2 rfl]
  exact .inl ⟨by simp, rfl, rfl⟩
 ·have h1 : ¬ ((lim x).length : Int) = 0 := by
   intro e
   have : (lim x).length = 0 := by omega
   exact h (lim_nil.1 (List.length_eq_zero_iff.1 this))
  have h2 : wi (wi (((lim x).length : Int) + 0) + 1) = (((lim x).length + 1 : Nat) : Int) := by
   rw [s64i (n := ((lim x).length : Int) + 0) (by omega) (by omega), s64i (by omega) (by omega)]; omega
  refine .inr ⟨h1, ?_⟩
  rw [hw0, h2, Int.toNat_natCast]
  refine ⟨by omega, by omega, _, rfl, ?_⟩
  refine nat_Shl_loop (lim_dig x) hx hs (lim_val x) (lim x).length 0 _ 0 (by omega) (by rw [List.length_replicate]) (Dig.zeros (by omega) _) (getD_zeros _ _) (Nat.two_pow_pos _) (fun j _ => getD_zeros _ _) ?_
  rw [val_zeros]; simp [val]
end Go.Proofs.YtjcdkemnflmfiaaGreatA
