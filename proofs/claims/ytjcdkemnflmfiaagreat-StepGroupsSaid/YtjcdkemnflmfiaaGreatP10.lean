/- Shifts down: what the functions answer. -/
import Derived.Test.YtjcdkemnflmfiaaGreatP9
set_option linter.unusedVariables false
set_option linter.unusedSimpArgs false
namespace Go.Proofs.YtjcdkemnflmfiaaGreatA
open Go
theorem shr_digit (A C R s : Nat) (hs : s < 32) : (A + 4294967296 * (C + 4294967296 * R)) / 2 ^ s % 4294967296 = (A + 4294967296 * C) / 2 ^ s % 4294967296 := by
 have h : (4294967296 : Nat) = 2 ^ s * 2 ^ (32 - s) := by
  rw [← Nat.pow_add, show s + (32 - s) = 32 by omega]
 have e : A + 4294967296 * (C + 4294967296 * R) = A + 4294967296 * C + 2 ^ s * (4294967296 * (2 ^ (32 - s) * R)) := by
  have : 4294967296 * (4294967296 * R) = 2 ^ s * (4294967296 * (2 ^ (32 - s) * R)) := by
   conv => lhs; rw [h]
   conv => rhs; rw [h]
   grind
  rw [← this]; omega
 rw [e, Nat.add_mul_div_left _ _ (Nat.two_pow_pos _), Nat.add_mul_mod_self_left]
theorem or_low {A C : Nat} (hA : A < 4294967296) (hC : C < 4294967296) : Go.bits .or .u64 (A : Int) ((C * 4294967296 : Nat) : Int) = ((A + 4294967296 * C : Nat) : Int) := by
 have h := Nat.two_pow_add_eq_or_of_lt (i := 32) (b := A) (by simpa using hA) C
 rw [(bits_nat .u64 64 (by decide) wraps_u64' A (C * 4294967296) (by simp; omega) (by simp; omega)).2, Nat.or_comm, Nat.mul_comm C]
 have e : (2 : Nat) ^ 32 = 4294967296 := by decide
 rw [e] at h
 rw [← h, Nat.add_comm]
theorem lim_getD (x i : Nat) : (lim x).getD i 0 = ((x / 4294967296 ^ i % 4294967296 : Nat) : Int) := by
 by_cases h : i < (lim x).length
 ·have h1 := (lim_take x i).2
  have h2 := (lim_take x (i + 1)).2
  have g := Dig.getD (by omega) (lim_dig x) i
  rw [val_drop _ _ _ h, h2] at h1
  obtain ⟨A, hA⟩ := Int.eq_ofNat_of_zero_le g.1
  rw [hA] at h1 g ⊢
  rw [Nat.pow_succ, ← Nat.div_div_eq_div_mul] at h1
  omega
 ·rw [getD_ge (by omega)]
  have : x < 4294967296 ^ i := Nat.lt_of_lt_of_le (lim_len.1 (Nat.le_refl _)) (Nat.pow_le_pow_right (by omega) (by omega))
  rw [Nat.div_eq_of_lt this]; rfl
theorem nat_Shr_loop {x s : Nat} (hs : s < 32) (hl : (lim x).length ≤ 1000000000) (d : Nat) : ∀ (i : Nat) (z : List Int),
  i + d = (lim x).length → z.length = (lim x).length → Dig 4294967296 z → val 4294967296 (z.take i) = ((x / 2 ^ s % 4294967296 ^ i : Nat) : Int) →
  nat_Shr_l0 (lim x) (s : Int) (z.length : Int) (i : Int) z (lim (x / 2 ^ s)) 0 := by
 induction d with
 | zero =>
  intro i z hi hz hdz hv
  have hx : x < 4294967296 ^ (lim x).length := lim_len.1 (Nat.le_refl _)
  have hx2 : x / 2 ^ s ≤ x := Nat.div_le_self _ _
  rw [List.take_of_length_le (by omega), Nat.mod_eq_of_lt (by rw [show i = (lim x).length by omega]; omega)] at hv
  exact nat_Shr_l0_go (.inr ⟨by omega, _, nat_trim_is hdz (by omega) hv, rfl, rfl⟩)
 | succ d ih =>
  intro i z hi hz hdz hv
  have hw0 : ∀ _ : Unit, wi (Int.tdiv (s : Int) 32) = 0 := fun _ => by
   rw [td (by omega), s64i (by omega) (by omega)]; omega
  have hm0 : ∀ _ : Unit, Int.tmod (s : Int) 32 = (s : Int) := fun _ => by rw [tm (by omega)]; omega
  have hi0 : ∀ _ : Unit, wi ((i : Int) + 0) = (i : Int) := fun _ => by rw [s64i (by omega) (by omega)]; omega
  have hat : ∀ _ : Unit, nat_at_R (lim x) (((i + 1 : Nat)) : Int) (((x / 4294967296 ^ (i + 1) % 4294967296 : Nat) : Int)) := fun _ => by rw [← lim_getD]; exact nat_at_is _ _
  have hA : x / 4294967296 ^ i % 4294967296 < 4294967296 := Nat.mod_lt _ (by omega)
  have hC : x / 4294967296 ^ (i + 1) % 4294967296 < 4294967296 := Nat.mod_lt _ (by omega)
  have hdig : ∀ _ : Unit, (x / 4294967296 ^ i % 4294967296 + 4294967296 * (x / 4294967296 ^ (i + 1) % 4294967296)) / 2 ^ s % 4294967296 = x / 2 ^ s / 4294967296 ^ i % 4294967296 := fun _ => by
   rw [← shr_digit _ _ (x / 4294967296 ^ (i + 1) / 4294967296) s hs, Nat.mod_add_div, Nat.pow_succ, ← Nat.div_div_eq_div_mul, Nat.mod_add_div, Nat.div_div_eq_div_mul, Nat.div_div_eq_div_mul, Nat.mul_comm]
  refine nat_Shr_l0_go (.inl ⟨by omega, by rw [hw0 (), hi0 ()]; omega, by rw [hw0 (), hi0 ()]; omega, (((x / 4294967296 ^ (i + 1) % 4294967296 : Nat) : Int)), by rw [hw0 (), hi0 (), w_succ (by omega)]; exact hat (), _, rfl, by rw [hm0 ()]; omega, by omega, by omega, _, rfl, ?_⟩)
  rw [hw0 (), hi0 (), hm0 (), w_succ (by omega), Int.toNat_natCast, Int.toNat_natCast, lim_getD, show (2 : Int) ^ 32 = 4294967296 from rfl]
  generalize x / 4294967296 ^ i % 4294967296 = A at *
  generalize x / 4294967296 ^ (i + 1) % 4294967296 = C at *
  have e1 : wu ((C : Int) * 4294967296) = ((C * 4294967296 : Nat) : Int) := by rw [w64i (by omega) (by omega)]; omega
  rw [e1, or_low hA hC, shr_nat' hs, tm (Int.natCast_nonneg _)]
  have e2 : (((A + 4294967296 * C) / 2 ^ s : Nat) : Int) % 4294967296 = ((x / 2 ^ s / 4294967296 ^ i % 4294967296 : Nat) : Int) := by
   rw [← hdig (), Int.natCast_emod]; rfl
  have hD : x / 2 ^ s / 4294967296 ^ i % 4294967296 < 4294967296 := Nat.mod_lt _ (by omega)
  obtain ⟨D, hDe⟩ : ∃ D, D = x / 2 ^ s / 4294967296 ^ i % 4294967296 := ⟨_, rfl⟩
  rw [← hDe] at e2 hD
  rw [e2]
  clear e1 e2
  have := ih (i + 1) (z.set i (D : Int)) (by omega) (by rw [List.length_set]; exact hz) (hdz.set (by omega) _) ?_
  ·rw [List.length_set] at this
   exact this
  ·rw [val_take_succ _ _ _ (by rw [List.length_set]; omega), getD_set_eq (by omega), List.take_set_of_le (by omega), hv, Nat.pow_succ, Nat.mod_mul, Int.natCast_add, Int.natCast_mul, pow32, hDe]
theorem nat_Shr_is {x s : Nat} (hs : s < 32) (hl : (lim x).length ≤ 1000000000) : nat_Shr_R (lim x) (s : Int) (lim (x / 2 ^ s)) 0 := by
 have hw0 : wi (Int.tdiv (s : Int) 32) = 0 := by
  rw [td (by omega), s64i (by omega) (by omega)]; omega
 refine nat_Shr_go ⟨0, nat_shift_go (.inr ⟨by omega, .inr ⟨by omega, rfl⟩⟩), .inl ⟨rfl, ?_⟩⟩
 rw [hw0]
 by_cases h : x = 0
 ·subst h
  rw [Nat.zero_div, lim_nil.2 rfl]
  exact .inl ⟨by simp, rfl, rfl⟩
 ·have h1 : (lim x).length ≠ 0 := fun e => h (lim_nil.1 (List.length_eq_zero_iff.1 e))
  have h2 : wi (((lim x).length : Int) - 0) = ((lim x).length : Int) := by rw [s64i (by omega) (by omega)]; omega
  refine .inr ⟨by omega, ?_⟩
  rw [h2, Int.toNat_natCast]
  refine ⟨by omega, by omega, _, rfl, ?_⟩
  refine nat_Shr_loop hs hl (lim x).length 0 _ (by omega) (by rw [List.length_replicate]) (Dig.zeros (by omega) _) ?_
  simp [val, Nat.mod_one]
end Go.Proofs.YtjcdkemnflmfiaaGreatA
