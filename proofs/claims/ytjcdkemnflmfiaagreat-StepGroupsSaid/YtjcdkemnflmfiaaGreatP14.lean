/- Knuth's division, and division: what they answer. -/
import Derived.Test.YtjcdkemnflmfiaaGreatP13
import Derived.Test.YtjcdkemnflmfiaaGreatP7
import Derived.Test.YtjcdkemnflmfiaaGreatP10
set_option linter.unusedVariables false
set_option linter.unusedSimpArgs false
namespace Go.Proofs.YtjcdkemnflmfiaaGreatA
open Go
theorem pow32' (n : Nat) : 0 < 4294967296 ^ n := Nat.pow_pos (by omega)
theorem top_limb {x n : Nat} (h : (lim x).length = n + 1) : (lim x).getD n 0 = ((x / 4294967296 ^ n : Nat) : Int) := by
 have h1 := (lim_take x n).2
 rw [val_drop _ _ _ (by omega), List.drop_of_length_le (by omega)] at h1
 simpa [val] using h1
theorem lim_ge {x n : Nat} (h : n < (lim x).length) : 4294967296 ^ n ≤ x := by
 rcases Nat.lt_or_ge x (4294967296 ^ n) with h1 | h1
 ·have := lim_len.2 h1
  omega
 ·exact h1
theorem lim_lt {x : Nat} : x < 4294967296 ^ (lim x).length := lim_len.1 (Nat.le_refl _)
theorem pow_split {m s : Nat} (h : m + s = 32) (P : Nat) : 2 ^ m * P * 2 ^ s = 4294967296 * P := by
 have h2 : (4294967296 : Nat) = 2 ^ m * 2 ^ s := by rw [← Nat.pow_add, h]
 rw [h2, Nat.mul_right_comm]
theorem pow_split' {m s : Nat} (h : m + s = 31) (P : Nat) : 2 ^ m * P * 2 ^ s = 2147483648 * P := by
 have h2 : (2147483648 : Nat) = 2 ^ m * 2 ^ s := by rw [← Nat.pow_add, h]
 rw [h2, Nat.mul_right_comm]
theorem shift_top {y n m : Nat} (hy : (lim y).length = n + 1) (hm : Len ((lim y).getD n 0) m) (h32 : m ≤ 32) : 1 ≤ m ∧ (lim (y * 2 ^ (32 - m))).length = n + 1 ∧ 2147483648 ≤ (lim (y * 2 ^ (32 - m))).getD n 0 := by
 have hP := pow32' n
 have hge := lim_ge (x := y) (n := n) (by omega)
 rw [top_limb hy] at hm
 have hT : 1 ≤ y / 4294967296 ^ n := (Nat.le_div_iff_mul_le hP).2 (by omega)
 have hm1 : y / 4294967296 ^ n < 2 ^ m := by
  have := hm.1
  have e : ((2 : Int) ^ m) = ((2 ^ m : Nat) : Int) := by rw [Int.natCast_pow]; rfl
  rw [e] at this; omega
 have h1 : 1 ≤ m := by
  rcases Nat.eq_zero_or_pos m with rfl | h
  ·simp at hm1; omega
  ·exact h
 have hm2 : 2 ^ (m - 1) ≤ y / 4294967296 ^ n := by
  rcases hm.2 with h | h
  ·omega
  ·have e : ((2 : Int) ^ (m - 1)) = ((2 ^ (m - 1) : Nat) : Int) := by rw [Int.natCast_pow]; rfl
   rw [e] at h; omega
 have hlo : 2 ^ (m - 1) * 4294967296 ^ n ≤ y := (Nat.le_div_iff_mul_le hP).1 hm2
 have hhi : y < 2 ^ m * 4294967296 ^ n := (Nat.div_lt_iff_lt_mul hP).1 hm1
 have hlo2 := Nat.mul_le_mul_right (2 ^ (32 - m)) hlo
 rw [pow_split' (by omega)] at hlo2
 have hhi2 := Nat.mul_lt_mul_of_pos_right hhi (Nat.two_pow_pos (32 - m))
 rw [pow_split (by omega)] at hhi2
 have hlen : (lim (y * 2 ^ (32 - m))).length = n + 1 := by
  refine Nat.le_antisymm (lim_len.2 (by rw [Nat.pow_succ, Nat.mul_comm (4294967296 ^ n)]; exact hhi2)) ?_
  refine Nat.lt_of_not_le fun h => ?_
  have := lim_len.1 h
  omega
 refine ⟨h1, hlen, ?_⟩
 rw [top_limb hlen]
 have := (Nat.le_div_iff_mul_le hP).2 hlo2
 omega
theorem padded {x n : Nat} (h : (lim x).length ≤ n) : (List.replicate n (0 : Int)).take 0 ++ ((lim x).take (min (lim x).length (List.replicate n (0 : Int)).length) ++ (List.replicate n (0 : Int)).drop (0 + min (lim x).length (List.replicate n (0 : Int)).length)) = lim x ++ List.replicate (n - (lim x).length) 0 := by
 rw [List.length_replicate, Nat.min_eq_left h, Nat.zero_add, List.take_of_length_le (Nat.le_refl _), List.drop_replicate]
 simp
theorem divide_knuth_is {x y : Nat} (hx : (lim x).length ≤ 500000000) (hy : 2 ≤ (lim y).length) (hxy : (lim y).length ≤ (lim x).length) : divide_knuth_R (lim x) (lim y) (lim (x / y)) (lim (x % y)) := by
 obtain ⟨n, hn⟩ : ∃ n, (lim y).length = n + 1 := ⟨(lim y).length - 1, by omega⟩
 have gt := Dig.getD (by omega) (lim_dig y) n
 obtain ⟨m, hb, hm32, hL⟩ := limb_Bits_is (a := (lim y).getD n 0) (by omega)
 rw [show (lim y).getD n 0 % 4294967296 = (lim y).getD n 0 by omega] at hL
 obtain ⟨hm1, hVl, hVt⟩ := shift_top hn hL hm32
 have e1 : wi (((lim y).length : Int) - 1) = (n : Int) := by rw [s64i (by omega) (by omega)]; omega
 have e2 : wi (32 - (m : Int)) = ((32 - m : Nat) : Int) := by rw [s64i (by omega) (by omega)]; omega
 have e3 : wi (((lim x).length : Int) + 1) = (((lim x).length + 1 : Nat) : Int) := w_succ (by omega)
 have e4 : wi (((lim x).length : Int) - ((lim y).length : Int)) = (((lim x).length - n : Nat) : Int) - 1 := by rw [s64i (by omega) (by omega)]; omega
 have e5 : wi ((((lim x).length - n : Nat) : Int) - 1 + 1) = (((lim x).length - n : Nat) : Int) := by rw [s64i (by omega) (by omega)]; omega
 have hs : 32 - m < 32 := by omega
 have hp := pow_le31 hs
 have hxl := lim_lt (x := x)
 have hyge := lim_ge (x := y) (n := n) (by omega)
 have hXl : (lim (x * 2 ^ (32 - m))).length ≤ (lim x).length + 1 := by
  refine lim_len.2 ?_
  rw [Nat.pow_succ]
  exact Nat.lt_of_le_of_lt (Nat.mul_le_mul_left _ hp) (Nat.mul_lt_mul'' hxl (by omega))
 refine divide_knuth_go ?_
 rw [e1, e3, e4, e5, Int.toNat_natCast, Int.toNat_natCast, Int.toNat_natCast]
 refine ⟨by omega, by omega, _, hb, ?_⟩
 rw [e2]
 refine ⟨_, _, nat_Shl_is (by omega) hs, by omega, by omega, _, rfl, _, _, nat_Shl_is (by omega) hs, _, rfl, by omega, by omega, _, rfl, ?_⟩
 rw [padded hXl]
 have hfin := knuth_loop (v := lim (y * 2 ^ (32 - m))) (lim_dig _) (by omega) (by rw [hVl]; exact hVt) (s := 32 - m) (X := x * 2 ^ (32 - m)) hs (lim_val _) (L := (lim x).length + 1) (by omega) ((lim x).length - n) (lim (x * 2 ^ (32 - m)) ++ List.replicate ((lim x).length + 1 - (lim (x * 2 ^ (32 - m))).length) 0) (List.replicate ((lim x).length - n) 0)
  (by omega) (by rw [List.length_append, List.length_replicate]; omega) (by rw [List.length_replicate]; omega) (by rw [List.length_replicate]; omega) ((lim_dig _).append (Dig.zeros (by omega) _)) (Dig.zeros (by omega) _) ?_ ?_
 ·rw [Nat.mul_div_mul_right _ _ (Nat.two_pow_pos _), Nat.mul_mod_mul_right, Nat.mul_div_cancel _ (Nat.two_pow_pos _)] at hfin
  exact hfin
 ·rw [val_append, val_zeros, lim_val, List.drop_replicate, val_zeros]; simp
 ·rw [val_append, val_zeros, lim_val, Int.mul_zero, Int.add_zero, ← pow32, ← Int.natCast_mul]
  refine Int.ofNat_lt.2 ?_
  rw [← Nat.mul_assoc]
  refine Nat.mul_lt_mul_of_pos_right ?_ (Nat.two_pow_pos _)
  refine Nat.lt_of_lt_of_le hxl ?_
  have : 4294967296 ^ (lim x).length = 4294967296 ^ ((lim x).length - n) * 4294967296 ^ n := by rw [← Nat.pow_add, show (lim x).length - n + n = (lim x).length by omega]
  rw [this]
  exact Nat.mul_le_mul_left _ hyge
theorem lim_short {y : Nat} (h : (lim y).length = 1) : lim y = [(y : Int)] ∧ 0 < y ∧ y < 4294967296 := by
 have h1 : y < 4294967296 := by have := lim_len.1 (Nat.le_of_eq h); omega
 have h2 : 0 < y := by
  rcases Nat.eq_zero_or_pos y with rfl | h2
  ·rw [lim_nil.2 rfl] at h; cases h
  ·exact h2
 exact ⟨digs_one (by omega) h2 h1, h2, h1⟩
theorem divide_Div_is {x y : Nat} (hx : (lim x).length ≤ 500000000) (hyl : (lim y).length ≤ 500000000) (hy : 0 < y) : divide_Div_R (lim x) (lim y) (lim (x / y)) (lim (x % y)) 0 := by
 have hy0 : (lim y).length ≠ 0 := fun h => by have := lim_nil.1 (List.length_eq_zero_iff.1 h); omega
 refine divide_Div_go (.inr ⟨by omega, _, nat_May_lim (by omega), .inl ⟨rfl, _, nat_May_lim (by omega), .inl ⟨rfl, _, nat_Cmp_is (by omega) (by omega), ?_⟩⟩⟩)
 by_cases hlt : x < y
 ·rw [if_pos hlt, Nat.div_eq_of_lt hlt, Nat.mod_eq_of_lt hlt]
  exact .inl ⟨by omega, _, _, nat_Make_is (lim_dig x) (by omega) (lim_val x), lim_nil.2 rfl, rfl, rfl⟩
 ·rw [if_neg hlt]
  refine .inr ⟨by split <;> omega, ?_⟩
  by_cases h1 : (lim y).length = 1
  ·obtain ⟨h2, h3, h4⟩ := lim_short h1
   refine .inl ⟨by omega, by omega, _, _, _, by rw [h2]; exact divide_Small_is (by omega) h3 h4, _, nat_Of_is (by have := Nat.mod_lt x h3; omega), rfl, rfl, rfl⟩
  ·refine .inr ⟨by omega, _, _, divide_knuth_is hx (by omega) (digs_len_mono (by omega) (by omega)), rfl, rfl, rfl⟩
theorem divide_Mod_is {x y : Nat} (hx : (lim x).length ≤ 500000000) (hyl : (lim y).length ≤ 500000000) (hy : 0 < y) : divide_Mod_R (lim x) (lim y) (lim (x % y)) 0 := divide_Mod_go ⟨_, _, _, divide_Div_is hx hyl hy, rfl, rfl⟩
theorem divide_Exact_is {x y : Nat} (hx : (lim x).length ≤ 500000000) (hyl : (lim y).length ≤ 500000000) (hy : 0 < y) (hd : x % y = 0) : divide_Exact_R (lim x) (lim y) (lim (x / y)) 0 :=
 divide_Exact_go ⟨_, _, _, divide_Div_is hx hyl hy, .inl ⟨rfl, .inr ⟨by rw [hd, lim_nil.2 rfl]; simp, rfl, rfl⟩⟩⟩
theorem gcd_Euclid_loop : ∀ (y : Nat) (x : Nat), (lim x).length ≤ 500000000 → (lim y).length ≤ 500000000 → gcd_Euclid_l0 (lim x) (lim y) (lim (Nat.gcd x y)) := by
 intro y
 induction y using Nat.strongRecOn with
 | _ y ih =>
  intro x hx hy
  rcases Nat.eq_zero_or_pos y with rfl | h0
  ·rw [Nat.gcd_zero_right]
   exact gcd_Euclid_l0_go (.inr ⟨by rw [lim_nil.2 rfl]; simp, rfl⟩)
  ·refine gcd_Euclid_l0_go (.inl ⟨?_, _, _, divide_Mod_is hx hy h0, ?_⟩)
   ·have : (lim y).length ≠ 0 := fun h => by have := lim_nil.1 (List.length_eq_zero_iff.1 h); omega
    omega
   ·have := ih (x % y) (Nat.mod_lt _ h0) y hy (Nat.le_trans (digs_len_mono (by omega) (Nat.le_of_lt (Nat.mod_lt x h0))) hy)
    rw [Nat.gcd_comm x y, Nat.gcd_rec, Nat.gcd_comm]
    exact this
theorem gcd_Euclid_is {x y : Nat} (hx : (lim x).length ≤ 500000000) (hy : (lim y).length ≤ 500000000) : gcd_Euclid_R (lim x) (lim y) (lim (Nat.gcd x y)) :=
 gcd_Euclid_go ⟨_, _, nat_Make_is (lim_dig x) (by omega) (lim_val x), _, _, nat_Make_is (lim_dig y) (by omega) (lim_val y), gcd_Euclid_loop y x hx hy⟩
end Go.Proofs.YtjcdkemnflmfiaaGreatA
