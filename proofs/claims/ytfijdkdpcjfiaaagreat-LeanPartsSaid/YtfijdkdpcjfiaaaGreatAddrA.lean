/- Prefixes: what their functions answer. -/
import Derived.Test.YtfijdkdpcjfiaaaGreatP1
import Derived.Test.YtfijdkdpcjfiaaaGreatWX
set_option linter.unusedVariables false
set_option linter.unusedSimpArgs false
set_option maxRecDepth 100000
namespace Go.Proofs.YtfijdkdpcjfiaaaGreatA
open Go Go.Proofs
def sz (l : Int) : Nat := 2 ^ (32 - l).toNat
theorem sz_pos (l : Int) : 0 < sz l := Nat.two_pow_pos _
theorem sz_le {l : Int} (h0 : 0 ≤ l) : sz l ≤ 4294967296 := Nat.pow_le_pow_right (n := 2) (by decide) (show (32 - l).toNat ≤ 32 by omega)
theorem sz_dvd {l : Int} (h0 : 0 ≤ l) : sz l ∣ 4294967296 := Nat.pow_dvd_pow 2 (show (32 - l).toNat ≤ 32 by omega)
def Ad32 (a : Int) : Prop := 0 ≤ a ∧ a < 4294967296
def mayB (a l : Int) : Bool := decide (0 ≤ l ∧ l ≤ 32 ∧ a % (sz l : Int) = 0)
def hasB (a l x : Int) : Bool := mayB a l && decide (a ≤ x ∧ x < a + (sz l : Int))
def withinB (a l b m : Int) : Bool := mayB a l && decide (m ≤ l) && hasB b m a
theorem may_le {a l : Int} (ha : Ad32 a) (h : mayB a l = true) : 0 ≤ l ∧ l ≤ 32 ∧ a % (sz l : Int) = 0 ∧ a + (sz l : Int) ≤ 4294967296 := by
 have h := of_decide_eq_true h
 refine ⟨h.1, h.2.1, h.2.2, ?_⟩
 obtain ⟨k, hk⟩ := sz_dvd h.1
 have hp := sz_pos l
 obtain ⟨q, hq⟩ := Int.dvd_of_emod_eq_zero h.2.2
 have h1 : ((4294967296 : Nat) : Int) = (sz l : Int) * (k : Int) := by rw [hk]; push_cast; rfl
 have h2 := ha.2
 have h3 : q < (k : Int) := by
  rcases Int.lt_or_le q k with h | h
  ·exact h
  ·exfalso
   have : (sz l : Int) * (k : Int) ≤ (sz l : Int) * q := Int.mul_le_mul_of_nonneg_left h (by omega)
   rw [← h1, ← hq] at this
   omega
 have h4 : (sz l : Int) * (q + 1) ≤ (sz l : Int) * (k : Int) := Int.mul_le_mul_of_nonneg_left (by omega) (by omega)
 rw [← h1, Int.mul_add, ← hq] at h4
 omega
theorem wu32 {n : Int} (h0 : 0 ≤ n) (h1 : n < 4294967296) : IntKind.wrap .u32 n = n := by rw [IntKind.wrap_u32]; omega
theorem wraps_u32' (n : Int) (h0 : 0 ≤ n) (h1 : n < 2 ^ 32) : IntKind.wrap .u32 n = n := wu32 h0 (by simpa using h1)
theorem and_mask {a k : Nat} (ha : a < 2 ^ 32) (hk : k ≤ 32) : a &&& (2 ^ 32 - 2 ^ k) = a - a % 2 ^ k := by
 have h1 : 2 ^ 32 - 2 ^ k = 2 ^ 32 - ((2 ^ k - 1) + 1) := by have := Nat.two_pow_pos k; omega
 have h2 : a - a % 2 ^ k = (a >>> k) <<< k := by
  rw [Nat.shiftRight_eq_div_pow, Nat.shiftLeft_eq, Nat.mul_comm]
  have := Nat.div_add_mod a (2 ^ k)
  omega
 rw [h1, h2]
 apply Nat.eq_of_testBit_eq
 intro i
 have hlt : 2 ^ k - 1 < 2 ^ 32 := by
  have h3 := Nat.pow_le_pow_right (n := 2) (by decide) hk
  have := Nat.two_pow_pos k
  omega
 rw [Nat.testBit_and, Nat.testBit_two_pow_sub_succ hlt, Nat.testBit_two_pow_sub_one, Nat.testBit_shiftLeft, Nat.testBit_shiftRight]
 by_cases hik : i < k
 ·simp [hik, Nat.not_le.2 hik]
 ·have : k ≤ i := by omega
  simp only [hik, decide_false, Bool.not_false, Bool.and_true, this, decide_true, Bool.true_and]
  rw [show k + (i - k) = i by omega]
  by_cases hi : i < 32
  ·simp [hi]
  ·have : a.testBit i = false := Nat.testBit_lt_two_pow (Nat.lt_of_lt_of_le ha (Nat.pow_le_pow_right (by decide) (by omega)))
   simp [hi, this]
theorem bits_and_mask {a l : Int} (ha : Ad32 a) (h0 : 0 ≤ l) (h1 : l ≤ 32) : bits .and .u32 a (4294967296 - (sz l : Int)) = a - a % (sz l : Int) := by
 obtain ⟨n, rfl⟩ := Int.eq_ofNat_of_zero_le ha.1
 have hn : n < 2 ^ 32 := by have := ha.2; omega
 have hs := sz_le h0
 have hp := sz_pos l
 have e : (4294967296 - (sz l : Int)) = ((2 ^ 32 - sz l : Nat) : Int) := by omega
 have key := (bits_nat .u32 32 (by decide) wraps_u32' n (2 ^ 32 - sz l) hn (by omega)).1
 rw [e, key]
 have := and_mask (a := n) (k := (32 - l).toNat) hn (by omega)
 unfold sz at *
 rw [this]
 have hm := Nat.mod_le n (2 ^ (32 - l).toNat)
 push_cast [hm]
 rfl
theorem bits_andNot_mask {a l : Int} (ha : Ad32 a) (h0 : 0 ≤ l) (h1 : l ≤ 32) : bits .andNot .u32 a (4294967296 - (sz l : Int)) = a % (sz l : Int) := by
 obtain ⟨n, rfl⟩ := Int.eq_ofNat_of_zero_le ha.1
 have hn : n < 2 ^ 32 := by have := ha.2; omega
 have hs := sz_le h0
 have hp := sz_pos l
 have e : (4294967296 - (sz l : Int)) = ((2 ^ 32 - sz l : Nat) : Int) := by omega
 rw [e]
 have hk : (IntKind.u32).bits = 32 := rfl
 have hm : (n : Int) % (sz l : Int) = ((n % sz l : Nat) : Int) := by push_cast; rfl
 rw [hm]
 have hx : (BitVec.ofNat 32 n &&& ~~~(BitVec.ofNat 32 (2 ^ 32 - sz l))).toNat = n % sz l := by
  rw [BitVec.toNat_and, BitVec.toNat_not, BitVec.toNat_ofNat, BitVec.toNat_ofNat, Nat.mod_eq_of_lt hn, Nat.mod_eq_of_lt (show 2 ^ 32 - sz l < 2 ^ 32 by omega)]
  rw [show 2 ^ 32 - 1 - (2 ^ 32 - sz l) = sz l - 1 by omega]
  exact Nat.and_two_pow_sub_one_eq_mod n (32 - l).toNat
 show IntKind.wrap .u32 ((BitVec.ofInt 32 (n : Int) &&& ~~~(BitVec.ofInt 32 ((2 ^ 32 - sz l : Nat) : Int))).toNat : Int) = _
 rw [BitVec.ofInt_natCast, BitVec.ofInt_natCast, hx]
 have := Nat.mod_lt n hp
 exact wu32 (by omega) (by omega)
theorem mask_go {l : Int} (h0 : 0 ≤ l) (h1 : l ≤ 32) : addr_Mask_R l (4294967296 - (sz l : Int)) := by
 have e1 : mn (mx l 0) 32 = l := by unfold mn mx; split <;> split <;> omega
 have e2 : wi (32 - l) = 32 - l := s64i (by omega) (by omega)
 refine addr_Mask_go ⟨by rw [e1, e2]; omega, ?_⟩
 rw [e1, e2, w64, IntKind.wrap_u32, Nat.min_eq_left (by omega)]
 have hs := sz_le h0
 have hp := sz_pos l
 have e3 : (2 : Int) ^ (32 - l).toNat = (sz l : Int) := by unfold sz; push_cast; rfl
 rw [e3]
 have hb : 4294967295 * (sz l : Int) < 18446744073709551616 := by omega
 rw [Int.emod_eq_of_lt (by omega) hb]
 have e4 : 4294967295 * (sz l : Int) = (4294967296 - (sz l : Int)) + ((sz l : Int) - 1) * 4294967296 := by rw [Int.sub_mul]; omega
 rw [e4, Int.add_mul_emod_self_right]
 exact (Int.emod_eq_of_lt (by omega) (by omega)).symm
theorem addr_may_go {a l : Int} (ha : Ad32 a) : addr_May_R a l (mayB a l) := by
 unfold mayB
 by_cases h0 : 0 ≤ l
 ·by_cases h1 : l ≤ 32
  ·refine addr_May_go (.inl ⟨h0, .inl ⟨h1, _, mask_go h0 h1, ?_⟩⟩)
   rw [bits_andNot_mask ha h0 h1]
   simp [h0, h1]
  ·exact addr_May_go (.inl ⟨h0, .inr ⟨h1, by simp [h1]⟩⟩)
 ·exact addr_May_go (.inr ⟨h0, by simp [h0]⟩)
theorem floor_iff {a x : Int} {s : Nat} (hs : 0 < s) (ha : a % (s : Int) = 0) : x - x % (s : Int) = a ↔ a ≤ x ∧ x < a + (s : Int) := by
 have h1 := Int.emod_nonneg x (show (s : Int) ≠ 0 by omega)
 have h2 := Int.emod_lt_of_pos x (show (0 : Int) < s by omega)
 constructor
 ·intro h; omega
 ·rintro ⟨h3, h4⟩
  obtain ⟨q, rfl⟩ := Int.dvd_of_emod_eq_zero ha
  have : x % (s : Int) = x - (s : Int) * q := by
   have e : x = (x - (s : Int) * q) + (s : Int) * q := by omega
   rw [e, Int.add_mul_emod_self_left]
   rw [Int.emod_eq_of_lt (by omega) (by omega)]
   omega
  omega
theorem addr_has_go {a l x : Int} (ha : Ad32 a) (hx : Ad32 x) : addr_Has_R a l x (hasB a l x) := by
 refine addr_Has_go ⟨_, addr_may_go ha, ?_⟩
 unfold hasB
 cases hm : mayB a l with
 | true =>
  obtain ⟨h0, h1, h2, h3⟩ := may_le ha hm
  refine .inl ⟨rfl, _, mask_go h0 h1, ?_⟩
  rw [bits_and_mask hx h0 h1, Bool.true_and]
  exact decide_eq_decide.2 (floor_iff (sz_pos l) h2).symm
 | false => exact .inr ⟨by simp, by simp⟩
theorem addr_within_go {a l b m : Int} (ha : Ad32 a) (hb : Ad32 b) : addr_Within_R a l b m (withinB a l b m) := by
 refine addr_Within_go ⟨_, addr_may_go ha, ?_⟩
 unfold withinB
 cases hm : mayB a l with
 | true =>
  by_cases h : m ≤ l
  ·exact .inl ⟨rfl, .inl ⟨h, _, addr_has_go hb ha, by simp [h]⟩⟩
  ·exact .inl ⟨rfl, .inr ⟨h, by simp [h]⟩⟩
 | false => exact .inr ⟨by simp, by simp⟩
theorem size_loop2 : ∀ (n : Nat) (x : Nat) (l : Int), 0 ≤ l → l + (n : Int) = 32 → x * 2 ^ n ≤ 4294967296 → ref18_Size_l0 (x : Int) l ((x * 2 ^ n : Nat) : Int)
 | 0, x, l, h0, hl, hx => ref18_Size_l0_go (.inr ⟨by omega, by simp⟩)
 | n + 1, x, l, h0, hl, hx => by
  refine ref18_Size_l0_go (.inl ⟨by omega, ?_⟩)
  have hx2 : 2 * x ≤ 4294967296 := by
   have : 2 * x ≤ x * 2 ^ (n + 1) := by
    rw [Nat.pow_succ, ← Nat.mul_assoc, Nat.mul_comm 2 x]
    have := Nat.two_pow_pos n
    exact Nat.mul_le_mul_right 2 (Nat.le_mul_of_pos_right x this)
   omega
  have e1 : wu (2 * (x : Int)) = ((2 * x : Nat) : Int) := by rw [w64]; omega
  have e2 : x * 2 ^ (n + 1) = (2 * x) * 2 ^ n := by rw [Nat.pow_succ, ← Nat.mul_assoc, Nat.mul_comm 2 x, Nat.mul_right_comm]
  rw [e1, s64i (by omega) (by omega), e2]
  exact size_loop2 n (2 * x) (l + 1) (by omega) (by omega) (by rw [← e2]; exact hx)
theorem ref_size_go {l : Int} (h0 : 0 ≤ l) (h1 : l ≤ 32) : ref18_Size_R l (sz l : Int) := by
 refine ref18_Size_go ?_
 have := size_loop2 (32 - l).toNat 1 l h0 (by omega) (by have := sz_le h0; unfold sz at this; omega)
 simpa [sz] using this
theorem ref_may_go {a l : Int} (ha : Ad32 a) : ref18_May_R a l (mayB a l) := by
 unfold mayB
 by_cases h0 : 0 ≤ l
 ·by_cases h1 : l ≤ 32
  ·have hp := sz_pos l
   refine ref18_May_go (.inl ⟨h0, .inl ⟨h1, _, ref_size_go h0 h1, by omega, ?_⟩⟩)
   have ha' := ha
   rw [w64i ha.1 (by have := ha.2; omega), Int.tmod_eq_emod_of_nonneg ha.1]
   simp [h0, h1]
  ·exact ref18_May_go (.inl ⟨h0, .inr ⟨h1, by simp [h1]⟩⟩)
 ·exact ref18_May_go (.inr ⟨h0, by simp [h0]⟩)
theorem ref_has_go {a l x : Int} (ha : Ad32 a) (hx : Ad32 x) : ref18_Has_R a l x (hasB a l x) := by
 refine ref18_Has_go ⟨_, ref_may_go ha, ?_⟩
 unfold hasB
 cases hm : mayB a l with
 | true =>
  obtain ⟨h0, h1, h2, h3⟩ := may_le ha hm
  refine .inl ⟨rfl, ?_⟩
  have h4 := hx.2
  have h5 := ha.1
  by_cases h : a ≤ x
  ·refine .inl ⟨h, _, ref_size_go h0 h1, ?_⟩
   rw [wu32 (by omega) (by omega), w64i (by omega) (by omega), Bool.true_and]
   exact decide_eq_decide.2 ⟨fun h => by omega, fun h => by omega⟩
  ·exact .inr ⟨h, by simp [h]⟩
 | false => exact .inr ⟨by simp, by simp⟩
end Go.Proofs.YtfijdkdpcjfiaaaGreatA
