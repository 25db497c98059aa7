/- Bits and quotients of limbs: what the functions answer. -/
import Derived.Test.YtjcdkemnflmfiaaGreatP4
import Derived.Test.YtjcdkemnflmfiaaGreatW4
set_option linter.unusedVariables false
set_option linter.unusedSimpArgs false
namespace Go.Proofs.YtjcdkemnflmfiaaGreatA
open Go
def Len (v : Int) (m : Nat) : Prop := v < 2 ^ m ∧ (m = 0 ∨ 2 ^ (m - 1) ≤ v)
theorem limb_Bits_loop (a : Int) (ha : 0 ≤ a ∧ a < 18446744073709551616) (d : Nat) : ∀ (i m : Nat), i + d = 32 → m ≤ i → Len (a % 2 ^ i) m →
  ∃ n : Nat, limb_Bits_l0 a (m : Int) (i : Int) (n : Int) ∧ n ≤ 32 ∧ Len (a % 4294967296) n := by
 induction d with
 | zero =>
  intro i m hi hm h
  obtain rfl : i = 32 := by omega
  exact ⟨m, limb_Bits_l0_go (.inr ⟨by omega, rfl⟩), hm, by simpa using h⟩
 | succ d ih =>
  intro i m hi hm h
  have hs : a / 2 ^ (min ((i : Int)).toNat 64) = a / 2 ^ i := by rw [Int.toNat_natCast, Nat.min_eq_left (by omega)]
  have hp := pow_pos' i
  have hq0 : 0 ≤ a / 2 ^ i := Int.ediv_nonneg ha.1 (Int.le_of_lt hp)
  have hq1 : a / 2 ^ i ≤ a := Int.ediv_le_self _ ha.1
  have hr0 := Int.emod_nonneg a (show (2 : Int) ^ i ≠ 0 by omega)
  have hr1 := Int.emod_lt_of_pos a hp
  have hsplit : a % 2 ^ (i + 1) = a / 2 ^ i % 2 * 2 ^ i + a % 2 ^ i := by
   refine (divmod_unique (q := a / 2 ^ i / 2) ?_ ?_ ?_).2
   ·have h1 := Int.mul_ediv_add_emod a (2 ^ i)
    have h2 := Int.mul_ediv_add_emod (a / 2 ^ i) 2
    rw [Int.pow_succ]
    grind
   ·have := mul_nn (x := a / 2 ^ i % 2) (y := 2 ^ i) (by omega) (by omega)
    omega
   ·rw [Int.pow_succ]
    have : a / 2 ^ i % 2 * 2 ^ i ≤ 1 * 2 ^ i := Int.mul_le_mul_of_nonneg_right (by omega) (by omega)
    omega
  have hi1 : wi ((i : Int) + 1) = ((i + 1 : Nat) : Int) := w_succ (by omega)
  by_cases hb : a / 2 ^ i % 2 = 1
  ·obtain ⟨n, h1, h2⟩ := ih (i + 1) (i + 1) (by omega) (by omega) ⟨by rw [hsplit, hb, Int.pow_succ]; omega, .inr (by rw [hsplit, hb]; simp only [Nat.add_sub_cancel]; omega)⟩
   refine ⟨n, limb_Bits_l0_go (.inl ⟨by omega, by omega, ?_⟩), h2⟩
   rw [hs, and1 hq0 (by omega), hi1]
   exact .inl ⟨hb, h1⟩
  ·have hb0 : a / 2 ^ i % 2 = 0 := by omega
   obtain ⟨n, h1, h2⟩ := ih (i + 1) m (by omega) (by omega) (by rw [hsplit, hb0, Int.zero_mul, Int.zero_add]; exact h)
   refine ⟨n, limb_Bits_l0_go (.inl ⟨by omega, by omega, ?_⟩), h2⟩
   rw [hs, and1 hq0 (by omega), hi1]
   exact .inr ⟨hb, h1⟩
theorem limb_Bits_is {a : Int} (ha : 0 ≤ a ∧ a < 18446744073709551616) : ∃ n : Nat, limb_Bits_R a (n : Int) ∧ n ≤ 32 ∧ Len (a % 4294967296) n := by
 obtain ⟨n, h1, h2⟩ := limb_Bits_loop a ha 32 0 0 (by omega) (by omega) ⟨by simp [Int.emod_one], .inl rfl⟩
 exact ⟨n, limb_Bits_go h1, h2⟩
theorem limb_Div_ok {hi lo d : Int} (ha : 0 ≤ hi ∧ hi < 18446744073709551616) (hb : 0 ≤ lo ∧ lo < 18446744073709551616) (hc : 0 ≤ d ∧ d < 18446744073709551616) (h0 : ¬ d % 4294967296 = 0) (h1 : ¬ d % 4294967296 ≤ hi % 4294967296) :
  limb_Div_R hi lo d ((hi % 4294967296 * 4294967296 + lo % 4294967296) / (d % 4294967296)) ((hi % 4294967296 * 4294967296 + lo % 4294967296) % (d % 4294967296)) 0 := by
 refine limb_Div_go ?_
 rw [and32 ha.1 ha.2, and32 hb.1 hb.2, and32 hc.1 hc.2]
 refine .inr ⟨h0, .inr ⟨h1, _, rfl, h0, ?_⟩⟩
 rw [show (2 : Int) ^ 32 = 4294967296 from rfl, w64i (n := hi % 4294967296 * 4294967296) (by omega) (by omega), or32 (by omega) (by omega) (by omega) (by omega) (by omega)]
 have hn : 0 ≤ hi % 4294967296 * 4294967296 + lo % 4294967296 := by omega
 rw [Int.tdiv_eq_ediv_of_nonneg hn, Int.tmod_eq_emod_of_nonneg hn]
 have hd : 0 < d % 4294967296 := by omega
 have hq := Int.ediv_nonneg hn (Int.le_of_lt hd)
 have hl := Int.ediv_le_self (d % 4294967296) hn
 rw [w64i hq (by omega)]
 exact ⟨rfl, rfl, rfl⟩
theorem alg_div32 (A m v u r V : Int) (h : u + m * v = 4294967296 * r + A) : A + 4294967296 * (V * m + r) = (v + 4294967296 * V) * m + u := by grind
theorem limb_Div_nat {r A m : Nat} (hr : r < m) (hA : A < 4294967296) (hm : m < 4294967296) :
  limb_Div_R (r : Int) (A : Int) (m : Int) (((4294967296 * r + A) / m : Nat) : Int) (((4294967296 * r + A) % m : Nat) : Int) 0 := by
 have := limb_Div_ok (hi := (r : Int)) (lo := (A : Int)) (d := (m : Int)) (by omega) (by omega) (by omega) (by omega) (by omega)
 have e1 : (r : Int) % 4294967296 * 4294967296 + (A : Int) % 4294967296 = ((4294967296 * r + A : Nat) : Int) := by omega
 have e2 : (m : Int) % 4294967296 = (m : Int) := by omega
 rw [e1, e2, ← Int.natCast_ediv, ← Int.natCast_emod] at this
 exact this
theorem divide_Small_loop {a : List Int} (ha : Dig 4294967296 a) {m : Nat} (hm0 : 0 < m) (hm : m < 4294967296) (hs : a.length ≤ 1000000000) {x : Nat} (hx : val 4294967296 a = (x : Int)) : ∀ (i j : Nat) (o : List Int) (r : Nat),
    i + j = a.length → o.length = a.length → Dig 4294967296 o → r < m → val 4294967296 (a.drop i) = val 4294967296 (o.drop i) * (m : Int) + (r : Int) →
    divide_Small_l0 a (m : Int) (r : Int) (a.length : Int) (j : Int) o (lim (x / m)) ((x % m : Nat) : Int) 0 := by
  intro i
  induction i with
  | zero =>
    intro j o r hij ho hdg hr hv
    rw [List.drop_zero, List.drop_zero, hx] at hv
    have hu := divmod_unique (n := (x : Int)) (d := (m : Int)) (q := val 4294967296 o) (r := (r : Int)) hv.symm (by omega) (by omega)
    refine divide_Small_l0_go (.inr ⟨by omega, lim (x / m), 0, nat_Make_is hdg (by omega) ?_, rfl, ?_, rfl⟩)
    · rw [← hu.1, Int.natCast_ediv]
    · rw [← hu.2, Int.natCast_emod]
  | succ i ih =>
    intro j o r hij ho hdg hr hv
    have hw : wi (wi ((a.length : Int) - 1) - (j : Int)) = (i : Int) := by
      rw [s64i (n := (a.length : Int) - 1) (by omega) (by omega), s64i (by omega) (by omega)]; omega
    have ga := Dig.getD (by omega) ha i
    obtain ⟨A, hA⟩ := Int.eq_ofNat_of_zero_le ga.1
    have hA' := hA
    rw [hA] at ga
    refine divide_Small_l0_go (.inl ⟨by omega, ?_⟩)
    rw [hw, Int.toNat_natCast, hA']
    refine ⟨by omega, by omega, _, _, _, limb_Div_nat hr (by omega) hm, by omega, _, rfl, ?_⟩
    have hq : (4294967296 * r + A) / m < 4294967296 := Nat.div_lt_of_lt_mul (by have : 4294967296 * (r + 1) ≤ 4294967296 * m := Nat.mul_le_mul_left _ hr
                                                                                rw [Nat.mul_comm m]; omega)
    have hrm := Nat.mod_lt (4294967296 * r + A) hm0
    have hdm := Nat.mod_add_div (4294967296 * r + A) m
    generalize (4294967296 * r + A) / m = q at hq hdm ⊢
    generalize (4294967296 * r + A) % m = u at hrm hdm ⊢
    rw [w_succ (by omega)]
    refine ih (j + 1) _ u (by omega) (by rw [List.length_set]; exact ho) (hdg.set (by omega) _) hrm ?_
    rw [val_drop _ a i (by omega), val_drop _ (o.set i _) i (by rw [List.length_set]; omega), hv, getD_set_eq (by omega), List.drop_set_of_lt (by omega), hA']
    refine alg_div32 _ _ _ _ _ _ ?_
    rw [← Int.natCast_mul, ← Int.natCast_add, hdm]; omega
theorem divide_Small_is {x m : Nat} (hx : (lim x).length ≤ 1000000000) (hm0 : 0 < m) (hm : m < 4294967296) : divide_Small_R (lim x) (m : Int) (lim (x / m)) ((x % m : Nat) : Int) 0 := by
 refine divide_Small_go (.inr ⟨by rw [tm (by omega)]; omega, by omega, by omega, _, rfl, ?_⟩)
 rw [Int.toNat_natCast]
 refine divide_Small_loop (lim_dig x) hm0 hm hx (lim_val x) (lim x).length 0 _ 0 (by omega) (by rw [List.length_replicate]) (Dig.zeros (by omega) _) hm0 ?_
 rw [List.drop_of_length_le (Nat.le_refl _), List.drop_of_length_le (by rw [List.length_replicate]; exact Nat.le_refl _)]
 simp [val]
end Go.Proofs.YtjcdkemnflmfiaaGreatA
