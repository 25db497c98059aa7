/- Taking a multiple off a row, and giving back: what the functions answer. -/
import Derived.Test.YtjcdkemnflmfiaaGreatP10
import Derived.Test.YtjcdkemnflmfiaaGreatW4
set_option linter.unusedVariables false
set_option linter.unusedSimpArgs false
namespace Go.Proofs.YtjcdkemnflmfiaaGreatA
open Go
theorem divide_at_is (l : List Int) (i : Nat) : divide_at_R l (i : Int) (l.getD i 0) := by
 by_cases h : (l.length : Int) ≤ (i : Int)
 ·exact divide_at_go (.inl ⟨h, getD_ge (by omega)⟩)
 ·exact divide_at_go (.inr ⟨h, by omega, by omega, rfl⟩)
theorem limb_Mul_nat {q A c : Nat} (hq : q < 4294967296) (hA : A < 4294967296) (hc : c < 4294967296) :
  limb_Mul_R (q : Int) (A : Int) (c : Int) 0 (((q * A + c) % 4294967296 : Nat) : Int) (((q * A + c) / 4294967296 : Nat) : Int) := by
 have := limb_Mul_is (a := (q : Int)) (b := (A : Int)) (c := (c : Int)) (d := 0) (by omega) (by omega) (by omega) (by omega)
 have e : (q : Int) % 4294967296 * ((A : Int) % 4294967296) + (c : Int) % 4294967296 + 0 % 4294967296 = ((q * A + c : Nat) : Int) := by
  rw [Int.emod_eq_of_lt (by omega) (by omega), Int.emod_eq_of_lt (by omega) (by omega), Int.emod_eq_of_lt (by omega) (by omega), Int.natCast_add, Int.natCast_mul]; rfl
 rw [e] at this
 rw [Int.natCast_emod, Int.natCast_ediv]
 exact this
theorem limb_Sub_nat {a b w : Nat} (ha : a < 4294967296) (hb : b < 4294967296) (hw : w ≤ 1) :
  ∃ x w' : Nat, limb_Sub_R (a : Int) (b : Int) (w : Int) (x : Int) (w' : Int) ∧ x < 4294967296 ∧ w' ≤ 1 ∧ (x : Int) = a - (b + w) + 4294967296 * w' := by
 by_cases h : a < b + w
 ·have := limb_Sub_lt (a := (a : Int)) (b := (b : Int)) (c := (w : Int)) (by omega) (by omega) (by omega) (by omega)
  refine ⟨a + 4294967296 - (b + w), 1, ?_, by omega, by omega, by omega⟩
  have e1 : ((b : Int) % 4294967296 + (w : Int) % 4294967296 - (a : Int) % 4294967296 + 4294967295) / 4294967296 = 1 := by omega
  rw [e1] at this
  have e2 : (a : Int) % 4294967296 + 1 * 4294967296 - ((b : Int) % 4294967296 + (w : Int) % 4294967296) = ((a + 4294967296 - (b + w) : Nat) : Int) := by omega
  rw [e2] at this
  exact this
 ·have := limb_Sub_ge (a := (a : Int)) (b := (b : Int)) (c := (w : Int)) (by omega) (by omega) (by omega) (by omega)
  refine ⟨a - (b + w), 0, ?_, by omega, by omega, by omega⟩
  have e2 : (a : Int) % 4294967296 - ((b : Int) % 4294967296 + (w : Int) % 4294967296) = ((a - (b + w) : Nat) : Int) := by omega
  rw [e2] at this
  exact this
theorem limb_Add_nat {a b c : Nat} (ha : a < 4294967296) (hb : b < 4294967296) (hc : c ≤ 1) :
  ∃ x c' : Nat, limb_Add_R (a : Int) (b : Int) (c : Int) (x : Int) (c' : Int) ∧ x < 4294967296 ∧ c' ≤ 1 ∧ a + b + c = x + 4294967296 * c' := by
 have := limb_Add_is (a := (a : Int)) (b := (b : Int)) (c := (c : Int)) (by omega) (by omega) (by omega)
 refine ⟨(a + b + c) % 4294967296, (a + b + c) / 4294967296, ?_, by omega, by omega, by omega⟩
 have e : (a : Int) % 4294967296 + (b : Int) % 4294967296 + (c : Int) % 4294967296 = ((a + b + c : Nat) : Int) := by omega
 rw [e] at this
 rw [Int.natCast_emod, Int.natCast_ediv]
 exact this
theorem alg_take (U Bi Bj q T c w u v p x c' w' : Int) (h1 : q * v + c = p + 4294967296 * c') (h2 : x = u - (p + w) + 4294967296 * w') :
  U - Bi * (q * T) + Bi * Bj * (c + w) + Bi * Bj * (x - u) = U - Bi * (q * (T + Bj * v)) + Bi * Bj * 4294967296 * (c' + w') := by
 subst h2
 have : p = q * v + c - 4294967296 * c' := by omega
 subst this
 grind
theorem alg_give (U Bi Bj T c u v x c' : Int) (h : u + v + c = x + 4294967296 * c') :
  U + Bi * T - Bi * Bj * c + Bi * Bj * (x - u) = U + Bi * (T + Bj * v) - Bi * Bj * 4294967296 * c' := by
 have : x = u + v + c - 4294967296 * c' := by omega
 subst this
 grind
theorem divide_take_loop {v : List Int} (hv : Dig 4294967296 v) {q : Nat} (hq : q < 4294967296) {i : Nat} {U : Int} (d : Nat) : ∀ (j : Nat) (u : List Int) (c w : Nat),
  j + d = v.length + 1 → Dig 4294967296 u → i + v.length + 1 ≤ u.length → u.length ≤ 1000000000 → c < 4294967296 → w ≤ 1 → (j = v.length + 1 → c = 0) →
  val 4294967296 u = U - 4294967296 ^ i * ((q : Int) * val 4294967296 (v.take j)) + 4294967296 ^ i * 4294967296 ^ j * ((c : Int) + (w : Int)) →
  ∃ (u' : List Int) (w' : Nat), (∀ (cb : Nat → Blk) (ver : Nat), divide_take_l0 cb ver (i : Int) v (q : Int) (c : Int) (w : Int) (((v.length + 1 : Nat)) : Int) (j : Int) u (decide (0 < (w' : Int))) u') ∧ Dig 4294967296 u' ∧ u'.length = u.length ∧ w' ≤ 1 ∧
   (∀ t, i + v.length + 1 ≤ t → u'.getD t 0 = u.getD t 0) ∧ val 4294967296 u' = U - 4294967296 ^ i * ((q : Int) * val 4294967296 v) + 4294967296 ^ i * 4294967296 ^ (v.length + 1) * (w' : Int) := by
 induction d with
 | zero =>
  intro j u c w hj hd hl hs hc hw hc0 hval
  obtain rfl : j = v.length + 1 := by omega
  obtain rfl := hc0 rfl
  refine ⟨u, w, fun cb ver => divide_take_l0_go (.inr ⟨by omega, rfl, rfl⟩), hd, rfl, hw, fun _ _ => rfl, ?_⟩
  rw [hval, List.take_of_length_le (by omega)]
  simp
 | succ d ih =>
  intro j u c w hj hd hl hs hc hw hc0 hval
  have gv := Dig.getD (by omega) hv j
  obtain ⟨A, hA⟩ := Int.eq_ofNat_of_zero_le gv.1
  have gu := Dig.getD (by omega) hd (i + j)
  obtain ⟨a, ha⟩ := Int.eq_ofNat_of_zero_le gu.1
  rw [hA] at gv
  rw [ha] at gu
  have hqa : q * A + c < 4294967296 * 4294967296 := by
   have : q * A ≤ 4294967295 * 4294967295 := Nat.mul_le_mul (by omega) (by omega)
   omega
  have hp : (q * A + c) % 4294967296 < 4294967296 := Nat.mod_lt _ (by omega)
  have hc' : (q * A + c) / 4294967296 < 4294967296 := Nat.div_lt_of_lt_mul hqa
  have hpc := Nat.mod_add_div (q * A + c) 4294967296
  have hmul := limb_Mul_nat hq (show A < 4294967296 by omega) hc
  have hlast : j = v.length → (q * A + c) / 4294967296 = 0 := by
   intro h
   have : A = 0 := by
    have h2 : v.getD j 0 = 0 := getD_ge (by omega)
    omega
   subst this
   rw [Nat.mul_zero, Nat.zero_add]
   exact Nat.div_eq_of_lt hc
  generalize (q * A + c) % 4294967296 = p at *
  generalize (q * A + c) / 4294967296 = c' at *
  obtain ⟨x, w', hsub, hx, hw', hxe⟩ := limb_Sub_nat (show a < 4294967296 by omega) hp hw
  obtain ⟨u', w'', e, g1, g2, g3, g4, g5⟩ := ih (j + 1) (u.set (i + j) (x : Int)) c' w' (by omega) (hd.set (by omega) _) (by rw [List.length_set]; exact hl) (by rw [List.length_set]; exact hs) hc' hw' (fun h => hlast (by omega)) (by
   rw [val_set _ _ _ _ (by omega), ha, hval, val_take_succ', hA, Int.pow_succ, Int.pow_add]
   have h1 : (q : Int) * (A : Int) + (c : Int) = (p : Int) + 4294967296 * (c' : Int) := by
    rw [← Int.natCast_mul, ← Int.natCast_add, ← hpc]; omega
   have := alg_take U (4294967296 ^ i) (4294967296 ^ j) (q : Int) (val 4294967296 (v.take j)) (c : Int) (w : Int) (a : Int) (A : Int) (p : Int) (x : Int) (c' : Int) (w' : Int) h1 hxe
   rw [this, Int.mul_assoc (4294967296 ^ i)])
  refine ⟨u', w'', ?_, g1, by rw [g2, List.length_set], g3, fun t ht => ?_, g5⟩
  ·intro cb ver
   have hat := divide_at_is v j
   rw [hA] at hat
   refine divide_take_l0_go (.inl ⟨by omega, _, hat, _, _, hmul, by rw [w_add (by omega)]; omega, by rw [w_add (by omega)]; omega, (x : Int), (w' : Int), by rw [w_add (by omega), Int.toNat_natCast, ha]; exact hsub, _, rfl, ?_⟩)
   rw [w_add (by omega), w_succ (by omega), Int.toNat_natCast]
   exact e cb ver
  ·rw [g4 t ht, getD_set_ne (by omega)]
theorem divide_give_loop {v : List Int} (hv : Dig 4294967296 v) {i : Nat} {U : Int} (d : Nat) : ∀ (j : Nat) (u : List Int) (c : Nat),
  j + d = v.length + 1 → Dig 4294967296 u → i + v.length + 1 ≤ u.length → u.length ≤ 1000000000 → c ≤ 1 →
  val 4294967296 u = U + 4294967296 ^ i * val 4294967296 (v.take j) - 4294967296 ^ i * 4294967296 ^ j * (c : Int) →
  ∃ (u' : List Int) (c' : Nat), (∀ (cb : Nat → Blk) (ver : Nat), divide_give_l0 cb ver (i : Int) v (c : Int) (((v.length + 1 : Nat)) : Int) (j : Int) u u') ∧ Dig 4294967296 u' ∧ u'.length = u.length ∧ c' ≤ 1 ∧
   (∀ t, i + v.length + 1 ≤ t → u'.getD t 0 = u.getD t 0) ∧ val 4294967296 u' = U + 4294967296 ^ i * val 4294967296 v - 4294967296 ^ i * 4294967296 ^ (v.length + 1) * (c' : Int) := by
 induction d with
 | zero =>
  intro j u c hj hd hl hs hc hval
  obtain rfl : j = v.length + 1 := by omega
  refine ⟨u, c, fun cb ver => divide_give_l0_go (.inr ⟨by omega, rfl⟩), hd, rfl, hc, fun _ _ => rfl, ?_⟩
  rw [hval, List.take_of_length_le (by omega)]
 | succ d ih =>
  intro j u c hj hd hl hs hc hval
  have gv := Dig.getD (by omega) hv j
  obtain ⟨A, hA⟩ := Int.eq_ofNat_of_zero_le gv.1
  have gu := Dig.getD (by omega) hd (i + j)
  obtain ⟨a, ha⟩ := Int.eq_ofNat_of_zero_le gu.1
  rw [hA] at gv
  rw [ha] at gu
  obtain ⟨x, c', hadd, hx, hc', hxe⟩ := limb_Add_nat (show a < 4294967296 by omega) (show A < 4294967296 by omega) hc
  obtain ⟨u', c'', e, g1, g2, g3, g4, g5⟩ := ih (j + 1) (u.set (i + j) (x : Int)) c' (by omega) (hd.set (by omega) _) (by rw [List.length_set]; exact hl) (by rw [List.length_set]; exact hs) hc' (by
   rw [val_set _ _ _ _ (by omega), ha, hval, val_take_succ', hA, Int.pow_succ, Int.pow_add]
   have := alg_give U (4294967296 ^ i) (4294967296 ^ j) (val 4294967296 (v.take j)) (c : Int) (a : Int) (A : Int) (x : Int) (c' : Int) (by omega)
   rw [this, Int.mul_assoc (4294967296 ^ i)])
  refine ⟨u', c'', ?_, g1, by rw [g2, List.length_set], g3, fun t ht => ?_, g5⟩
  ·intro cb ver
   have hat := divide_at_is v j
   rw [hA] at hat
   refine divide_give_l0_go (.inl ⟨by omega, by rw [w_add (by omega)]; omega, by rw [w_add (by omega)]; omega, _, hat, (x : Int), (c' : Int), by rw [w_add (by omega), Int.toNat_natCast, ha]; exact hadd, _, rfl, ?_⟩)
   rw [w_add (by omega), w_succ (by omega), Int.toNat_natCast]
   exact e cb ver
  ·rw [g4 t ht, getD_set_ne (by omega)]
end Go.Proofs.YtjcdkemnflmfiaaGreatA
