/- The guess of a quotient's limb: at most one too great. -/
import Derived.Test.YtjcdkemnflmfiaaGreatP11
set_option linter.unusedVariables false
set_option linter.unusedSimpArgs false
namespace Go.Proofs.YtjcdkemnflmfiaaGreatA
open Go
theorem guess_high {q V W T Vt P Vl Wl : Int} (hP : 0 < P) (hV : V = Vt * P + Vl) (hVl : 0 ≤ Vl) (hW : W = T * P + Wl) (hWl : Wl < P) (hq0 : 0 ≤ q) (h : T < q * Vt) : W < q * V := by
 have h1 : (T + 1) * P ≤ q * Vt * P := Int.mul_le_mul_of_nonneg_right (by omega) (Int.le_of_lt hP)
 have h2 : 0 ≤ q * Vl := Int.mul_nonneg hq0 hVl
 have e1 : (T + 1) * P = T * P + P := by grind
 have e2 : q * V = q * Vt * P + q * Vl := by rw [hV]; grind
 rw [e2, hW]; omega
theorem guess_low {q V W T Vt P Vl Wl : Int} (hP : 0 < P) (hV : V = Vt * P + Vl) (hVl : Vl < P) (hW : W = T * P + Wl) (hWl : 0 ≤ Wl) (hq0 : 1 ≤ q) (hq : q - 1 ≤ Vt) (h : q * Vt ≤ T) : (q - 1) * V ≤ W := by
 have h1 : (q - 1) * (Vt + 1) ≤ T := by
  have e : (q - 1) * (Vt + 1) = q * Vt - Vt + (q - 1) := by grind
  omega
 have h2 : (q - 1) * (Vt + 1) * P ≤ T * P := Int.mul_le_mul_of_nonneg_right h1 (Int.le_of_lt hP)
 have h3 : (q - 1) * V ≤ (q - 1) * ((Vt + 1) * P) := by
  refine Int.mul_le_mul_of_nonneg_left ?_ (by omega)
  have e : (Vt + 1) * P = Vt * P + P := by grind
  omega
 rw [← Int.mul_assoc] at h3
 omega
theorem test_is {q r v2 u3 : Nat} (hq : q < 4294967296) (hr : r < 4294967296) (hv2 : v2 < 4294967296) (hu3 : u3 < 4294967296) :
  Go.bits .or .u64 (wu ((r : Int) * 2 ^ 32)) (u3 : Int) < wu ((q : Int) * (v2 : Int)) ↔ r * 4294967296 + u3 < q * v2 := by
 have h1 : q * v2 ≤ 4294967295 * 4294967295 := Nat.mul_le_mul (by omega) (by omega)
 rw [show (2 : Int) ^ 32 = 4294967296 from rfl, ← Int.natCast_mul, w64i (n := ((q * v2 : Nat) : Int)) (by omega) (by omega), w64i (n := (r : Int) * 4294967296) (by omega) (by omega), or32 (by omega) (by omega) (by omega) (by omega) (by omega)]
 generalize q * v2 = z at *
 omega
def guessY (u v : List Int) (i n q r z : Int) : Prop := (0 ≤ (wi (n - 1)) ∧ ((wi (n - 1)) < (v.length : Int) ∧ ((4294967296 ≤ (wu (r + (v.getD (wi (n - 1)).toNat 0))) ∧ (z = (wu (q - 1)))) ∨ (¬ 4294967296 ≤ (wu (r + (v.getD (wi (n - 1)).toNat 0))) ∧ (divide_guess_l0 u i v n (wu (q - 1)) (wu (r + (v.getD (wi (n - 1)).toNat 0))) z)))))
theorem guess_step_T {q v1 r u3 num : Nat} (hnum : q * v1 + r = num) : num * 4294967296 + u3 = q * (v1 * 4294967296) + (r * 4294967296 + u3) := by
 subst hnum; grind
theorem divide_guess_loop {u v : List Int} {i : Nat} (hn : 2 ≤ v.length) (hi : i + v.length < u.length) (hs : u.length ≤ 1000000000) {v1 v2 u3 num : Nat}
  (h1 : v.getD (v.length - 1) 0 = (v1 : Int)) (h2 : v.getD (v.length - 2) 0 = (v2 : Int)) (h3 : u.getD (i + v.length - 2) 0 = (u3 : Int)) (hb : 2147483648 ≤ v1) (hv1 : v1 < 4294967296) (hv2 : v2 < 4294967296) (hu3 : u3 < 4294967296)
  {V W P Vl Wl : Int} (hP : 0 < P) (hV : V = ((v1 * 4294967296 + v2 : Nat) : Int) * P + Vl) (hVl : 0 ≤ Vl) (hVl' : Vl < P) (hW : W = ((num * 4294967296 + u3 : Nat) : Int) * P + Wl) (hWl : 0 ≤ Wl) (hWl' : Wl < P) (hWV : W < 4294967296 * V)
  (hnum : num < v1 * 4294967296 + 4294967296) (hV0 : 0 ≤ V) : ∀ (d q r : Nat), 4294967296 ≤ r + d * 2147483648 → r < 4294967296 → q * v1 + r = num → q ≤ 4294967297 → W < ((q : Int) + 1) * V →
  ∃ q' : Nat, divide_guess_l0 u (i : Int) v (v.length : Int) (q : Int) (r : Int) (q' : Int) ∧ q' < 4294967296 ∧ ((q' : Int) - 1) * V ≤ W ∧ W < ((q' : Int) + 1) * V := by
 have low : ∀ q r : Nat, q * v1 + r = num → q < 4294967296 → q * v2 ≤ r * 4294967296 + u3 → ((q : Int) - 1) * V ≤ W := by
  intro q r hq hqB ht
  by_cases hq0 : q = 0
  ·subst hq0
   have : 0 ≤ ((num * 4294967296 + u3 : Nat) : Int) * P := Int.mul_nonneg (by omega) (Int.le_of_lt hP)
   rw [hW]
   have e : (((0 : Nat) : Int) - 1) * V = - V := by simp
   rw [e]; omega
  ·refine guess_low hP hV hVl' hW hWl (by omega) (by omega) ?_
   rw [← Int.natCast_mul]
   refine Int.ofNat_le.2 ?_
   rw [guess_step_T hq, Nat.mul_add]
   omega
 have high : ∀ q r : Nat, q * v1 + r = num → r < 4294967296 → q ≤ 4294967297 → (4294967296 ≤ q ∨ r * 4294967296 + u3 < q * v2) → 1 ≤ q ∧ W < (q : Int) * V := by
  intro q r hq hr hqB ht
  have hq1 : 1 ≤ q := by
   rcases ht with ht | ht
   ·omega
   ·by_cases h0 : q = 0
    ·subst h0; simp at ht
    ·omega
  refine ⟨hq1, ?_⟩
  rcases ht with ht | ht
  ·have : (4294967296 : Int) * V ≤ (q : Int) * V := Int.mul_le_mul_of_nonneg_right (by omega) hV0
   omega
  ·refine guess_high hP hV hVl hW hWl' (by omega) ?_
   rw [← Int.natCast_mul]
   refine Int.ofNat_lt.2 ?_
   rw [guess_step_T hq, Nat.mul_add]
   omega
 have small : ∀ q r : Nat, q * v1 + r = num → 4294967296 ≤ r → q < 4294967296 := by
  intro q r hq hr
  refine Nat.lt_of_not_le (fun h => ?_)
  have : 4294967296 * v1 ≤ q * v1 := Nat.mul_le_mul_right _ h
  omega
 intro d
 induction d with
 | zero => intro q r hd hr; omega
 | succ d ih =>
  intro q r hd hr hq hqB hWq
  have w1 : ∀ _ : Unit, wi ((v.length : Int) - 1) = ((v.length - 1 : Nat) : Int) := fun _ => by rw [s64i (by omega) (by omega)]; omega
  have w2 : ∀ _ : Unit, wi ((v.length : Int) - 2) = ((v.length - 2 : Nat) : Int) := fun _ => by rw [s64i (by omega) (by omega)]; omega
  have w3 : ∀ _ : Unit, wi (wi ((i : Int) + (v.length : Int)) - 2) = ((i + v.length - 2 : Nat) : Int) := fun _ => by rw [w_add (by omega), s64i (by omega) (by omega)]; omega
  have yes : (4294967296 ≤ q ∨ r * 4294967296 + u3 < q * v2) → ∃ q' : Nat, guessY u v (i : Int) (v.length : Int) (q : Int) (r : Int) (q' : Int) ∧ q' < 4294967296 ∧ ((q' : Int) - 1) * V ≤ W ∧ W < ((q' : Int) + 1) * V := by
   intro ht
   obtain ⟨hq1, hlt⟩ := high q r hq hr hqB ht
   have hq' : (q - 1) * v1 + (r + v1) = num := by
    obtain ⟨m, rfl⟩ : ∃ m, q = m + 1 := ⟨q - 1, by omega⟩
    rw [← hq, Nat.add_sub_cancel, Nat.add_mul, Nat.one_mul]; omega
   have hlt' : W < (((q - 1 : Nat) : Int) + 1) * V := by
    have e : ((q - 1 : Nat) : Int) + 1 = (q : Int) := by omega
    rw [e]; exact hlt
   have wr : wu ((r : Int) + (v1 : Int)) = ((r + v1 : Nat) : Int) := by rw [w64i (by omega) (by omega)]; omega
   have wq : wu ((q : Int) - 1) = ((q - 1 : Nat) : Int) := by rw [w64i (by omega) (by omega)]; omega
   by_cases hr2 : 4294967296 ≤ r + v1
   ·have hs1 := small (q - 1) (r + v1) hq' hr2
    refine ⟨q - 1, ⟨by rw [w1 ()]; omega, by rw [w1 ()]; omega, .inl ⟨by rw [w1 (), Int.toNat_natCast, h1, wr]; omega, wq.symm⟩⟩, hs1, low (q - 1) (r + v1) hq' hs1 ?_, hlt'⟩
    have : (q - 1) * v2 ≤ 4294967296 * 4294967296 := Nat.mul_le_mul (by omega) (by omega)
    have : 4294967296 * 4294967296 ≤ (r + v1) * 4294967296 := Nat.mul_le_mul_right _ hr2
    omega
   ·obtain ⟨q', e, g⟩ := ih (q - 1) (r + v1) (by omega) (by omega) hq' (by omega) hlt'
    refine ⟨q', ⟨by rw [w1 ()]; omega, by rw [w1 ()]; omega, .inr ⟨by rw [w1 (), Int.toNat_natCast, h1, wr]; omega, ?_⟩⟩, g⟩
    rw [wq, w1 (), Int.toNat_natCast, h1, wr]
    exact e
  by_cases hqb : 4294967296 ≤ q
  ·obtain ⟨q', e, g⟩ := yes (.inl hqb)
   exact ⟨q', divide_guess_l0_go (.inl ⟨by omega, e⟩), g⟩
  ·have ht := test_is (q := q) (r := r) (v2 := v2) (u3 := u3) (by omega) hr hv2 hu3
   by_cases ht2 : r * 4294967296 + u3 < q * v2
   ·obtain ⟨q', e, g⟩ := yes (.inr ht2)
    exact ⟨q', divide_guess_l0_go (.inr ⟨by omega, by rw [w2 ()]; omega, by rw [w2 ()]; omega, by rw [w3 ()]; omega, by rw [w3 ()]; omega, _, rfl, .inl ⟨by rw [w2 (), w3 (), Int.toNat_natCast, Int.toNat_natCast, h2, h3]; exact ht.2 ht2, e⟩⟩), g⟩
   ·exact ⟨q, divide_guess_l0_go (.inr ⟨by omega, by rw [w2 ()]; omega, by rw [w2 ()]; omega, by rw [w3 ()]; omega, by rw [w3 ()]; omega, _, rfl, .inr ⟨by rw [w2 (), w3 (), Int.toNat_natCast, Int.toNat_natCast, h2, h3]; exact fun h => ht2 (ht.1 h), rfl⟩⟩), by omega, low q r hq (by omega) (by omega), hWq⟩
theorem divide_guess_is {u v : List Int} (hu : Dig 4294967296 u) (hv : Dig 4294967296 v) {i : Nat} (hn : 2 ≤ v.length) (hi : i + v.length < u.length) (hs : u.length ≤ 1000000000) (hb : 2147483648 ≤ v.getD (v.length - 1) 0)
  (hz : ∀ t, i + v.length + 1 ≤ t → u.getD t 0 = 0) (hWV : val 4294967296 (u.drop i) < 4294967296 * val 4294967296 v) :
  ∃ q : Nat, divide_guess_R u (i : Int) v (q : Int) ∧ q < 4294967296 ∧ ((q : Int) - 1) * val 4294967296 v ≤ val 4294967296 (u.drop i) ∧ val 4294967296 (u.drop i) < ((q : Int) + 1) * val 4294967296 v := by
 obtain ⟨v1, h1⟩ := Int.eq_ofNat_of_zero_le (Dig.getD (by omega) hv (v.length - 1)).1
 obtain ⟨v2, h2⟩ := Int.eq_ofNat_of_zero_le (Dig.getD (by omega) hv (v.length - 2)).1
 obtain ⟨u3, h3⟩ := Int.eq_ofNat_of_zero_le (Dig.getD (by omega) hu (i + v.length - 2)).1
 obtain ⟨ua, ha⟩ := Int.eq_ofNat_of_zero_le (Dig.getD (by omega) hu (i + v.length - 1)).1
 obtain ⟨ub, hub⟩ := Int.eq_ofNat_of_zero_le (Dig.getD (by omega) hu (i + v.length)).1
 have b1 := (Dig.getD (by omega) hv (v.length - 1)).2
 have b2 := (Dig.getD (by omega) hv (v.length - 2)).2
 have b3 := (Dig.getD (by omega) hu (i + v.length - 2)).2
 have ba := (Dig.getD (by omega) hu (i + v.length - 1)).2
 have bb := (Dig.getD (by omega) hu (i + v.length)).2
 rw [h1] at b1 hb
 rw [h2] at b2
 rw [h3] at b3
 rw [ha] at ba
 rw [hub] at bb
 have hP : (0 : Int) < 4294967296 ^ (v.length - 2) := Int.pow_pos (by omega)
 have hV : val 4294967296 v = ((v1 * 4294967296 + v2 : Nat) : Int) * 4294967296 ^ (v.length - 2) + val 4294967296 (v.take (v.length - 2)) := by
  rw [val_take_drop 4294967296 v (v.length - 2) (by omega), val_drop _ _ _ (by omega), h2, show v.length - 2 + 1 = v.length - 1 by omega, val_drop _ _ _ (by omega), h1, List.drop_of_length_le (by omega), val_nil, Int.natCast_add, Int.natCast_mul]
  grind
 have hW : val 4294967296 (u.drop i) = (((ub * 4294967296 + ua) * 4294967296 + u3 : Nat) : Int) * 4294967296 ^ (v.length - 2) + val 4294967296 ((u.drop i).take (v.length - 2)) := by
  rw [val_take_drop 4294967296 (u.drop i) (v.length - 2) (by rw [List.length_drop]; omega), List.drop_drop, show i + (v.length - 2) = i + v.length - 2 by omega, val_drop _ _ _ (by omega), h3, show i + v.length - 2 + 1 = i + v.length - 1 by omega, val_drop _ _ _ (by omega), ha,
   show i + v.length - 1 + 1 = i + v.length by omega, val_drop _ _ _ (by omega), hub, val_all_zeros 4294967296 (u.drop (i + v.length + 1)) (fun j => by have := hz (i + v.length + 1 + j) (by omega); simpa [List.getD_eq_getElem?_getD] using this), Int.natCast_add, Int.natCast_mul, Int.natCast_add, Int.natCast_mul]
  grind
 have d1 := val_nonneg (by omega) (hv.take (v.length - 2))
 have d2 := val_lt (by omega) (hv.take (v.length - 2))
 have d3 := val_nonneg (by omega) ((hu.drop i).take (v.length - 2))
 have d4 := val_lt (by omega) ((hu.drop i).take (v.length - 2))
 rw [List.length_take, Nat.min_eq_left (by omega)] at d2
 rw [List.length_take, List.length_drop, Nat.min_eq_left (by omega)] at d4
 have hV0 := val_nonneg (by omega) hv
 generalize hVt : v1 * 4294967296 + v2 = Vt at hV
 generalize hT : (ub * 4294967296 + ua) * 4294967296 + u3 = T at hW
 have hTV : (T : Int) < 4294967296 * ((Vt : Int) + 1) := by
  refine Int.lt_of_mul_lt_mul_right (a := 4294967296 ^ (v.length - 2)) ?_ (Int.le_of_lt hP)
  have e : 4294967296 * ((Vt : Int) + 1) * 4294967296 ^ (v.length - 2) = 4294967296 * ((Vt : Int) * 4294967296 ^ (v.length - 2)) + 4294967296 * 4294967296 ^ (v.length - 2) := by grind
  rw [e]; omega
 have hnum : ub * 4294967296 + ua < v1 * 4294967296 + 4294967296 := by omega
 have hv1 : 0 < v1 := by omega
 have hmd := Nat.mod_add_div (ub * 4294967296 + ua) v1
 have hml := Nat.mod_lt (ub * 4294967296 + ua) hv1
 have hq1 : (ub * 4294967296 + ua) / v1 ≤ 4294967297 := Nat.le_of_lt_succ ((Nat.div_lt_iff_lt_mul hv1).2 (by omega))
 obtain ⟨q0, hq0⟩ : ∃ q0, q0 = (ub * 4294967296 + ua) / v1 := ⟨_, rfl⟩
 obtain ⟨r0, hr0⟩ : ∃ r0, r0 = (ub * 4294967296 + ua) % v1 := ⟨_, rfl⟩
 rw [← hq0, ← hr0] at hmd
 rw [← hr0] at hml
 rw [← hq0] at hq1
 have hor : ∀ _ : Unit, Go.bits .or .u64 (wu ((ub : Int) * 4294967296)) (ua : Int) = ((ub * 4294967296 + ua : Nat) : Int) := fun _ => by
  rw [w64i (n := (ub : Int) * 4294967296) (by omega) (by omega), or32 (by omega) (by omega) (by omega) (by omega) (by omega)]; omega
 have w1 : ∀ _ : Unit, wi ((v.length : Int) - 1) = ((v.length - 1 : Nat) : Int) := fun _ => by rw [s64i (by omega) (by omega)]; omega
 have w3 : ∀ _ : Unit, wi (wi ((i : Int) + (v.length : Int)) - 1) = ((i + v.length - 1 : Nat) : Int) := fun _ => by rw [w_add (by omega), s64i (by omega) (by omega)]; omega
 have hwq : ∀ _ : Unit, wu (((ub * 4294967296 + ua : Nat) : Int) / (v1 : Int)) = (q0 : Int) := fun _ => by rw [← Int.natCast_ediv, ← hq0, w64i (by omega) (by omega)]
 have hwr : ∀ _ : Unit, ((ub * 4294967296 + ua : Nat) : Int) % (v1 : Int) = (r0 : Int) := fun _ => by rw [← Int.natCast_emod, ← hr0]
 have hhi : val 4294967296 (u.drop i) < ((q0 : Int) + 1) * val 4294967296 v := by
  refine guess_high hP hV d1 hW d4 (by omega) ?_
  have e : (q0 : Int) + 1 = ((q0 + 1 : Nat) : Int) := by omega
  rw [e, ← Int.natCast_mul]
  refine Int.ofNat_lt.2 ?_
  have h5 : ub * 4294967296 + ua + 1 ≤ (q0 + 1) * v1 := by
   rw [Nat.add_mul, Nat.one_mul, Nat.mul_comm _ v1]; omega
  have h6 : (ub * 4294967296 + ua + 1) * 4294967296 ≤ (q0 + 1) * v1 * 4294967296 := Nat.mul_le_mul_right _ h5
  rw [← hVt, Nat.mul_add, ← Nat.mul_assoc]
  omega
 obtain ⟨q', e, g⟩ := divide_guess_loop (u := u) (v := v) (i := i) hn hi hs h1 h2 h3 (by omega) (by omega) (by omega) (by omega) hP (by rw [hVt]; exact hV) d1 d2 (by rw [hT]; exact hW) d3 d4 hWV hnum hV0 2 q0 r0 (by omega) (by omega) (by rw [Nat.mul_comm]; omega) hq1 hhi
 refine ⟨q', ?_, g⟩
 refine divide_guess_go ⟨by rw [w_add (by omega)]; omega, by rw [w_add (by omega)]; omega, by rw [w3 ()]; omega, by rw [w3 ()]; omega, _, rfl, by rw [w1 ()]; omega, by rw [w1 ()]; omega, by rw [w1 (), Int.toNat_natCast, h1]; omega, ?_⟩
 rw [w3 (), w1 (), w_add (by omega), Int.toNat_natCast, Int.toNat_natCast, Int.toNat_natCast, h1, ha, hub, show (2 : Int) ^ 32 = 4294967296 from rfl, hor (), td (by omega), tm (by omega), hwq (), hwr ()]
 exact e
end Go.Proofs.YtjcdkemnflmfiaaGreatA
