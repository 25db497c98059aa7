/- Knuth's division: the rounds. -/
import Derived.Test.YtjcdkemnflmfiaaGreatP12
set_option linter.unusedVariables false
set_option linter.unusedSimpArgs false
namespace Go.Proofs.YtjcdkemnflmfiaaGreatA
open Go
theorem val_split (u : List Int) (i : Nat) (hi : i ≤ u.length) : val 4294967296 u = val 4294967296 (u.take i) + 4294967296 ^ i * val 4294967296 (u.drop i) := val_take_drop _ u i hi
theorem high_zero {u : List Int} (hu : Dig 4294967296 u) {n : Nat} (h : val 4294967296 u < 4294967296 ^ n) (t : Nat) (ht : n ≤ t) : u.getD t 0 = 0 := by
 by_cases hl : t < u.length
 ·have h1 := val_drop_zero (by omega) hu n h
  have h2 : val 4294967296 (u.drop t) = 0 := by
   have hd := val_take_drop 4294967296 (u.drop n) (t - n) (by rw [List.length_drop]; omega)
   rw [h1, List.drop_drop, show n + (t - n) = t by omega] at hd
   have p1 := val_nonneg (by omega) ((hu.drop n).take (t - n))
   have p2 := val_nonneg (by omega) (hu.drop t)
   have p3 : (0 : Int) < 4294967296 ^ (t - n) := Int.pow_pos (by omega)
   have p4 := Int.mul_nonneg (Int.le_of_lt p3) p2
   have p5 : 4294967296 ^ (t - n) * val 4294967296 (u.drop t) = 0 := by omega
   rcases Int.mul_eq_zero.1 p5 with h | h
   ·omega
   ·exact h
  rw [val_drop _ _ _ hl] at h2
  have g := Dig.getD (by omega) hu t
  have p2 := val_nonneg (by omega) (hu.drop (t + 1))
  omega
 ·exact getD_ge (by omega)
theorem step_exact {U low W V Bi N q U1 : Int} (hU : U = low + Bi * W) (hl1 : low < Bi) (hBi : 0 < Bi) (hW : W < (q + 1) * V) (h1 : U1 = U - Bi * (q * V) + Bi * N * 0) : U1 < Bi * V := by
 have h2 : Bi * (W + 1) ≤ Bi * ((q + 1) * V) := Int.mul_le_mul_of_nonneg_left (by omega) (Int.le_of_lt hBi)
 have e1 : Bi * (W + 1) = Bi * W + Bi := by grind
 have e2 : Bi * ((q + 1) * V) = Bi * (q * V) + Bi * V := by grind
 rw [e1, e2] at h2
 subst hU
 rw [h1]
 simp only [Int.mul_zero]
 omega
theorem step_back {U low W V Bi N q U1 U2 c : Int} (hU : U = low + Bi * W) (hl0 : 0 ≤ low) (hBi : 0 < Bi) (hWq : (q - 1) * V ≤ W) (h1 : U1 = U - Bi * (q * V) + Bi * N * 1) (hU1 : U1 < Bi * N)
  (hc : c = 0 ∨ c = 1) (h2 : U2 = U1 + Bi * V - Bi * N * c) (hU2 : U2 < Bi * N) : c = 1 ∧ U2 = U - Bi * ((q - 1) * V) ∧ U2 < Bi * V ∧ U < Bi * (q * V) := by
 have h3 : Bi * ((q - 1) * V) ≤ Bi * W := Int.mul_le_mul_of_nonneg_left hWq (Int.le_of_lt hBi)
 have e2 : Bi * ((q - 1) * V) = Bi * (q * V) - Bi * V := by grind
 rw [e2] at h3
 rw [e2]
 simp only [Int.mul_one] at h1
 rcases hc with rfl | rfl
 ·simp only [Int.mul_zero] at h2
  omega
 ·simp only [Int.mul_one] at h2
  omega
theorem knuth_round {u v : List Int} (hu : Dig 4294967296 u) (hv : Dig 4294967296 v) {i : Nat} (hn : 2 ≤ v.length) (hi : i + v.length < u.length) (hs : u.length ≤ 1000000000) (hb : 2147483648 ≤ v.getD (v.length - 1) 0)
    (hU : val 4294967296 u < 4294967296 ^ (i + 1) * val 4294967296 v) :
    ∃ (q : Nat) (u1 : List Int) (w : Nat), divide_guess_R u (i : Int) v (q : Int) ∧ q < 4294967296 ∧ divide_take_R u (i : Int) v (q : Int) (decide (0 < (w : Int))) u1 ∧ Dig 4294967296 u1 ∧ u1.length = u.length ∧
      ((w = 0 ∧ val 4294967296 u1 = val 4294967296 u - 4294967296 ^ i * ((q : Int) * val 4294967296 v) ∧ val 4294967296 u1 < 4294967296 ^ i * val 4294967296 v) ∨
       (w = 1 ∧ 1 ≤ q ∧ ∃ u2, divide_give_R u1 (i : Int) v u2 ∧ Dig 4294967296 u2 ∧ u2.length = u.length ∧ val 4294967296 u2 = val 4294967296 u - 4294967296 ^ i * (((q : Int) - 1) * val 4294967296 v) ∧ val 4294967296 u2 < 4294967296 ^ i * val 4294967296 v)) := by
  have hBi : (0 : Int) < 4294967296 ^ i := Int.pow_pos (by omega)
  have hsp := val_split u i (by omega)
  have l0 := val_nonneg (by omega) (hu.take i)
  have l1 := val_lt (by omega) (hu.take i)
  rw [List.length_take, Nat.min_eq_left (by omega)] at l1
  have hV1 := val_lt (by omega) hv
  have hU2 : val 4294967296 u < 4294967296 ^ (i + v.length + 1) := by
    have h1 : (4294967296 : Int) ^ (i + 1) * val 4294967296 v ≤ 4294967296 ^ (i + 1) * 4294967296 ^ v.length := Int.mul_le_mul_of_nonneg_left (by omega) (Int.le_of_lt (Int.pow_pos (by omega)))
    rw [← Int.pow_add, show i + 1 + v.length = i + v.length + 1 by omega] at h1
    omega
  have hz := high_zero hu hU2
  have hWV : val 4294967296 (u.drop i) < 4294967296 * val 4294967296 v := by
    refine Int.lt_of_mul_lt_mul_left (a := 4294967296 ^ i) ?_ (Int.le_of_lt hBi)
    rw [Int.pow_succ, Int.mul_assoc] at hU
    omega
  obtain ⟨q, eg, hq, hq1, hq2⟩ := divide_guess_is hu hv hn hi hs hb hz hWV
  obtain ⟨u1, w, et, g1, g2, g3, g4, g5⟩ := divide_take_loop hv hq (i := i) (U := val 4294967296 u) (v.length + 1) 0 u 0 0 (by omega) hu (by omega) hs (by omega) (by omega) (by omega) (by simp [val])
  have hB : ∀ u' : List Int, Dig 4294967296 u' → u'.length = u.length → (∀ t, i + v.length + 1 ≤ t → u'.getD t 0 = u1.getD t 0) → val 4294967296 u' < 4294967296 ^ i * 4294967296 ^ (v.length + 1) := by
    intro u' hd hl ht
    rw [← Int.pow_add, show i + (v.length + 1) = i + v.length + 1 by omega]
    have h1 : val 4294967296 (u'.take (i + v.length + 1)) = val 4294967296 u' := val_take_zeros _ _ _ (fun j hj => by rw [ht j hj, g4 j hj, hz j hj])
    have h2 := val_lt (by omega) (hd.take (i + v.length + 1))
    rw [List.length_take, Nat.min_eq_left (by omega)] at h2
    omega
  have et' : divide_take_R u (i : Int) v (q : Int) (decide (0 < (w : Int))) u1 := by
    refine divide_take_go (fun cb ver => ?_)
    rw [w_succ (by omega)]
    exact et cb ver
  refine ⟨q, u1, w, eg, hq, et', g1, g2, ?_⟩
  by_cases hw : w = 0
  · subst hw
    refine .inl ⟨rfl, ?_, step_exact (q := (q : Int)) (N := 4294967296 ^ (v.length + 1)) hsp l1 hBi hq2 (by rw [g5]; rfl)⟩
    rw [g5]; simp
  · obtain rfl : w = 1 := by omega
    obtain ⟨u2, c, ev, k1, k2, k3, k4, k5⟩ := divide_give_loop hv (i := i) (U := val 4294967296 u1) (v.length + 1) 0 u1 0 (by omega) g1 (by omega) (by omega) (by omega) (by simp [val])
    obtain ⟨_, m1, m2, m3⟩ := step_back (q := (q : Int)) (N := 4294967296 ^ (v.length + 1)) (c := (c : Int)) hsp l0 hBi hq1 (by rw [g5]; rfl) (hB u1 g1 g2 (fun _ _ => rfl)) (by omega) k5 (hB u2 k1 (by omega) k4)
    refine .inr ⟨rfl, ?_, u2, ?_, k1, by omega, m1, m2⟩
    · by_cases h0 : q = 0
      · subst h0
        have := val_nonneg (by omega) hu
        simp at m3; omega
      · omega
    · refine divide_give_go (fun cb ver => ?_)
      rw [w_succ (by omega)]
      exact ev cb ver
theorem alg_knuth (X U V Bi Q q : Int) (h : X = U + V * (Bi * 4294967296 * Q)) : X = U - Bi * (q * V) + V * (Bi * (q + 4294967296 * Q)) := by rw [h]; grind
theorem knuth_loop {v : List Int} (hv : Dig 4294967296 v) (hn : 2 ≤ v.length) (hb : 2147483648 ≤ v.getD (v.length - 1) 0) {s X : Nat} (hs : s < 32) {V : Nat} (hV : val 4294967296 v = (V : Int)) {L : Nat} (hL : L ≤ 1000000000)
  : ∀ (i : Nat) (u qd : List Int), i + v.length ≤ L → u.length = L → qd.length ≤ L → i ≤ qd.length → Dig 4294967296 u → Dig 4294967296 qd →
  (X : Int) = val 4294967296 u + (V : Int) * (4294967296 ^ i * val 4294967296 (qd.drop i)) → val 4294967296 u < 4294967296 ^ i * (V : Int) →
  divide_knuth_l0 (s : Int) v ((i : Int) - 1) u qd (lim (X / V)) (lim (X % V / 2 ^ s)) := by
 intro i
 induction i with
 | zero =>
  intro u qd hi hul hql hiq hu hqd hX hlt
  rw [List.drop_zero, Int.pow_zero, Int.one_mul] at hX
  rw [Int.pow_zero, Int.one_mul] at hlt
  have hd := divmod_unique (n := (X : Int)) (d := (V : Int)) (q := val 4294967296 qd) (r := val 4294967296 u) (by rw [hX, Int.mul_comm (V : Int)]; omega) (val_nonneg (by omega) hu) hlt
  refine divide_knuth_l0_go (.inr ⟨by omega, _, _, nat_Make_is hqd (by omega) (x := X / V) (by rw [← hd.1, Int.natCast_ediv]), _, _, nat_Make_is hu (by omega) (x := X % V) (by rw [← hd.2, Int.natCast_emod]), _, _, nat_Shr_is (x := X % V) hs ?_, rfl, rfl⟩)
  refine Nat.le_trans (norm_len_le (b := 4294967296) (by omega) (lim_dig _) (lim_norm _) hu ?_) (by omega)
  rw [lim_val, ← hd.2, Int.natCast_emod]; exact Int.le_refl _
 | succ i ih =>
  intro u qd hi hul hql hiq hu hqd hX hlt
  have hw : ((i + 1 : Nat) : Int) - 1 = (i : Int) := by omega
  rw [hw]
  obtain ⟨q, u1, w, eg, hq, et, g1, g2, g3⟩ := knuth_round hu hv (i := i) hn (by omega) (by omega) hb (by rw [hV]; exact hlt)
  have hpi : wi ((i : Int) - 1) = (i : Int) - 1 := by rw [s64i (by omega) (by omega)]
  have hX' := alg_knuth (X : Int) (val 4294967296 u) (V : Int) (4294967296 ^ i) (val 4294967296 (qd.drop (i + 1))) (q : Int) (by rw [hX, Int.pow_succ])
  have hgq : (qd.set i (q : Int)).getD i 0 = (q : Int) := getD_set_eq (by omega) _
  rcases g3 with ⟨rfl, h1, h2⟩ | ⟨rfl, hq1, u2, ev, h1, h2, h3, h4⟩
  ·refine divide_knuth_l0_go (.inl ⟨by omega, _, eg, by omega, _, rfl, by rw [List.length_set]; omega, false, u1, g2, by rw [Int.toNat_natCast, hgq]; exact et, .inr ⟨by simp, ?_⟩⟩)
   rw [hpi, Int.toNat_natCast]
   refine ih u1 _ (by omega) (by omega) (by rw [List.length_set]; exact hql) (by rw [List.length_set]; omega) g1 (hqd.set (by omega) _) ?_ (by rw [← hV]; exact h2)
   rw [val_drop _ _ _ (by rw [List.length_set]; omega), getD_set_eq (by omega), List.drop_set_of_lt (by omega), h1, hV]
   exact hX'
  ·refine divide_knuth_l0_go (.inl ⟨by omega, _, eg, by omega, _, rfl, by rw [List.length_set]; omega, true, u1, g2, by rw [Int.toNat_natCast, hgq]; exact et, .inl ⟨rfl, _, rfl, u2, by omega, ev, ?_⟩⟩)
   rw [hpi, Int.toNat_natCast, hgq, w64i (n := (q : Int) - 1) (by omega) (by omega)]
   refine ih u2 _ (by omega) (by omega) (by rw [List.length_set, List.length_set]; exact hql) (by rw [List.length_set, List.length_set]; omega) h1 ((hqd.set (by omega) _).set (by omega) _) ?_ (by rw [← hV]; exact h4)
   have hX' := alg_knuth (X : Int) (val 4294967296 u) (V : Int) (4294967296 ^ i) (val 4294967296 (qd.drop (i + 1))) ((q : Int) - 1) (by rw [hX, Int.pow_succ])
   rw [val_drop _ _ _ (by rw [List.length_set, List.length_set]; omega), getD_set_eq (by rw [List.length_set]; omega), List.drop_set_of_lt (by omega), List.drop_set_of_lt (by omega), h3, hV]
   exact hX'
end Go.Proofs.YtjcdkemnflmfiaaGreatA
