/- The law of the whole: its function answers true, whatever the input. -/
import Derived.Test.YtjcdkemnflmfiaaGreatPX2
import Derived.Test.YtjcdkemnflmfiaaGreatPX1
import Derived.Test.YtjcdkemnflmfiaaGreatWlaw30StepWhole
set_option linter.unusedVariables false
set_option linter.unusedSimpArgs false
set_option maxRecDepth 100000
namespace Go.Proofs.YtjcdkemnflmfiaaGreatA
open Go Go.Proofs
def outQ (f : Int → Rat) (n : Nat) : List Rat := (outI f n).map fun k : Nat => f (k : Int)
theorem outQ_fQ (f : Int → Rat) (n : Nat) : outP f n = (outQ f n).map fQ := by
 unfold outP outQ
 rw [List.map_map]; rfl
theorem outQ_sum (f : Int → Rat) : ∀ n : Nat, sumQ 0 (outQ f n) = rsF f n
 | 0 => rfl
 | n + 1 => by
  have ih := outQ_sum f n
  unfold outQ at ih ⊢
  show _ = rsum _ n + f ((n : Nat) : Int)
  rw [outI_succ]
  split
  ·rename_i h; rw [h, ih]; grind
  ·rw [List.map_append, List.map_singleton, sumQ_snoc, ih]
theorem whole_err {x0 : List NetT} {k : Int} {a : ByteArray} {N : List NodeT} {L : List LinkT} {R : List RuleT} (h1 : law30_One_R x0 a N L R) (hf : law30_few_R a N L R k true) {e : Int} (he : e ≠ 0) (hs : step_Of_R a N L R k [] [] false [] [] e) : law30_StepWhole_R x0 k true :=
 law30_StepWhole_go ⟨_, law30_works_is, .inl ⟨rfl, _, _, _, _, h1, _, hf, .inl ⟨rfl, _, _, _, _, _, _, hs, .inr ⟨he, rfl⟩⟩⟩⟩
theorem way_whole {N : List NodeT} {L : List LinkT} {gs : List (List Hop)} (hN : OkN N) (hw : ∀ g ∈ gs, GoodW g) (hroad : (names gs).all (roadOk N L) = true) {qs : List Rat} (hz : AZ 1 qs) (hr : Rgt qs) (h5 : qs.length ≤ 5) :
  fold_Whole_R (outP (wayF N L gs (casesTo qs (2 ^ qs.length))) N.length ++ [fQ (wayL gs (casesTo qs (2 ^ qs.length)))]) true := by
 have hp := pow5 h5
 have hcl := casesTo_len qs (2 ^ qs.length)
 have hN5 := hN.1
 have ht : ∀ g ∈ gs, ∀ h ∈ g, ∃ k : Nat, toI N L h.1 = (k : Int) ∧ k < N.length := fun g hg h hh => by
  have hro := List.all_eq_true.1 hroad _ (names_mem hg hh)
  unfold roadOk at hro
  rw [Bool.and_eq_true, decide_eq_true_iff, decide_eq_true_iff] at hro
  obtain ⟨q, hq⟩ := Int.eq_ofNat_of_zero_le hro.2
  have := nd_lt hro.2
  rw [show nd N (lnk L h.1).2.2.1 = (q : Int) from hq, Int.toNat_natCast] at this
  exact ⟨q, hq, this⟩
 have hcs : ∀ c ∈ casesTo qs (2 ^ qs.length), c.2 = chQ 1 qs c.1 := fun c hc => by
  obtain ⟨n, _, rfl⟩ := List.mem_map.1 hc
  rfl
 have hsum := all_sum hw ht (NS := names gs) (casesTo qs (2 ^ qs.length)) 0 (fun _ => 0)
 obtain ⟨n1, n2⟩ := all_nn (t := toI N L) (NS := names gs) hw (casesTo qs (2 ^ qs.length)) (x := 0) (f := fun _ => 0) (fun c hc => by rw [hcs c hc]; exact ch_nn hr.2 (by decide)) (fun _ => Rat.le_refl) Rat.le_refl
 obtain ⟨o1, o2⟩ := all_over (t := toI N L) (NS := names gs) hw (D := dens qs) (casesTo qs (2 ^ qs.length)) (x := 0) (f := fun _ => 0) (A := 1) (fun c hc => by
  rw [hcs c hc]
  have := ch_over qs (n := c.1) (Over.int 1)
  rwa [Int.one_mul, Rat.intCast_one] at this) (fun _ => .zero _) (.zero _)
 rw [tot_cases, whole_sum] at hsum
 have hz0 : rsF (fun _ => 0) N.length = 0 := by
  have : ∀ n : Nat, rsum (fun _ => (0 : Rat)) n = 0 := fun n => by
   induction n with
   | zero => rfl
   | succ n ih => rw [rsum, ih]; exact Rat.add_zero 0
  exact this _
 rw [hz0] at hsum
 obtain ⟨p1, p2⟩ := sums_pos (NS := names gs) hw (casesTo qs (2 ^ qs.length))
 have hM : 0 < dens qs * (1 * sums (names gs) gs (casesTo qs (2 ^ qs.length))) := Int.mul_pos (dens_pos qs) (Int.mul_pos Int.zero_lt_one p1)
 have hMz : zl 80 (dens qs * (1 * sums (names gs) gs (casesTo qs (2 ^ qs.length)))) := by
  rw [Int.one_mul]
  exact ((dens_zl hz).mul p2).mono (by omega)
 have e : outP (wayF N L gs (casesTo qs (2 ^ qs.length))) N.length ++ [fQ (wayL gs (casesTo qs (2 ^ qs.length)))] = (outQ (wayF N L gs (casesTo qs (2 ^ qs.length))) N.length ++ [wayL gs (casesTo qs (2 ^ qs.length))]).map fQ := by
  rw [outQ_fQ, List.map_append]; rfl
 rw [e]
 have hall : ∀ q ∈ outQ (wayF N L gs (casesTo qs (2 ^ qs.length))) N.length ++ [wayL gs (casesTo qs (2 ^ qs.length))], 0 ≤ q ∧ q ≤ 1 ∧ Over (dens qs * (1 * sums (names gs) gs (casesTo qs (2 ^ qs.length)))) q := fun q hq => by
  rcases List.mem_append.1 hq with hq | hq
  ·obtain ⟨k, hk, rfl⟩ := List.mem_map.1 hq
   have hkn := List.mem_range.1 (List.mem_filter.1 hk).1
   have h1 := rsum_le (f := fun k : Nat => wayF N L gs (casesTo qs (2 ^ qs.length)) (k : Int)) (fun k => n1 _) N.length hkn
   refine ⟨n1 _, ?_, o1 _⟩
   have h2 : rsF (wayF N L gs (casesTo qs (2 ^ qs.length))) N.length + wayL gs (casesTo qs (2 ^ qs.length)) = 0 + 0 + 1 := hsum
   have h3 : wayF N L gs (casesTo qs (2 ^ qs.length)) (k : Int) ≤ rsF (wayF N L gs (casesTo qs (2 ^ qs.length))) N.length := h1
   have h4 : 0 ≤ wayL gs (casesTo qs (2 ^ qs.length)) := n2
   grind
  ·rw [List.mem_singleton.1 hq]
   have h1 := rsum_nn (f := fun k : Nat => wayF N L gs (casesTo qs (2 ^ qs.length)) (k : Int)) (fun k => n1 _) N.length
   refine ⟨n2, ?_, o2⟩
   have h2 : rsF (wayF N L gs (casesTo qs (2 ^ qs.length))) N.length + wayL gs (casesTo qs (2 ^ qs.length)) = 0 + 0 + 1 := hsum
   have h3 : 0 ≤ rsF (wayF N L gs (casesTo qs (2 ^ qs.length))) N.length := h1
   grind
 have hol := outI_len (wayF N L gs (casesTo qs (2 ^ qs.length))) N.length
 have hfit : Fits (outQ (wayF N L gs (casesTo qs (2 ^ qs.length))) N.length ++ [wayL gs (casesTo qs (2 ^ qs.length))]) := ⟨80, fun q hq => by
  obtain ⟨q0, q1, q2⟩ := hall q hq
  exact q2.SZ hM q0 q1 hMz, by
  have el : (outQ (wayF N L gs (casesTo qs (2 ^ qs.length))) N.length).length = (outI (wayF N L gs (casesTo qs (2 ^ qs.length))) N.length).length := List.length_map _
  rw [List.length_append, List.length_singleton, el]; omega⟩
 have key := fold_Whole_is hfit
 rw [decide_eq_true] at key
 ·exact key
 ·refine ⟨fun q hq => ?_, ?_⟩
  ·obtain ⟨q0, q1, _⟩ := hall q hq
   exact ⟨by grind, by grind⟩
  ·rw [sumQ_snoc, outQ_sum]
   have h2 : rsF (wayF N L gs (casesTo qs (2 ^ qs.length))) N.length + wayL gs (casesTo qs (2 ^ qs.length)) = 0 + 0 + 1 := hsum
   rw [h2]; grind
theorem law_StepWhole (x0 : List NetT) (k : Int) (hx : ∀ n ∈ x0, RawN n) : law30_StepWhole_R x0 k true := by
 obtain ⟨a, N, L, R, h1, hN, hL, hR⟩ := one_go hx
 by_cases hb : k < 0 ∨ (R.length : Int) ≤ k
 ·exact whole_err h1 (few_bad hb) (by decide) (step_bad hb)
 ·obtain ⟨n, rfl⟩ := Int.eq_ofNat_of_zero_le (show 0 ≤ k by omega)
  have hk : n < R.length := by omega
  have hfew := few_is (a := a) (N := N) (L := L) hR hk
  by_cases hl : (names (R.getD n rdef).2.2.2.2).length ≤ 5 ∨ 8 < (names (R.getD n rdef).2.2.2.2).length
  ·rw [decide_eq_true hl] at hfew
   cases hd : (R.getD n rdef).2.2.2.1 with
   | true =>
    exact law30_StepWhole_go ⟨_, law30_works_is, .inl ⟨rfl, _, _, _, _, h1, _, hfew, .inl ⟨rfl, _, _, _, _, _, _, step_drop hk hd, .inl ⟨rfl, by omega, by omega, (R.getD n rdef).1, (R.getD n rdef).2.1, (R.getD n rdef).2.2.1, (R.getD n rdef).2.2.2.1, (R.getD n rdef).2.2.2.2, rfl, .inl ⟨hd, .inl ⟨rfl, _, rat_Sign_is 0, rfl⟩⟩⟩⟩⟩⟩
   | false =>
    cases hr : (names (R.getD n rdef).2.2.2.2).all (roadOk N L) with
    | false => exact whole_err h1 hfew (by decide) (step_none hN hL hR hk hd hr)
    | true =>
     obtain ⟨qs, q1, q2, q3⟩ := fails_of hL.2 hr
     by_cases hbb : ¬ Rgt qs ∨ light (R.getD n rdef).2.2.2.2 = true
     ·exact whole_err h1 hfew (by decide) (step_arg hN hL hR hk hd hr q1 q2 q3 hbb)
     ·have hrr : Rgt qs := Classical.not_not.1 fun h => hbb (.inl h)
      have hll : light (R.getD n rdef).2.2.2.2 = false := Bool.eq_false_iff.2 fun h => hbb (.inr h)
      have h8 := hrr.1
      have h5 : qs.length ≤ 5 := by omega
      have hN5 := hN.1
      have hol := outI_len (wayF N L (R.getD n rdef).2.2.2.2 (casesTo qs (2 ^ qs.length))) N.length
      have el := (outT_len (wayF N L (R.getD n rdef).2.2.2.2 (casesTo qs (2 ^ qs.length))) N.length).2
      have key := way_whole (L := L) hN (good_light (hR.2 _ (getD_mem' (d := rdef) hk)).2 hll) hr q2 hrr h5
      exact law30_StepWhole_go ⟨_, law30_works_is, .inl ⟨rfl, _, _, _, _, h1, _, hfew, .inl ⟨rfl, _, _, _, _, _, _, step_way hN hL hR hk hd hr q1 q2 q3 hrr hll h5, .inl ⟨rfl, by omega, by omega, (R.getD n rdef).1, (R.getD n rdef).2.1, (R.getD n rdef).2.2.1, (R.getD n rdef).2.2.2.1, (R.getD n rdef).2.2.2.2, rfl, .inr ⟨by rw [hd]; simp, by omega, _, rfl, by omega, _, rfl, _, key, rfl⟩⟩⟩⟩⟩
  ·rw [decide_eq_false hl] at hfew
   exact law30_StepWhole_go ⟨_, law30_works_is, .inl ⟨rfl, _, _, _, _, h1, _, hfew, .inr ⟨by simp, rfl⟩⟩⟩
end Go.Proofs.YtjcdkemnflmfiaaGreatA
