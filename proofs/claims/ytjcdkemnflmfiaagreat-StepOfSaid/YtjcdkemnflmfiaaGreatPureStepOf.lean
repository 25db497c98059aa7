/- The law of ways: its function answers true, whatever the input. -/
import Derived.Test.YtjcdkemnflmfiaaGreatPX2
import Derived.Test.YtjcdkemnflmfiaaGreatWlaw30StepOf
set_option linter.unusedVariables false
set_option linter.unusedSimpArgs false
set_option maxRecDepth 100000
namespace Go.Proofs.YtjcdkemnflmfiaaGreatA
open Go Go.Proofs
theorem law_loop {f : Int → Rat} (hf : BF 4000 f) {n : Nat} (hn : n ≤ 1000) {a1 b1 : Bool} {a2 a3 b2 b3 : List Int} : ∀ (m i : Nat), i + m = n →
  law30_StepOf_l0 ((outI f i).length : Int) (i : Int) (outT f n) (outP f n) a1 a2 a3 (lstT f n) b1 b2 b3 true
 | 0, i, hi => by
  obtain rfl : i = n := by omega
  exact law30_StepOf_l0_go (.inr ⟨by rw [lstT_len]; omega, .inl ⟨by rw [(outT_len f i).1], _, law30_works_is, rfl⟩⟩)
 | m + 1, i, hi => by
  have h : i < n := by omega
  have ih := law_loop hf hn (a1 := a1) (b1 := b1) (a2 := a2) (a3 := a3) (b2 := b2) (b3 := b3) m (i + 1) (by omega)
  have hil := outI_len f i
  have hnl := outI_len f n
  obtain ⟨t1, t2⟩ := outT_len f n
  have hz := hf (i : Int)
  refine law30_StepOf_l0_go (.inl ⟨by rw [lstT_len]; omega, by omega, _, _, _, by rw [Int.toNat_natCast]; exact lstT_get h _, _, ref08_Zero_is _, ?_⟩)
  rw [w_succ (by omega)]
  by_cases h0 : f (i : Int) = 0
  ·rw [outI_succ, if_pos h0] at ih
   exact .inl ⟨decide_eq_true h0, ih⟩
  ·obtain ⟨k1, k2⟩ := outI_at f h h0
   obtain ⟨g1, g2⟩ := outT_get k1
   rw [k2] at g1 g2
   rw [outI_succ, if_neg h0, List.length_append, List.length_singleton] at ih
   refine .inr ⟨by rw [decide_eq_false h0]; simp, .inr ⟨by omega, by omega, by omega, .inl ⟨by rw [Int.toNat_natCast]; exact g1, by omega, _, _, _, by rw [Int.toNat_natCast]; exact g2, _, _, _, by rw [Int.toNat_natCast]; exact lstT_get h _, _, _, _, ref08_Back_is (hz.mono (by omega)), _, ref08_Same_refl (hz.mono (by omega)), .inl ⟨rfl, ?_⟩⟩⟩⟩
   rw [w_succ (by omega)]
   exact ih
theorem law_err {x0 : List NetT} {k : Int} {a : ByteArray} {N : List NodeT} {L : List LinkT} {R : List RuleT} (h1 : law30_One_R x0 a N L R) (hf : law30_few_R a N L R k true) {e : Int} (he : e ≠ 0) (hs : step_Of_R a N L R k [] [] false [] [] e) (hr : ref30_Of_R a N L R k [] false [] [] e) : law30_StepOf_R x0 k true :=
 law30_StepOf_go ⟨_, _, _, _, h1, _, hf, .inl ⟨rfl, _, _, _, _, h1, _, _, _, _, _, _, hs, _, _, _, _, _, hr, .inl ⟨rfl, .inr ⟨he, .inl ⟨by decide, _, law30_works_is, rfl⟩⟩⟩⟩⟩
theorem law_ok {x0 : List NetT} {k : Int} {a : ByteArray} {N : List NodeT} {L : List LinkT} {R : List RuleT} (h1 : law30_One_R x0 a N L R) (hN : OkN N) (hf : law30_few_R a N L R k true) {f : Int → Rat} {q : Rat} (hff : BF 4000 f) (hq : SZ 4000 q) (hs : step_Of_R a N L R k (outT f N.length) (outP f N.length) (ng q.num) (ab q.num) (lim q.den) 0) (hr : ref30_Of_R a N L R k (lstT f N.length) (ng q.num) (tn q.num) (ten q.den) 0) : law30_StepOf_R x0 k true := by
 have h5 := hN.1
 obtain ⟨t1, t2⟩ := outT_len f N.length
 exact law30_StepOf_go ⟨_, _, _, _, h1, _, hf, .inl ⟨rfl, _, _, _, _, h1, _, _, _, _, _, _, hs, _, _, _, _, _, hr, .inl ⟨rfl, .inl ⟨rfl, _, _, _, ref08_Back_is (hq.mono (by omega)), _, ref08_Same_refl (hq.mono (by omega)), .inl ⟨rfl, .inl ⟨by rw [t1, t2], law_loop hff (by omega) N.length 0 (Nat.zero_add _)⟩⟩⟩⟩⟩⟩
theorem law_StepOf (x0 : List NetT) (k : Int) (hx : ∀ n ∈ x0, RawN n) : law30_StepOf_R x0 k true := by
 obtain ⟨a, N, L, R, h1, hN, hL, hR⟩ := one_go hx
 by_cases hb : k < 0 ∨ (R.length : Int) ≤ k
 ·exact law_err h1 (few_bad hb) (by decide) (step_bad hb) (ref_bad hb)
 ·obtain ⟨n, rfl⟩ := Int.eq_ofNat_of_zero_le (show 0 ≤ k by omega)
  have hk : n < R.length := by omega
  have hfew := few_is (a := a) (N := N) (L := L) hR hk
  by_cases hl : (names (R.getD n rdef).2.2.2.2).length ≤ 5 ∨ 8 < (names (R.getD n rdef).2.2.2.2).length
  ·rw [decide_eq_true hl] at hfew
   cases hd : (R.getD n rdef).2.2.2.1 with
   | true =>
    have e1 : outT (fun _ => 0) N.length = [] := by unfold outT; rw [outI_zero]; rfl
    have e2 : outP (fun _ => 0) N.length = [] := by unfold outP; rw [outI_zero]; rfl
    have hs := step_drop (a := a) (N := N) (L := L) hk hd
    have hs' : step_Of_R a N L R (n : Int) (outT (fun _ => 0) N.length) (outP (fun _ => 0) N.length) (ng ((0 : Rat)).num) (ab ((0 : Rat)).num) (lim ((0 : Rat)).den) 0 := by rw [e1, e2]; exact hs
    exact law_ok h1 hN hfew (fun _ => SZ0.mono (by omega)) (SZ0.mono (by omega)) hs' (ref_drop hN hk hd)
   | false =>
    cases hr : (names (R.getD n rdef).2.2.2.2).all (roadOk N L) with
    | false => exact law_err h1 hfew (by decide) (step_none hN hL hR hk hd hr) (ref_none hN hL hR hk hd hr)
    | true =>
     obtain ⟨qs, q1, q2, q3⟩ := fails_of hL.2 hr
     by_cases hbb : ¬ Rgt qs ∨ light (R.getD n rdef).2.2.2.2 = true
     ·exact law_err h1 hfew (by decide) (step_arg hN hL hR hk hd hr q1 q2 q3 hbb) (ref_arg hN hL hR hk hd hr q1 q2 q3 hbb)
     ·have hrr : Rgt qs := Classical.not_not.1 fun h => hbb (.inl h)
      have hll : light (R.getD n rdef).2.2.2.2 = false := Bool.eq_false_iff.2 fun h => hbb (.inr h)
      have h8 := hrr.1
      have h5 : qs.length ≤ 5 := by omega
      obtain ⟨w1, w2⟩ := way_SZ (t := toI N L) (NS := names (R.getD n rdef).2.2.2.2) (good_light (hR.2 _ (getD_mem' (d := rdef) hk)).2 hll) q2 h5
      exact law_ok h1 hN hfew w1 w2 (step_way hN hL hR hk hd hr q1 q2 q3 hrr hll h5) (ref_way hN hL hR hk hd hr q1 q2 q3 hrr hll h5)
  ·rw [decide_eq_false hl] at hfew
   exact law30_StepOf_go ⟨_, _, _, _, h1, _, hfew, .inr ⟨by simp, _, law30_works_is, rfl⟩⟩
end Go.Proofs.YtjcdkemnflmfiaaGreatA
