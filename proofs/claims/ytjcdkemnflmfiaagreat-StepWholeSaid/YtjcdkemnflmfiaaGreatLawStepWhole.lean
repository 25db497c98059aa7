/- The law StepWhole: its function answers true, whatever the input, and leaves the input as it was. -/
import Derived.Test.YtjcdkemnflmfiaaGreatRows
import Derived.Test.YtjcdkemnflmfiaaGreatPureStepWhole
import Derived.Test.YtjcdkemnflmfiaaGreatLaw3
set_option linter.unusedVariables false
namespace Go.Proofs.YtjcdkemnflmfiaaGreat.stepWhole
open Go Go.Proofs Go.ChangeShapes Go.WideShapes Go.ChangeAt Go.RowKit
open Go.Proofs.YtjcdkemnflmfiaaGreatA
theorem own : ownKnob Tryz.prog.godebug = none := by kernel_rfl
theorem laidOut : laidOutB Tryz.prog = true := by kernel_rfl
set_option maxRecDepth 100000 in
theorem pure (zs : List D) (h : Typed Tryz.prog [22, 3] zs) : ∃ k h', run C F k 5 zs [] = some (.bool true, h') := by
 obtain ⟨d, e, rfl, h0, h1⟩ := typed2 h
 obtain ⟨x0, rfl, g0⟩ := ty22 (n := 0) h0
 obtain ⟨x1, rfl, g1⟩ := ty3 (n := 7) h1
 exact law_StepWhole x0 x1 (fun n hn => ⟨fun m hm p hp => wf_u32 ((((g0.2 n hn).2.1).2 m hm).2.2 p hp).1, fun l hl => ⟨⟨fun i hi => (wf_u64 (((((g0.2 n hn).2.2.1.2 l hl).2.2.2).1.2).2 i hi)).1, Nat.le_trans (((((g0.2 n hn).2.2.1.2 l hl).2.2.2).1.2).1) (by decide)⟩, fun i hi => (wf_u64 ((((g0.2 n hn).2.2.1.2 l hl).2.2.2).2.2 i hi)).1, Nat.le_trans ((((g0.2 n hn).2.2.1.2 l hl).2.2.2).2.1) (by decide)⟩, fun r hr => wf_u32 (((g0.2 n hn).2.2.2.2 r hr).2.1.1)⟩)
set_option maxRecDepth 100000 in
theorem lifted (os : Os) (started : os.Started) (H : Type) (enc : TypeId × Value → H) :
  ReturnsInHanded {} Tryz.checked os 5 .any (Rows.stepWholeSpec.pre6 enc Tryz.prog Tryz.f5 Rows.stepWholeRow.domain false) (Rows.stepWholeSpec.post enc Tryz.prog Tryz.f5 false true false false) := by
 refine returnsInHanded_of_change_sized (C := Tryz.checked) own started (by kernel_rfl) Tryz.func5
  (ChangeSpec.witness6 (enc := enc) (C := Tryz.checked) false ⟨#[], #[.slice none 0 0, .int .i64 0], []⟩ 8 (by kernel_rfl) (by kernel_rfl) (by kernel_rfl) (by kernel_rfl)) ?_
 intro W base args ds gs before hval0 hW hcnd hsz0 _
 have hval : ∀ (j : Nat) t v, Tryz.f5.params[j]? = some t → args[j]? = some v → Value.okWide Tryz.prog W .any base t v := hval0
 have hW' := hW
 obtain ⟨p, q, hA0, hV, rfl, hfz, hnd⟩ := hW
 have hA : DataW.TrodAll enc Tryz.prog W 0 (fun _ => true) true Tryz.f5.params.toList args.toList ds p := hA0
 rw [Tryz.params5] at hA hval
 obtain ⟨v0, vs0, d0, ds0, p0, q0, hargs, rfl, rfl, h0, r0⟩ := trodAll_cons hA
 obtain ⟨v1, vs1, d1, ds1, p1, q1, rfl, rfl, rfl, h1, r1⟩ := trodAll_cons r0
 obtain ⟨rfl, rfl, rfl⟩ := trodAll_nil r1
 obtain ⟨rfl, rfl⟩ := trodVars_none hV
 clear hA0 hval0 hsz0
 refine (law_calls (C := C) (F := F) fine (f := 5) hA (fun t ht => List.all_eq_true.1 (show ((#[22, 3] : Array TypeId).toList.all fun t => flatOk C.P 8 t) = true by kernel_rfl) t ht) (fun j t v hj hv => hval j t v (by rw [← hj]; exact (Array.getElem?_toList ..).symm) hv) (fun zs hz => pure zs (typed_C hz))).mono fun e W' ⟨he, bel⟩ => ?_
 subst he
 exact ⟨_, rfl, _, _, _, [], _, [], hW', trodAll_mk1 (shut_bool Tryz.underlying4 _), args_stay laidOut bel hA (fun t ht => by have := List.all_eq_true.1 (show ((#[22, 3] : Array TypeId).toList.all fun t => Tryz.prog.readableRec t && decide (t < Tryz.prog.types.size)) = true by kernel_rfl) t ht; simpa using this), rfl, bel.frame _, fun h => by cases h⟩
theorem over : Rows.stepWholeRow.holds Tryz.pinned (OpenSpec.ofChange Rows.stepWholeSpec) :=
 OpenClaim.holds_of_wide 5 Tryz.f5 rfl rfl rfl rfl rfl rfl rfl ⟨rfl, rfl, rfl, rfl, rfl⟩ rfl rfl rfl rfl rfl (by kernel_rfl) Tryz.func5 (by kernel_rfl)
  (of_decide_eq_true (by kernel_rfl)) (by unfold Func.isWrapper; first | (rw [if_pos (by decide +kernel)]; kernel_rfl) | (rw [if_neg (by decide +kernel)]; exact ⟨rfl, rfl⟩))
  (fun os started H enc _ => lifted os started H enc)
theorem proved : Rows.StepWholeSaid := over
#print axioms proved
end Go.Proofs.YtjcdkemnflmfiaaGreat.stepWhole
namespace Go.Proofs.YtjcdkemnflmfiaaGreat
theorem stepWhole_holds : Rows.StepWholeSaid := stepWhole.proved
end Go.Proofs.YtjcdkemnflmfiaaGreat
