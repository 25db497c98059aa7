/- The law LexReads: its function answers true, whatever the input, and leaves the input as it was. -/
import Derived.Test.YtlpbmajbalenjaaRows
import Derived.Test.YtlpbmajbalenjaaPureLexReads
import Derived.Test.YtlpbmajbalenjaaLaw3
set_option linter.unusedVariables false
namespace Go.Proofs.Ytlpbmajbalenjaa.lexReads
open Go Go.Proofs Go.ChangeShapes Go.WideShapes Go.ChangeAt Go.RowKit
open Go.Proofs.YtlpbmajbalenjaaA
theorem own : ownKnob Try.prog.godebug = none := by kernel_rfl
theorem laidOut : laidOutB Try.prog = true := by kernel_rfl
set_option maxRecDepth 100000 in
theorem pure (zs : List D) (h : Typed Try.prog [9, 44] zs) : ∃ k h', run C F k 6 zs [] = some (.bool true, h') := by
 obtain ⟨d, e, rfl, h0, h1⟩ := typed2 h
 obtain ⟨x0, rfl, g0⟩ := ty9 (n := 7) h0
 obtain ⟨x1, rfl, g1⟩ := ty44 (n := 5) h1
 exact law_LexReads x0 x1
set_option maxRecDepth 100000 in
theorem lifted (os : Os) (started : os.Started) (H : Type) (enc : TypeId × Value → H) :
  ReturnsInHanded {} Try.checked os 6 .any (Rows.lexReadsSpec.pre6 enc Try.prog Try.f6 Rows.lexReadsRow.domain false) (Rows.lexReadsSpec.post enc Try.prog Try.f6 false true false false) := by
 refine returnsInHanded_of_change_sized (C := Try.checked) own started (by kernel_rfl) Try.func6
  (ChangeSpec.witness6 (enc := enc) (C := Try.checked) false ⟨#[], #[.string ⟨#[]⟩, .slice none 0 0], []⟩ 8 (by kernel_rfl) (by kernel_rfl) (by kernel_rfl) (by kernel_rfl)) ?_
 intro W base args ds gs before hval0 hW hcnd hsz0 _
 have hval : ∀ (j : Nat) t v, Try.f6.params[j]? = some t → args[j]? = some v → Value.okWide Try.prog W .any base t v := hval0
 have hW' := hW
 obtain ⟨p, q, hA0, hV, rfl, hfz, hnd⟩ := hW
 have hA : DataW.TrodAll enc Try.prog W 0 (fun _ => true) true Try.f6.params.toList args.toList ds p := hA0
 rw [Try.params6] at hA hval
 obtain ⟨v0, vs0, d0, ds0, p0, q0, hargs, rfl, rfl, h0, r0⟩ := trodAll_cons hA
 obtain ⟨v1, vs1, d1, ds1, p1, q1, rfl, rfl, rfl, h1, r1⟩ := trodAll_cons r0
 obtain ⟨rfl, rfl, rfl⟩ := trodAll_nil r1
 obtain ⟨rfl, rfl⟩ := trodVars_none hV
 clear hA0 hval0 hsz0
 refine (law_calls (C := C) (F := F) fine (f := 6) hA (fun t ht => List.all_eq_true.1 (show ((#[9, 44] : Array TypeId).toList.all fun t => flatOk C.P 8 t) = true by kernel_rfl) t ht) (fun j t v hj hv => hval j t v (by rw [← hj]; exact (Array.getElem?_toList ..).symm) hv) (fun zs hz => pure zs (typed_C hz))).mono fun e W' ⟨he, bel⟩ => ?_
 subst he
 exact ⟨_, rfl, _, _, _, [], _, [], hW', trodAll_mk1 (shut_bool Try.underlying4 _), args_stay laidOut bel hA (fun t ht => by have := List.all_eq_true.1 (show ((#[9, 44] : Array TypeId).toList.all fun t => Try.prog.readableRec t && decide (t < Try.prog.types.size)) = true by kernel_rfl) t ht; simpa using this), rfl, bel.frame _, fun h => by cases h⟩
theorem over : Rows.lexReadsRow.holds Try.pinned (OpenSpec.ofChange Rows.lexReadsSpec) :=
 OpenClaim.holds_of_wide 6 Try.f6 rfl rfl rfl rfl rfl rfl rfl ⟨rfl, rfl, rfl, rfl, rfl⟩ rfl rfl rfl rfl rfl (by kernel_rfl) Try.func6 (by kernel_rfl)
  (of_decide_eq_true (by kernel_rfl)) (by unfold Func.isWrapper; first | (rw [if_pos (by decide +kernel)]; kernel_rfl) | (rw [if_neg (by decide +kernel)]; exact ⟨rfl, rfl⟩))
  (fun os started H enc _ => lifted os started H enc)
theorem proved : Rows.LexReadsSaid := over
#print axioms proved
end Go.Proofs.Ytlpbmajbalenjaa.lexReads
namespace Go.Proofs.Ytlpbmajbalenjaa
theorem lexReads_holds : Rows.LexReadsSaid := lexReads.proved
end Go.Proofs.Ytlpbmajbalenjaa
