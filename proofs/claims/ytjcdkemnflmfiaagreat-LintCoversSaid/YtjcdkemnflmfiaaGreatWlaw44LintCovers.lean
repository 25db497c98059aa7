/- Walks through the functions: what makes each relation true. -/
import Derived.Test.YtjcdkemnflmfiaaGreatW0
set_option linter.unusedVariables false
set_option maxRecDepth 100000
namespace Go.Proofs.YtjcdkemnflmfiaaGreatA
open Go Go.Proofs
/-! ### trivium/triviumlaw44.LintCovers -/
theorem law44_LintCovers_go {a0_0 : Int} {a0_1 : Int} {a1 : List T_api_Prefix} {z : Bool} (H : (0 ≤ (mn (a1.length : Int) 12) ∧ ((mn (a1.length : Int) 12) ≤ (a1.length : Int) ∧ (((a1.take (mn (a1.length : Int) 12).toNat).length + 192) * (16 + 1) ≤ 70368744177664 ∧ (∃ y3 : List T_api_Prefix, y3 = (a1.take (mn (a1.length : Int) 12).toNat) ∧ ((y3.length + 192) * (16 + 1) ≤ 70368744177664 ∧ (∃ y7 : List T_api_Prefix, y7 = y3 ∧ (∃ c11 : Bool, (lint_Covered_R a0_0 a0_1 y7 c11 ∧ (∃ c13 : Bool, (ref44_Covered_R a0_0 a0_1 y3 c13 ∧ ((c11 = true ∧ ((c13 = true ∧ (∃ c17 : Bool, (law44_works_R c17 ∧ (z = c17)))) ∨ (¬ c13 = true ∧ (z = false)))) ∨ (¬ c11 = true ∧ ((c13 = true ∧ (z = false)) ∨ (¬ c13 = true ∧ (∃ c20 : Bool, (law44_works_R c20 ∧ (z = c20)))))))))))))))))) : law44_LintCovers_R a0_0 a0_1 a1 z := by
  refine W.lawIs (zs := [(.agg [(.int .u32 a0_0), (.int .i64 a0_1)]), (.list 2 (a1.map E_api_Prefix))]) Tryz.func6 (by kernel_rfl) (by kernel_rfl) (by kernel_rfl) ?_
  refine W.adv 11 ?_
  refine W.opS (OpIs.ln (n := (a1.map E_api_Prefix).length) (m := a1.length) (by kernel_rfl) (by rw [List.length_map])) ?_
  refine W.adv 1 ?_
  obtain ⟨h1, h2, H⟩ := H
  refine W.opS (OpIs.slE_hi (enc := E_api_Prefix) (n := 2) (k' := .i64) (L := a1) (i := (mn (a1.length : Int) 12)) (by kernel_rfl) h1 h2) ?_
  obtain ⟨h6, H⟩ := H
  obtain ⟨y3, hy4, H⟩ := H
  have ln5 : (a1.take (mn (a1.length : Int) 12).toNat).length = y3.length := by rw [hy4] <;> rfl
  refine W.opH (OpIs.apENil (enc := E_api_Prefix) (y := (.list 2 ((a1.take (mn (a1.length : Int) 12).toNat).map E_api_Prefix))) (B := none) (n := 16) (d := 11) (v := 0) (m := 2) (ys := (a1.take (mn (a1.length : Int) 12).toNat)) (by kernel_rfl) (by kernel_rfl) hy4 h6) ?_
  refine W.adv 8 ?_
  obtain ⟨h10, H⟩ := H
  obtain ⟨y7, hy8, H⟩ := H
  have ln9 : y3.length = y7.length := by rw [hy8] <;> rfl
  refine W.opH (OpIs.apENil (enc := E_api_Prefix) (y := (.sref 11 1 2 0 (a1.take (mn (a1.length : Int) 12).toNat).length)) (B := none) (n := 16) (d := 15) (v := 0) (m := 2) (ys := y3) (by kernel_rfl) (src_rowE (enc := E_api_Prefix) E_api_Prefix_t (b := 11) (v := 1) (w := 1) (fz := false) (xs := y3) (by kernel_rfl) rfl ln5) hy8 h10) ?_
  obtain ⟨c11, hc12, H⟩ := H
  refine W.callR (g := 27) (ds := [(.agg [(.int .u32 a0_0), (.int .i64 a0_1)]), (.sref 15 1 2 0 y3.length)]) (es := [(.agg [(.int .u32 a0_0), (.int .i64 a0_1)]), (.list 2 (y7.map E_api_Prefix))]) (r := (.bool c11)) (by kernel_rfl) (rf_cons (by kernel_rfl) (rf_cons (rf_fullE (enc := E_api_Prefix) E_api_Prefix_t (b := 15) (v := 1) (w := 1) (fz := false) (xs := y7) (by kernel_rfl) rfl ln9) rf_nil)) (Ic.args hc12 (by kernel_rfl)) (by kernel_rfl) ?_
  refine W.adv 2 ?_
  obtain ⟨c13, hc14, H⟩ := H
  refine W.callR (g := 28) (ds := [(.agg [(.int .u32 a0_0), (.int .i64 a0_1)]), (.sref 11 1 2 0 (a1.take (mn (a1.length : Int) 12).toNat).length)]) (es := [(.agg [(.int .u32 a0_0), (.int .i64 a0_1)]), (.list 2 (y3.map E_api_Prefix))]) (r := (.bool c13)) (by kernel_rfl) (rf_cons (by kernel_rfl) (rf_cons (rf_fullE (enc := E_api_Prefix) E_api_Prefix_t (b := 11) (v := 1) (w := 1) (fz := false) (xs := y3) (by kernel_rfl) rfl ln5) rf_nil)) (Ic.args hc14 (by kernel_rfl)) (by kernel_rfl) ?_
  refine W.adv 2 ?_
  rcases H with ⟨h15, H⟩ | ⟨h15, H⟩
  · rcases H with ⟨h16, H⟩ | ⟨h16, H⟩
    · refine W.guard true (w := ((c11 == c13) == true)) (by kernel_rfl) (congrArg (fun b => b == true) (congr (congrArg (fun x y => x == y) h15) h16)) ?_
      obtain ⟨c17, hc18, H⟩ := H
      refine W.callR (g := 29) (ds := []) (es := []) (r := (.bool c17)) (by kernel_rfl) (by kernel_rfl) (Ic.args hc18 (by kernel_rfl)) (by kernel_rfl) ?_
      refine W.opS (OpIs.pk true (t := (c11 == c13)) (x := (.bool c17)) (y := (.bool false)) (by kernel_rfl) (congr (congrArg (fun x y => x == y) h15) h16)) ?_
      refine W.adv 4 ?_
      exact W.fin (x := .ret) (by kernel_rfl) (LAns.of (d := (.bool c17)) (by kernel_rfl) (by rw [H]))
    · refine W.guard false (w := ((c11 == c13) == true)) (by kernel_rfl) (congrArg (fun b => b == true) (congr (congrArg (fun x y => x == y) h15) (bfalse h16))) ?_
      refine W.opS (OpIs.pk false (t := (c11 == c13)) (x := (.tuple [])) (y := (.bool false)) (by kernel_rfl) (congr (congrArg (fun x y => x == y) h15) (bfalse h16))) ?_
      refine W.adv 4 ?_
      exact W.fin (x := .ret) (by kernel_rfl) (LAns.of (d := (.bool false)) (by kernel_rfl) (by rw [H]))
  · rcases H with ⟨h19, H⟩ | ⟨h19, H⟩
    · refine W.guard false (w := ((c11 == c13) == true)) (by kernel_rfl) (congrArg (fun b => b == true) (congr (congrArg (fun x y => x == y) (bfalse h15)) h19)) ?_
      refine W.opS (OpIs.pk false (t := (c11 == c13)) (x := (.tuple [])) (y := (.bool false)) (by kernel_rfl) (congr (congrArg (fun x y => x == y) (bfalse h15)) h19)) ?_
      refine W.adv 4 ?_
      exact W.fin (x := .ret) (by kernel_rfl) (LAns.of (d := (.bool false)) (by kernel_rfl) (by rw [H]))
    · refine W.guard true (w := ((c11 == c13) == true)) (by kernel_rfl) (congrArg (fun b => b == true) (congr (congrArg (fun x y => x == y) (bfalse h15)) (bfalse h19))) ?_
      obtain ⟨c20, hc21, H⟩ := H
      refine W.callR (g := 29) (ds := []) (es := []) (r := (.bool c20)) (by kernel_rfl) (by kernel_rfl) (Ic.args hc21 (by kernel_rfl)) (by kernel_rfl) ?_
      refine W.opS (OpIs.pk true (t := (c11 == c13)) (x := (.bool c20)) (y := (.bool false)) (by kernel_rfl) (congr (congrArg (fun x y => x == y) (bfalse h15)) (bfalse h19))) ?_
      refine W.adv 4 ?_
      exact W.fin (x := .ret) (by kernel_rfl) (LAns.of (d := (.bool c20)) (by kernel_rfl) (by rw [H]))
end Go.Proofs.YtjcdkemnflmfiaaGreatA
