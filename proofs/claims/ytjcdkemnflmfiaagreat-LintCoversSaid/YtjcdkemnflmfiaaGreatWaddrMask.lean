/- Walks through the functions: what makes each relation true. -/
import Derived.Test.YtjcdkemnflmfiaaGreatW0
set_option linter.unusedVariables false
set_option maxRecDepth 100000
namespace Go.Proofs.YtjcdkemnflmfiaaGreatA
open Go Go.Proofs
/-! ### trivium/addr.Mask -/
theorem addr_Mask_go {a0 : Int} {z : Int} (H : (0 ≤ (wi (32 - (mn (mx a0 0) 32))) ∧ (z = (IntKind.wrap .u32 ((wu (4294967295 * 2 ^ (min (wi (32 - (mn (mx a0 0) 32))).toNat 64)))))))) : addr_Mask_R a0 z := by
  refine W.ic (zs := [(.int .i64 a0)]) Tryz.func132 (by kernel_rfl) (by kernel_rfl) (by kernel_rfl) (by kernel_rfl) ?_
  refine W.adv 17 ?_
  obtain ⟨h1, H⟩ := H
  refine W.opS (OpIs.bn (op := .shl) (x := (.int .u64 4294967295)) (y := (.int .i64 (wi (32 - (mn (mx a0 0) 32))))) (by kernel_rfl) (shlD h1)) ?_
  refine W.adv 5 ?_
  exact W.fin (x := .ret) (by kernel_rfl) (Ans.of (d := (.int .u32 (IntKind.wrap .u32 ((wu (4294967295 * 2 ^ (min (wi (32 - (mn (mx a0 0) 32))).toNat 64))))))) (d' := (.int .u32 (IntKind.wrap .u32 ((wu (4294967295 * 2 ^ (min (wi (32 - (mn (mx a0 0) 32))).toNat 64))))))) (e' := (.int .u32 (IntKind.wrap .u32 ((wu (4294967295 * 2 ^ (min (wi (32 - (mn (mx a0 0) 32))).toNat 64))))))) (by kernel_rfl) (by kernel_rfl) (by kernel_rfl) (by rw [H]))
end Go.Proofs.YtjcdkemnflmfiaaGreatA
