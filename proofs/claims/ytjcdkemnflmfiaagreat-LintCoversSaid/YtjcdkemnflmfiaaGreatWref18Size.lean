/- Walks through the functions: what makes each relation true. -/
import Derived.Test.YtjcdkemnflmfiaaGreatW0
set_option linter.unusedVariables false
set_option maxRecDepth 100000
namespace Go.Proofs.YtjcdkemnflmfiaaGreatA
open Go Go.Proofs
/-! ### trivium/triviumref18.Size -/
noncomputable def ref18_Size_l0_s (x3 : Int) (x4 : Int) (j : Nat → D) (jb : Nat → Blk) (vs : Nat → Nat) : Cf := cfAt Tryz.f135 [1, 1, 0, 1, 0] ⟨[(j 0), (j 1), (j 2), (.int .u64 x3), (.int .i64 x4), (j 5), (j 6), (j 7), (j 8), (j 9), (j 10), (j 11), (j 12)], [(jb 0), (jb 1), (jb 2), (jb 3), (jb 4), (jb 5), (jb 6), (jb 7), (jb 8), (jb 9), (jb 10), (jb 11), (jb 12)]⟩
def ref18_Size_l0 (x3 : Int) (x4 : Int) (z : Int) : Prop := ∀ j jb vs, W C F 135 0 (ref18_Size_l0_s x3 x4  j jb vs) (Ans C Tryz.f135 (.int .u64 z))
theorem ref18_Size_l0_go {x3 : Int} {x4 : Int} {z : Int} (H : ((x4 < 32 ∧ (ref18_Size_l0 (wu (2 * x3)) (wi (x4 + 1)) z)) ∨ (¬ x4 < 32 ∧ (z = x3)))) : ref18_Size_l0 x3 x4 z := by
  intro j jb vs
  refine W.adv 1 ?_
  refine W.adv 7 ?_
  rcases H with ⟨h1, H⟩ | ⟨h1, H⟩
  · refine W.cond true (w := (decide (x4 < 32))) (by kernel_rfl) (decide_eq_true h1) ?_
    refine W.adv 17 ?_
    exact W.to_loop (P := ref18_Size_l0_s (wu (2 * x3)) (wi (x4 + 1))) (H ) (by kernel_rfl)
  · refine W.cond false (w := (decide (x4 < 32))) (by kernel_rfl) (decide_eq_false h1) ?_
    refine W.adv 12 ?_
    exact W.fin (x := .ret) (by kernel_rfl) (Ans.of (d := (.int .u64 x3)) (d' := (.int .u64 x3)) (e' := (.int .u64 x3)) (by kernel_rfl) (by kernel_rfl) (by kernel_rfl) (by rw [H]))
theorem ref18_Size_go {a0 : Int} {z : Int} (H : (ref18_Size_l0 1 a0 z)) : ref18_Size_R a0 z := by
  refine W.ic (zs := [(.int .i64 a0)]) Tryz.func135 (by kernel_rfl) (by kernel_rfl) (by kernel_rfl) (by kernel_rfl) ?_
  refine W.adv 18 ?_
  exact W.to_loop (P := ref18_Size_l0_s 1 a0) (H ) (by kernel_rfl)
end Go.Proofs.YtjcdkemnflmfiaaGreatA
