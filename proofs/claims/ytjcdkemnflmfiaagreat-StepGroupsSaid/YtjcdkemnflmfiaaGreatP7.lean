/- Powers and products of many: what the functions answer. -/
import Derived.Test.YtjcdkemnflmfiaaGreatP6
set_option linter.unusedVariables false
set_option linter.unusedSimpArgs false
namespace Go.Proofs.YtjcdkemnflmfiaaGreatA
open Go
theorem nat_Of_is {n : Nat} (h : n < 18446744073709551616) : nat_Of_R (n : Int) (lim n) := by
 refine nat_Of_go ⟨lim n, ?_, rfl⟩
 rw [tm (by omega), show (2 : Int) ^ 32 = 4294967296 from rfl]
 refine nat_trim_is (Dig.cons (by omega) (Dig.cons (by omega) (Dig.nil _))) (by simp) ?_
 rw [val_cons, val_cons, val_nil]; omega
theorem ref_Num_is {n : Nat} (h : n ≤ 9223372036854775807) : ref02_Num_R (n : Int) (ten n) := ref02_Num_go ⟨_, ref02_MulAdd_go (ref02_MulAdd_l0_go (.inr ⟨by simp, ref_MulAdd_tail2 h⟩)), rfl⟩
end Go.Proofs.YtjcdkemnflmfiaaGreatA
