/- Walks through the functions: what makes each relation true. -/
import Derived.Test.YtjcdkemnflmfiaaGreatW0
set_option linter.unusedVariables false
set_option maxRecDepth 100000
namespace Go.Proofs.YtjcdkemnflmfiaaGreatA
open Go Go.Proofs
theorem law44_works_is : law44_works_R true := Ic.con 300 fun n => by kernel_rfl
end Go.Proofs.YtjcdkemnflmfiaaGreatA
