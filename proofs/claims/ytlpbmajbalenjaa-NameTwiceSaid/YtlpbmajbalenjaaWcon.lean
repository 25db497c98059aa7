/- Walks through the functions: what makes each relation true. -/
import Derived.Test.YtlpbmajbalenjaaW0
set_option linter.unusedVariables false
set_option maxRecDepth 100000
namespace Go.Proofs.YtlpbmajbalenjaaA
open Go Go.Proofs
theorem law17_works_is : law17_works_R true := Ic.con 300 fun n => by kernel_rfl
end Go.Proofs.YtlpbmajbalenjaaA
