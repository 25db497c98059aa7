/- Walks through the functions: what makes each relation true. -/
import Derived.Test.YtjcdkemnflmfiaaGreatW0
import Derived.Test.YtjcdkemnflmfiaaGreatCw
set_option linter.unusedVariables false
set_option maxRecDepth 100000
namespace Go.Proofs.YtjcdkemnflmfiaaGreatA
open Go Go.Proofs
theorem law30_works_is : law30_works_R true := works_10
end Go.Proofs.YtjcdkemnflmfiaaGreatA
