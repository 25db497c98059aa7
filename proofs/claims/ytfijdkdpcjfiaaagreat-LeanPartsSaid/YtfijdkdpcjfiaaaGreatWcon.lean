/- Walks through the functions: what makes each relation true. -/
import Derived.Test.YtfijdkdpcjfiaaaGreatW0
import Derived.Test.YtfijdkdpcjfiaaaGreatCw
set_option linter.unusedVariables false
set_option maxRecDepth 100000
namespace Go.Proofs.YtfijdkdpcjfiaaaGreatA
open Go Go.Proofs
theorem law45_works_is : law45_works_R true := works_12
end Go.Proofs.YtfijdkdpcjfiaaaGreatA
