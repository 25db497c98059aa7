/- Shifts down: what the functions answer. -/
import Derived.Test.YtfijdkdpcjfiaaaGreatP9
set_option linter.unusedVariables false
set_option linter.unusedSimpArgs false
namespace Go.Proofs.YtfijdkdpcjfiaaaGreatA
open Go
end Go.Proofs.YtfijdkdpcjfiaaaGreatA
