/- Knuth's division, and division: what they answer. -/
import Derived.Test.YtfijdkdpcjfiaaaGreatP13
import Derived.Test.YtfijdkdpcjfiaaaGreatP7
import Derived.Test.YtfijdkdpcjfiaaaGreatP10
set_option linter.unusedVariables false
set_option linter.unusedSimpArgs false
namespace Go.Proofs.YtfijdkdpcjfiaaaGreatA
open Go
end Go.Proofs.YtfijdkdpcjfiaaaGreatA
