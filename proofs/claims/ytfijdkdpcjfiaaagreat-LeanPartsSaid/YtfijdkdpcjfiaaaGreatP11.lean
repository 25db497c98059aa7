/- Taking a multiple off a row, and giving back: what the functions answer. -/
import Derived.Test.YtfijdkdpcjfiaaaGreatP10
import Derived.Test.YtfijdkdpcjfiaaaGreatWX
set_option linter.unusedVariables false
set_option linter.unusedSimpArgs false
namespace Go.Proofs.YtfijdkdpcjfiaaaGreatA
open Go
end Go.Proofs.YtfijdkdpcjfiaaaGreatA
