/- Powers and products of many: what the functions answer. -/
import Derived.Test.YtfijdkdpcjfiaaaGreatP6
set_option linter.unusedVariables false
set_option linter.unusedSimpArgs false
namespace Go.Proofs.YtfijdkdpcjfiaaaGreatA
open Go
end Go.Proofs.YtfijdkdpcjfiaaaGreatA
