/- The guess of a quotient's limb: at most one too great. -/
import Derived.Test.YtfijdkdpcjfiaaaGreatP11
set_option linter.unusedVariables false
set_option linter.unusedSimpArgs false
namespace Go.Proofs.YtfijdkdpcjfiaaaGreatA
open Go
end Go.Proofs.YtfijdkdpcjfiaaaGreatA
