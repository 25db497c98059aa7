/- Fractions in rows. -/
import Derived.Test.YtfijdkdpcjfiaaaGreatP17
set_option linter.unusedVariables false
set_option linter.unusedSimpArgs false
namespace Go.Proofs.YtfijdkdpcjfiaaaGreatA
open Go
end Go.Proofs.YtfijdkdpcjfiaaaGreatA
