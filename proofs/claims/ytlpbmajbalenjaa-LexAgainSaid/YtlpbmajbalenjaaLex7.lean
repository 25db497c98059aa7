/- A text's tokens, by hand: the reference's rules, its four shapes taken together. -/
import Derived.Test.YtlpbmajbalenjaaLex6
import Derived.Test.YtlpbmajbalenjaaWref19All
import Derived.Test.YtlpbmajbalenjaaWref19mark
import Derived.Test.YtlpbmajbalenjaaWref19figure
import Derived.Test.YtlpbmajbalenjaaWref17Word
set_option linter.unusedVariables false
set_option linter.unusedSimpArgs false
set_option maxRecDepth 100000
namespace Go.Proofs.YtlpbmajbalenjaaA
open Go Go.Proofs
end Go.Proofs.YtlpbmajbalenjaaA
