/- A text's tokens, by hand: the reference's answer is the same scan. -/
import Derived.Test.YtlpbmajbalenjaaLex7
set_option linter.unusedVariables false
set_option linter.unusedSimpArgs false
set_option maxRecDepth 100000
namespace Go.Proofs.YtlpbmajbalenjaaA
open Go Go.Proofs
set_option linter.unusedSectionVars false
section
variable {c : ByteArray} {l : List Tk} {p q : Int} (hs : c.size < 900000)
include hs
end
end Go.Proofs.YtlpbmajbalenjaaA
