/- Plain lemmas on words, digits and numbers. No program, no memory. -/
import Derived.Test.YtlpbmajbalenjaaBX
import Derived.Laws.BitsLemmas
import Derived.Laws.Bits64
set_option linter.unusedVariables false
set_option linter.unusedSimpArgs false
namespace Go.Proofs.YtlpbmajbalenjaaA
open Go
theorem wi_eq (n : Int) : wi n = (n + 9223372036854775808) % 18446744073709551616 - 9223372036854775808 := by simp [wi, IntKind.wrap, IntKind.signed, IntKind.bits]; omega
end Go.Proofs.YtlpbmajbalenjaaA
