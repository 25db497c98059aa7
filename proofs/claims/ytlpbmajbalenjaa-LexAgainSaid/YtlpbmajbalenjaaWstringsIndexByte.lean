/- Walks through the functions: what makes each relation true. -/
import Derived.Test.YtlpbmajbalenjaaW0
set_option linter.unusedVariables false
set_option maxRecDepth 100000
namespace Go.Proofs.YtlpbmajbalenjaaA
open Go Go.Proofs
theorem strings_IndexByte_go {b : ByteArray} {c z : Int} (H : ∃ a, internal_stringslite_IndexByte_R b c a ∧ (z = a)) : strings_IndexByte_R b c z := by
 refine W.ii Try.func44 ?_
 refine W.adv 9 ?_
 obtain ⟨a, e, H⟩ := H
 refine W.cl 48 [.str b, .int .u8 c] (.int .i64 a) e ?_
 exact W.adv 4 (W.fr (Ans.o (.int .i64 a) (by rw [H])))
end Go.Proofs.YtlpbmajbalenjaaA
