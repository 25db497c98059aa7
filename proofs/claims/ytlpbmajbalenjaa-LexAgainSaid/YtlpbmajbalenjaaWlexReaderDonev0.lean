/- Walks through the functions: what makes each relation true. -/
import Derived.Test.YtlpbmajbalenjaaW0
set_option linter.unusedVariables false
set_option maxRecDepth 100000
namespace Go.Proofs.YtlpbmajbalenjaaA
open Go Go.Proofs
theorem __lex_Reader__Done_v0_go {z : Bool} (H : (z = true)) : __lex_Reader__Done_v0_R z := by
 refine W.ii Try.func18 ?_
 exact W.adv 21 (W.fr (Ans.o (.bool true) (by rw [H])))
end Go.Proofs.YtlpbmajbalenjaaA
