/- Walks through the functions: what makes each relation true. -/
import Derived.Test.YtlpbmajbalenjaaW0
set_option linter.unusedVariables false
set_option maxRecDepth 100000
namespace Go.Proofs.YtlpbmajbalenjaaA
open Go Go.Proofs
theorem __lex_Reader__Line_v0_go {z : Int} (H : (z = 0)) : __lex_Reader__Line_v0_R z := by
 refine W.ii Try.func19 ?_
 exact W.adv 23 (W.fr (Ans.o (.int .i64 0) (by rw [H])))
end Go.Proofs.YtlpbmajbalenjaaA
