/- Walks through the functions: what makes each relation true. -/
import Derived.Test.YtlpbmajbalenjaaW0
set_option linter.unusedVariables false
set_option maxRecDepth 100000
namespace Go.Proofs.YtlpbmajbalenjaaA
open Go Go.Proofs
theorem __lex_Reader__Take_v0_go {b : ByteArray} {z : Bool} (H : ∃ a, __lex_Reader__Is_v0_R b a ∧ ¬ a = true ∧ (z = a)) : __lex_Reader__Take_v0_R b z := by
 refine W.ii Try.func21 ?_
 refine W.adv 9 ?_
 obtain ⟨a, c, H⟩ := H
 refine W.cl 20 [.nilP, .str b] (.bool a) c ?_
 refine W.adv 9 ?_
 obtain ⟨e, H⟩ := H
 refine W.cb false a (bfalse e) ?_
 exact W.adv 9 (W.fr (Ans.o (.bool a) (by rw [H])))
end Go.Proofs.YtlpbmajbalenjaaA
