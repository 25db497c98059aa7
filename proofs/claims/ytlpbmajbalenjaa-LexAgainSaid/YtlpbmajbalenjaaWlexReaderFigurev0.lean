/- Walks through the functions: what makes each relation true. -/
import Derived.Test.YtlpbmajbalenjaaW0
set_option linter.unusedVariables false
set_option maxRecDepth 100000
namespace Go.Proofs.YtlpbmajbalenjaaA
open Go Go.Proofs
theorem __lex_Reader__Figure_v0_go {c : ByteArray} {e : Bool} (H : ∃ a b, __lex_Reader__take_v1_R a b ∧ c = a ∧ e = b) : __lex_Reader__Figure_v0_R c e := by
 refine W.ii Try.func17 ?_
 refine W.adv 9 ?_
 obtain ⟨a, b, f, H⟩ := H
 refine W.cl 35 [.nilP, .fn 37 [] []] (.tuple [.str a, .bool b]) f ?_
 exact W.adv 7 (W.fr (Ans.o (.tuple [.str a, .bool b]) (by rw [H.1, H.2])))
end Go.Proofs.YtlpbmajbalenjaaA
