/- Walks through the functions: what makes each relation true. -/
import Derived.Test.YtlpbmajbalenjaaW0
set_option linter.unusedVariables false
set_option maxRecDepth 100000
namespace Go.Proofs.YtlpbmajbalenjaaA
open Go Go.Proofs
theorem __lex_Reader__take_v0_go {e : ByteArray} {f : Bool} (H : ∃ a, __lex_Reader__Done_v0_R a ∧ a = true ∧ e = ⟨#[]⟩ ∧ f = false) : __lex_Reader__take_v0_R e f := by
 refine W.ii Try.func35 ?_
 refine W.adv 10 ?_
 obtain ⟨a, i, H⟩ := H
 refine W.cl 18 [.nilP] (.bool a) i ?_
 refine W.adv 1 ?_
 obtain ⟨c, H⟩ := H
 refine W.gb false (a == false) (congrArg (fun b => b == false) c) ?_
 refine W.gb false (a == false) (congrArg (fun b => b == false) c) ?_
 refine W.gb false (a == false) (congrArg (fun b => b == false) c) ?_
 refine W.gb false (a == false) (congrArg (fun b => b == false) c) ?_
 refine W.gb false (a == false) (congrArg (fun b => b == false) c) ?_
 refine W.gb false (a == false) (congrArg (fun b => b == false) c) ?_
 refine W.gb false (a == false) (congrArg (fun b => b == false) c) ?_
 refine W.gb false (a == false) (congrArg (fun b => b == false) c) ?_
 refine W.gb false (a == false) (congrArg (fun b => b == false) c) ?_
 refine W.opS (O.pk a true (.bool true) (.tuple []) c) ?_
 exact W.adv 11 (W.fr (Ans.o (.tuple [.str ⟨#[]⟩, .bool false]) (by rw [H.1, H.2])))
end Go.Proofs.YtlpbmajbalenjaaA
