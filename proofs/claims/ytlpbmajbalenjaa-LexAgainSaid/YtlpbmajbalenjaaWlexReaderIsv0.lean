/- Walks through the functions: what makes each relation true. -/
import Derived.Test.YtlpbmajbalenjaaW0
set_option linter.unusedVariables false
set_option maxRecDepth 100000
namespace Go.Proofs.YtlpbmajbalenjaaA
open Go Go.Proofs
theorem __lex_Reader__Is_v0_go {e : ByteArray} {z : Bool} (H : ∃ a, __lex_Reader__Done_v0_R a ∧ a = true ∧ (z = false)) : __lex_Reader__Is_v0_R e z := by
 refine W.ii Try.func20 ?_
 refine W.adv 8 ?_
 obtain ⟨a, f, H⟩ := H
 refine W.cl 18 [.nilP] (.bool a) f ?_
 refine W.adv 2 ?_
 obtain ⟨c, H⟩ := H
 refine W.gb false ((!a) == true) (congrArg (fun b => b == true) (congrArg (fun b => !b) c)) ?_
 refine W.gb false ((!a) == true) (congrArg (fun b => b == true) (congrArg (fun b => !b) c)) ?_
 refine W.gb false ((!a) == true) (congrArg (fun b => b == true) (congrArg (fun b => !b) c)) ?_
 refine W.gb false ((!a) == true) (congrArg (fun b => b == true) (congrArg (fun b => !b) c)) ?_
 refine W.gb false ((!a) == true) (congrArg (fun b => b == true) (congrArg (fun b => !b) c)) ?_
 refine W.gb false ((!a) == true) (congrArg (fun b => b == true) (congrArg (fun b => !b) c)) ?_
 refine W.gb false ((!a) == true) (congrArg (fun b => b == true) (congrArg (fun b => !b) c)) ?_
 refine W.gb false ((!a) == true) (congrArg (fun b => b == true) (congrArg (fun b => !b) c)) ?_
 refine W.gb false ((!a) == true) (congrArg (fun b => b == true) (congrArg (fun b => !b) c)) ?_
 refine W.opS (O.pk (!a) false (.tuple []) (.bool false) (congrArg (fun b => !b) c)) ?_
 exact W.adv 4 (W.fr (Ans.o (.bool false) (by rw [H])))
end Go.Proofs.YtlpbmajbalenjaaA
