/- Walks through the functions: what makes each relation true. -/
import Derived.Test.YtlpbmajbalenjaaW0
set_option linter.unusedVariables false
set_option maxRecDepth 100000
namespace Go.Proofs.YtlpbmajbalenjaaA
open Go Go.Proofs
theorem lex_pass_go {a : ByteArray} {z : Int} (H : 0 < (a.size : Int) ∧ (((letter a 0) = 35 ∧ ∃ c, strings_IndexByte_R a 10 c ∧ (0 ≤ c ∧ (z = c) ∨ ¬ 0 ≤ c ∧ (z = (a.size : Int)))) ∨ ¬ (letter a 0) = 35 ∧ (z = 1))) : lex_pass_R a z := by
 refine W.ii Try.func46 ?_
 refine W.adv 9 ?_
 obtain ⟨l, H⟩ := H
 refine W.opS (OpIs.ixT (k := .i64) (s := a) (i := 0) (by kernel_rfl) (by decide) l) ?_
 refine W.adv 3 ?_
 rcases H with ⟨e, H⟩ | ⟨e, H⟩
 ·refine W.cb false (!(decide ((letter a 0) = 35))) (congrArg (fun b => !b) (decide_eq_true e)) ?_
  refine W.adv 6 ?_
  obtain ⟨c, m, H⟩ := H
  refine W.cl 44 [.str a, .int .u8 10] (.int .i64 c) m ?_
  refine W.adv 9 ?_
  rcases H with ⟨f, H⟩ | ⟨f, H⟩
  ·refine W.ct (0 ≤ c) f ?_
   exact W.adv 8 (W.fr (Ans.o (.int .i64 c) (by rw [H])))
  ·refine W.cf (0 ≤ c) f ?_
   exact W.adv 10 (W.fr (Ans.o (.int .i64 (a.size : Int)) (by rw [H])))
 ·refine W.cb true (!(decide ((letter a 0) = 35))) (congrArg (fun b => !b) (decide_eq_false e)) ?_
  exact W.adv 7 (W.fr (Ans.o (.int .i64 1) (by rw [H])))
end Go.Proofs.YtlpbmajbalenjaaA
