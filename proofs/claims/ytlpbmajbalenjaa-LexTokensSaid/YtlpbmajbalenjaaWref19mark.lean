/- Walks through the functions: what makes each relation true. -/
import Derived.Test.YtlpbmajbalenjaaW0
set_option linter.unusedVariables false
set_option maxRecDepth 100000
namespace Go.Proofs.YtlpbmajbalenjaaA
open Go Go.Proofs
theorem ref19_mark_go {a : Int} {z : Bool} (H : a = 123 ∧ (z = true) ∨ ¬ a = 123 ∧ (a = 125 ∧ (z = true) ∨ ¬ a = 125 ∧ (a = 59 ∧ (z = true) ∨ ¬ a = 59 ∧ (a = 44 ∧ (z = true) ∨ ¬ a = 44 ∧ (z = (decide (a = 42))))))) : ref19_mark_R a z := by
 refine W.ii Try.func32 ?_
 refine W.adv 10 ?_
 rcases H with ⟨c, H⟩ | ⟨c, H⟩
 ·refine W.gt' (a = 123) c ?_
  refine W.gt' (a = 123) c ?_
  refine W.opS (O.pk (decide (a = 123)) true (.bool true) (.tuple []) (decide_eq_true c)) ?_
  exact W.adv 16 (W.fr (Ans.o (.bool true) (by rw [H])))
 ·refine W.gf' (a = 123) c ?_
  refine W.adv 1 (W.gf' (a = 123) c ?_)
  refine W.adv 1 (W.opS (O.pk (decide (a = 123)) false (.bool true) (.bool (decide (a = 125))) (decide_eq_false c)) ?_)
  refine W.adv 1 ?_
  rcases H with ⟨e, H⟩ | ⟨e, H⟩
  ·refine W.gt' (a = 125) e ?_
   refine W.gt' (a = 125) e ?_
   refine W.opS (O.pk (decide (a = 125)) true (.bool true) (.tuple []) (decide_eq_true e)) ?_
   exact W.adv 12 (W.fr (Ans.o (.bool true) (by rw [H])))
  ·refine W.gf' (a = 125) e ?_
   refine W.adv 1 (W.gf' (a = 125) e ?_)
   refine W.adv 1 (W.opS (O.pk (decide (a = 125)) false (.bool true) (.bool (decide (a = 59))) (decide_eq_false e)) ?_)
   refine W.adv 1 ?_
   rcases H with ⟨f, H⟩ | ⟨f, H⟩
   ·refine W.gt' (a = 59) f ?_
    refine W.gt' (a = 59) f ?_
    refine W.opS (O.pk (decide (a = 59)) true (.bool true) (.tuple []) (decide_eq_true f)) ?_
    exact W.adv 8 (W.fr (Ans.o (.bool true) (by rw [H])))
   ·refine W.gf' (a = 59) f ?_
    refine W.adv 1 (W.gf' (a = 59) f ?_)
    refine W.adv 1 (W.opS (O.pk (decide (a = 59)) false (.bool true) (.bool (decide (a = 44))) (decide_eq_false f)) ?_)
    refine W.adv 1 ?_
    rcases H with ⟨g, H⟩ | ⟨g, H⟩
    ·refine W.gt' (a = 44) g ?_
     refine W.gt' (a = 44) g ?_
     refine W.opS (O.pk (decide (a = 44)) true (.bool true) (.tuple []) (decide_eq_true g)) ?_
     exact W.adv 4 (W.fr (Ans.o (.bool true) (by rw [H])))
    ·refine W.gf' (a = 44) g ?_
     refine W.adv 1 (W.gf' (a = 44) g ?_)
     refine W.adv 1 (W.opS (O.pk (decide (a = 44)) false (.bool true) (.bool (decide (a = 42))) (decide_eq_false g)) ?_)
     exact W.adv 4 (W.fr (Ans.o (.bool (decide (a = 42))) (by rw [H])))
end Go.Proofs.YtlpbmajbalenjaaA
