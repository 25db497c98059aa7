/- Walks through the functions: what makes each relation true. -/
import Derived.Test.YtlpbmajbalenjaaW0
set_option linter.unusedVariables false
set_option maxRecDepth 100000
namespace Go.Proofs.YtlpbmajbalenjaaA
open Go Go.Proofs
theorem ref19_figure_go {a : Int} {z : Bool} (H : 48 ≤ a ∧ (a ≤ 57 ∧ (z = true) ∨ ¬ a ≤ 57 ∧ (a = 46 ∧ (z = true) ∨ ¬ a = 46 ∧ (a = 47 ∧ (z = true) ∨ ¬ a = 47 ∧ (z = (decide (a = 37)))))) ∨ ¬ 48 ≤ a ∧ (a = 46 ∧ (z = true) ∨ ¬ a = 46 ∧ (a = 47 ∧ (z = true) ∨ ¬ a = 47 ∧ (z = (decide (a = 37)))))) : ref19_figure_R a z := by
 refine W.ii Try.func33 ?_
 refine W.adv 10 ?_
 rcases H with ⟨c, H⟩ | ⟨c, H⟩
 ·refine W.gt (48 ≤ a) c ?_
  refine W.adv 1 (W.gt (48 ≤ a) c ?_)
  refine W.adv 1 (W.opS (O.pk (decide (48 ≤ a)) true (.bool (decide (a ≤ 57))) (.bool false) (decide_eq_true c)) ?_)
  refine W.adv 1 ?_
  rcases H with ⟨e, H⟩ | ⟨e, H⟩
  ·refine W.gt' (a ≤ 57) e ?_
   refine W.gt' (a ≤ 57) e ?_
   refine W.opS (O.pk (decide (a ≤ 57)) true (.bool true) (.tuple []) (decide_eq_true e)) ?_
   exact W.adv 12 (W.fr (Ans.o (.bool true) (by rw [H])))
  ·refine W.gf' (a ≤ 57) e ?_
   refine W.adv 1 (W.gf' (a ≤ 57) e ?_)
   refine W.adv 1 (W.opS (O.pk (decide (a ≤ 57)) false (.bool true) (.bool (decide (a = 46))) (decide_eq_false e)) ?_)
   refine W.adv 1 ?_
   rcases H with ⟨f, H⟩ | ⟨f, H⟩
   ·refine W.gt' (a = 46) f ?_
    refine W.gt' (a = 46) f ?_
    refine W.opS (O.pk (decide (a = 46)) true (.bool true) (.tuple []) (decide_eq_true f)) ?_
    exact W.adv 8 (W.fr (Ans.o (.bool true) (by rw [H])))
   ·refine W.gf' (a = 46) f ?_
    refine W.adv 1 (W.gf' (a = 46) f ?_)
    refine W.adv 1 (W.opS (O.pk (decide (a = 46)) false (.bool true) (.bool (decide (a = 47))) (decide_eq_false f)) ?_)
    refine W.adv 1 ?_
    rcases H with ⟨g, H⟩ | ⟨g, H⟩
    ·refine W.gt' (a = 47) g ?_
     refine W.gt' (a = 47) g ?_
     refine W.opS (O.pk (decide (a = 47)) true (.bool true) (.tuple []) (decide_eq_true g)) ?_
     exact W.adv 4 (W.fr (Ans.o (.bool true) (by rw [H])))
    ·refine W.gf' (a = 47) g ?_
     refine W.adv 1 (W.gf' (a = 47) g ?_)
     refine W.adv 1 (W.opS (O.pk (decide (a = 47)) false (.bool true) (.bool (decide (a = 37))) (decide_eq_false g)) ?_)
     exact W.adv 4 (W.fr (Ans.o (.bool (decide (a = 37))) (by rw [H])))
 ·refine W.gf (48 ≤ a) c ?_
  refine W.gf (48 ≤ a) c ?_
  refine W.opS (O.pk (decide (48 ≤ a)) false (.tuple []) (.bool false) (decide_eq_false c)) ?_
  refine W.adv 7 ?_
  rcases H with ⟨i, H⟩ | ⟨i, H⟩
  ·refine W.gt' (a = 46) i ?_
   refine W.gt' (a = 46) i ?_
   refine W.opS (O.pk (decide (a = 46)) true (.bool true) (.tuple []) (decide_eq_true i)) ?_
   exact W.adv 8 (W.fr (Ans.o (.bool true) (by rw [H])))
  ·refine W.gf' (a = 46) i ?_
   refine W.adv 1 (W.gf' (a = 46) i ?_)
   refine W.adv 1 (W.opS (O.pk (decide (a = 46)) false (.bool true) (.bool (decide (a = 47))) (decide_eq_false i)) ?_)
   refine W.adv 1 ?_
   rcases H with ⟨k, H⟩ | ⟨k, H⟩
   ·refine W.gt' (a = 47) k ?_
    refine W.gt' (a = 47) k ?_
    refine W.opS (O.pk (decide (a = 47)) true (.bool true) (.tuple []) (decide_eq_true k)) ?_
    exact W.adv 4 (W.fr (Ans.o (.bool true) (by rw [H])))
   ·refine W.gf' (a = 47) k ?_
    refine W.adv 1 (W.gf' (a = 47) k ?_)
    refine W.adv 1 (W.opS (O.pk (decide (a = 47)) false (.bool true) (.bool (decide (a = 37))) (decide_eq_false k)) ?_)
    exact W.adv 4 (W.fr (Ans.o (.bool (decide (a = 37))) (by rw [H])))
end Go.Proofs.YtlpbmajbalenjaaA
