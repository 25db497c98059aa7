/- Walks through the functions: what makes each relation true. -/
import Derived.Test.YtlpbmajbalenjaaW0
set_option linter.unusedVariables false
set_option maxRecDepth 100000
namespace Go.Proofs.YtlpbmajbalenjaaA
open Go Go.Proofs
section
variable (c : ByteArray) (a : Int) (ar : ByteArray) (z : Bool)
noncomputable def ref17_Word_l0_s (j : Nat → D) (jb : Nat → Blk) (vs : Nat → Nat) : Cf := cfAt Try.f34 [1, 0, 1, 0] ⟨([.str c, j 1, j 2, .int .i64 a] ++ J j 4 45), (J jb 0 49)⟩
def ref17_Word_l0 : Prop := ∀ j jb vs, W C F 34 0 (ref17_Word_l0_s c a  j jb vs) (Ans C Try.f34 (.bool z))
variable {c a ar z}
theorem ref17_Word_l0_go (H : a < (c.size : Int) ∧ 0 ≤ a ∧ (97 ≤ (letter c a) ∧ (48 ≤ (letter c a) ∧ ((letter c a) ≤ 57 ∧ ((letter c a) ≤ 122 ∧ ref17_Word_l0 c (wi (a + 1)) z ∨ ¬ (letter c a) ≤ 122 ∧ (a = 0 ∧ (z = false) ∨ ¬ a = 0 ∧ ref17_Word_l0 c (wi (a + 1)) z)) ∨ ¬ (letter c a) ≤ 57 ∧ ((letter c a) = 45 ∧ ((letter c a) ≤ 122 ∧ ref17_Word_l0 c (wi (a + 1)) z ∨ ¬ (letter c a) ≤ 122 ∧ (a = 0 ∧ (z = false) ∨ ¬ a = 0 ∧ ref17_Word_l0 c (wi (a + 1)) z)) ∨ ¬ (letter c a) = 45 ∧ ((letter c a) ≤ 122 ∧ ref17_Word_l0 c (wi (a + 1)) z ∨ ¬ (letter c a) ≤ 122 ∧ (a = 0 ∧ (z = false) ∨ ¬ a = 0 ∧ ((letter c a) = 95 ∧ ref17_Word_l0 c (wi (a + 1)) z ∨ ¬ (letter c a) = 95 ∧ (z = false)))))) ∨ ¬ 48 ≤ (letter c a) ∧ ((letter c a) = 45 ∧ ((letter c a) ≤ 122 ∧ ref17_Word_l0 c (wi (a + 1)) z ∨ ¬ (letter c a) ≤ 122 ∧ (a = 0 ∧ (z = false) ∨ ¬ a = 0 ∧ ref17_Word_l0 c (wi (a + 1)) z)) ∨ ¬ (letter c a) = 45 ∧ ((letter c a) ≤ 122 ∧ ref17_Word_l0 c (wi (a + 1)) z ∨ ¬ (letter c a) ≤ 122 ∧ (a = 0 ∧ (z = false) ∨ ¬ a = 0 ∧ ((letter c a) = 95 ∧ ref17_Word_l0 c (wi (a + 1)) z ∨ ¬ (letter c a) = 95 ∧ (z = false)))))) ∨ ¬ 97 ≤ (letter c a) ∧ (48 ≤ (letter c a) ∧ ((letter c a) ≤ 57 ∧ (a = 0 ∧ (z = false) ∨ ¬ a = 0 ∧ ref17_Word_l0 c (wi (a + 1)) z) ∨ ¬ (letter c a) ≤ 57 ∧ ((letter c a) = 45 ∧ (a = 0 ∧ (z = false) ∨ ¬ a = 0 ∧ ref17_Word_l0 c (wi (a + 1)) z) ∨ ¬ (letter c a) = 45 ∧ (a = 0 ∧ (z = false) ∨ ¬ a = 0 ∧ ((letter c a) = 95 ∧ ref17_Word_l0 c (wi (a + 1)) z ∨ ¬ (letter c a) = 95 ∧ (z = false))))) ∨ ¬ 48 ≤ (letter c a) ∧ ((letter c a) = 45 ∧ (a = 0 ∧ (z = false) ∨ ¬ a = 0 ∧ ref17_Word_l0 c (wi (a + 1)) z) ∨ ¬ (letter c a) = 45 ∧ (a = 0 ∧ (z = false) ∨ ¬ a = 0 ∧ ((letter c a) = 95 ∧ ref17_Word_l0 c (wi (a + 1)) z ∨ ¬ (letter c a) = 95 ∧ (z = false)))))) ∨ ¬ a < (c.size : Int) ∧ (z = (decide (0 < (c.size : Int))))) : ref17_Word_l0 c a z := by
 intro j jb vs
 refine W.adv 1 (W.adv 9 ?_)
 rcases H with ⟨aq, H⟩ | ⟨aq, H⟩
 ·refine W.ct (a < (c.size : Int)) aq ?_
  refine W.adv 8 ?_
  obtain ⟨az, H⟩ := H
  refine W.opS (OpIs.ixT (k := .i64) (s := c) (i := a) (by kernel_rfl) az aq) ?_
  refine W.adv 8 ?_
  rcases H with ⟨n, H⟩ | ⟨n, H⟩
  ·refine W.gt (97 ≤ (letter c a)) n ?_
   refine W.adv 1 (W.gt (97 ≤ (letter c a)) n ?_)
   refine W.adv 1 (W.opS (O.pk (decide (97 ≤ (letter c a))) true (.bool (decide ((letter c a) ≤ 122))) (.bool false) (decide_eq_true n)) ?_)
   refine W.adv 8 ?_
   rcases H with ⟨p, H⟩ | ⟨p, H⟩
   ·refine W.gt (48 ≤ (letter c a)) p ?_
    refine W.adv 1 (W.gt (48 ≤ (letter c a)) p ?_)
    refine W.adv 1 (W.opS (O.pk (decide (48 ≤ (letter c a))) true (.bool (decide ((letter c a) ≤ 57))) (.bool false) (decide_eq_true p)) ?_)
    refine W.adv 1 ?_
    rcases H with ⟨q, H⟩ | ⟨q, H⟩
    ·refine W.gt' ((letter c a) ≤ 57) q ?_
     refine W.gt' ((letter c a) ≤ 57) q ?_
     refine W.opS (O.pk (decide ((letter c a) ≤ 57)) true (.bool true) (.tuple []) (decide_eq_true q)) ?_
     refine W.adv 12 ?_
     rcases H with ⟨e, H⟩ | ⟨e, H⟩
     ·refine W.gb false ((!(decide ((letter c a) ≤ 122))) == true) (congrArg (fun b => b == true) (congrArg (fun b => !b) (decide_eq_true e))) ?_
      refine W.gb false ((!(decide ((letter c a) ≤ 122))) == true) (congrArg (fun b => b == true) (congrArg (fun b => !b) (decide_eq_true e))) ?_
      refine W.gb false ((!(decide ((letter c a) ≤ 122))) == true) (congrArg (fun b => b == true) (congrArg (fun b => !b) (decide_eq_true e))) ?_
      refine W.adv 2 (W.gb false ((!(decide ((letter c a) ≤ 122))) == true) (congrArg (fun b => b == true) (congrArg (fun b => !b) (decide_eq_true e))) ?_)
      refine W.opS (O.pk (!(decide ((letter c a) ≤ 122))) false (.tuple []) (.bool false) (congrArg (fun b => !b) (decide_eq_true e))) ?_
      exact W.adv 12 (W.tl H)
     ·refine W.gb true ((!(decide ((letter c a) ≤ 122))) == true) (congrArg (fun b => b == true) (congrArg (fun b => !b) (decide_eq_false e))) ?_
      refine W.adv 1 (W.gb true ((!(decide ((letter c a) ≤ 122))) == true) (congrArg (fun b => b == true) (congrArg (fun b => !b) (decide_eq_false e))) ?_)
      refine W.adv 1 (W.gb true ((!(decide ((letter c a) ≤ 122))) == true) (congrArg (fun b => b == true) (congrArg (fun b => !b) (decide_eq_false e))) ?_)
      refine W.adv 1 ?_
      rcases H with ⟨r, H⟩ | ⟨r, H⟩
      ·refine W.gt' (a = 0) r ?_
       refine W.gt' (a = 0) r ?_
       refine W.gb true ((!(decide ((letter c a) ≤ 122))) == true) (congrArg (fun b => b == true) (congrArg (fun b => !b) (decide_eq_false e))) ?_
       refine W.opS (O.pk (decide (a = 0)) true (.bool true) (.tuple []) (decide_eq_true r)) ?_
       refine W.opS (O.pk (!(decide ((letter c a) ≤ 122))) true (.bool true) (.bool false) (congrArg (fun b => !b) (decide_eq_false e))) ?_
       exact W.adv 14 (W.fr (Ans.o (.bool false) (by rw [H])))
      ·refine W.gf' (a = 0) r ?_
       refine W.adv 1 (W.gf' (a = 0) r ?_)
       refine W.adv 1 (W.gb true ((!(decide ((letter c a) ≤ 122))) == true) (congrArg (fun b => b == true) (congrArg (fun b => !b) (decide_eq_false e))) ?_)
       refine W.opS (O.pk (decide (a = 0)) false (.bool true) (.bool false) (decide_eq_false r)) ?_
       refine W.opS (O.pk (!(decide ((letter c a) ≤ 122))) true (.bool false) (.bool false) (congrArg (fun b => !b) (decide_eq_false e))) ?_
       exact W.adv 12 (W.tl H)
    ·refine W.gf' ((letter c a) ≤ 57) q ?_
     refine W.adv 1 (W.gf' ((letter c a) ≤ 57) q ?_)
     refine W.adv 1 (W.opS (O.pk (decide ((letter c a) ≤ 57)) false (.bool true) (.bool (decide ((letter c a) = 45))) (decide_eq_false q)) ?_)
     refine W.adv 1 ?_
     rcases H with ⟨u, H⟩ | ⟨u, H⟩
     ·refine W.gt' ((letter c a) = 45) u ?_
      refine W.gt' ((letter c a) = 45) u ?_
      refine W.opS (O.pk (decide ((letter c a) = 45)) true (.bool true) (.tuple []) (decide_eq_true u)) ?_
      refine W.adv 8 ?_
      rcases H with ⟨f, H⟩ | ⟨f, H⟩
      ·refine W.gb false ((!(decide ((letter c a) ≤ 122))) == true) (congrArg (fun b => b == true) (congrArg (fun b => !b) (decide_eq_true f))) ?_
       refine W.gb false ((!(decide ((letter c a) ≤ 122))) == true) (congrArg (fun b => b == true) (congrArg (fun b => !b) (decide_eq_true f))) ?_
       refine W.gb false ((!(decide ((letter c a) ≤ 122))) == true) (congrArg (fun b => b == true) (congrArg (fun b => !b) (decide_eq_true f))) ?_
       refine W.adv 2 (W.gb false ((!(decide ((letter c a) ≤ 122))) == true) (congrArg (fun b => b == true) (congrArg (fun b => !b) (decide_eq_true f))) ?_)
       refine W.opS (O.pk (!(decide ((letter c a) ≤ 122))) false (.tuple []) (.bool false) (congrArg (fun b => !b) (decide_eq_true f))) ?_
       exact W.adv 12 (W.tl H)
      ·refine W.gb true ((!(decide ((letter c a) ≤ 122))) == true) (congrArg (fun b => b == true) (congrArg (fun b => !b) (decide_eq_false f))) ?_
       refine W.adv 1 (W.gb true ((!(decide ((letter c a) ≤ 122))) == true) (congrArg (fun b => b == true) (congrArg (fun b => !b) (decide_eq_false f))) ?_)
       refine W.adv 1 (W.gb true ((!(decide ((letter c a) ≤ 122))) == true) (congrArg (fun b => b == true) (congrArg (fun b => !b) (decide_eq_false f))) ?_)
       refine W.adv 1 ?_
       rcases H with ⟨v, H⟩ | ⟨v, H⟩
       ·refine W.gt' (a = 0) v ?_
        refine W.gt' (a = 0) v ?_
        refine W.gb true ((!(decide ((letter c a) ≤ 122))) == true) (congrArg (fun b => b == true) (congrArg (fun b => !b) (decide_eq_false f))) ?_
        refine W.opS (O.pk (decide (a = 0)) true (.bool true) (.tuple []) (decide_eq_true v)) ?_
        refine W.opS (O.pk (!(decide ((letter c a) ≤ 122))) true (.bool true) (.bool false) (congrArg (fun b => !b) (decide_eq_false f))) ?_
        exact W.adv 14 (W.fr (Ans.o (.bool false) (by rw [H])))
       ·refine W.gf' (a = 0) v ?_
        refine W.adv 1 (W.gf' (a = 0) v ?_)
        refine W.adv 1 (W.gb true ((!(decide ((letter c a) ≤ 122))) == true) (congrArg (fun b => b == true) (congrArg (fun b => !b) (decide_eq_false f))) ?_)
        refine W.opS (O.pk (decide (a = 0)) false (.bool true) (.bool false) (decide_eq_false v)) ?_
        refine W.opS (O.pk (!(decide ((letter c a) ≤ 122))) true (.bool false) (.bool false) (congrArg (fun b => !b) (decide_eq_false f))) ?_
        exact W.adv 12 (W.tl H)
     ·refine W.gf' ((letter c a) = 45) u ?_
      refine W.adv 1 (W.gf' ((letter c a) = 45) u ?_)
      refine W.adv 1 (W.opS (O.pk (decide ((letter c a) = 45)) false (.bool true) (.bool (decide ((letter c a) = 95))) (decide_eq_false u)) ?_)
      refine W.adv 8 ?_
      rcases H with ⟨g, H⟩ | ⟨g, H⟩
      ·refine W.gb false ((!(decide ((letter c a) ≤ 122))) == true) (congrArg (fun b => b == true) (congrArg (fun b => !b) (decide_eq_true g))) ?_
       refine W.gb false ((!(decide ((letter c a) ≤ 122))) == true) (congrArg (fun b => b == true) (congrArg (fun b => !b) (decide_eq_true g))) ?_
       refine W.gb false ((!(decide ((letter c a) ≤ 122))) == true) (congrArg (fun b => b == true) (congrArg (fun b => !b) (decide_eq_true g))) ?_
       refine W.adv 2 (W.gb false ((!(decide ((letter c a) ≤ 122))) == true) (congrArg (fun b => b == true) (congrArg (fun b => !b) (decide_eq_true g))) ?_)
       refine W.opS (O.pk (!(decide ((letter c a) ≤ 122))) false (.tuple []) (.bool false) (congrArg (fun b => !b) (decide_eq_true g))) ?_
       exact W.adv 12 (W.tl H)
      ·refine W.gb true ((!(decide ((letter c a) ≤ 122))) == true) (congrArg (fun b => b == true) (congrArg (fun b => !b) (decide_eq_false g))) ?_
       refine W.adv 1 (W.gb true ((!(decide ((letter c a) ≤ 122))) == true) (congrArg (fun b => b == true) (congrArg (fun b => !b) (decide_eq_false g))) ?_)
       refine W.adv 1 (W.gb true ((!(decide ((letter c a) ≤ 122))) == true) (congrArg (fun b => b == true) (congrArg (fun b => !b) (decide_eq_false g))) ?_)
       refine W.adv 1 ?_
       rcases H with ⟨aa, H⟩ | ⟨aa, H⟩
       ·refine W.gt' (a = 0) aa ?_
        refine W.gt' (a = 0) aa ?_
        refine W.gb true ((!(decide ((letter c a) ≤ 122))) == true) (congrArg (fun b => b == true) (congrArg (fun b => !b) (decide_eq_false g))) ?_
        refine W.opS (O.pk (decide (a = 0)) true (.bool true) (.tuple []) (decide_eq_true aa)) ?_
        refine W.opS (O.pk (!(decide ((letter c a) ≤ 122))) true (.bool true) (.bool false) (congrArg (fun b => !b) (decide_eq_false g))) ?_
        exact W.adv 14 (W.fr (Ans.o (.bool false) (by rw [H])))
       ·refine W.gf' (a = 0) aa ?_
        refine W.adv 1 (W.gf' (a = 0) aa ?_)
        refine W.adv 1 (W.gb true ((!(decide ((letter c a) ≤ 122))) == true) (congrArg (fun b => b == true) (congrArg (fun b => !b) (decide_eq_false g))) ?_)
        refine W.opS (O.pk (decide (a = 0)) false (.bool true) (.bool (!(decide ((letter c a) = 95)))) (decide_eq_false aa)) ?_
        refine W.opS (O.pk (!(decide ((letter c a) ≤ 122))) true (.bool (!(decide ((letter c a) = 95)))) (.bool false) (congrArg (fun b => !b) (decide_eq_false g))) ?_
        refine W.adv 2 ?_
        rcases H with ⟨au, H⟩ | ⟨au, H⟩
        ·refine W.cb false (!(decide ((letter c a) = 95))) (congrArg (fun b => !b) (decide_eq_true au)) ?_
         exact W.adv 9 (W.tl H)
        ·refine W.cb true (!(decide ((letter c a) = 95))) (congrArg (fun b => !b) (decide_eq_false au)) ?_
         exact W.adv 11 (W.fr (Ans.o (.bool false) (by rw [H])))
   ·refine W.gf (48 ≤ (letter c a)) p ?_
    refine W.gf (48 ≤ (letter c a)) p ?_
    refine W.opS (O.pk (decide (48 ≤ (letter c a))) false (.tuple []) (.bool false) (decide_eq_false p)) ?_
    refine W.adv 7 ?_
    rcases H with ⟨ab, H⟩ | ⟨ab, H⟩
    ·refine W.gt' ((letter c a) = 45) ab ?_
     refine W.gt' ((letter c a) = 45) ab ?_
     refine W.opS (O.pk (decide ((letter c a) = 45)) true (.bool true) (.tuple []) (decide_eq_true ab)) ?_
     refine W.adv 8 ?_
     rcases H with ⟨l, H⟩ | ⟨l, H⟩
     ·refine W.gb false ((!(decide ((letter c a) ≤ 122))) == true) (congrArg (fun b => b == true) (congrArg (fun b => !b) (decide_eq_true l))) ?_
      refine W.gb false ((!(decide ((letter c a) ≤ 122))) == true) (congrArg (fun b => b == true) (congrArg (fun b => !b) (decide_eq_true l))) ?_
      refine W.gb false ((!(decide ((letter c a) ≤ 122))) == true) (congrArg (fun b => b == true) (congrArg (fun b => !b) (decide_eq_true l))) ?_
      refine W.adv 2 (W.gb false ((!(decide ((letter c a) ≤ 122))) == true) (congrArg (fun b => b == true) (congrArg (fun b => !b) (decide_eq_true l))) ?_)
      refine W.opS (O.pk (!(decide ((letter c a) ≤ 122))) false (.tuple []) (.bool false) (congrArg (fun b => !b) (decide_eq_true l))) ?_
      exact W.adv 12 (W.tl H)
     ·refine W.gb true ((!(decide ((letter c a) ≤ 122))) == true) (congrArg (fun b => b == true) (congrArg (fun b => !b) (decide_eq_false l))) ?_
      refine W.adv 1 (W.gb true ((!(decide ((letter c a) ≤ 122))) == true) (congrArg (fun b => b == true) (congrArg (fun b => !b) (decide_eq_false l))) ?_)
      refine W.adv 1 (W.gb true ((!(decide ((letter c a) ≤ 122))) == true) (congrArg (fun b => b == true) (congrArg (fun b => !b) (decide_eq_false l))) ?_)
      refine W.adv 1 ?_
      rcases H with ⟨ac, H⟩ | ⟨ac, H⟩
      ·refine W.gt' (a = 0) ac ?_
       refine W.gt' (a = 0) ac ?_
       refine W.gb true ((!(decide ((letter c a) ≤ 122))) == true) (congrArg (fun b => b == true) (congrArg (fun b => !b) (decide_eq_false l))) ?_
       refine W.opS (O.pk (decide (a = 0)) true (.bool true) (.tuple []) (decide_eq_true ac)) ?_
       refine W.opS (O.pk (!(decide ((letter c a) ≤ 122))) true (.bool true) (.bool false) (congrArg (fun b => !b) (decide_eq_false l))) ?_
       exact W.adv 14 (W.fr (Ans.o (.bool false) (by rw [H])))
      ·refine W.gf' (a = 0) ac ?_
       refine W.adv 1 (W.gf' (a = 0) ac ?_)
       refine W.adv 1 (W.gb true ((!(decide ((letter c a) ≤ 122))) == true) (congrArg (fun b => b == true) (congrArg (fun b => !b) (decide_eq_false l))) ?_)
       refine W.opS (O.pk (decide (a = 0)) false (.bool true) (.bool false) (decide_eq_false ac)) ?_
       refine W.opS (O.pk (!(decide ((letter c a) ≤ 122))) true (.bool false) (.bool false) (congrArg (fun b => !b) (decide_eq_false l))) ?_
       exact W.adv 12 (W.tl H)
    ·refine W.gf' ((letter c a) = 45) ab ?_
     refine W.adv 1 (W.gf' ((letter c a) = 45) ab ?_)
     refine W.adv 1 (W.opS (O.pk (decide ((letter c a) = 45)) false (.bool true) (.bool (decide ((letter c a) = 95))) (decide_eq_false ab)) ?_)
     refine W.adv 8 ?_
     rcases H with ⟨m, H⟩ | ⟨m, H⟩
     ·refine W.gb false ((!(decide ((letter c a) ≤ 122))) == true) (congrArg (fun b => b == true) (congrArg (fun b => !b) (decide_eq_true m))) ?_
      refine W.gb false ((!(decide ((letter c a) ≤ 122))) == true) (congrArg (fun b => b == true) (congrArg (fun b => !b) (decide_eq_true m))) ?_
      refine W.gb false ((!(decide ((letter c a) ≤ 122))) == true) (congrArg (fun b => b == true) (congrArg (fun b => !b) (decide_eq_true m))) ?_
      refine W.adv 2 (W.gb false ((!(decide ((letter c a) ≤ 122))) == true) (congrArg (fun b => b == true) (congrArg (fun b => !b) (decide_eq_true m))) ?_)
      refine W.opS (O.pk (!(decide ((letter c a) ≤ 122))) false (.tuple []) (.bool false) (congrArg (fun b => !b) (decide_eq_true m))) ?_
      exact W.adv 12 (W.tl H)
     ·refine W.gb true ((!(decide ((letter c a) ≤ 122))) == true) (congrArg (fun b => b == true) (congrArg (fun b => !b) (decide_eq_false m))) ?_
      refine W.adv 1 (W.gb true ((!(decide ((letter c a) ≤ 122))) == true) (congrArg (fun b => b == true) (congrArg (fun b => !b) (decide_eq_false m))) ?_)
      refine W.adv 1 (W.gb true ((!(decide ((letter c a) ≤ 122))) == true) (congrArg (fun b => b == true) (congrArg (fun b => !b) (decide_eq_false m))) ?_)
      refine W.adv 1 ?_
      rcases H with ⟨ad, H⟩ | ⟨ad, H⟩
      ·refine W.gt' (a = 0) ad ?_
       refine W.gt' (a = 0) ad ?_
       refine W.gb true ((!(decide ((letter c a) ≤ 122))) == true) (congrArg (fun b => b == true) (congrArg (fun b => !b) (decide_eq_false m))) ?_
       refine W.opS (O.pk (decide (a = 0)) true (.bool true) (.tuple []) (decide_eq_true ad)) ?_
       refine W.opS (O.pk (!(decide ((letter c a) ≤ 122))) true (.bool true) (.bool false) (congrArg (fun b => !b) (decide_eq_false m))) ?_
       exact W.adv 14 (W.fr (Ans.o (.bool false) (by rw [H])))
      ·refine W.gf' (a = 0) ad ?_
       refine W.adv 1 (W.gf' (a = 0) ad ?_)
       refine W.adv 1 (W.gb true ((!(decide ((letter c a) ≤ 122))) == true) (congrArg (fun b => b == true) (congrArg (fun b => !b) (decide_eq_false m))) ?_)
       refine W.opS (O.pk (decide (a = 0)) false (.bool true) (.bool (!(decide ((letter c a) = 95)))) (decide_eq_false ad)) ?_
       refine W.opS (O.pk (!(decide ((letter c a) ≤ 122))) true (.bool (!(decide ((letter c a) = 95)))) (.bool false) (congrArg (fun b => !b) (decide_eq_false m))) ?_
       refine W.adv 2 ?_
       rcases H with ⟨av, H⟩ | ⟨av, H⟩
       ·refine W.cb false (!(decide ((letter c a) = 95))) (congrArg (fun b => !b) (decide_eq_true av)) ?_
        exact W.adv 9 (W.tl H)
       ·refine W.cb true (!(decide ((letter c a) = 95))) (congrArg (fun b => !b) (decide_eq_false av)) ?_
        exact W.adv 11 (W.fr (Ans.o (.bool false) (by rw [H])))
  ·refine W.gf (97 ≤ (letter c a)) n ?_
   refine W.gf (97 ≤ (letter c a)) n ?_
   refine W.opS (O.pk (decide (97 ≤ (letter c a))) false (.tuple []) (.bool false) (decide_eq_false n)) ?_
   refine W.adv 8 ?_
   rcases H with ⟨ae, H⟩ | ⟨ae, H⟩
   ·refine W.gt (48 ≤ (letter c a)) ae ?_
    refine W.adv 1 (W.gt (48 ≤ (letter c a)) ae ?_)
    refine W.adv 1 (W.opS (O.pk (decide (48 ≤ (letter c a))) true (.bool (decide ((letter c a) ≤ 57))) (.bool false) (decide_eq_true ae)) ?_)
    refine W.adv 1 ?_
    rcases H with ⟨af, H⟩ | ⟨af, H⟩
    ·refine W.gt' ((letter c a) ≤ 57) af ?_
     refine W.gt' ((letter c a) ≤ 57) af ?_
     refine W.opS (O.pk (decide ((letter c a) ≤ 57)) true (.bool true) (.tuple []) (decide_eq_true af)) ?_
     refine W.adv 18 ?_
     rcases H with ⟨ag, H⟩ | ⟨ag, H⟩
     ·refine W.gt' (a = 0) ag ?_
      refine W.gt' (a = 0) ag ?_
      refine W.adv 1 (W.opS (O.pk (decide (a = 0)) true (.bool true) (.tuple []) (decide_eq_true ag)) ?_)
      exact W.adv 15 (W.fr (Ans.o (.bool false) (by rw [H])))
     ·refine W.gf' (a = 0) ag ?_
      refine W.adv 1 (W.gf' (a = 0) ag ?_)
      refine W.adv 2 (W.opS (O.pk (decide (a = 0)) false (.bool true) (.bool false) (decide_eq_false ag)) ?_)
      exact W.adv 13 (W.tl H)
    ·refine W.gf' ((letter c a) ≤ 57) af ?_
     refine W.adv 1 (W.gf' ((letter c a) ≤ 57) af ?_)
     refine W.adv 1 (W.opS (O.pk (decide ((letter c a) ≤ 57)) false (.bool true) (.bool (decide ((letter c a) = 45))) (decide_eq_false af)) ?_)
     refine W.adv 1 ?_
     rcases H with ⟨ai, H⟩ | ⟨ai, H⟩
     ·refine W.gt' ((letter c a) = 45) ai ?_
      refine W.gt' ((letter c a) = 45) ai ?_
      refine W.opS (O.pk (decide ((letter c a) = 45)) true (.bool true) (.tuple []) (decide_eq_true ai)) ?_
      refine W.adv 14 ?_
      rcases H with ⟨ak, H⟩ | ⟨ak, H⟩
      ·refine W.gt' (a = 0) ak ?_
       refine W.gt' (a = 0) ak ?_
       refine W.adv 1 (W.opS (O.pk (decide (a = 0)) true (.bool true) (.tuple []) (decide_eq_true ak)) ?_)
       exact W.adv 15 (W.fr (Ans.o (.bool false) (by rw [H])))
      ·refine W.gf' (a = 0) ak ?_
       refine W.adv 1 (W.gf' (a = 0) ak ?_)
       refine W.adv 2 (W.opS (O.pk (decide (a = 0)) false (.bool true) (.bool false) (decide_eq_false ak)) ?_)
       exact W.adv 13 (W.tl H)
     ·refine W.gf' ((letter c a) = 45) ai ?_
      refine W.adv 1 (W.gf' ((letter c a) = 45) ai ?_)
      refine W.adv 1 (W.opS (O.pk (decide ((letter c a) = 45)) false (.bool true) (.bool (decide ((letter c a) = 95))) (decide_eq_false ai)) ?_)
      refine W.adv 14 ?_
      rcases H with ⟨al, H⟩ | ⟨al, H⟩
      ·refine W.gt' (a = 0) al ?_
       refine W.gt' (a = 0) al ?_
       refine W.adv 1 (W.opS (O.pk (decide (a = 0)) true (.bool true) (.tuple []) (decide_eq_true al)) ?_)
       exact W.adv 15 (W.fr (Ans.o (.bool false) (by rw [H])))
      ·refine W.gf' (a = 0) al ?_
       refine W.adv 1 (W.gf' (a = 0) al ?_)
       refine W.adv 2 (W.opS (O.pk (decide (a = 0)) false (.bool true) (.bool (!(decide ((letter c a) = 95)))) (decide_eq_false al)) ?_)
       refine W.adv 3 ?_
       rcases H with ⟨aw, H⟩ | ⟨aw, H⟩
       ·refine W.cb false (!(decide ((letter c a) = 95))) (congrArg (fun b => !b) (decide_eq_true aw)) ?_
        exact W.adv 9 (W.tl H)
       ·refine W.cb true (!(decide ((letter c a) = 95))) (congrArg (fun b => !b) (decide_eq_false aw)) ?_
        exact W.adv 11 (W.fr (Ans.o (.bool false) (by rw [H])))
   ·refine W.gf (48 ≤ (letter c a)) ae ?_
    refine W.gf (48 ≤ (letter c a)) ae ?_
    refine W.opS (O.pk (decide (48 ≤ (letter c a))) false (.tuple []) (.bool false) (decide_eq_false ae)) ?_
    refine W.adv 7 ?_
    rcases H with ⟨am, H⟩ | ⟨am, H⟩
    ·refine W.gt' ((letter c a) = 45) am ?_
     refine W.gt' ((letter c a) = 45) am ?_
     refine W.opS (O.pk (decide ((letter c a) = 45)) true (.bool true) (.tuple []) (decide_eq_true am)) ?_
     refine W.adv 14 ?_
     rcases H with ⟨an, H⟩ | ⟨an, H⟩
     ·refine W.gt' (a = 0) an ?_
      refine W.gt' (a = 0) an ?_
      refine W.adv 1 (W.opS (O.pk (decide (a = 0)) true (.bool true) (.tuple []) (decide_eq_true an)) ?_)
      exact W.adv 15 (W.fr (Ans.o (.bool false) (by rw [H])))
     ·refine W.gf' (a = 0) an ?_
      refine W.adv 1 (W.gf' (a = 0) an ?_)
      refine W.adv 2 (W.opS (O.pk (decide (a = 0)) false (.bool true) (.bool false) (decide_eq_false an)) ?_)
      exact W.adv 13 (W.tl H)
    ·refine W.gf' ((letter c a) = 45) am ?_
     refine W.adv 1 (W.gf' ((letter c a) = 45) am ?_)
     refine W.adv 1 (W.opS (O.pk (decide ((letter c a) = 45)) false (.bool true) (.bool (decide ((letter c a) = 95))) (decide_eq_false am)) ?_)
     refine W.adv 14 ?_
     rcases H with ⟨ap, H⟩ | ⟨ap, H⟩
     ·refine W.gt' (a = 0) ap ?_
      refine W.gt' (a = 0) ap ?_
      refine W.adv 1 (W.opS (O.pk (decide (a = 0)) true (.bool true) (.tuple []) (decide_eq_true ap)) ?_)
      exact W.adv 15 (W.fr (Ans.o (.bool false) (by rw [H])))
     ·refine W.gf' (a = 0) ap ?_
      refine W.adv 1 (W.gf' (a = 0) ap ?_)
      refine W.adv 2 (W.opS (O.pk (decide (a = 0)) false (.bool true) (.bool (!(decide ((letter c a) = 95)))) (decide_eq_false ap)) ?_)
      refine W.adv 3 ?_
      rcases H with ⟨ay, H⟩ | ⟨ay, H⟩
      ·refine W.cb false (!(decide ((letter c a) = 95))) (congrArg (fun b => !b) (decide_eq_true ay)) ?_
       exact W.adv 9 (W.tl H)
      ·refine W.cb true (!(decide ((letter c a) = 95))) (congrArg (fun b => !b) (decide_eq_false ay)) ?_
       exact W.adv 11 (W.fr (Ans.o (.bool false) (by rw [H])))
 ·refine W.cf (a < (c.size : Int)) aq ?_
  exact W.adv 14 (W.fr (Ans.o (.bool (decide (0 < (c.size : Int)))) (by rw [H])))
theorem ref17_Word_go (H : ref17_Word_l0 ar 0 z) : ref17_Word_R ar z := by
 refine W.ii Try.func34 ?_
 exact W.adv 12 (W.tl H)
end
end Go.Proofs.YtlpbmajbalenjaaA
