/- Walks through the functions: what makes each relation true. -/
import Derived.Test.YtlpbmajbalenjaaW0
set_option linter.unusedVariables false
set_option maxRecDepth 100000
namespace Go.Proofs.YtlpbmajbalenjaaA
open Go Go.Proofs
theorem law19_works_go {z : Bool} (H : ∃ a c k, lex_All_R (⟨#[108, 105, 110, 107, 32, 108, 49, 32, 97, 32, 98, 32, 102, 97, 105, 108, 32, 49, 47, 50, 59]⟩) a c k ∧ (k = 0 ∧ ((a.length : Int) = 7 ∧ ((c = 1 ∧ 5 < (a.length : Int) ∧ ∃ aa e ab, a.getD 5 (0, ByteArray.empty, 0) = (aa, e, ab) ∧ ((e = ⟨#[49, 47, 50]⟩ ∧ ∃ f ac ad, a.getD 5 (0, ByteArray.empty, 0) = (f, ac, ad) ∧ ((f = 2 ∧ 6 < (a.length : Int) ∧ ∃ u ae af, a.getD 6 (0, ByteArray.empty, 0) = (u, ae, af) ∧ (z = (decide (u = 3)))) ∨ ¬ f = 2 ∧ (z = false))) ∨ ¬ e = ⟨#[49, 47, 50]⟩ ∧ (z = false))) ∨ ¬ c = 1 ∧ (z = false)) ∨ ¬ (a.length : Int) = 7 ∧ (z = false)) ∨ ¬ k = 0 ∧ (z = false))) : law19_works_R z := by
 refine W.ii Try.func15 ?_
 refine W.adv 7 ?_
 obtain ⟨a, c, k, ai, H⟩ := H
 refine W.cl 13 [.str ⟨#[108, 105, 110, 107, 32, 108, 49, 32, 97, 32, 98, 32, 102, 97, 105, 108, 32, 49, 47, 50, 59]⟩] (.tuple [(.list 3 (a.map E_lex_Token)), .int .i64 c, .int .i64 k]) ai ?_
 refine W.adv 14 ?_
 rcases H with ⟨s, H⟩ | ⟨s, H⟩
 ·refine W.gt (k = 0) s ?_
  refine W.adv 1 (W.gt (k = 0) s ?_)
  refine W.opS (O.ln a E_lex_Token) ?_
  refine W.gt (k = 0) s ?_
  refine W.adv 1 (W.opS (O.pk (decide (k = 0)) true (.bool (decide ((a.length : Int) = 7))) (.bool false) (decide_eq_true s)) ?_)
  refine W.adv 1 ?_
  rcases H with ⟨v, H⟩ | ⟨v, H⟩
  ·refine W.gt ((a.length : Int) = 7) v ?_
   refine W.adv 1 (W.gt ((a.length : Int) = 7) v ?_)
   refine W.adv 1 (W.opS (O.pk (decide ((a.length : Int) = 7)) true (.bool (decide (c = 1))) (.bool false) (decide_eq_true v)) ?_)
   refine W.adv 1 ?_
   rcases H with ⟨l, H⟩ | ⟨l, H⟩
   ·refine W.gt (c = 1) l ?_
    refine W.adv 1 (W.gt (c = 1) l ?_)
    obtain ⟨ag, H⟩ := H
    obtain ⟨aa, e, ab, ak, H⟩ := H
    refine W.opS (O.ixE E_lex_Token 3 .i64 a 5 (0, ByteArray.empty, 0) (aa, e, ab) (by decide) ag ak) ?_
    refine W.gt (c = 1) l ?_
    refine W.adv 1 (W.gt (c = 1) l ?_)
    refine W.adv 1 (W.gt (c = 1) l ?_)
    refine W.adv 1 (W.opS (O.pk (decide (c = 1)) true (.bool (decide (e = ⟨#[49, 47, 50]⟩))) (.bool false) (decide_eq_true l)) ?_)
    refine W.adv 1 ?_
    rcases H with ⟨p, H⟩ | ⟨p, H⟩
    ·refine W.gt (e = ⟨#[49, 47, 50]⟩) p ?_
     refine W.adv 1 (W.gt (e = ⟨#[49, 47, 50]⟩) p ?_)
     obtain ⟨f, ac, ad, al, H⟩ := H
     refine W.opS (O.ixE E_lex_Token 3 .i64 a 5 (0, ByteArray.empty, 0) (f, ac, ad) (by decide) ag al) ?_
     refine W.gt (e = ⟨#[49, 47, 50]⟩) p ?_
     refine W.adv 1 (W.gt (e = ⟨#[49, 47, 50]⟩) p ?_)
     refine W.adv 1 (W.gt (e = ⟨#[49, 47, 50]⟩) p ?_)
     refine W.adv 1 (W.opS (O.pk (decide (e = ⟨#[49, 47, 50]⟩)) true (.bool (decide (f = 2))) (.bool false) (decide_eq_true p)) ?_)
     refine W.adv 1 ?_
     rcases H with ⟨q, H⟩ | ⟨q, H⟩
     ·refine W.gt (f = 2) q ?_
      refine W.adv 1 (W.gt (f = 2) q ?_)
      obtain ⟨am, H⟩ := H
      obtain ⟨u, ae, af, an, H⟩ := H
      refine W.opS (O.ixE E_lex_Token 3 .i64 a 6 (0, ByteArray.empty, 0) (u, ae, af) (by decide) am an) ?_
      refine W.gt (f = 2) q ?_
      refine W.adv 1 (W.gt (f = 2) q ?_)
      refine W.adv 1 (W.gt (f = 2) q ?_)
      refine W.adv 1 (W.opS (O.pk (decide (f = 2)) true (.bool (decide (u = 3))) (.bool false) (decide_eq_true q)) ?_)
      exact W.adv 4 (W.fr (Ans.o (.bool (decide (u = 3))) (by rw [H])))
     ·refine W.gf (f = 2) q ?_
      refine W.gf (f = 2) q ?_
      refine W.gf (f = 2) q ?_
      refine W.gf (f = 2) q ?_
      refine W.gf (f = 2) q ?_
      refine W.opS (O.pk (decide (f = 2)) false (.tuple []) (.bool false) (decide_eq_false q)) ?_
      exact W.adv 4 (W.fr (Ans.o (.bool false) (by rw [H])))
    ·refine W.gf (e = ⟨#[49, 47, 50]⟩) p ?_
     refine W.gf (e = ⟨#[49, 47, 50]⟩) p ?_
     refine W.gf (e = ⟨#[49, 47, 50]⟩) p ?_
     refine W.gf (e = ⟨#[49, 47, 50]⟩) p ?_
     refine W.gf (e = ⟨#[49, 47, 50]⟩) p ?_
     refine W.opS (O.pk (decide (e = ⟨#[49, 47, 50]⟩)) false (.tuple []) (.bool false) (decide_eq_false p)) ?_
     exact W.adv 11 (W.fr (Ans.o (.bool false) (by rw [H])))
   ·refine W.gf (c = 1) l ?_
    refine W.gf (c = 1) l ?_
    refine W.gf (c = 1) l ?_
    refine W.gf (c = 1) l ?_
    refine W.gf (c = 1) l ?_
    refine W.opS (O.pk (decide (c = 1)) false (.tuple []) (.bool false) (decide_eq_false l)) ?_
    exact W.adv 18 (W.fr (Ans.o (.bool false) (by rw [H])))
  ·refine W.gf ((a.length : Int) = 7) v ?_
   refine W.gf ((a.length : Int) = 7) v ?_
   refine W.opS (O.pk (decide ((a.length : Int) = 7)) false (.tuple []) (.bool false) (decide_eq_false v)) ?_
   exact W.adv 25 (W.fr (Ans.o (.bool false) (by rw [H])))
 ·refine W.gf (k = 0) s ?_
  refine W.gf (k = 0) s ?_
  refine W.gf (k = 0) s ?_
  refine W.opS (O.pk (decide (k = 0)) false (.tuple []) (.bool false) (decide_eq_false s)) ?_
  exact W.adv 29 (W.fr (Ans.o (.bool false) (by rw [H])))
end Go.Proofs.YtlpbmajbalenjaaA
