/- Walks through the functions: what makes each relation true. -/
import Derived.Test.YtlpbmajbalenjaaW0
set_option linter.unusedVariables false
set_option maxRecDepth 100000
namespace Go.Proofs.YtlpbmajbalenjaaA
open Go Go.Proofs
section
variable (c f : ByteArray) (a : Int) (m n : ByteArray) (z : Int)
noncomputable def lex_length_l0_s (j : Nat → D) (jb : Nat → Blk) (vs : Nat → Nat) : Cf := cfAt Try.f45 [1, 1, 0, 0] ⟨([.str c, .str f, j 2, j 3, j 4, .int .i64 a] ++ J j 6 15), (J jb 0 21)⟩
def lex_length_l0 : Prop := ∀ j jb vs, W C F 45 0 (lex_length_l0_s c f a  j jb vs) (Ans C Try.f45 (.int .i64 z))
variable {c f a m n z}
theorem lex_length_l0_go (H : (a < (c.size : Int) ∧ 0 ≤ a ∧ ∃ l, strings_IndexByte_R f (letter c a) l ∧ (0 ≤ l ∧ lex_length_l0 c f (wi (a + 1)) z ∨ ¬ 0 ≤ l ∧ (z = a))) ∨ ¬ a < (c.size : Int) ∧ (z = a)) : lex_length_l0 c f a z := by
 intro j jb vs
 refine W.adv 1 (W.adv 8 ?_)
 rcases H with ⟨e, H⟩ | ⟨e, H⟩
 ·refine W.gt (a < (c.size : Int)) e ?_
  refine W.adv 1 (W.gt (a < (c.size : Int)) e ?_)
  refine W.adv 1 (W.gt (a < (c.size : Int)) e ?_)
  refine W.adv 1 (W.gt (a < (c.size : Int)) e ?_)
  obtain ⟨q, H⟩ := H
  refine W.opS (OpIs.ixT (k := .i64) (s := c) (i := a) (by kernel_rfl) q e) ?_
  refine W.gt (a < (c.size : Int)) e ?_
  obtain ⟨l, u, H⟩ := H
  refine W.cl 44 [.str f, (.int .u8 (letter c a))] (.int .i64 l) u ?_
  refine W.gt (a < (c.size : Int)) e ?_
  refine W.adv 1 (W.opS (O.pk (decide (a < (c.size : Int))) true (.bool (decide (0 ≤ l))) (.bool false) (decide_eq_true e)) ?_)
  refine W.adv 2 ?_
  rcases H with ⟨p, H⟩ | ⟨p, H⟩
  ·refine W.ct (0 ≤ l) p ?_
   exact W.adv 10 (W.tl H)
  ·refine W.cf (0 ≤ l) p ?_
   exact W.adv 12 (W.fr (Ans.o (.int .i64 a) (by rw [H])))
 ·refine W.gf (a < (c.size : Int)) e ?_
  refine W.gf (a < (c.size : Int)) e ?_
  refine W.gf (a < (c.size : Int)) e ?_
  refine W.gf (a < (c.size : Int)) e ?_
  refine W.gf (a < (c.size : Int)) e ?_
  refine W.gf (a < (c.size : Int)) e ?_
  refine W.opS (O.pk (decide (a < (c.size : Int))) false (.tuple []) (.bool false) (decide_eq_false e)) ?_
  exact W.adv 15 (W.fr (Ans.o (.int .i64 a) (by rw [H])))
theorem lex_length_go (H : lex_length_l0 m n 1 z) : lex_length_R m n z := by
 refine W.ii Try.func45 ?_
 exact W.adv 12 (W.tl H)
end
end Go.Proofs.YtlpbmajbalenjaaA
