/- Walks through the functions: what makes each relation true. -/
import Derived.Test.YtjcdkemnflmfiaaGreatW0
set_option linter.unusedVariables false
set_option maxRecDepth 100000
namespace Go.Proofs.YtjcdkemnflmfiaaGreatA
open Go Go.Proofs
theorem law30_few_go {ag : ByteArray} {ai : List T_api_Node} {ak : List T_api_Link} {c : List T_api_Rule} {a : Int} {z : Bool} (H : a < 0 ∧ (z = true) ∨ ¬ a < 0 ∧ ((c.length : Int) ≤ a ∧ (z = true) ∨ ¬ (c.length : Int) ≤ a ∧ 0 ≤ a ∧ a < (c.length : Int) ∧ ∃ q s u v aa, c.getD (a).toNat (ByteArray.empty, 0, 0, false, []) = (q, s, u, v, aa) ∧ ∃ e, ref24_Out_R q s u v aa e ∧ ((e.length : Int) ≤ 5 ∧ (z = true) ∨ ¬ (e.length : Int) ≤ 5 ∧ ∃ ab ac ad ae af, c.getD (a).toNat (ByteArray.empty, 0, 0, false, []) = (ab, ac, ad, ae, af) ∧ ∃ p, ref24_Out_R ab ac ad ae af p ∧ (z = (decide (8 < (p.length : Int))))))) : law30_few_R ag ai ak c a z := by
 refine W.ii Tryz.func9 ?_
 refine W.adv 11 ?_
 rcases H with ⟨l, H⟩ | ⟨l, H⟩
 ·refine W.gt' (a < 0) l ?_
  refine W.gt' (a < 0) l ?_
  refine W.gt' (a < 0) l ?_
  refine W.gt' (a < 0) l ?_
  refine W.gt' (a < 0) l ?_
  refine W.opS (O.pk (decide (a < 0)) true (.bool true) (.tuple []) (decide_eq_true l)) ?_
  exact W.adv 24 (W.fr (Ans.o (.bool true) (by rw [H])))
 ·refine W.gf' (a < 0) l ?_
  refine W.adv 1 (W.gf' (a < 0) l ?_)
  refine W.adv 1 (W.gf' (a < 0) l ?_)
  refine W.adv 1 (W.gf' (a < 0) l ?_)
  refine W.opS (O.ln c E_api_Rule) ?_
  refine W.gf' (a < 0) l ?_
  refine W.adv 1 (W.opS (O.pk (decide (a < 0)) false (.bool true) (.bool (decide ((c.length : Int) ≤ a))) (decide_eq_false l)) ?_)
  refine W.adv 1 ?_
  rcases H with ⟨f, H⟩ | ⟨f, H⟩
  ·refine W.gt' ((c.length : Int) ≤ a) f ?_
   refine W.gt' ((c.length : Int) ≤ a) f ?_
   refine W.gt' ((c.length : Int) ≤ a) f ?_
   refine W.gt' ((c.length : Int) ≤ a) f ?_
   refine W.gt' ((c.length : Int) ≤ a) f ?_
   refine W.gt' ((c.length : Int) ≤ a) f ?_
   refine W.gt' ((c.length : Int) ≤ a) f ?_
   refine W.gt' ((c.length : Int) ≤ a) f ?_
   refine W.opS (O.pk (decide ((c.length : Int) ≤ a)) true (.bool true) (.tuple []) (decide_eq_true f)) ?_
   exact W.adv 14 (W.fr (Ans.o (.bool true) (by rw [H])))
  ·refine W.gf' ((c.length : Int) ≤ a) f ?_
   refine W.adv 1 (W.gf' ((c.length : Int) ≤ a) f ?_)
   refine W.adv 1 (W.gf' ((c.length : Int) ≤ a) f ?_)
   refine W.adv 1 (W.gf' ((c.length : Int) ≤ a) f ?_)
   obtain ⟨al, am, H⟩ := H
   obtain ⟨q, s, u, v, aa, an, H⟩ := H
   refine W.opS (O.ixE E_api_Rule 5 .i64 c a (ByteArray.empty, 0, 0, false, []) (q, s, u, v, aa) al am an) ?_
   refine W.gf' ((c.length : Int) ≤ a) f ?_
   refine W.adv 1 (W.gf' ((c.length : Int) ≤ a) f ?_)
   obtain ⟨e, ap, H⟩ := H
   refine W.cl 17 [(.agg [.str q, .int .u32 s, .int .i64 u, .bool v, (.list 1 (aa.map E71))])] (.list 1 (e.map E_string)) ap ?_
   refine W.gf' ((c.length : Int) ≤ a) f ?_
   refine W.opS (O.ln e E_string) ?_
   refine W.gf' ((c.length : Int) ≤ a) f ?_
   refine W.adv 1 (W.opS (O.pk (decide ((c.length : Int) ≤ a)) false (.bool true) (.bool (decide ((e.length : Int) ≤ 5))) (decide_eq_false f)) ?_)
   refine W.adv 1 ?_
   rcases H with ⟨k, H⟩ | ⟨k, H⟩
   ·refine W.gt' ((e.length : Int) ≤ 5) k ?_
    refine W.gt' ((e.length : Int) ≤ 5) k ?_
    refine W.gt' ((e.length : Int) ≤ 5) k ?_
    refine W.gt' ((e.length : Int) ≤ 5) k ?_
    refine W.gt' ((e.length : Int) ≤ 5) k ?_
    refine W.gt' ((e.length : Int) ≤ 5) k ?_
    refine W.gt' ((e.length : Int) ≤ 5) k ?_
    refine W.gt' ((e.length : Int) ≤ 5) k ?_
    refine W.opS (O.pk (decide ((e.length : Int) ≤ 5)) true (.bool true) (.tuple []) (decide_eq_true k)) ?_
    exact W.adv 4 (W.fr (Ans.o (.bool true) (by rw [H])))
   ·refine W.gf' ((e.length : Int) ≤ 5) k ?_
    refine W.adv 1 (W.gf' ((e.length : Int) ≤ 5) k ?_)
    refine W.adv 1 (W.gf' ((e.length : Int) ≤ 5) k ?_)
    refine W.adv 1 (W.gf' ((e.length : Int) ≤ 5) k ?_)
    obtain ⟨ab, ac, ad, ae, af, aq, H⟩ := H
    refine W.opS (O.ixE E_api_Rule 5 .i64 c a (ByteArray.empty, 0, 0, false, []) (ab, ac, ad, ae, af) al am aq) ?_
    refine W.gf' ((e.length : Int) ≤ 5) k ?_
    refine W.adv 1 (W.gf' ((e.length : Int) ≤ 5) k ?_)
    obtain ⟨p, ar, H⟩ := H
    refine W.cl 17 [(.agg [.str ab, .int .u32 ac, .int .i64 ad, .bool ae, (.list 1 (af.map E71))])] (.list 1 (p.map E_string)) ar ?_
    refine W.gf' ((e.length : Int) ≤ 5) k ?_
    refine W.opS (O.ln p E_string) ?_
    refine W.gf' ((e.length : Int) ≤ 5) k ?_
    refine W.adv 1 (W.opS (O.pk (decide ((e.length : Int) ≤ 5)) false (.bool true) (.bool (decide (8 < (p.length : Int)))) (decide_eq_false k)) ?_)
    exact W.adv 4 (W.fr (Ans.o (.bool (decide (8 < (p.length : Int)))) (by rw [H])))
end Go.Proofs.YtjcdkemnflmfiaaGreatA
