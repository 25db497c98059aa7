/- Walks through the functions: what makes each relation true. -/
import Derived.Test.YtjcdkemnflmfiaaGreatW0
set_option linter.unusedVariables false
set_option maxRecDepth 100000
namespace Go.Proofs.YtjcdkemnflmfiaaGreatA
open Go Go.Proofs
theorem law30_One_go {k : List T_api_Net} {l : ByteArray} {p : List T_api_Node} {q : List T_api_Link} {s : List T_api_Rule} (H : ∃ a, ref22_Clean_R k a ∧ ((a.length : Int) = 0 ∧ l = ⟨#[]⟩ ∧ p = ([] : List T_api_Node) ∧ q = ([] : List T_api_Link) ∧ s = ([] : List T_api_Rule) ∨ ¬ (a.length : Int) = 0 ∧ 0 < (a.length : Int) ∧ ∃ b c e f, a.getD 0 (ByteArray.empty, [], [], []) = (b, c, e, f) ∧ l = b ∧ p = c ∧ q = e ∧ s = f)) : law30_One_R k l p q s := by
 refine W.ii Tryz.func8 ?_
 refine W.adv 8 ?_
 obtain ⟨a, u, H⟩ := H
 refine W.cl 34 [(.list 4 (k.map E_api_Net))] (.list 4 (a.map E_api_Net)) u ?_
 refine W.adv 7 (W.opS (O.ln a E_api_Net) ?_)
 refine W.adv 3 ?_
 rcases H with ⟨t, H⟩ | ⟨t, H⟩
 ·refine W.ct ((a.length : Int) = 0) t ?_
  exact W.adv 8 (W.fr (Ans.q (.agg [.str ⟨#[]⟩, (.list 2 (([] : List T_api_Node).map E_api_Node)), (.list 6 (([] : List T_api_Link).map E_api_Link)), (.list 5 (([] : List T_api_Rule).map E_api_Rule))]) (by rw [H.1, H.2.1, H.2.2.1, H.2.2.2])))
 ·refine W.cf ((a.length : Int) = 0) t ?_
  refine W.adv 5 ?_
  obtain ⟨v, H⟩ := H
  obtain ⟨b, c, e, f, y, H⟩ := H
  refine W.opS (O.ixE E_api_Net 4 .i64 a 0 (ByteArray.empty, [], [], []) (b, c, e, f) (by decide) v y) ?_
  exact W.adv 5 (W.fr (Ans.o (.agg [.str b, (.list 2 (c.map E_api_Node)), (.list 6 (e.map E_api_Link)), (.list 5 (f.map E_api_Rule))]) (by rw [H.1, H.2.1, H.2.2.1, H.2.2.2])))
end Go.Proofs.YtjcdkemnflmfiaaGreatA
