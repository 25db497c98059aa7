/- Walks through the functions: what makes each relation true. -/
import Derived.Test.YtfijdkdpcjfiaaaGreatW0
set_option linter.unusedVariables false
set_option maxRecDepth 100000
namespace Go.Proofs.YtfijdkdpcjfiaaaGreatA
open Go Go.Proofs
theorem law30_One_go {a0 : List T_api_Net} {z_0 : ByteArray} {z_1 : List T_api_Node} {z_2 : List T_api_Link} {z_3 : List T_api_Rule} (H : (∃ c1 : List T_api_Net, (ref22_Clean_R a0 c1 ∧ (((c1.length : Int) = 0 ∧ (z_0 = ⟨#[]⟩ ∧ z_1 = ([] : List T_api_Node) ∧ z_2 = ([] : List T_api_Link) ∧ z_3 = ([] : List T_api_Rule))) ∨ (¬ (c1.length : Int) = 0 ∧ (0 < (c1.length : Int) ∧ (∃ e5 : ByteArray, (∃ e6 : List T_api_Node, (∃ e7 : List T_api_Link, (∃ e8 : List T_api_Rule, (c1.getD 0 (ByteArray.empty, [], [], []) = (e5, e6, e7, e8) ∧ (z_0 = e5 ∧ z_1 = e6 ∧ z_2 = e7 ∧ z_3 = e8)))))))))))) : law30_One_R a0 z_0 z_1 z_2 z_3 := by
 refine W.ic (zs := [(.list 4 (a0.map E_api_Net))]) Tryz.func4 (by kernel_rfl) (by kernel_rfl) (by kernel_rfl) (by kernel_rfl) ?_
 refine W.adv 8 ?_
 obtain ⟨c1, hc2, H⟩ := H
 refine W.callR (g := 13) (ds := [(.list 4 (a0.map E_api_Net))]) (es := [(.list 4 (a0.map E_api_Net))]) (r := (.list 4 (c1.map E_api_Net))) (by kernel_rfl) (by kernel_rfl) (Ic.args hc2 (by kernel_rfl)) (by kernel_rfl) ?_
 refine W.adv 7 ?_
 refine W.opS (OpIs.ln (n := (c1.map E_api_Net).length) (m := c1.length) (by kernel_rfl) (by rw [List.length_map])) ?_
 refine W.adv 3 ?_
 rcases H with ⟨h3, H⟩ | ⟨h3, H⟩
 ·refine W.cond true (w := (decide ((c1.length : Int) = 0))) (by kernel_rfl) (decide_eq_true h3) ?_
  refine W.adv 8 ?_
  exact W.fin (x := .ret) (by kernel_rfl) (Ans.of (d := (.agg [.str ⟨#[]⟩, .nilS, .nilS, .nilS])) (d' := (.agg [.str ⟨#[]⟩, .nilS, .nilS, .nilS])) (e' := (.agg [.str ⟨#[]⟩, (.list 2 (([] : List T_api_Node).map E_api_Node)), (.list 6 (([] : List T_api_Link).map E_api_Link)), (.list 5 (([] : List T_api_Rule).map E_api_Rule))])) (by kernel_rfl) (by kernel_rfl) (by kernel_rfl) (by rw [H.1, H.2.1, H.2.2.1, H.2.2.2]))
 ·refine W.cond false (w := (decide ((c1.length : Int) = 0))) (by kernel_rfl) (decide_eq_false h3) ?_
  refine W.adv 5 ?_
  obtain ⟨h4, H⟩ := H
  obtain ⟨e5, e6, e7, e8, he9, H⟩ := H
  refine W.opS (OpIs.ixE (enc := E_api_Net) (n := 4) (k' := .i64) (L := c1) (i := 0) (d0 := (ByteArray.empty, [], [], [])) (x := (e5, e6, e7, e8)) (by kernel_rfl) (by decide) h4 he9) ?_
  refine W.adv 5 ?_
  exact W.fin (x := .ret) (by kernel_rfl) (Ans.of (d := (.agg [.str e5, (.list 2 (e6.map E_api_Node)), (.list 6 (e7.map E_api_Link)), (.list 5 (e8.map E_api_Rule))])) (d' := (.agg [.str e5, (.list 2 (e6.map E_api_Node)), (.list 6 (e7.map E_api_Link)), (.list 5 (e8.map E_api_Rule))])) (e' := (.agg [.str e5, (.list 2 (e6.map E_api_Node)), (.list 6 (e7.map E_api_Link)), (.list 5 (e8.map E_api_Rule))])) (by kernel_rfl) (by kernel_rfl) (by kernel_rfl) (by rw [H.1, H.2.1, H.2.2.1, H.2.2.2]))
end Go.Proofs.YtfijdkdpcjfiaaaGreatA
