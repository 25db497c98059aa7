/- Walks through the functions: what makes each relation true. -/
import Derived.Test.YtfijdkdpcjfiaaaGreatW0
set_option linter.unusedVariables false
set_option maxRecDepth 100000
namespace Go.Proofs.YtfijdkdpcjfiaaaGreatA
open Go Go.Proofs
theorem law45_LeanParts_go {a0 : List T_api_Net} {a1 : Int} {a2_0 : ByteArray} {a2_1 : Int} {a2_2 : Int} {a2_3 : Bool} {a2_4 : List T46} {a3_0 : ByteArray} {a3_1 : Int} {a3_2 : Int} {a3_3 : Bool} {a3_4 : List T46} {a4_0 : Int} {a4_1 : Int} {z : Bool} (H : (∃ c1_0 : ByteArray, (∃ c1_1 : List T_api_Node, (∃ c1_2 : List T_api_Link, (∃ c1_3 : List T_api_Rule, (law30_One_R a0 c1_0 c1_1 c1_2 c1_3 ∧ (∃ c3_0 : ByteArray, (∃ c3_1 : Int, (∃ c3_2 : Int, (∃ c3_3 : Bool, (∃ c3_4 : List T46, (ref22_CleanRule_R a2_0 a2_1 a2_2 a2_3 a2_4 c3_0 c3_1 c3_2 c3_3 c3_4 ∧ (∃ c5_0 : ByteArray, (∃ c5_1 : Int, (∃ c5_2 : Int, (∃ c5_3 : Bool, (∃ c5_4 : List T46, (ref22_CleanRule_R a3_0 a3_1 a3_2 a3_3 a3_4 c5_0 c5_1 c5_2 c5_3 c5_4 ∧ (∃ c7t0 : Int, (∃ c7t1 : Bool, (lean_Cover_R c1_0 c1_1 c1_2 c1_3 a1 c7t0 c7t1 ∧ (∃ c9 : Int, (ref45_Cover_R c1_0 c1_1 c1_2 c1_3 a1 c9 ∧ (∃ c11t0_0 : Int, (∃ c11t0_1 : Int, (∃ c11t1_0 : Int, (∃ c11t1_1 : Int, (∃ c11t2 : Bool, (lean_Half_R a4_0 a4_1 c11t0_0 c11t0_1 c11t1_0 c11t1_1 c11t2 ∧ (∃ c13t0_0 : Int, (∃ c13t0_1 : Int, (∃ c13t1_0 : Int, (∃ c13t1_1 : Int, (∃ c13t2 : Bool, (ref45_Half_R a4_0 a4_1 c13t0_0 c13t0_1 c13t1_0 c13t1_1 c13t2 ∧ ((c7t1 = true ∧ ((0 ≤ c9 ∧ ((c7t0 = (mx c9 0) ∧ (∃ c18 : Bool, (lean_Alike_R c3_0 c3_1 c3_2 c3_3 c3_4 c5_0 c5_1 c5_2 c5_3 c5_4 c18 ∧ (∃ c20 : Bool, (ref45_Alike_R c3_0 c3_1 c3_2 c3_3 c3_4 c5_0 c5_1 c5_2 c5_3 c5_4 c20 ∧ ((c18 = true ∧ ((c20 = true ∧ (∃ c24 : Bool, (lean_Alike_R c3_0 c3_1 c3_2 c3_3 c3_4 c3_0 c3_1 c3_2 c3_3 c3_4 c24 ∧ ((c24 = true ∧ ((c11t0_0 = c13t0_0 ∧ ((c11t0_1 = c13t0_1 ∧ ((c11t1_0 = c13t1_0 ∧ ((c11t1_1 = c13t1_1 ∧ ((c11t2 = true ∧ ((c13t2 = true ∧ (∃ c33 : Bool, (law45_works_R c33 ∧ (z = c33)))) ∨ (¬ c13t2 = true ∧ (z = false)))) ∨ (¬ c11t2 = true ∧ ((c13t2 = true ∧ (z = false)) ∨ (¬ c13t2 = true ∧ (∃ c36 : Bool, (law45_works_R c36 ∧ (z = c36)))))))) ∨ (¬ c11t1_1 = c13t1_1 ∧ (z = false)))) ∨ (¬ c11t1_0 = c13t1_0 ∧ (z = false)))) ∨ (¬ c11t0_1 = c13t0_1 ∧ (z = false)))) ∨ (¬ c11t0_0 = c13t0_0 ∧ (z = false)))) ∨ (¬ c24 = true ∧ (z = false)))))) ∨ (¬ c20 = true ∧ (z = false)))) ∨ (¬ c18 = true ∧ ((c20 = true ∧ (z = false)) ∨ (¬ c20 = true ∧ (∃ c39 : Bool, (lean_Alike_R c3_0 c3_1 c3_2 c3_3 c3_4 c3_0 c3_1 c3_2 c3_3 c3_4 c39 ∧ ((c39 = true ∧ ((c11t0_0 = c13t0_0 ∧ ((c11t0_1 = c13t0_1 ∧ ((c11t1_0 = c13t1_0 ∧ ((c11t1_1 = c13t1_1 ∧ ((c11t2 = true ∧ ((c13t2 = true ∧ (∃ c48 : Bool, (law45_works_R c48 ∧ (z = c48)))) ∨ (¬ c13t2 = true ∧ (z = false)))) ∨ (¬ c11t2 = true ∧ ((c13t2 = true ∧ (z = false)) ∨ (¬ c13t2 = true ∧ (∃ c51 : Bool, (law45_works_R c51 ∧ (z = c51)))))))) ∨ (¬ c11t1_1 = c13t1_1 ∧ (z = false)))) ∨ (¬ c11t1_0 = c13t1_0 ∧ (z = false)))) ∨ (¬ c11t0_1 = c13t0_1 ∧ (z = false)))) ∨ (¬ c11t0_0 = c13t0_0 ∧ (z = false)))) ∨ (¬ c39 = true ∧ (z = false)))))))))))))) ∨ (¬ c7t0 = (mx c9 0) ∧ (z = false)))) ∨ (¬ 0 ≤ c9 ∧ (z = false)))) ∨ (¬ c7t1 = true ∧ ((0 ≤ c9 ∧ (z = false)) ∨ (¬ 0 ≤ c9 ∧ ((c7t0 = (mx c9 0) ∧ (∃ c55 : Bool, (lean_Alike_R c3_0 c3_1 c3_2 c3_3 c3_4 c5_0 c5_1 c5_2 c5_3 c5_4 c55 ∧ (∃ c57 : Bool, (ref45_Alike_R c3_0 c3_1 c3_2 c3_3 c3_4 c5_0 c5_1 c5_2 c5_3 c5_4 c57 ∧ ((c55 = true ∧ ((c57 = true ∧ (∃ c61 : Bool, (lean_Alike_R c3_0 c3_1 c3_2 c3_3 c3_4 c3_0 c3_1 c3_2 c3_3 c3_4 c61 ∧ ((c61 = true ∧ ((c11t0_0 = c13t0_0 ∧ ((c11t0_1 = c13t0_1 ∧ ((c11t1_0 = c13t1_0 ∧ ((c11t1_1 = c13t1_1 ∧ ((c11t2 = true ∧ ((c13t2 = true ∧ (∃ c70 : Bool, (law45_works_R c70 ∧ (z = c70)))) ∨ (¬ c13t2 = true ∧ (z = false)))) ∨ (¬ c11t2 = true ∧ ((c13t2 = true ∧ (z = false)) ∨ (¬ c13t2 = true ∧ (∃ c73 : Bool, (law45_works_R c73 ∧ (z = c73)))))))) ∨ (¬ c11t1_1 = c13t1_1 ∧ (z = false)))) ∨ (¬ c11t1_0 = c13t1_0 ∧ (z = false)))) ∨ (¬ c11t0_1 = c13t0_1 ∧ (z = false)))) ∨ (¬ c11t0_0 = c13t0_0 ∧ (z = false)))) ∨ (¬ c61 = true ∧ (z = false)))))) ∨ (¬ c57 = true ∧ (z = false)))) ∨ (¬ c55 = true ∧ ((c57 = true ∧ (z = false)) ∨ (¬ c57 = true ∧ (∃ c76 : Bool, (lean_Alike_R c3_0 c3_1 c3_2 c3_3 c3_4 c3_0 c3_1 c3_2 c3_3 c3_4 c76 ∧ ((c76 = true ∧ ((c11t0_0 = c13t0_0 ∧ ((c11t0_1 = c13t0_1 ∧ ((c11t1_0 = c13t1_0 ∧ ((c11t1_1 = c13t1_1 ∧ ((c11t2 = true ∧ ((c13t2 = true ∧ (∃ c85 : Bool, (law45_works_R c85 ∧ (z = c85)))) ∨ (¬ c13t2 = true ∧ (z = false)))) ∨ (¬ c11t2 = true ∧ ((c13t2 = true ∧ (z = false)) ∨ (¬ c13t2 = true ∧ (∃ c88 : Bool, (law45_works_R c88 ∧ (z = c88)))))))) ∨ (¬ c11t1_1 = c13t1_1 ∧ (z = false)))) ∨ (¬ c11t1_0 = c13t1_0 ∧ (z = false)))) ∨ (¬ c11t0_1 = c13t0_1 ∧ (z = false)))) ∨ (¬ c11t0_0 = c13t0_0 ∧ (z = false)))) ∨ (¬ c76 = true ∧ (z = false)))))))))))))) ∨ (¬ c7t0 = (mx c9 0) ∧ (z = false)))))))))))))))))))))))))))))))))))))))))) : law45_LeanParts_R a0 a1 a2_0 a2_1 a2_2 a2_3 a2_4 a3_0 a3_1 a3_2 a3_3 a3_4 a4_0 a4_1 z := by
 refine W.lawIs (zs := [(.list 4 (a0.map E_api_Net)), .int .i64 a1, (.agg [.str a2_0, .int .u32 a2_1, .int .i64 a2_2, .bool a2_3, (.list 1 (a2_4.map E46))]), (.agg [.str a3_0, .int .u32 a3_1, .int .i64 a3_2, .bool a3_3, (.list 1 (a3_4.map E46))]), (.agg [.int .u32 a4_0, .int .i64 a4_1])]) Tryz.func3 (by kernel_rfl) (by kernel_rfl) (by kernel_rfl) ?_
 refine W.adv 11 ?_
 obtain ⟨c1_0, c1_1, c1_2, c1_3, hc2, H⟩ := H
 refine W.callR (g := 4) (ds := [(.list 4 (a0.map E_api_Net))]) (es := [(.list 4 (a0.map E_api_Net))]) (r := (.agg [.str c1_0, (.list 2 (c1_1.map E_api_Node)), (.list 6 (c1_2.map E_api_Link)), (.list 5 (c1_3.map E_api_Rule))])) (by kernel_rfl) (by kernel_rfl) (Ic.args hc2 (by kernel_rfl)) (by kernel_rfl) ?_
 refine W.adv 7 ?_
 obtain ⟨c3_0, c3_1, c3_2, c3_3, c3_4, hc4, H⟩ := H
 refine W.callR (g := 5) (ds := [(.agg [.str a2_0, .int .u32 a2_1, .int .i64 a2_2, .bool a2_3, (.list 1 (a2_4.map E46))])]) (es := [(.agg [.str a2_0, .int .u32 a2_1, .int .i64 a2_2, .bool a2_3, (.list 1 (a2_4.map E46))])]) (r := (.agg [.str c3_0, .int .u32 c3_1, .int .i64 c3_2, .bool c3_3, (.list 1 (c3_4.map E46))])) (by kernel_rfl) (by kernel_rfl) (Ic.args hc4 (by kernel_rfl)) (by kernel_rfl) ?_
 refine W.adv 1 ?_
 obtain ⟨c5_0, c5_1, c5_2, c5_3, c5_4, hc6, H⟩ := H
 refine W.callR (g := 5) (ds := [(.agg [.str a3_0, .int .u32 a3_1, .int .i64 a3_2, .bool a3_3, (.list 1 (a3_4.map E46))])]) (es := [(.agg [.str a3_0, .int .u32 a3_1, .int .i64 a3_2, .bool a3_3, (.list 1 (a3_4.map E46))])]) (r := (.agg [.str c5_0, .int .u32 c5_1, .int .i64 c5_2, .bool c5_3, (.list 1 (c5_4.map E46))])) (by kernel_rfl) (by kernel_rfl) (Ic.args hc6 (by kernel_rfl)) (by kernel_rfl) ?_
 refine W.adv 8 ?_
 obtain ⟨c7t0, c7t1, hc8, H⟩ := H
 refine W.callR (g := 6) (ds := [(.agg [.str c1_0, (.list 2 (c1_1.map E_api_Node)), (.list 6 (c1_2.map E_api_Link)), (.list 5 (c1_3.map E_api_Rule))]), .int .i64 a1]) (es := [(.agg [.str c1_0, (.list 2 (c1_1.map E_api_Node)), (.list 6 (c1_2.map E_api_Link)), (.list 5 (c1_3.map E_api_Rule))]), .int .i64 a1]) (r := (.tuple [.int .i64 c7t0, .bool c7t1])) (by kernel_rfl) (by kernel_rfl) (Ic.args hc8 (by kernel_rfl)) (by kernel_rfl) ?_
 refine W.adv 11 ?_
 obtain ⟨c9, hc10, H⟩ := H
 refine W.callR (g := 7) (ds := [(.agg [.str c1_0, (.list 2 (c1_1.map E_api_Node)), (.list 6 (c1_2.map E_api_Link)), (.list 5 (c1_3.map E_api_Rule))]), .int .i64 a1]) (es := [(.agg [.str c1_0, (.list 2 (c1_1.map E_api_Node)), (.list 6 (c1_2.map E_api_Link)), (.list 5 (c1_3.map E_api_Rule))]), .int .i64 a1]) (r := (.int .i64 c9)) (by kernel_rfl) (by kernel_rfl) (Ic.args hc10 (by kernel_rfl)) (by kernel_rfl) ?_
 refine W.adv 6 ?_
 obtain ⟨c11t0_0, c11t0_1, c11t1_0, c11t1_1, c11t2, hc12, H⟩ := H
 refine W.callR (g := 8) (ds := [(.agg [.int .u32 a4_0, .int .i64 a4_1])]) (es := [(.agg [.int .u32 a4_0, .int .i64 a4_1])]) (r := (.tuple [(.agg [.int .u32 c11t0_0, .int .i64 c11t0_1]), (.agg [.int .u32 c11t1_0, .int .i64 c11t1_1]), .bool c11t2])) (by kernel_rfl) (by kernel_rfl) (Ic.args hc12 (by kernel_rfl)) (by kernel_rfl) ?_
 refine W.adv 14 ?_
 obtain ⟨c13t0_0, c13t0_1, c13t1_0, c13t1_1, c13t2, hc14, H⟩ := H
 refine W.callR (g := 9) (ds := [(.agg [.int .u32 a4_0, .int .i64 a4_1])]) (es := [(.agg [.int .u32 a4_0, .int .i64 a4_1])]) (r := (.tuple [(.agg [.int .u32 c13t0_0, .int .i64 c13t0_1]), (.agg [.int .u32 c13t1_0, .int .i64 c13t1_1]), .bool c13t2])) (by kernel_rfl) (by kernel_rfl) (Ic.args hc14 (by kernel_rfl)) (by kernel_rfl) ?_
 refine W.adv 18 ?_
 rcases H with ⟨h15, H⟩ | ⟨h15, H⟩
 ·rcases H with ⟨h16, H⟩ | ⟨h16, H⟩
  ·refine W.guard true (w := ((c7t1 == (decide (0 ≤ c9))) == true)) (by kernel_rfl) (congrArg (fun b => b == true) (congr (congrArg (fun x y => x == y) h15) (decide_eq_true h16))) ?_
   refine W.adv 1 ?_
   refine W.guard true (w := ((c7t1 == (decide (0 ≤ c9))) == true)) (by kernel_rfl) (congrArg (fun b => b == true) (congr (congrArg (fun x y => x == y) h15) (decide_eq_true h16))) ?_
   refine W.adv 1 ?_
   refine W.guard true (w := ((c7t1 == (decide (0 ≤ c9))) == true)) (by kernel_rfl) (congrArg (fun b => b == true) (congr (congrArg (fun x y => x == y) h15) (decide_eq_true h16))) ?_
   refine W.adv 1 ?_
   refine W.guard true (w := ((c7t1 == (decide (0 ≤ c9))) == true)) (by kernel_rfl) (congrArg (fun b => b == true) (congr (congrArg (fun x y => x == y) h15) (decide_eq_true h16))) ?_
   refine W.adv 1 ?_
   refine W.opS (OpIs.pk true (t := (c7t1 == (decide (0 ≤ c9)))) (x := (.bool (decide (c7t0 = (mx c9 0))))) (y := (.bool false)) (by kernel_rfl) (congr (congrArg (fun x y => x == y) h15) (decide_eq_true h16))) ?_
   refine W.adv 1 ?_
   rcases H with ⟨h17, H⟩ | ⟨h17, H⟩
   ·refine W.guard true (w := ((decide (c7t0 = (mx c9 0))) == true)) (by kernel_rfl) (congrArg (fun b => b == true) (decide_eq_true h17)) ?_
    refine W.adv 1 ?_
    refine W.guard true (w := ((decide (c7t0 = (mx c9 0))) == true)) (by kernel_rfl) (congrArg (fun b => b == true) (decide_eq_true h17)) ?_
    refine W.adv 1 ?_
    refine W.guard true (w := ((decide (c7t0 = (mx c9 0))) == true)) (by kernel_rfl) (congrArg (fun b => b == true) (decide_eq_true h17)) ?_
    obtain ⟨c18, hc19, H⟩ := H
    refine W.callR (g := 10) (ds := [(.agg [.str c3_0, .int .u32 c3_1, .int .i64 c3_2, .bool c3_3, (.list 1 (c3_4.map E46))]), (.agg [.str c5_0, .int .u32 c5_1, .int .i64 c5_2, .bool c5_3, (.list 1 (c5_4.map E46))])]) (es := [(.agg [.str c3_0, .int .u32 c3_1, .int .i64 c3_2, .bool c3_3, (.list 1 (c3_4.map E46))]), (.agg [.str c5_0, .int .u32 c5_1, .int .i64 c5_2, .bool c5_3, (.list 1 (c5_4.map E46))])]) (r := (.bool c18)) (by kernel_rfl) (by kernel_rfl) (Ic.args hc19 (by kernel_rfl)) (by kernel_rfl) ?_
    refine W.guard true (w := ((decide (c7t0 = (mx c9 0))) == true)) (by kernel_rfl) (congrArg (fun b => b == true) (decide_eq_true h17)) ?_
    refine W.adv 1 ?_
    refine W.guard true (w := ((decide (c7t0 = (mx c9 0))) == true)) (by kernel_rfl) (congrArg (fun b => b == true) (decide_eq_true h17)) ?_
    refine W.adv 1 ?_
    refine W.guard true (w := ((decide (c7t0 = (mx c9 0))) == true)) (by kernel_rfl) (congrArg (fun b => b == true) (decide_eq_true h17)) ?_
    obtain ⟨c20, hc21, H⟩ := H
    refine W.callR (g := 11) (ds := [(.agg [.str c3_0, .int .u32 c3_1, .int .i64 c3_2, .bool c3_3, (.list 1 (c3_4.map E46))]), (.agg [.str c5_0, .int .u32 c5_1, .int .i64 c5_2, .bool c5_3, (.list 1 (c5_4.map E46))])]) (es := [(.agg [.str c3_0, .int .u32 c3_1, .int .i64 c3_2, .bool c3_3, (.list 1 (c3_4.map E46))]), (.agg [.str c5_0, .int .u32 c5_1, .int .i64 c5_2, .bool c5_3, (.list 1 (c5_4.map E46))])]) (r := (.bool c20)) (by kernel_rfl) (by kernel_rfl) (Ic.args hc21 (by kernel_rfl)) (by kernel_rfl) ?_
    refine W.guard true (w := ((decide (c7t0 = (mx c9 0))) == true)) (by kernel_rfl) (congrArg (fun b => b == true) (decide_eq_true h17)) ?_
    refine W.adv 1 ?_
    refine W.opS (OpIs.pk true (t := (decide (c7t0 = (mx c9 0)))) (x := (.bool (c18 == c20))) (y := (.bool false)) (by kernel_rfl) (decide_eq_true h17)) ?_
    refine W.adv 1 ?_
    rcases H with ⟨h22, H⟩ | ⟨h22, H⟩
    ·rcases H with ⟨h23, H⟩ | ⟨h23, H⟩
     ·refine W.guard true (w := ((c18 == c20) == true)) (by kernel_rfl) (congrArg (fun b => b == true) (congr (congrArg (fun x y => x == y) h22) h23)) ?_
      refine W.adv 1 ?_
      refine W.guard true (w := ((c18 == c20) == true)) (by kernel_rfl) (congrArg (fun b => b == true) (congr (congrArg (fun x y => x == y) h22) h23)) ?_
      refine W.adv 1 ?_
      refine W.guard true (w := ((c18 == c20) == true)) (by kernel_rfl) (congrArg (fun b => b == true) (congr (congrArg (fun x y => x == y) h22) h23)) ?_
      obtain ⟨c24, hc25, H⟩ := H
      refine W.callR (g := 10) (ds := [(.agg [.str c3_0, .int .u32 c3_1, .int .i64 c3_2, .bool c3_3, (.list 1 (c3_4.map E46))]), (.agg [.str c3_0, .int .u32 c3_1, .int .i64 c3_2, .bool c3_3, (.list 1 (c3_4.map E46))])]) (es := [(.agg [.str c3_0, .int .u32 c3_1, .int .i64 c3_2, .bool c3_3, (.list 1 (c3_4.map E46))]), (.agg [.str c3_0, .int .u32 c3_1, .int .i64 c3_2, .bool c3_3, (.list 1 (c3_4.map E46))])]) (r := (.bool c24)) (by kernel_rfl) (by kernel_rfl) (Ic.args hc25 (by kernel_rfl)) (by kernel_rfl) ?_
      refine W.opS (OpIs.pk true (t := (c18 == c20)) (x := (.bool c24)) (y := (.bool false)) (by kernel_rfl) (congr (congrArg (fun x y => x == y) h22) h23)) ?_
      refine W.adv 1 ?_
      rcases H with ⟨h26, H⟩ | ⟨h26, H⟩
      ·refine W.guard true (w := (c24 == true)) (by kernel_rfl) (congrArg (fun b => b == true) h26) ?_
       refine W.adv 1 ?_
       refine W.guard true (w := (c24 == true)) (by kernel_rfl) (congrArg (fun b => b == true) h26) ?_
       refine W.adv 1 ?_
       refine W.guard true (w := (c24 == true)) (by kernel_rfl) (congrArg (fun b => b == true) h26) ?_
       rcases H with ⟨h27, H⟩ | ⟨h27, H⟩
       ·rcases H with ⟨h28, H⟩ | ⟨h28, H⟩
        ·refine W.opS (OpIs.sq true (r := .bool true) (op := .eql) (t := 25) (xs := [.int .u32 c11t0_0, .int .i64 c11t0_1]) (ys := [.int .u32 c13t0_0, .int .i64 c13t0_1]) (by kernel_rfl) (by kernel_rfl) ((show eqV C.P 4 25 (.agg [.int .u32 c11t0_0, .int .i64 c11t0_1]) (.agg [.int .u32 c13t0_0, .int .i64 c13t0_1]) = (if (c11t0_0 == c13t0_0) = true then (if (c11t0_1 == c13t0_1) = true then some true else some false) else some false) from by kernel_rfl).trans (sq1 (beqT h27) (sq1 (beqT h28) rfl)))) ?_
         refine W.opS (OpIs.pk true (t := c24) (x := (.bool true)) (y := (.bool false)) (by kernel_rfl) h26) ?_
         refine W.adv 6 ?_
         rcases H with ⟨h29, H⟩ | ⟨h29, H⟩
         ·rcases H with ⟨h30, H⟩ | ⟨h30, H⟩
          ·refine W.opS (OpIs.sq true (r := .bool true) (op := .eql) (t := 25) (xs := [.int .u32 c11t1_0, .int .i64 c11t1_1]) (ys := [.int .u32 c13t1_0, .int .i64 c13t1_1]) (by kernel_rfl) (by kernel_rfl) ((show eqV C.P 4 25 (.agg [.int .u32 c11t1_0, .int .i64 c11t1_1]) (.agg [.int .u32 c13t1_0, .int .i64 c13t1_1]) = (if (c11t1_0 == c13t1_0) = true then (if (c11t1_1 == c13t1_1) = true then some true else some false) else some false) from by kernel_rfl).trans (sq1 (beqT h29) (sq1 (beqT h30) rfl)))) ?_
           refine W.adv 10 ?_
           rcases H with ⟨h31, H⟩ | ⟨h31, H⟩
           ·rcases H with ⟨h32, H⟩ | ⟨h32, H⟩
            ·refine W.guard true (w := ((c11t2 == c13t2) == true)) (by kernel_rfl) (congrArg (fun b => b == true) (congr (congrArg (fun x y => x == y) h31) h32)) ?_
             obtain ⟨c33, hc34, H⟩ := H
             refine W.callR (g := 12) (ds := []) (es := []) (r := (.bool c33)) (by kernel_rfl) (by kernel_rfl) (Ic.args hc34 (by kernel_rfl)) (by kernel_rfl) ?_
             refine W.opS (OpIs.pk true (t := (c11t2 == c13t2)) (x := (.bool c33)) (y := (.bool false)) (by kernel_rfl) (congr (congrArg (fun x y => x == y) h31) h32)) ?_
             refine W.adv 4 ?_
             exact W.fin (x := .ret) (by kernel_rfl) (LAns.of (d := (.bool c33)) (by kernel_rfl) (by rw [H]))
            ·refine W.guard false (w := ((c11t2 == c13t2) == true)) (by kernel_rfl) (congrArg (fun b => b == true) (congr (congrArg (fun x y => x == y) h31) (bfalse h32))) ?_
             refine W.opS (OpIs.pk false (t := (c11t2 == c13t2)) (x := (.tuple [])) (y := (.bool false)) (by kernel_rfl) (congr (congrArg (fun x y => x == y) h31) (bfalse h32))) ?_
             refine W.adv 4 ?_
             exact W.fin (x := .ret) (by kernel_rfl) (LAns.of (d := (.bool false)) (by kernel_rfl) (by rw [H]))
           ·rcases H with ⟨h35, H⟩ | ⟨h35, H⟩
            ·refine W.guard false (w := ((c11t2 == c13t2) == true)) (by kernel_rfl) (congrArg (fun b => b == true) (congr (congrArg (fun x y => x == y) (bfalse h31)) h35)) ?_
             refine W.opS (OpIs.pk false (t := (c11t2 == c13t2)) (x := (.tuple [])) (y := (.bool false)) (by kernel_rfl) (congr (congrArg (fun x y => x == y) (bfalse h31)) h35)) ?_
             refine W.adv 4 ?_
             exact W.fin (x := .ret) (by kernel_rfl) (LAns.of (d := (.bool false)) (by kernel_rfl) (by rw [H]))
            ·refine W.guard true (w := ((c11t2 == c13t2) == true)) (by kernel_rfl) (congrArg (fun b => b == true) (congr (congrArg (fun x y => x == y) (bfalse h31)) (bfalse h35))) ?_
             obtain ⟨c36, hc37, H⟩ := H
             refine W.callR (g := 12) (ds := []) (es := []) (r := (.bool c36)) (by kernel_rfl) (by kernel_rfl) (Ic.args hc37 (by kernel_rfl)) (by kernel_rfl) ?_
             refine W.opS (OpIs.pk true (t := (c11t2 == c13t2)) (x := (.bool c36)) (y := (.bool false)) (by kernel_rfl) (congr (congrArg (fun x y => x == y) (bfalse h31)) (bfalse h35))) ?_
             refine W.adv 4 ?_
             exact W.fin (x := .ret) (by kernel_rfl) (LAns.of (d := (.bool c36)) (by kernel_rfl) (by rw [H]))
          ·refine W.opS (OpIs.sq false (r := .bool false) (op := .eql) (t := 25) (xs := [.int .u32 c11t1_0, .int .i64 c11t1_1]) (ys := [.int .u32 c13t1_0, .int .i64 c13t1_1]) (by kernel_rfl) (by kernel_rfl) ((show eqV C.P 4 25 (.agg [.int .u32 c11t1_0, .int .i64 c11t1_1]) (.agg [.int .u32 c13t1_0, .int .i64 c13t1_1]) = (if (c11t1_0 == c13t1_0) = true then (if (c11t1_1 == c13t1_1) = true then some true else some false) else some false) from by kernel_rfl).trans (sq1 (beqT h29) (sq0 (beqF h30))))) ?_
           refine W.adv 13 ?_
           exact W.fin (x := .ret) (by kernel_rfl) (LAns.of (d := (.bool false)) (by kernel_rfl) (by rw [H]))
         ·refine W.opS (OpIs.sq false (r := .bool false) (op := .eql) (t := 25) (xs := [.int .u32 c11t1_0, .int .i64 c11t1_1]) (ys := [.int .u32 c13t1_0, .int .i64 c13t1_1]) (by kernel_rfl) (by kernel_rfl) ((show eqV C.P 4 25 (.agg [.int .u32 c11t1_0, .int .i64 c11t1_1]) (.agg [.int .u32 c13t1_0, .int .i64 c13t1_1]) = (if (c11t1_0 == c13t1_0) = true then (if (c11t1_1 == c13t1_1) = true then some true else some false) else some false) from by kernel_rfl).trans (sq0 (beqF h29)))) ?_
          refine W.adv 13 ?_
          exact W.fin (x := .ret) (by kernel_rfl) (LAns.of (d := (.bool false)) (by kernel_rfl) (by rw [H]))
        ·refine W.opS (OpIs.sq false (r := .bool false) (op := .eql) (t := 25) (xs := [.int .u32 c11t0_0, .int .i64 c11t0_1]) (ys := [.int .u32 c13t0_0, .int .i64 c13t0_1]) (by kernel_rfl) (by kernel_rfl) ((show eqV C.P 4 25 (.agg [.int .u32 c11t0_0, .int .i64 c11t0_1]) (.agg [.int .u32 c13t0_0, .int .i64 c13t0_1]) = (if (c11t0_0 == c13t0_0) = true then (if (c11t0_1 == c13t0_1) = true then some true else some false) else some false) from by kernel_rfl).trans (sq1 (beqT h27) (sq0 (beqF h28))))) ?_
         refine W.opS (OpIs.pk true (t := c24) (x := (.bool false)) (y := (.bool false)) (by kernel_rfl) h26) ?_
         refine W.adv 17 ?_
         exact W.fin (x := .ret) (by kernel_rfl) (LAns.of (d := (.bool false)) (by kernel_rfl) (by rw [H]))
       ·refine W.opS (OpIs.sq false (r := .bool false) (op := .eql) (t := 25) (xs := [.int .u32 c11t0_0, .int .i64 c11t0_1]) (ys := [.int .u32 c13t0_0, .int .i64 c13t0_1]) (by kernel_rfl) (by kernel_rfl) ((show eqV C.P 4 25 (.agg [.int .u32 c11t0_0, .int .i64 c11t0_1]) (.agg [.int .u32 c13t0_0, .int .i64 c13t0_1]) = (if (c11t0_0 == c13t0_0) = true then (if (c11t0_1 == c13t0_1) = true then some true else some false) else some false) from by kernel_rfl).trans (sq0 (beqF h27)))) ?_
        refine W.opS (OpIs.pk true (t := c24) (x := (.bool false)) (y := (.bool false)) (by kernel_rfl) h26) ?_
        refine W.adv 17 ?_
        exact W.fin (x := .ret) (by kernel_rfl) (LAns.of (d := (.bool false)) (by kernel_rfl) (by rw [H]))
      ·refine W.guard false (w := (c24 == true)) (by kernel_rfl) (congrArg (fun b => b == true) (bfalse h26)) ?_
       refine W.guard false (w := (c24 == true)) (by kernel_rfl) (congrArg (fun b => b == true) (bfalse h26)) ?_
       refine W.guard false (w := (c24 == true)) (by kernel_rfl) (congrArg (fun b => b == true) (bfalse h26)) ?_
       refine W.opS (OpIs.pk false (t := c24) (x := (.tuple [])) (y := (.bool false)) (by kernel_rfl) (bfalse h26)) ?_
       refine W.adv 17 ?_
       exact W.fin (x := .ret) (by kernel_rfl) (LAns.of (d := (.bool false)) (by kernel_rfl) (by rw [H]))
     ·refine W.guard false (w := ((c18 == c20) == true)) (by kernel_rfl) (congrArg (fun b => b == true) (congr (congrArg (fun x y => x == y) h22) (bfalse h23))) ?_
      refine W.guard false (w := ((c18 == c20) == true)) (by kernel_rfl) (congrArg (fun b => b == true) (congr (congrArg (fun x y => x == y) h22) (bfalse h23))) ?_
      refine W.guard false (w := ((c18 == c20) == true)) (by kernel_rfl) (congrArg (fun b => b == true) (congr (congrArg (fun x y => x == y) h22) (bfalse h23))) ?_
      refine W.opS (OpIs.pk false (t := (c18 == c20)) (x := (.tuple [])) (y := (.bool false)) (by kernel_rfl) (congr (congrArg (fun x y => x == y) h22) (bfalse h23))) ?_
      refine W.adv 22 ?_
      exact W.fin (x := .ret) (by kernel_rfl) (LAns.of (d := (.bool false)) (by kernel_rfl) (by rw [H]))
    ·rcases H with ⟨h38, H⟩ | ⟨h38, H⟩
     ·refine W.guard false (w := ((c18 == c20) == true)) (by kernel_rfl) (congrArg (fun b => b == true) (congr (congrArg (fun x y => x == y) (bfalse h22)) h38)) ?_
      refine W.guard false (w := ((c18 == c20) == true)) (by kernel_rfl) (congrArg (fun b => b == true) (congr (congrArg (fun x y => x == y) (bfalse h22)) h38)) ?_
      refine W.guard false (w := ((c18 == c20) == true)) (by kernel_rfl) (congrArg (fun b => b == true) (congr (congrArg (fun x y => x == y) (bfalse h22)) h38)) ?_
      refine W.opS (OpIs.pk false (t := (c18 == c20)) (x := (.tuple [])) (y := (.bool false)) (by kernel_rfl) (congr (congrArg (fun x y => x == y) (bfalse h22)) h38)) ?_
      refine W.adv 22 ?_
      exact W.fin (x := .ret) (by kernel_rfl) (LAns.of (d := (.bool false)) (by kernel_rfl) (by rw [H]))
     ·refine W.guard true (w := ((c18 == c20) == true)) (by kernel_rfl) (congrArg (fun b => b == true) (congr (congrArg (fun x y => x == y) (bfalse h22)) (bfalse h38))) ?_
      refine W.adv 1 ?_
      refine W.guard true (w := ((c18 == c20) == true)) (by kernel_rfl) (congrArg (fun b => b == true) (congr (congrArg (fun x y => x == y) (bfalse h22)) (bfalse h38))) ?_
      refine W.adv 1 ?_
      refine W.guard true (w := ((c18 == c20) == true)) (by kernel_rfl) (congrArg (fun b => b == true) (congr (congrArg (fun x y => x == y) (bfalse h22)) (bfalse h38))) ?_
      obtain ⟨c39, hc40, H⟩ := H
      refine W.callR (g := 10) (ds := [(.agg [.str c3_0, .int .u32 c3_1, .int .i64 c3_2, .bool c3_3, (.list 1 (c3_4.map E46))]), (.agg [.str c3_0, .int .u32 c3_1, .int .i64 c3_2, .bool c3_3, (.list 1 (c3_4.map E46))])]) (es := [(.agg [.str c3_0, .int .u32 c3_1, .int .i64 c3_2, .bool c3_3, (.list 1 (c3_4.map E46))]), (.agg [.str c3_0, .int .u32 c3_1, .int .i64 c3_2, .bool c3_3, (.list 1 (c3_4.map E46))])]) (r := (.bool c39)) (by kernel_rfl) (by kernel_rfl) (Ic.args hc40 (by kernel_rfl)) (by kernel_rfl) ?_
      refine W.opS (OpIs.pk true (t := (c18 == c20)) (x := (.bool c39)) (y := (.bool false)) (by kernel_rfl) (congr (congrArg (fun x y => x == y) (bfalse h22)) (bfalse h38))) ?_
      refine W.adv 1 ?_
      rcases H with ⟨h41, H⟩ | ⟨h41, H⟩
      ·refine W.guard true (w := (c39 == true)) (by kernel_rfl) (congrArg (fun b => b == true) h41) ?_
       refine W.adv 1 ?_
       refine W.guard true (w := (c39 == true)) (by kernel_rfl) (congrArg (fun b => b == true) h41) ?_
       refine W.adv 1 ?_
       refine W.guard true (w := (c39 == true)) (by kernel_rfl) (congrArg (fun b => b == true) h41) ?_
       rcases H with ⟨h42, H⟩ | ⟨h42, H⟩
       ·rcases H with ⟨h43, H⟩ | ⟨h43, H⟩
        ·refine W.opS (OpIs.sq true (r := .bool true) (op := .eql) (t := 25) (xs := [.int .u32 c11t0_0, .int .i64 c11t0_1]) (ys := [.int .u32 c13t0_0, .int .i64 c13t0_1]) (by kernel_rfl) (by kernel_rfl) ((show eqV C.P 4 25 (.agg [.int .u32 c11t0_0, .int .i64 c11t0_1]) (.agg [.int .u32 c13t0_0, .int .i64 c13t0_1]) = (if (c11t0_0 == c13t0_0) = true then (if (c11t0_1 == c13t0_1) = true then some true else some false) else some false) from by kernel_rfl).trans (sq1 (beqT h42) (sq1 (beqT h43) rfl)))) ?_
         refine W.opS (OpIs.pk true (t := c39) (x := (.bool true)) (y := (.bool false)) (by kernel_rfl) h41) ?_
         refine W.adv 6 ?_
         rcases H with ⟨h44, H⟩ | ⟨h44, H⟩
         ·rcases H with ⟨h45, H⟩ | ⟨h45, H⟩
          ·refine W.opS (OpIs.sq true (r := .bool true) (op := .eql) (t := 25) (xs := [.int .u32 c11t1_0, .int .i64 c11t1_1]) (ys := [.int .u32 c13t1_0, .int .i64 c13t1_1]) (by kernel_rfl) (by kernel_rfl) ((show eqV C.P 4 25 (.agg [.int .u32 c11t1_0, .int .i64 c11t1_1]) (.agg [.int .u32 c13t1_0, .int .i64 c13t1_1]) = (if (c11t1_0 == c13t1_0) = true then (if (c11t1_1 == c13t1_1) = true then some true else some false) else some false) from by kernel_rfl).trans (sq1 (beqT h44) (sq1 (beqT h45) rfl)))) ?_
           refine W.adv 10 ?_
           rcases H with ⟨h46, H⟩ | ⟨h46, H⟩
           ·rcases H with ⟨h47, H⟩ | ⟨h47, H⟩
            ·refine W.guard true (w := ((c11t2 == c13t2) == true)) (by kernel_rfl) (congrArg (fun b => b == true) (congr (congrArg (fun x y => x == y) h46) h47)) ?_
             obtain ⟨c48, hc49, H⟩ := H
             refine W.callR (g := 12) (ds := []) (es := []) (r := (.bool c48)) (by kernel_rfl) (by kernel_rfl) (Ic.args hc49 (by kernel_rfl)) (by kernel_rfl) ?_
             refine W.opS (OpIs.pk true (t := (c11t2 == c13t2)) (x := (.bool c48)) (y := (.bool false)) (by kernel_rfl) (congr (congrArg (fun x y => x == y) h46) h47)) ?_
             refine W.adv 4 ?_
             exact W.fin (x := .ret) (by kernel_rfl) (LAns.of (d := (.bool c48)) (by kernel_rfl) (by rw [H]))
            ·refine W.guard false (w := ((c11t2 == c13t2) == true)) (by kernel_rfl) (congrArg (fun b => b == true) (congr (congrArg (fun x y => x == y) h46) (bfalse h47))) ?_
             refine W.opS (OpIs.pk false (t := (c11t2 == c13t2)) (x := (.tuple [])) (y := (.bool false)) (by kernel_rfl) (congr (congrArg (fun x y => x == y) h46) (bfalse h47))) ?_
             refine W.adv 4 ?_
             exact W.fin (x := .ret) (by kernel_rfl) (LAns.of (d := (.bool false)) (by kernel_rfl) (by rw [H]))
           ·rcases H with ⟨h50, H⟩ | ⟨h50, H⟩
            ·refine W.guard false (w := ((c11t2 == c13t2) == true)) (by kernel_rfl) (congrArg (fun b => b == true) (congr (congrArg (fun x y => x == y) (bfalse h46)) h50)) ?_
             refine W.opS (OpIs.pk false (t := (c11t2 == c13t2)) (x := (.tuple [])) (y := (.bool false)) (by kernel_rfl) (congr (congrArg (fun x y => x == y) (bfalse h46)) h50)) ?_
             refine W.adv 4 ?_
             exact W.fin (x := .ret) (by kernel_rfl) (LAns.of (d := (.bool false)) (by kernel_rfl) (by rw [H]))
            ·refine W.guard true (w := ((c11t2 == c13t2) == true)) (by kernel_rfl) (congrArg (fun b => b == true) (congr (congrArg (fun x y => x == y) (bfalse h46)) (bfalse h50))) ?_
             obtain ⟨c51, hc52, H⟩ := H
             refine W.callR (g := 12) (ds := []) (es := []) (r := (.bool c51)) (by kernel_rfl) (by kernel_rfl) (Ic.args hc52 (by kernel_rfl)) (by kernel_rfl) ?_
             refine W.opS (OpIs.pk true (t := (c11t2 == c13t2)) (x := (.bool c51)) (y := (.bool false)) (by kernel_rfl) (congr (congrArg (fun x y => x == y) (bfalse h46)) (bfalse h50))) ?_
             refine W.adv 4 ?_
             exact W.fin (x := .ret) (by kernel_rfl) (LAns.of (d := (.bool c51)) (by kernel_rfl) (by rw [H]))
          ·refine W.opS (OpIs.sq false (r := .bool false) (op := .eql) (t := 25) (xs := [.int .u32 c11t1_0, .int .i64 c11t1_1]) (ys := [.int .u32 c13t1_0, .int .i64 c13t1_1]) (by kernel_rfl) (by kernel_rfl) ((show eqV C.P 4 25 (.agg [.int .u32 c11t1_0, .int .i64 c11t1_1]) (.agg [.int .u32 c13t1_0, .int .i64 c13t1_1]) = (if (c11t1_0 == c13t1_0) = true then (if (c11t1_1 == c13t1_1) = true then some true else some false) else some false) from by kernel_rfl).trans (sq1 (beqT h44) (sq0 (beqF h45))))) ?_
           refine W.adv 13 ?_
           exact W.fin (x := .ret) (by kernel_rfl) (LAns.of (d := (.bool false)) (by kernel_rfl) (by rw [H]))
         ·refine W.opS (OpIs.sq false (r := .bool false) (op := .eql) (t := 25) (xs := [.int .u32 c11t1_0, .int .i64 c11t1_1]) (ys := [.int .u32 c13t1_0, .int .i64 c13t1_1]) (by kernel_rfl) (by kernel_rfl) ((show eqV C.P 4 25 (.agg [.int .u32 c11t1_0, .int .i64 c11t1_1]) (.agg [.int .u32 c13t1_0, .int .i64 c13t1_1]) = (if (c11t1_0 == c13t1_0) = true then (if (c11t1_1 == c13t1_1) = true then some true else some false) else some false) from by kernel_rfl).trans (sq0 (beqF h44)))) ?_
          refine W.adv 13 ?_
          exact W.fin (x := .ret) (by kernel_rfl) (LAns.of (d := (.bool false)) (by kernel_rfl) (by rw [H]))
        ·refine W.opS (OpIs.sq false (r := .bool false) (op := .eql) (t := 25) (xs := [.int .u32 c11t0_0, .int .i64 c11t0_1]) (ys := [.int .u32 c13t0_0, .int .i64 c13t0_1]) (by kernel_rfl) (by kernel_rfl) ((show eqV C.P 4 25 (.agg [.int .u32 c11t0_0, .int .i64 c11t0_1]) (.agg [.int .u32 c13t0_0, .int .i64 c13t0_1]) = (if (c11t0_0 == c13t0_0) = true then (if (c11t0_1 == c13t0_1) = true then some true else some false) else some false) from by kernel_rfl).trans (sq1 (beqT h42) (sq0 (beqF h43))))) ?_
         refine W.opS (OpIs.pk true (t := c39) (x := (.bool false)) (y := (.bool false)) (by kernel_rfl) h41) ?_
         refine W.adv 17 ?_
         exact W.fin (x := .ret) (by kernel_rfl) (LAns.of (d := (.bool false)) (by kernel_rfl) (by rw [H]))
       ·refine W.opS (OpIs.sq false (r := .bool false) (op := .eql) (t := 25) (xs := [.int .u32 c11t0_0, .int .i64 c11t0_1]) (ys := [.int .u32 c13t0_0, .int .i64 c13t0_1]) (by kernel_rfl) (by kernel_rfl) ((show eqV C.P 4 25 (.agg [.int .u32 c11t0_0, .int .i64 c11t0_1]) (.agg [.int .u32 c13t0_0, .int .i64 c13t0_1]) = (if (c11t0_0 == c13t0_0) = true then (if (c11t0_1 == c13t0_1) = true then some true else some false) else some false) from by kernel_rfl).trans (sq0 (beqF h42)))) ?_
        refine W.opS (OpIs.pk true (t := c39) (x := (.bool false)) (y := (.bool false)) (by kernel_rfl) h41) ?_
        refine W.adv 17 ?_
        exact W.fin (x := .ret) (by kernel_rfl) (LAns.of (d := (.bool false)) (by kernel_rfl) (by rw [H]))
      ·refine W.guard false (w := (c39 == true)) (by kernel_rfl) (congrArg (fun b => b == true) (bfalse h41)) ?_
       refine W.guard false (w := (c39 == true)) (by kernel_rfl) (congrArg (fun b => b == true) (bfalse h41)) ?_
       refine W.guard false (w := (c39 == true)) (by kernel_rfl) (congrArg (fun b => b == true) (bfalse h41)) ?_
       refine W.opS (OpIs.pk false (t := c39) (x := (.tuple [])) (y := (.bool false)) (by kernel_rfl) (bfalse h41)) ?_
       refine W.adv 17 ?_
       exact W.fin (x := .ret) (by kernel_rfl) (LAns.of (d := (.bool false)) (by kernel_rfl) (by rw [H]))
   ·refine W.guard false (w := ((decide (c7t0 = (mx c9 0))) == true)) (by kernel_rfl) (congrArg (fun b => b == true) (decide_eq_false h17)) ?_
    refine W.guard false (w := ((decide (c7t0 = (mx c9 0))) == true)) (by kernel_rfl) (congrArg (fun b => b == true) (decide_eq_false h17)) ?_
    refine W.guard false (w := ((decide (c7t0 = (mx c9 0))) == true)) (by kernel_rfl) (congrArg (fun b => b == true) (decide_eq_false h17)) ?_
    refine W.guard false (w := ((decide (c7t0 = (mx c9 0))) == true)) (by kernel_rfl) (congrArg (fun b => b == true) (decide_eq_false h17)) ?_
    refine W.guard false (w := ((decide (c7t0 = (mx c9 0))) == true)) (by kernel_rfl) (congrArg (fun b => b == true) (decide_eq_false h17)) ?_
    refine W.guard false (w := ((decide (c7t0 = (mx c9 0))) == true)) (by kernel_rfl) (congrArg (fun b => b == true) (decide_eq_false h17)) ?_
    refine W.guard false (w := ((decide (c7t0 = (mx c9 0))) == true)) (by kernel_rfl) (congrArg (fun b => b == true) (decide_eq_false h17)) ?_
    refine W.opS (OpIs.pk false (t := (decide (c7t0 = (mx c9 0)))) (x := (.tuple [])) (y := (.bool false)) (by kernel_rfl) (decide_eq_false h17)) ?_
    refine W.adv 27 ?_
    exact W.fin (x := .ret) (by kernel_rfl) (LAns.of (d := (.bool false)) (by kernel_rfl) (by rw [H]))
  ·refine W.guard false (w := ((c7t1 == (decide (0 ≤ c9))) == true)) (by kernel_rfl) (congrArg (fun b => b == true) (congr (congrArg (fun x y => x == y) h15) (decide_eq_false h16))) ?_
   refine W.guard false (w := ((c7t1 == (decide (0 ≤ c9))) == true)) (by kernel_rfl) (congrArg (fun b => b == true) (congr (congrArg (fun x y => x == y) h15) (decide_eq_false h16))) ?_
   refine W.guard false (w := ((c7t1 == (decide (0 ≤ c9))) == true)) (by kernel_rfl) (congrArg (fun b => b == true) (congr (congrArg (fun x y => x == y) h15) (decide_eq_false h16))) ?_
   refine W.guard false (w := ((c7t1 == (decide (0 ≤ c9))) == true)) (by kernel_rfl) (congrArg (fun b => b == true) (congr (congrArg (fun x y => x == y) h15) (decide_eq_false h16))) ?_
   refine W.opS (OpIs.pk false (t := (c7t1 == (decide (0 ≤ c9)))) (x := (.tuple [])) (y := (.bool false)) (by kernel_rfl) (congr (congrArg (fun x y => x == y) h15) (decide_eq_false h16))) ?_
   refine W.adv 36 ?_
   exact W.fin (x := .ret) (by kernel_rfl) (LAns.of (d := (.bool false)) (by kernel_rfl) (by rw [H]))
 ·rcases H with ⟨h53, H⟩ | ⟨h53, H⟩
  ·refine W.guard false (w := ((c7t1 == (decide (0 ≤ c9))) == true)) (by kernel_rfl) (congrArg (fun b => b == true) (congr (congrArg (fun x y => x == y) (bfalse h15)) (decide_eq_true h53))) ?_
   refine W.guard false (w := ((c7t1 == (decide (0 ≤ c9))) == true)) (by kernel_rfl) (congrArg (fun b => b == true) (congr (congrArg (fun x y => x == y) (bfalse h15)) (decide_eq_true h53))) ?_
   refine W.guard false (w := ((c7t1 == (decide (0 ≤ c9))) == true)) (by kernel_rfl) (congrArg (fun b => b == true) (congr (congrArg (fun x y => x == y) (bfalse h15)) (decide_eq_true h53))) ?_
   refine W.guard false (w := ((c7t1 == (decide (0 ≤ c9))) == true)) (by kernel_rfl) (congrArg (fun b => b == true) (congr (congrArg (fun x y => x == y) (bfalse h15)) (decide_eq_true h53))) ?_
   refine W.opS (OpIs.pk false (t := (c7t1 == (decide (0 ≤ c9)))) (x := (.tuple [])) (y := (.bool false)) (by kernel_rfl) (congr (congrArg (fun x y => x == y) (bfalse h15)) (decide_eq_true h53))) ?_
   refine W.adv 36 ?_
   exact W.fin (x := .ret) (by kernel_rfl) (LAns.of (d := (.bool false)) (by kernel_rfl) (by rw [H]))
  ·refine W.guard true (w := ((c7t1 == (decide (0 ≤ c9))) == true)) (by kernel_rfl) (congrArg (fun b => b == true) (congr (congrArg (fun x y => x == y) (bfalse h15)) (decide_eq_false h53))) ?_
   refine W.adv 1 ?_
   refine W.guard true (w := ((c7t1 == (decide (0 ≤ c9))) == true)) (by kernel_rfl) (congrArg (fun b => b == true) (congr (congrArg (fun x y => x == y) (bfalse h15)) (decide_eq_false h53))) ?_
   refine W.adv 1 ?_
   refine W.guard true (w := ((c7t1 == (decide (0 ≤ c9))) == true)) (by kernel_rfl) (congrArg (fun b => b == true) (congr (congrArg (fun x y => x == y) (bfalse h15)) (decide_eq_false h53))) ?_
   refine W.adv 1 ?_
   refine W.guard true (w := ((c7t1 == (decide (0 ≤ c9))) == true)) (by kernel_rfl) (congrArg (fun b => b == true) (congr (congrArg (fun x y => x == y) (bfalse h15)) (decide_eq_false h53))) ?_
   refine W.adv 1 ?_
   refine W.opS (OpIs.pk true (t := (c7t1 == (decide (0 ≤ c9)))) (x := (.bool (decide (c7t0 = (mx c9 0))))) (y := (.bool false)) (by kernel_rfl) (congr (congrArg (fun x y => x == y) (bfalse h15)) (decide_eq_false h53))) ?_
   refine W.adv 1 ?_
   rcases H with ⟨h54, H⟩ | ⟨h54, H⟩
   ·refine W.guard true (w := ((decide (c7t0 = (mx c9 0))) == true)) (by kernel_rfl) (congrArg (fun b => b == true) (decide_eq_true h54)) ?_
    refine W.adv 1 ?_
    refine W.guard true (w := ((decide (c7t0 = (mx c9 0))) == true)) (by kernel_rfl) (congrArg (fun b => b == true) (decide_eq_true h54)) ?_
    refine W.adv 1 ?_
    refine W.guard true (w := ((decide (c7t0 = (mx c9 0))) == true)) (by kernel_rfl) (congrArg (fun b => b == true) (decide_eq_true h54)) ?_
    obtain ⟨c55, hc56, H⟩ := H
    refine W.callR (g := 10) (ds := [(.agg [.str c3_0, .int .u32 c3_1, .int .i64 c3_2, .bool c3_3, (.list 1 (c3_4.map E46))]), (.agg [.str c5_0, .int .u32 c5_1, .int .i64 c5_2, .bool c5_3, (.list 1 (c5_4.map E46))])]) (es := [(.agg [.str c3_0, .int .u32 c3_1, .int .i64 c3_2, .bool c3_3, (.list 1 (c3_4.map E46))]), (.agg [.str c5_0, .int .u32 c5_1, .int .i64 c5_2, .bool c5_3, (.list 1 (c5_4.map E46))])]) (r := (.bool c55)) (by kernel_rfl) (by kernel_rfl) (Ic.args hc56 (by kernel_rfl)) (by kernel_rfl) ?_
    refine W.guard true (w := ((decide (c7t0 = (mx c9 0))) == true)) (by kernel_rfl) (congrArg (fun b => b == true) (decide_eq_true h54)) ?_
    refine W.adv 1 ?_
    refine W.guard true (w := ((decide (c7t0 = (mx c9 0))) == true)) (by kernel_rfl) (congrArg (fun b => b == true) (decide_eq_true h54)) ?_
    refine W.adv 1 ?_
    refine W.guard true (w := ((decide (c7t0 = (mx c9 0))) == true)) (by kernel_rfl) (congrArg (fun b => b == true) (decide_eq_true h54)) ?_
    obtain ⟨c57, hc58, H⟩ := H
    refine W.callR (g := 11) (ds := [(.agg [.str c3_0, .int .u32 c3_1, .int .i64 c3_2, .bool c3_3, (.list 1 (c3_4.map E46))]), (.agg [.str c5_0, .int .u32 c5_1, .int .i64 c5_2, .bool c5_3, (.list 1 (c5_4.map E46))])]) (es := [(.agg [.str c3_0, .int .u32 c3_1, .int .i64 c3_2, .bool c3_3, (.list 1 (c3_4.map E46))]), (.agg [.str c5_0, .int .u32 c5_1, .int .i64 c5_2, .bool c5_3, (.list 1 (c5_4.map E46))])]) (r := (.bool c57)) (by kernel_rfl) (by kernel_rfl) (Ic.args hc58 (by kernel_rfl)) (by kernel_rfl) ?_
    refine W.guard true (w := ((decide (c7t0 = (mx c9 0))) == true)) (by kernel_rfl) (congrArg (fun b => b == true) (decide_eq_true h54)) ?_
    refine W.adv 1 ?_
    refine W.opS (OpIs.pk true (t := (decide (c7t0 = (mx c9 0)))) (x := (.bool (c55 == c57))) (y := (.bool false)) (by kernel_rfl) (decide_eq_true h54)) ?_
    refine W.adv 1 ?_
    rcases H with ⟨h59, H⟩ | ⟨h59, H⟩
    ·rcases H with ⟨h60, H⟩ | ⟨h60, H⟩
     ·refine W.guard true (w := ((c55 == c57) == true)) (by kernel_rfl) (congrArg (fun b => b == true) (congr (congrArg (fun x y => x == y) h59) h60)) ?_
      refine W.adv 1 ?_
      refine W.guard true (w := ((c55 == c57) == true)) (by kernel_rfl) (congrArg (fun b => b == true) (congr (congrArg (fun x y => x == y) h59) h60)) ?_
      refine W.adv 1 ?_
      refine W.guard true (w := ((c55 == c57) == true)) (by kernel_rfl) (congrArg (fun b => b == true) (congr (congrArg (fun x y => x == y) h59) h60)) ?_
      obtain ⟨c61, hc62, H⟩ := H
      refine W.callR (g := 10) (ds := [(.agg [.str c3_0, .int .u32 c3_1, .int .i64 c3_2, .bool c3_3, (.list 1 (c3_4.map E46))]), (.agg [.str c3_0, .int .u32 c3_1, .int .i64 c3_2, .bool c3_3, (.list 1 (c3_4.map E46))])]) (es := [(.agg [.str c3_0, .int .u32 c3_1, .int .i64 c3_2, .bool c3_3, (.list 1 (c3_4.map E46))]), (.agg [.str c3_0, .int .u32 c3_1, .int .i64 c3_2, .bool c3_3, (.list 1 (c3_4.map E46))])]) (r := (.bool c61)) (by kernel_rfl) (by kernel_rfl) (Ic.args hc62 (by kernel_rfl)) (by kernel_rfl) ?_
      refine W.opS (OpIs.pk true (t := (c55 == c57)) (x := (.bool c61)) (y := (.bool false)) (by kernel_rfl) (congr (congrArg (fun x y => x == y) h59) h60)) ?_
      refine W.adv 1 ?_
      rcases H with ⟨h63, H⟩ | ⟨h63, H⟩
      ·refine W.guard true (w := (c61 == true)) (by kernel_rfl) (congrArg (fun b => b == true) h63) ?_
       refine W.adv 1 ?_
       refine W.guard true (w := (c61 == true)) (by kernel_rfl) (congrArg (fun b => b == true) h63) ?_
       refine W.adv 1 ?_
       refine W.guard true (w := (c61 == true)) (by kernel_rfl) (congrArg (fun b => b == true) h63) ?_
       rcases H with ⟨h64, H⟩ | ⟨h64, H⟩
       ·rcases H with ⟨h65, H⟩ | ⟨h65, H⟩
        ·refine W.opS (OpIs.sq true (r := .bool true) (op := .eql) (t := 25) (xs := [.int .u32 c11t0_0, .int .i64 c11t0_1]) (ys := [.int .u32 c13t0_0, .int .i64 c13t0_1]) (by kernel_rfl) (by kernel_rfl) ((show eqV C.P 4 25 (.agg [.int .u32 c11t0_0, .int .i64 c11t0_1]) (.agg [.int .u32 c13t0_0, .int .i64 c13t0_1]) = (if (c11t0_0 == c13t0_0) = true then (if (c11t0_1 == c13t0_1) = true then some true else some false) else some false) from by kernel_rfl).trans (sq1 (beqT h64) (sq1 (beqT h65) rfl)))) ?_
         refine W.opS (OpIs.pk true (t := c61) (x := (.bool true)) (y := (.bool false)) (by kernel_rfl) h63) ?_
         refine W.adv 6 ?_
         rcases H with ⟨h66, H⟩ | ⟨h66, H⟩
         ·rcases H with ⟨h67, H⟩ | ⟨h67, H⟩
          ·refine W.opS (OpIs.sq true (r := .bool true) (op := .eql) (t := 25) (xs := [.int .u32 c11t1_0, .int .i64 c11t1_1]) (ys := [.int .u32 c13t1_0, .int .i64 c13t1_1]) (by kernel_rfl) (by kernel_rfl) ((show eqV C.P 4 25 (.agg [.int .u32 c11t1_0, .int .i64 c11t1_1]) (.agg [.int .u32 c13t1_0, .int .i64 c13t1_1]) = (if (c11t1_0 == c13t1_0) = true then (if (c11t1_1 == c13t1_1) = true then some true else some false) else some false) from by kernel_rfl).trans (sq1 (beqT h66) (sq1 (beqT h67) rfl)))) ?_
           refine W.adv 10 ?_
           rcases H with ⟨h68, H⟩ | ⟨h68, H⟩
           ·rcases H with ⟨h69, H⟩ | ⟨h69, H⟩
            ·refine W.guard true (w := ((c11t2 == c13t2) == true)) (by kernel_rfl) (congrArg (fun b => b == true) (congr (congrArg (fun x y => x == y) h68) h69)) ?_
             obtain ⟨c70, hc71, H⟩ := H
             refine W.callR (g := 12) (ds := []) (es := []) (r := (.bool c70)) (by kernel_rfl) (by kernel_rfl) (Ic.args hc71 (by kernel_rfl)) (by kernel_rfl) ?_
             refine W.opS (OpIs.pk true (t := (c11t2 == c13t2)) (x := (.bool c70)) (y := (.bool false)) (by kernel_rfl) (congr (congrArg (fun x y => x == y) h68) h69)) ?_
             refine W.adv 4 ?_
             exact W.fin (x := .ret) (by kernel_rfl) (LAns.of (d := (.bool c70)) (by kernel_rfl) (by rw [H]))
            ·refine W.guard false (w := ((c11t2 == c13t2) == true)) (by kernel_rfl) (congrArg (fun b => b == true) (congr (congrArg (fun x y => x == y) h68) (bfalse h69))) ?_
             refine W.opS (OpIs.pk false (t := (c11t2 == c13t2)) (x := (.tuple [])) (y := (.bool false)) (by kernel_rfl) (congr (congrArg (fun x y => x == y) h68) (bfalse h69))) ?_
             refine W.adv 4 ?_
             exact W.fin (x := .ret) (by kernel_rfl) (LAns.of (d := (.bool false)) (by kernel_rfl) (by rw [H]))
           ·rcases H with ⟨h72, H⟩ | ⟨h72, H⟩
            ·refine W.guard false (w := ((c11t2 == c13t2) == true)) (by kernel_rfl) (congrArg (fun b => b == true) (congr (congrArg (fun x y => x == y) (bfalse h68)) h72)) ?_
             refine W.opS (OpIs.pk false (t := (c11t2 == c13t2)) (x := (.tuple [])) (y := (.bool false)) (by kernel_rfl) (congr (congrArg (fun x y => x == y) (bfalse h68)) h72)) ?_
             refine W.adv 4 ?_
             exact W.fin (x := .ret) (by kernel_rfl) (LAns.of (d := (.bool false)) (by kernel_rfl) (by rw [H]))
            ·refine W.guard true (w := ((c11t2 == c13t2) == true)) (by kernel_rfl) (congrArg (fun b => b == true) (congr (congrArg (fun x y => x == y) (bfalse h68)) (bfalse h72))) ?_
             obtain ⟨c73, hc74, H⟩ := H
             refine W.callR (g := 12) (ds := []) (es := []) (r := (.bool c73)) (by kernel_rfl) (by kernel_rfl) (Ic.args hc74 (by kernel_rfl)) (by kernel_rfl) ?_
             refine W.opS (OpIs.pk true (t := (c11t2 == c13t2)) (x := (.bool c73)) (y := (.bool false)) (by kernel_rfl) (congr (congrArg (fun x y => x == y) (bfalse h68)) (bfalse h72))) ?_
             refine W.adv 4 ?_
             exact W.fin (x := .ret) (by kernel_rfl) (LAns.of (d := (.bool c73)) (by kernel_rfl) (by rw [H]))
          ·refine W.opS (OpIs.sq false (r := .bool false) (op := .eql) (t := 25) (xs := [.int .u32 c11t1_0, .int .i64 c11t1_1]) (ys := [.int .u32 c13t1_0, .int .i64 c13t1_1]) (by kernel_rfl) (by kernel_rfl) ((show eqV C.P 4 25 (.agg [.int .u32 c11t1_0, .int .i64 c11t1_1]) (.agg [.int .u32 c13t1_0, .int .i64 c13t1_1]) = (if (c11t1_0 == c13t1_0) = true then (if (c11t1_1 == c13t1_1) = true then some true else some false) else some false) from by kernel_rfl).trans (sq1 (beqT h66) (sq0 (beqF h67))))) ?_
           refine W.adv 13 ?_
           exact W.fin (x := .ret) (by kernel_rfl) (LAns.of (d := (.bool false)) (by kernel_rfl) (by rw [H]))
         ·refine W.opS (OpIs.sq false (r := .bool false) (op := .eql) (t := 25) (xs := [.int .u32 c11t1_0, .int .i64 c11t1_1]) (ys := [.int .u32 c13t1_0, .int .i64 c13t1_1]) (by kernel_rfl) (by kernel_rfl) ((show eqV C.P 4 25 (.agg [.int .u32 c11t1_0, .int .i64 c11t1_1]) (.agg [.int .u32 c13t1_0, .int .i64 c13t1_1]) = (if (c11t1_0 == c13t1_0) = true then (if (c11t1_1 == c13t1_1) = true then some true else some false) else some false) from by kernel_rfl).trans (sq0 (beqF h66)))) ?_
          refine W.adv 13 ?_
          exact W.fin (x := .ret) (by kernel_rfl) (LAns.of (d := (.bool false)) (by kernel_rfl) (by rw [H]))
        ·refine W.opS (OpIs.sq false (r := .bool false) (op := .eql) (t := 25) (xs := [.int .u32 c11t0_0, .int .i64 c11t0_1]) (ys := [.int .u32 c13t0_0, .int .i64 c13t0_1]) (by kernel_rfl) (by kernel_rfl) ((show eqV C.P 4 25 (.agg [.int .u32 c11t0_0, .int .i64 c11t0_1]) (.agg [.int .u32 c13t0_0, .int .i64 c13t0_1]) = (if (c11t0_0 == c13t0_0) = true then (if (c11t0_1 == c13t0_1) = true then some true else some false) else some false) from by kernel_rfl).trans (sq1 (beqT h64) (sq0 (beqF h65))))) ?_
         refine W.opS (OpIs.pk true (t := c61) (x := (.bool false)) (y := (.bool false)) (by kernel_rfl) h63) ?_
         refine W.adv 17 ?_
         exact W.fin (x := .ret) (by kernel_rfl) (LAns.of (d := (.bool false)) (by kernel_rfl) (by rw [H]))
       ·refine W.opS (OpIs.sq false (r := .bool false) (op := .eql) (t := 25) (xs := [.int .u32 c11t0_0, .int .i64 c11t0_1]) (ys := [.int .u32 c13t0_0, .int .i64 c13t0_1]) (by kernel_rfl) (by kernel_rfl) ((show eqV C.P 4 25 (.agg [.int .u32 c11t0_0, .int .i64 c11t0_1]) (.agg [.int .u32 c13t0_0, .int .i64 c13t0_1]) = (if (c11t0_0 == c13t0_0) = true then (if (c11t0_1 == c13t0_1) = true then some true else some false) else some false) from by kernel_rfl).trans (sq0 (beqF h64)))) ?_
        refine W.opS (OpIs.pk true (t := c61) (x := (.bool false)) (y := (.bool false)) (by kernel_rfl) h63) ?_
        refine W.adv 17 ?_
        exact W.fin (x := .ret) (by kernel_rfl) (LAns.of (d := (.bool false)) (by kernel_rfl) (by rw [H]))
      ·refine W.guard false (w := (c61 == true)) (by kernel_rfl) (congrArg (fun b => b == true) (bfalse h63)) ?_
       refine W.guard false (w := (c61 == true)) (by kernel_rfl) (congrArg (fun b => b == true) (bfalse h63)) ?_
       refine W.guard false (w := (c61 == true)) (by kernel_rfl) (congrArg (fun b => b == true) (bfalse h63)) ?_
       refine W.opS (OpIs.pk false (t := c61) (x := (.tuple [])) (y := (.bool false)) (by kernel_rfl) (bfalse h63)) ?_
       refine W.adv 17 ?_
       exact W.fin (x := .ret) (by kernel_rfl) (LAns.of (d := (.bool false)) (by kernel_rfl) (by rw [H]))
     ·refine W.guard false (w := ((c55 == c57) == true)) (by kernel_rfl) (congrArg (fun b => b == true) (congr (congrArg (fun x y => x == y) h59) (bfalse h60))) ?_
      refine W.guard false (w := ((c55 == c57) == true)) (by kernel_rfl) (congrArg (fun b => b == true) (congr (congrArg (fun x y => x == y) h59) (bfalse h60))) ?_
      refine W.guard false (w := ((c55 == c57) == true)) (by kernel_rfl) (congrArg (fun b => b == true) (congr (congrArg (fun x y => x == y) h59) (bfalse h60))) ?_
      refine W.opS (OpIs.pk false (t := (c55 == c57)) (x := (.tuple [])) (y := (.bool false)) (by kernel_rfl) (congr (congrArg (fun x y => x == y) h59) (bfalse h60))) ?_
      refine W.adv 22 ?_
      exact W.fin (x := .ret) (by kernel_rfl) (LAns.of (d := (.bool false)) (by kernel_rfl) (by rw [H]))
    ·rcases H with ⟨h75, H⟩ | ⟨h75, H⟩
     ·refine W.guard false (w := ((c55 == c57) == true)) (by kernel_rfl) (congrArg (fun b => b == true) (congr (congrArg (fun x y => x == y) (bfalse h59)) h75)) ?_
      refine W.guard false (w := ((c55 == c57) == true)) (by kernel_rfl) (congrArg (fun b => b == true) (congr (congrArg (fun x y => x == y) (bfalse h59)) h75)) ?_
      refine W.guard false (w := ((c55 == c57) == true)) (by kernel_rfl) (congrArg (fun b => b == true) (congr (congrArg (fun x y => x == y) (bfalse h59)) h75)) ?_
      refine W.opS (OpIs.pk false (t := (c55 == c57)) (x := (.tuple [])) (y := (.bool false)) (by kernel_rfl) (congr (congrArg (fun x y => x == y) (bfalse h59)) h75)) ?_
      refine W.adv 22 ?_
      exact W.fin (x := .ret) (by kernel_rfl) (LAns.of (d := (.bool false)) (by kernel_rfl) (by rw [H]))
     ·refine W.guard true (w := ((c55 == c57) == true)) (by kernel_rfl) (congrArg (fun b => b == true) (congr (congrArg (fun x y => x == y) (bfalse h59)) (bfalse h75))) ?_
      refine W.adv 1 ?_
      refine W.guard true (w := ((c55 == c57) == true)) (by kernel_rfl) (congrArg (fun b => b == true) (congr (congrArg (fun x y => x == y) (bfalse h59)) (bfalse h75))) ?_
      refine W.adv 1 ?_
      refine W.guard true (w := ((c55 == c57) == true)) (by kernel_rfl) (congrArg (fun b => b == true) (congr (congrArg (fun x y => x == y) (bfalse h59)) (bfalse h75))) ?_
      obtain ⟨c76, hc77, H⟩ := H
      refine W.callR (g := 10) (ds := [(.agg [.str c3_0, .int .u32 c3_1, .int .i64 c3_2, .bool c3_3, (.list 1 (c3_4.map E46))]), (.agg [.str c3_0, .int .u32 c3_1, .int .i64 c3_2, .bool c3_3, (.list 1 (c3_4.map E46))])]) (es := [(.agg [.str c3_0, .int .u32 c3_1, .int .i64 c3_2, .bool c3_3, (.list 1 (c3_4.map E46))]), (.agg [.str c3_0, .int .u32 c3_1, .int .i64 c3_2, .bool c3_3, (.list 1 (c3_4.map E46))])]) (r := (.bool c76)) (by kernel_rfl) (by kernel_rfl) (Ic.args hc77 (by kernel_rfl)) (by kernel_rfl) ?_
      refine W.opS (OpIs.pk true (t := (c55 == c57)) (x := (.bool c76)) (y := (.bool false)) (by kernel_rfl) (congr (congrArg (fun x y => x == y) (bfalse h59)) (bfalse h75))) ?_
      refine W.adv 1 ?_
      rcases H with ⟨h78, H⟩ | ⟨h78, H⟩
      ·refine W.guard true (w := (c76 == true)) (by kernel_rfl) (congrArg (fun b => b == true) h78) ?_
       refine W.adv 1 ?_
       refine W.guard true (w := (c76 == true)) (by kernel_rfl) (congrArg (fun b => b == true) h78) ?_
       refine W.adv 1 ?_
       refine W.guard true (w := (c76 == true)) (by kernel_rfl) (congrArg (fun b => b == true) h78) ?_
       rcases H with ⟨h79, H⟩ | ⟨h79, H⟩
       ·rcases H with ⟨h80, H⟩ | ⟨h80, H⟩
        ·refine W.opS (OpIs.sq true (r := .bool true) (op := .eql) (t := 25) (xs := [.int .u32 c11t0_0, .int .i64 c11t0_1]) (ys := [.int .u32 c13t0_0, .int .i64 c13t0_1]) (by kernel_rfl) (by kernel_rfl) ((show eqV C.P 4 25 (.agg [.int .u32 c11t0_0, .int .i64 c11t0_1]) (.agg [.int .u32 c13t0_0, .int .i64 c13t0_1]) = (if (c11t0_0 == c13t0_0) = true then (if (c11t0_1 == c13t0_1) = true then some true else some false) else some false) from by kernel_rfl).trans (sq1 (beqT h79) (sq1 (beqT h80) rfl)))) ?_
         refine W.opS (OpIs.pk true (t := c76) (x := (.bool true)) (y := (.bool false)) (by kernel_rfl) h78) ?_
         refine W.adv 6 ?_
         rcases H with ⟨h81, H⟩ | ⟨h81, H⟩
         ·rcases H with ⟨h82, H⟩ | ⟨h82, H⟩
          ·refine W.opS (OpIs.sq true (r := .bool true) (op := .eql) (t := 25) (xs := [.int .u32 c11t1_0, .int .i64 c11t1_1]) (ys := [.int .u32 c13t1_0, .int .i64 c13t1_1]) (by kernel_rfl) (by kernel_rfl) ((show eqV C.P 4 25 (.agg [.int .u32 c11t1_0, .int .i64 c11t1_1]) (.agg [.int .u32 c13t1_0, .int .i64 c13t1_1]) = (if (c11t1_0 == c13t1_0) = true then (if (c11t1_1 == c13t1_1) = true then some true else some false) else some false) from by kernel_rfl).trans (sq1 (beqT h81) (sq1 (beqT h82) rfl)))) ?_
           refine W.adv 10 ?_
           rcases H with ⟨h83, H⟩ | ⟨h83, H⟩
           ·rcases H with ⟨h84, H⟩ | ⟨h84, H⟩
            ·refine W.guard true (w := ((c11t2 == c13t2) == true)) (by kernel_rfl) (congrArg (fun b => b == true) (congr (congrArg (fun x y => x == y) h83) h84)) ?_
             obtain ⟨c85, hc86, H⟩ := H
             refine W.callR (g := 12) (ds := []) (es := []) (r := (.bool c85)) (by kernel_rfl) (by kernel_rfl) (Ic.args hc86 (by kernel_rfl)) (by kernel_rfl) ?_
             refine W.opS (OpIs.pk true (t := (c11t2 == c13t2)) (x := (.bool c85)) (y := (.bool false)) (by kernel_rfl) (congr (congrArg (fun x y => x == y) h83) h84)) ?_
             refine W.adv 4 ?_
             exact W.fin (x := .ret) (by kernel_rfl) (LAns.of (d := (.bool c85)) (by kernel_rfl) (by rw [H]))
            ·refine W.guard false (w := ((c11t2 == c13t2) == true)) (by kernel_rfl) (congrArg (fun b => b == true) (congr (congrArg (fun x y => x == y) h83) (bfalse h84))) ?_
             refine W.opS (OpIs.pk false (t := (c11t2 == c13t2)) (x := (.tuple [])) (y := (.bool false)) (by kernel_rfl) (congr (congrArg (fun x y => x == y) h83) (bfalse h84))) ?_
             refine W.adv 4 ?_
             exact W.fin (x := .ret) (by kernel_rfl) (LAns.of (d := (.bool false)) (by kernel_rfl) (by rw [H]))
           ·rcases H with ⟨h87, H⟩ | ⟨h87, H⟩
            ·refine W.guard false (w := ((c11t2 == c13t2) == true)) (by kernel_rfl) (congrArg (fun b => b == true) (congr (congrArg (fun x y => x == y) (bfalse h83)) h87)) ?_
             refine W.opS (OpIs.pk false (t := (c11t2 == c13t2)) (x := (.tuple [])) (y := (.bool false)) (by kernel_rfl) (congr (congrArg (fun x y => x == y) (bfalse h83)) h87)) ?_
             refine W.adv 4 ?_
             exact W.fin (x := .ret) (by kernel_rfl) (LAns.of (d := (.bool false)) (by kernel_rfl) (by rw [H]))
            ·refine W.guard true (w := ((c11t2 == c13t2) == true)) (by kernel_rfl) (congrArg (fun b => b == true) (congr (congrArg (fun x y => x == y) (bfalse h83)) (bfalse h87))) ?_
             obtain ⟨c88, hc89, H⟩ := H
             refine W.callR (g := 12) (ds := []) (es := []) (r := (.bool c88)) (by kernel_rfl) (by kernel_rfl) (Ic.args hc89 (by kernel_rfl)) (by kernel_rfl) ?_
             refine W.opS (OpIs.pk true (t := (c11t2 == c13t2)) (x := (.bool c88)) (y := (.bool false)) (by kernel_rfl) (congr (congrArg (fun x y => x == y) (bfalse h83)) (bfalse h87))) ?_
             refine W.adv 4 ?_
             exact W.fin (x := .ret) (by kernel_rfl) (LAns.of (d := (.bool c88)) (by kernel_rfl) (by rw [H]))
          ·refine W.opS (OpIs.sq false (r := .bool false) (op := .eql) (t := 25) (xs := [.int .u32 c11t1_0, .int .i64 c11t1_1]) (ys := [.int .u32 c13t1_0, .int .i64 c13t1_1]) (by kernel_rfl) (by kernel_rfl) ((show eqV C.P 4 25 (.agg [.int .u32 c11t1_0, .int .i64 c11t1_1]) (.agg [.int .u32 c13t1_0, .int .i64 c13t1_1]) = (if (c11t1_0 == c13t1_0) = true then (if (c11t1_1 == c13t1_1) = true then some true else some false) else some false) from by kernel_rfl).trans (sq1 (beqT h81) (sq0 (beqF h82))))) ?_
           refine W.adv 13 ?_
           exact W.fin (x := .ret) (by kernel_rfl) (LAns.of (d := (.bool false)) (by kernel_rfl) (by rw [H]))
         ·refine W.opS (OpIs.sq false (r := .bool false) (op := .eql) (t := 25) (xs := [.int .u32 c11t1_0, .int .i64 c11t1_1]) (ys := [.int .u32 c13t1_0, .int .i64 c13t1_1]) (by kernel_rfl) (by kernel_rfl) ((show eqV C.P 4 25 (.agg [.int .u32 c11t1_0, .int .i64 c11t1_1]) (.agg [.int .u32 c13t1_0, .int .i64 c13t1_1]) = (if (c11t1_0 == c13t1_0) = true then (if (c11t1_1 == c13t1_1) = true then some true else some false) else some false) from by kernel_rfl).trans (sq0 (beqF h81)))) ?_
          refine W.adv 13 ?_
          exact W.fin (x := .ret) (by kernel_rfl) (LAns.of (d := (.bool false)) (by kernel_rfl) (by rw [H]))
        ·refine W.opS (OpIs.sq false (r := .bool false) (op := .eql) (t := 25) (xs := [.int .u32 c11t0_0, .int .i64 c11t0_1]) (ys := [.int .u32 c13t0_0, .int .i64 c13t0_1]) (by kernel_rfl) (by kernel_rfl) ((show eqV C.P 4 25 (.agg [.int .u32 c11t0_0, .int .i64 c11t0_1]) (.agg [.int .u32 c13t0_0, .int .i64 c13t0_1]) = (if (c11t0_0 == c13t0_0) = true then (if (c11t0_1 == c13t0_1) = true then some true else some false) else some false) from by kernel_rfl).trans (sq1 (beqT h79) (sq0 (beqF h80))))) ?_
         refine W.opS (OpIs.pk true (t := c76) (x := (.bool false)) (y := (.bool false)) (by kernel_rfl) h78) ?_
         refine W.adv 17 ?_
         exact W.fin (x := .ret) (by kernel_rfl) (LAns.of (d := (.bool false)) (by kernel_rfl) (by rw [H]))
       ·refine W.opS (OpIs.sq false (r := .bool false) (op := .eql) (t := 25) (xs := [.int .u32 c11t0_0, .int .i64 c11t0_1]) (ys := [.int .u32 c13t0_0, .int .i64 c13t0_1]) (by kernel_rfl) (by kernel_rfl) ((show eqV C.P 4 25 (.agg [.int .u32 c11t0_0, .int .i64 c11t0_1]) (.agg [.int .u32 c13t0_0, .int .i64 c13t0_1]) = (if (c11t0_0 == c13t0_0) = true then (if (c11t0_1 == c13t0_1) = true then some true else some false) else some false) from by kernel_rfl).trans (sq0 (beqF h79)))) ?_
        refine W.opS (OpIs.pk true (t := c76) (x := (.bool false)) (y := (.bool false)) (by kernel_rfl) h78) ?_
        refine W.adv 17 ?_
        exact W.fin (x := .ret) (by kernel_rfl) (LAns.of (d := (.bool false)) (by kernel_rfl) (by rw [H]))
      ·refine W.guard false (w := (c76 == true)) (by kernel_rfl) (congrArg (fun b => b == true) (bfalse h78)) ?_
       refine W.guard false (w := (c76 == true)) (by kernel_rfl) (congrArg (fun b => b == true) (bfalse h78)) ?_
       refine W.guard false (w := (c76 == true)) (by kernel_rfl) (congrArg (fun b => b == true) (bfalse h78)) ?_
       refine W.opS (OpIs.pk false (t := c76) (x := (.tuple [])) (y := (.bool false)) (by kernel_rfl) (bfalse h78)) ?_
       refine W.adv 17 ?_
       exact W.fin (x := .ret) (by kernel_rfl) (LAns.of (d := (.bool false)) (by kernel_rfl) (by rw [H]))
   ·refine W.guard false (w := ((decide (c7t0 = (mx c9 0))) == true)) (by kernel_rfl) (congrArg (fun b => b == true) (decide_eq_false h54)) ?_
    refine W.guard false (w := ((decide (c7t0 = (mx c9 0))) == true)) (by kernel_rfl) (congrArg (fun b => b == true) (decide_eq_false h54)) ?_
    refine W.guard false (w := ((decide (c7t0 = (mx c9 0))) == true)) (by kernel_rfl) (congrArg (fun b => b == true) (decide_eq_false h54)) ?_
    refine W.guard false (w := ((decide (c7t0 = (mx c9 0))) == true)) (by kernel_rfl) (congrArg (fun b => b == true) (decide_eq_false h54)) ?_
    refine W.guard false (w := ((decide (c7t0 = (mx c9 0))) == true)) (by kernel_rfl) (congrArg (fun b => b == true) (decide_eq_false h54)) ?_
    refine W.guard false (w := ((decide (c7t0 = (mx c9 0))) == true)) (by kernel_rfl) (congrArg (fun b => b == true) (decide_eq_false h54)) ?_
    refine W.guard false (w := ((decide (c7t0 = (mx c9 0))) == true)) (by kernel_rfl) (congrArg (fun b => b == true) (decide_eq_false h54)) ?_
    refine W.opS (OpIs.pk false (t := (decide (c7t0 = (mx c9 0)))) (x := (.tuple [])) (y := (.bool false)) (by kernel_rfl) (decide_eq_false h54)) ?_
    refine W.adv 27 ?_
    exact W.fin (x := .ret) (by kernel_rfl) (LAns.of (d := (.bool false)) (by kernel_rfl) (by rw [H]))
end Go.Proofs.YtfijdkdpcjfiaaaGreatA
