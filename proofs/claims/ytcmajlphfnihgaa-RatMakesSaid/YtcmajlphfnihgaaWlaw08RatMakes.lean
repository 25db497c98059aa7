/- Walks through the functions: what makes each relation true. -/
import Derived.Test.YtcmajlphfnihgaaW0
set_option linter.unusedVariables false
set_option maxRecDepth 100000
namespace Go.Proofs.YtcmajlphfnihgaaA
open Go Go.Proofs
/-! ### trivium/triviumlaw08.RatMakes -/
theorem law08_RatMakes_go {a0_0 : Bool} {a0_1 : List Int} {a1_0 : Bool} {a1_1 : List Int} {a2_0 : Bool} {a2_1 : List Int} {a2_2 : List Int} {z : Bool} (H : (∃ c1_0 : Bool, (∃ c1_1 : List Int, (ref07_Clean_R a0_0 a0_1 4 c1_0 c1_1 ∧ (∃ c3_0 : Bool, (∃ c3_1 : List Int, (ref07_Clean_R a1_0 a1_1 4 c3_0 c3_1 ∧ (∃ c5t0_0 : Bool, (∃ c5t0_1 : List Int, (∃ c5t0_2 : List Int, (∃ c5t1 : Int, (rat_Make_R c1_0 c1_1 c3_0 c3_1 c5t0_0 c5t0_1 c5t0_2 c5t1 ∧ (((c3_1.length : Int) = 0 ∧ ((c5t1 = 3 ∧ (((wi ((c5t0_2.length : Int) + (c5t0_1.length : Int))) = 0 ∧ (∃ c10 : Bool, (law08_works_R c10 ∧ (z = c10)))) ∨ (¬ (wi ((c5t0_2.length : Int) + (c5t0_1.length : Int))) = 0 ∧ (z = false)))) ∨ (¬ c5t1 = 3 ∧ (z = false)))) ∨ (¬ (c3_1.length : Int) = 0 ∧ (∃ c12_0 : Bool, (∃ c12_1 : List Int, (ref07_Of_R c1_0 c1_1 c12_0 c12_1 ∧ ((c3_0 = true ∧ (∃ c15_0 : Bool, (∃ c15_1 : List Int, (ref07_Neg_R c12_0 c12_1 c15_0 c15_1 ∧ (∃ c17_0 : Bool, (∃ c17_1 : List Int, (ref07_Of_R c3_0 c3_1 c17_0 c17_1 ∧ (∃ c19_0 : Bool, (∃ c19_1 : List Int, (∃ c19_2 : List Int, (ref08_Low_R c15_0 c15_1 c17_1 c19_0 c19_1 c19_2 ∧ (∃ c21_0 : Bool, (∃ c21_1 : List Int, (∃ c21_2 : List Int, (ref08_Back_R c19_0 c19_1 c19_2 c21_0 c21_1 c21_2 ∧ (0 ≤ (mn (a2_1.length : Int) 4) ∧ ((mn (a2_1.length : Int) 4) ≤ (a2_1.length : Int) ∧ (0 ≤ (mn (a2_2.length : Int) 4) ∧ ((mn (a2_2.length : Int) 4) ≤ (a2_2.length : Int) ∧ ((c5t1 = 0 ∧ (∃ c28 : Bool, (ref08_Same_R c5t0_0 c5t0_1 c5t0_2 c21_0 c21_1 c21_2 c28 ∧ ((c28 = true ∧ (∃ c31 : Bool, (rat_May_R c5t0_0 c5t0_1 c5t0_2 c31 ∧ ((c31 = true ∧ (∃ c34 : Bool, (rat_May_R a2_0 (a2_1.take (mn (a2_1.length : Int) 4).toNat) (a2_2.take (mn (a2_2.length : Int) 4).toNat) c34 ∧ (∃ c36 : Bool, (ref08_May_R a2_0 (a2_1.take (mn (a2_1.length : Int) 4).toNat) (a2_2.take (mn (a2_2.length : Int) 4).toNat) c36 ∧ ((c34 = true ∧ ((c36 = true ∧ (∃ c40 : Bool, (law08_works_R c40 ∧ (z = c40)))) ∨ (¬ c36 = true ∧ (z = false)))) ∨ (¬ c34 = true ∧ ((c36 = true ∧ (z = false)) ∨ (¬ c36 = true ∧ (∃ c43 : Bool, (law08_works_R c43 ∧ (z = c43)))))))))))) ∨ (¬ c31 = true ∧ (z = false)))))) ∨ (¬ c28 = true ∧ (z = false)))))) ∨ (¬ c5t1 = 0 ∧ (z = false)))))))))))))))))))))) ∨ (¬ c3_0 = true ∧ (∃ c45_0 : Bool, (∃ c45_1 : List Int, (ref07_Of_R c3_0 c3_1 c45_0 c45_1 ∧ (∃ c47_0 : Bool, (∃ c47_1 : List Int, (∃ c47_2 : List Int, (ref08_Low_R c12_0 c12_1 c45_1 c47_0 c47_1 c47_2 ∧ (∃ c49_0 : Bool, (∃ c49_1 : List Int, (∃ c49_2 : List Int, (ref08_Back_R c47_0 c47_1 c47_2 c49_0 c49_1 c49_2 ∧ (0 ≤ (mn (a2_1.length : Int) 4) ∧ ((mn (a2_1.length : Int) 4) ≤ (a2_1.length : Int) ∧ (0 ≤ (mn (a2_2.length : Int) 4) ∧ ((mn (a2_2.length : Int) 4) ≤ (a2_2.length : Int) ∧ ((c5t1 = 0 ∧ (∃ c56 : Bool, (ref08_Same_R c5t0_0 c5t0_1 c5t0_2 c49_0 c49_1 c49_2 c56 ∧ ((c56 = true ∧ (∃ c59 : Bool, (rat_May_R c5t0_0 c5t0_1 c5t0_2 c59 ∧ ((c59 = true ∧ (∃ c62 : Bool, (rat_May_R a2_0 (a2_1.take (mn (a2_1.length : Int) 4).toNat) (a2_2.take (mn (a2_2.length : Int) 4).toNat) c62 ∧ (∃ c64 : Bool, (ref08_May_R a2_0 (a2_1.take (mn (a2_1.length : Int) 4).toNat) (a2_2.take (mn (a2_2.length : Int) 4).toNat) c64 ∧ ((c62 = true ∧ ((c64 = true ∧ (∃ c68 : Bool, (law08_works_R c68 ∧ (z = c68)))) ∨ (¬ c64 = true ∧ (z = false)))) ∨ (¬ c62 = true ∧ ((c64 = true ∧ (z = false)) ∨ (¬ c64 = true ∧ (∃ c71 : Bool, (law08_works_R c71 ∧ (z = c71)))))))))))) ∨ (¬ c59 = true ∧ (z = false)))))) ∨ (¬ c56 = true ∧ (z = false)))))) ∨ (¬ c5t1 = 0 ∧ (z = false))))))))))))))))))))))))))))))))))))) : law08_RatMakes_R a0_0 a0_1 a1_0 a1_1 a2_0 a2_1 a2_2 z := by
  refine W.lawIs (zs := [(.agg [(.bool a0_0), (.ints .u64 a0_1)]), (.agg [(.bool a1_0), (.ints .u64 a1_1)]), (.agg [(.bool a2_0), (.ints .u64 a2_1), (.ints .u64 a2_2)])]) Try.func8 (by kernel_rfl) (by kernel_rfl) (by kernel_rfl) ?_
  refine W.adv 11 ?_
  obtain ⟨c1_0, c1_1, hc2, H⟩ := H
  refine W.callR (g := 36) (ds := [(.agg [(.bool a0_0), (.ints .u64 a0_1)]), (.int .i64 4)]) (es := [(.agg [(.bool a0_0), (.ints .u64 a0_1)]), (.int .i64 4)]) (r := (.agg [(.bool c1_0), (.ints .u64 c1_1)])) (by kernel_rfl) (by kernel_rfl) (Ic.args hc2 (by kernel_rfl)) (by kernel_rfl) ?_
  refine W.adv 1 ?_
  obtain ⟨c3_0, c3_1, hc4, H⟩ := H
  refine W.callR (g := 36) (ds := [(.agg [(.bool a1_0), (.ints .u64 a1_1)]), (.int .i64 4)]) (es := [(.agg [(.bool a1_0), (.ints .u64 a1_1)]), (.int .i64 4)]) (r := (.agg [(.bool c3_0), (.ints .u64 c3_1)])) (by kernel_rfl) (by kernel_rfl) (Ic.args hc4 (by kernel_rfl)) (by kernel_rfl) ?_
  refine W.adv 8 ?_
  obtain ⟨c5t0_0, c5t0_1, c5t0_2, c5t1, hc6, H⟩ := H
  refine W.callR (g := 28) (ds := [(.agg [(.bool c1_0), (.ints .u64 c1_1)]), (.agg [(.bool c3_0), (.ints .u64 c3_1)])]) (es := [(.agg [(.bool c1_0), (.ints .u64 c1_1)]), (.agg [(.bool c3_0), (.ints .u64 c3_1)])]) (r := (.tuple [(.agg [(.bool c5t0_0), (.ints .u64 c5t0_1), (.ints .u64 c5t0_2)]), (.int .i64 c5t1)])) (by kernel_rfl) (by kernel_rfl) (Ic.args hc6 (by kernel_rfl)) (by kernel_rfl) ?_
  refine W.adv 17 ?_
  rcases H with ⟨h7, H⟩ | ⟨h7, H⟩
  · refine W.cond true (w := (decide ((c3_1.length : Int) = 0))) (by kernel_rfl) (decide_eq_true h7) ?_
    refine W.adv 5 ?_
    rcases H with ⟨h8, H⟩ | ⟨h8, H⟩
    · refine W.guard true (w := ((decide (c5t1 = 3)) == true)) (by kernel_rfl) (congrArg (fun b => b == true) (decide_eq_true h8)) ?_
      refine W.adv 1 ?_
      refine W.guard true (w := ((decide (c5t1 = 3)) == true)) (by kernel_rfl) (congrArg (fun b => b == true) (decide_eq_true h8)) ?_
      refine W.adv 1 ?_
      refine W.guard true (w := ((decide (c5t1 = 3)) == true)) (by kernel_rfl) (congrArg (fun b => b == true) (decide_eq_true h8)) ?_
      refine W.adv 1 ?_
      refine W.guard true (w := ((decide (c5t1 = 3)) == true)) (by kernel_rfl) (congrArg (fun b => b == true) (decide_eq_true h8)) ?_
      refine W.adv 1 ?_
      refine W.guard true (w := ((decide (c5t1 = 3)) == true)) (by kernel_rfl) (congrArg (fun b => b == true) (decide_eq_true h8)) ?_
      refine W.adv 1 ?_
      refine W.guard true (w := ((decide (c5t1 = 3)) == true)) (by kernel_rfl) (congrArg (fun b => b == true) (decide_eq_true h8)) ?_
      refine W.adv 1 ?_
      refine W.guard true (w := ((decide (c5t1 = 3)) == true)) (by kernel_rfl) (congrArg (fun b => b == true) (decide_eq_true h8)) ?_
      refine W.adv 1 ?_
      refine W.guard true (w := ((decide (c5t1 = 3)) == true)) (by kernel_rfl) (congrArg (fun b => b == true) (decide_eq_true h8)) ?_
      refine W.adv 1 ?_
      refine W.guard true (w := ((decide (c5t1 = 3)) == true)) (by kernel_rfl) (congrArg (fun b => b == true) (decide_eq_true h8)) ?_
      refine W.adv 1 ?_
      refine W.opS (OpIs.pk true (t := (decide (c5t1 = 3))) (x := (.bool (decide ((wi ((c5t0_2.length : Int) + (c5t0_1.length : Int))) = 0)))) (y := (.bool false)) (by kernel_rfl) (decide_eq_true h8)) ?_
      refine W.adv 1 ?_
      rcases H with ⟨h9, H⟩ | ⟨h9, H⟩
      · refine W.guard true (w := ((decide ((wi ((c5t0_2.length : Int) + (c5t0_1.length : Int))) = 0)) == true)) (by kernel_rfl) (congrArg (fun b => b == true) (decide_eq_true h9)) ?_
        obtain ⟨c10, hc11, H⟩ := H
        refine W.callR (g := 31) (ds := []) (es := []) (r := (.bool c10)) (by kernel_rfl) (by kernel_rfl) (Ic.args hc11 (by kernel_rfl)) (by kernel_rfl) ?_
        refine W.opS (OpIs.pk true (t := (decide ((wi ((c5t0_2.length : Int) + (c5t0_1.length : Int))) = 0))) (x := (.bool c10)) (y := (.bool false)) (by kernel_rfl) (decide_eq_true h9)) ?_
        refine W.adv 5 ?_
        exact W.fin (x := .ret) (by kernel_rfl) (LAns.of (d := (.bool c10)) (by kernel_rfl) (by rw [H]))
      · refine W.guard false (w := ((decide ((wi ((c5t0_2.length : Int) + (c5t0_1.length : Int))) = 0)) == true)) (by kernel_rfl) (congrArg (fun b => b == true) (decide_eq_false h9)) ?_
        refine W.opS (OpIs.pk false (t := (decide ((wi ((c5t0_2.length : Int) + (c5t0_1.length : Int))) = 0))) (x := (.tuple [])) (y := (.bool false)) (by kernel_rfl) (decide_eq_false h9)) ?_
        refine W.adv 5 ?_
        exact W.fin (x := .ret) (by kernel_rfl) (LAns.of (d := (.bool false)) (by kernel_rfl) (by rw [H]))
    · refine W.guard false (w := ((decide (c5t1 = 3)) == true)) (by kernel_rfl) (congrArg (fun b => b == true) (decide_eq_false h8)) ?_
      refine W.guard false (w := ((decide (c5t1 = 3)) == true)) (by kernel_rfl) (congrArg (fun b => b == true) (decide_eq_false h8)) ?_
      refine W.guard false (w := ((decide (c5t1 = 3)) == true)) (by kernel_rfl) (congrArg (fun b => b == true) (decide_eq_false h8)) ?_
      refine W.guard false (w := ((decide (c5t1 = 3)) == true)) (by kernel_rfl) (congrArg (fun b => b == true) (decide_eq_false h8)) ?_
      refine W.guard false (w := ((decide (c5t1 = 3)) == true)) (by kernel_rfl) (congrArg (fun b => b == true) (decide_eq_false h8)) ?_
      refine W.guard false (w := ((decide (c5t1 = 3)) == true)) (by kernel_rfl) (congrArg (fun b => b == true) (decide_eq_false h8)) ?_
      refine W.guard false (w := ((decide (c5t1 = 3)) == true)) (by kernel_rfl) (congrArg (fun b => b == true) (decide_eq_false h8)) ?_
      refine W.guard false (w := ((decide (c5t1 = 3)) == true)) (by kernel_rfl) (congrArg (fun b => b == true) (decide_eq_false h8)) ?_
      refine W.guard false (w := ((decide (c5t1 = 3)) == true)) (by kernel_rfl) (congrArg (fun b => b == true) (decide_eq_false h8)) ?_
      refine W.opS (OpIs.pk false (t := (decide (c5t1 = 3))) (x := (.tuple [])) (y := (.bool false)) (by kernel_rfl) (decide_eq_false h8)) ?_
      refine W.adv 8 ?_
      exact W.fin (x := .ret) (by kernel_rfl) (LAns.of (d := (.bool false)) (by kernel_rfl) (by rw [H]))
  · refine W.cond false (w := (decide ((c3_1.length : Int) = 0))) (by kernel_rfl) (decide_eq_false h7) ?_
    refine W.adv 5 ?_
    obtain ⟨c12_0, c12_1, hc13, H⟩ := H
    refine W.callR (g := 37) (ds := [(.agg [(.bool c1_0), (.ints .u64 c1_1)])]) (es := [(.agg [(.bool c1_0), (.ints .u64 c1_1)])]) (r := (.agg [(.bool c12_0), (.ints .i64 c12_1)])) (by kernel_rfl) (by kernel_rfl) (Ic.args hc13 (by kernel_rfl)) (by kernel_rfl) ?_
    refine W.adv 11 ?_
    rcases H with ⟨h14, H⟩ | ⟨h14, H⟩
    · refine W.cond true (w := c3_0) (by kernel_rfl) h14 ?_
      refine W.adv 2 ?_
      obtain ⟨c15_0, c15_1, hc16, H⟩ := H
      refine W.callR (g := 38) (ds := [(.agg [(.bool c12_0), (.ints .i64 c12_1)])]) (es := [(.agg [(.bool c12_0), (.ints .i64 c12_1)])]) (r := (.agg [(.bool c15_0), (.ints .i64 c15_1)])) (by kernel_rfl) (by kernel_rfl) (Ic.args hc16 (by kernel_rfl)) (by kernel_rfl) ?_
      refine W.adv 7 ?_
      obtain ⟨c17_0, c17_1, hc18, H⟩ := H
      refine W.callR (g := 37) (ds := [(.agg [(.bool c3_0), (.ints .u64 c3_1)])]) (es := [(.agg [(.bool c3_0), (.ints .u64 c3_1)])]) (r := (.agg [(.bool c17_0), (.ints .i64 c17_1)])) (by kernel_rfl) (by kernel_rfl) (Ic.args hc18 (by kernel_rfl)) (by kernel_rfl) ?_
      refine W.adv 1 ?_
      obtain ⟨c19_0, c19_1, c19_2, hc20, H⟩ := H
      refine W.callR (g := 39) (ds := [(.agg [(.bool c15_0), (.ints .i64 c15_1)]), (.ints .i64 c17_1)]) (es := [(.agg [(.bool c15_0), (.ints .i64 c15_1)]), (.ints .i64 c17_1)]) (r := (.agg [(.bool c19_0), (.ints .i64 c19_1), (.ints .i64 c19_2)])) (by kernel_rfl) (by kernel_rfl) (Ic.args hc20 (by kernel_rfl)) (by kernel_rfl) ?_
      obtain ⟨c21_0, c21_1, c21_2, hc22, H⟩ := H
      refine W.callR (g := 32) (ds := [(.agg [(.bool c19_0), (.ints .i64 c19_1), (.ints .i64 c19_2)])]) (es := [(.agg [(.bool c19_0), (.ints .i64 c19_1), (.ints .i64 c19_2)])]) (r := (.agg [(.bool c21_0), (.ints .u64 c21_1), (.ints .u64 c21_2)])) (by kernel_rfl) (by kernel_rfl) (Ic.args hc22 (by kernel_rfl)) (by kernel_rfl) ?_
      refine W.adv 14 ?_
      obtain ⟨h23, h24, H⟩ := H
      refine W.opS (OpIs.slI_hi (k := .u64) (k' := .i64) (xs := a2_1) (i := (mn (a2_1.length : Int) 4)) (by kernel_rfl) h23 h24) ?_
      refine W.adv 6 ?_
      obtain ⟨h25, h26, H⟩ := H
      refine W.opS (OpIs.slI_hi (k := .u64) (k' := .i64) (xs := a2_2) (i := (mn (a2_2.length : Int) 4)) (by kernel_rfl) h25 h26) ?_
      refine W.adv 12 ?_
      rcases H with ⟨h27, H⟩ | ⟨h27, H⟩
      · refine W.guard true (w := ((decide (c5t1 = 0)) == true)) (by kernel_rfl) (congrArg (fun b => b == true) (decide_eq_true h27)) ?_
        refine W.adv 1 ?_
        refine W.guard true (w := ((decide (c5t1 = 0)) == true)) (by kernel_rfl) (congrArg (fun b => b == true) (decide_eq_true h27)) ?_
        refine W.adv 1 ?_
        refine W.guard true (w := ((decide (c5t1 = 0)) == true)) (by kernel_rfl) (congrArg (fun b => b == true) (decide_eq_true h27)) ?_
        obtain ⟨c28, hc29, H⟩ := H
        refine W.callR (g := 30) (ds := [(.agg [(.bool c5t0_0), (.ints .u64 c5t0_1), (.ints .u64 c5t0_2)]), (.agg [(.bool c21_0), (.ints .u64 c21_1), (.ints .u64 c21_2)])]) (es := [(.agg [(.bool c5t0_0), (.ints .u64 c5t0_1), (.ints .u64 c5t0_2)]), (.agg [(.bool c21_0), (.ints .u64 c21_1), (.ints .u64 c21_2)])]) (r := (.bool c28)) (by kernel_rfl) (by kernel_rfl) (Ic.args hc29 (by kernel_rfl)) (by kernel_rfl) ?_
        refine W.opS (OpIs.pk true (t := (decide (c5t1 = 0))) (x := (.bool c28)) (y := (.bool false)) (by kernel_rfl) (decide_eq_true h27)) ?_
        refine W.adv 1 ?_
        rcases H with ⟨h30, H⟩ | ⟨h30, H⟩
        · refine W.guard true (w := (c28 == true)) (by kernel_rfl) (congrArg (fun b => b == true) h30) ?_
          refine W.adv 1 ?_
          refine W.guard true (w := (c28 == true)) (by kernel_rfl) (congrArg (fun b => b == true) h30) ?_
          obtain ⟨c31, hc32, H⟩ := H
          refine W.callR (g := 40) (ds := [(.agg [(.bool c5t0_0), (.ints .u64 c5t0_1), (.ints .u64 c5t0_2)])]) (es := [(.agg [(.bool c5t0_0), (.ints .u64 c5t0_1), (.ints .u64 c5t0_2)])]) (r := (.bool c31)) (by kernel_rfl) (by kernel_rfl) (Ic.args hc32 (by kernel_rfl)) (by kernel_rfl) ?_
          refine W.opS (OpIs.pk true (t := c28) (x := (.bool c31)) (y := (.bool false)) (by kernel_rfl) h30) ?_
          refine W.adv 1 ?_
          rcases H with ⟨h33, H⟩ | ⟨h33, H⟩
          · refine W.guard true (w := (c31 == true)) (by kernel_rfl) (congrArg (fun b => b == true) h33) ?_
            refine W.adv 1 ?_
            refine W.guard true (w := (c31 == true)) (by kernel_rfl) (congrArg (fun b => b == true) h33) ?_
            obtain ⟨c34, hc35, H⟩ := H
            refine W.callR (g := 40) (ds := [(.agg [(.bool a2_0), (.ints .u64 (a2_1.take (mn (a2_1.length : Int) 4).toNat)), (.ints .u64 (a2_2.take (mn (a2_2.length : Int) 4).toNat))])]) (es := [(.agg [(.bool a2_0), (.ints .u64 (a2_1.take (mn (a2_1.length : Int) 4).toNat)), (.ints .u64 (a2_2.take (mn (a2_2.length : Int) 4).toNat))])]) (r := (.bool c34)) (by kernel_rfl) (by kernel_rfl) (Ic.args hc35 (by kernel_rfl)) (by kernel_rfl) ?_
            refine W.guard true (w := (c31 == true)) (by kernel_rfl) (congrArg (fun b => b == true) h33) ?_
            refine W.adv 1 ?_
            refine W.guard true (w := (c31 == true)) (by kernel_rfl) (congrArg (fun b => b == true) h33) ?_
            obtain ⟨c36, hc37, H⟩ := H
            refine W.callR (g := 41) (ds := [(.agg [(.bool a2_0), (.ints .u64 (a2_1.take (mn (a2_1.length : Int) 4).toNat)), (.ints .u64 (a2_2.take (mn (a2_2.length : Int) 4).toNat))])]) (es := [(.agg [(.bool a2_0), (.ints .u64 (a2_1.take (mn (a2_1.length : Int) 4).toNat)), (.ints .u64 (a2_2.take (mn (a2_2.length : Int) 4).toNat))])]) (r := (.bool c36)) (by kernel_rfl) (by kernel_rfl) (Ic.args hc37 (by kernel_rfl)) (by kernel_rfl) ?_
            refine W.guard true (w := (c31 == true)) (by kernel_rfl) (congrArg (fun b => b == true) h33) ?_
            refine W.adv 1 ?_
            refine W.opS (OpIs.pk true (t := c31) (x := (.bool (c34 == c36))) (y := (.bool false)) (by kernel_rfl) h33) ?_
            refine W.adv 1 ?_
            rcases H with ⟨h38, H⟩ | ⟨h38, H⟩
            · rcases H with ⟨h39, H⟩ | ⟨h39, H⟩
              · refine W.guard true (w := ((c34 == c36) == true)) (by kernel_rfl) (congrArg (fun b => b == true) (congr (congrArg (fun x y => x == y) h38) h39)) ?_
                obtain ⟨c40, hc41, H⟩ := H
                refine W.callR (g := 31) (ds := []) (es := []) (r := (.bool c40)) (by kernel_rfl) (by kernel_rfl) (Ic.args hc41 (by kernel_rfl)) (by kernel_rfl) ?_
                refine W.opS (OpIs.pk true (t := (c34 == c36)) (x := (.bool c40)) (y := (.bool false)) (by kernel_rfl) (congr (congrArg (fun x y => x == y) h38) h39)) ?_
                refine W.adv 4 ?_
                exact W.fin (x := .ret) (by kernel_rfl) (LAns.of (d := (.bool c40)) (by kernel_rfl) (by rw [H]))
              · refine W.guard false (w := ((c34 == c36) == true)) (by kernel_rfl) (congrArg (fun b => b == true) (congr (congrArg (fun x y => x == y) h38) (bfalse h39))) ?_
                refine W.opS (OpIs.pk false (t := (c34 == c36)) (x := (.tuple [])) (y := (.bool false)) (by kernel_rfl) (congr (congrArg (fun x y => x == y) h38) (bfalse h39))) ?_
                refine W.adv 4 ?_
                exact W.fin (x := .ret) (by kernel_rfl) (LAns.of (d := (.bool false)) (by kernel_rfl) (by rw [H]))
            · rcases H with ⟨h42, H⟩ | ⟨h42, H⟩
              · refine W.guard false (w := ((c34 == c36) == true)) (by kernel_rfl) (congrArg (fun b => b == true) (congr (congrArg (fun x y => x == y) (bfalse h38)) h42)) ?_
                refine W.opS (OpIs.pk false (t := (c34 == c36)) (x := (.tuple [])) (y := (.bool false)) (by kernel_rfl) (congr (congrArg (fun x y => x == y) (bfalse h38)) h42)) ?_
                refine W.adv 4 ?_
                exact W.fin (x := .ret) (by kernel_rfl) (LAns.of (d := (.bool false)) (by kernel_rfl) (by rw [H]))
              · refine W.guard true (w := ((c34 == c36) == true)) (by kernel_rfl) (congrArg (fun b => b == true) (congr (congrArg (fun x y => x == y) (bfalse h38)) (bfalse h42))) ?_
                obtain ⟨c43, hc44, H⟩ := H
                refine W.callR (g := 31) (ds := []) (es := []) (r := (.bool c43)) (by kernel_rfl) (by kernel_rfl) (Ic.args hc44 (by kernel_rfl)) (by kernel_rfl) ?_
                refine W.opS (OpIs.pk true (t := (c34 == c36)) (x := (.bool c43)) (y := (.bool false)) (by kernel_rfl) (congr (congrArg (fun x y => x == y) (bfalse h38)) (bfalse h42))) ?_
                refine W.adv 4 ?_
                exact W.fin (x := .ret) (by kernel_rfl) (LAns.of (d := (.bool c43)) (by kernel_rfl) (by rw [H]))
          · refine W.guard false (w := (c31 == true)) (by kernel_rfl) (congrArg (fun b => b == true) (bfalse h33)) ?_
            refine W.guard false (w := (c31 == true)) (by kernel_rfl) (congrArg (fun b => b == true) (bfalse h33)) ?_
            refine W.guard false (w := (c31 == true)) (by kernel_rfl) (congrArg (fun b => b == true) (bfalse h33)) ?_
            refine W.guard false (w := (c31 == true)) (by kernel_rfl) (congrArg (fun b => b == true) (bfalse h33)) ?_
            refine W.guard false (w := (c31 == true)) (by kernel_rfl) (congrArg (fun b => b == true) (bfalse h33)) ?_
            refine W.opS (OpIs.pk false (t := c31) (x := (.tuple [])) (y := (.bool false)) (by kernel_rfl) (bfalse h33)) ?_
            refine W.adv 7 ?_
            exact W.fin (x := .ret) (by kernel_rfl) (LAns.of (d := (.bool false)) (by kernel_rfl) (by rw [H]))
        · refine W.guard false (w := (c28 == true)) (by kernel_rfl) (congrArg (fun b => b == true) (bfalse h30)) ?_
          refine W.guard false (w := (c28 == true)) (by kernel_rfl) (congrArg (fun b => b == true) (bfalse h30)) ?_
          refine W.opS (OpIs.pk false (t := c28) (x := (.tuple [])) (y := (.bool false)) (by kernel_rfl) (bfalse h30)) ?_
          refine W.adv 14 ?_
          exact W.fin (x := .ret) (by kernel_rfl) (LAns.of (d := (.bool false)) (by kernel_rfl) (by rw [H]))
      · refine W.guard false (w := ((decide (c5t1 = 0)) == true)) (by kernel_rfl) (congrArg (fun b => b == true) (decide_eq_false h27)) ?_
        refine W.guard false (w := ((decide (c5t1 = 0)) == true)) (by kernel_rfl) (congrArg (fun b => b == true) (decide_eq_false h27)) ?_
        refine W.guard false (w := ((decide (c5t1 = 0)) == true)) (by kernel_rfl) (congrArg (fun b => b == true) (decide_eq_false h27)) ?_
        refine W.opS (OpIs.pk false (t := (decide (c5t1 = 0))) (x := (.tuple [])) (y := (.bool false)) (by kernel_rfl) (decide_eq_false h27)) ?_
        refine W.adv 18 ?_
        exact W.fin (x := .ret) (by kernel_rfl) (LAns.of (d := (.bool false)) (by kernel_rfl) (by rw [H]))
    · refine W.cond false (w := c3_0) (by kernel_rfl) (bfalse h14) ?_
      refine W.adv 6 ?_
      obtain ⟨c45_0, c45_1, hc46, H⟩ := H
      refine W.callR (g := 37) (ds := [(.agg [(.bool c3_0), (.ints .u64 c3_1)])]) (es := [(.agg [(.bool c3_0), (.ints .u64 c3_1)])]) (r := (.agg [(.bool c45_0), (.ints .i64 c45_1)])) (by kernel_rfl) (by kernel_rfl) (Ic.args hc46 (by kernel_rfl)) (by kernel_rfl) ?_
      refine W.adv 1 ?_
      obtain ⟨c47_0, c47_1, c47_2, hc48, H⟩ := H
      refine W.callR (g := 39) (ds := [(.agg [(.bool c12_0), (.ints .i64 c12_1)]), (.ints .i64 c45_1)]) (es := [(.agg [(.bool c12_0), (.ints .i64 c12_1)]), (.ints .i64 c45_1)]) (r := (.agg [(.bool c47_0), (.ints .i64 c47_1), (.ints .i64 c47_2)])) (by kernel_rfl) (by kernel_rfl) (Ic.args hc48 (by kernel_rfl)) (by kernel_rfl) ?_
      obtain ⟨c49_0, c49_1, c49_2, hc50, H⟩ := H
      refine W.callR (g := 32) (ds := [(.agg [(.bool c47_0), (.ints .i64 c47_1), (.ints .i64 c47_2)])]) (es := [(.agg [(.bool c47_0), (.ints .i64 c47_1), (.ints .i64 c47_2)])]) (r := (.agg [(.bool c49_0), (.ints .u64 c49_1), (.ints .u64 c49_2)])) (by kernel_rfl) (by kernel_rfl) (Ic.args hc50 (by kernel_rfl)) (by kernel_rfl) ?_
      refine W.adv 14 ?_
      obtain ⟨h51, h52, H⟩ := H
      refine W.opS (OpIs.slI_hi (k := .u64) (k' := .i64) (xs := a2_1) (i := (mn (a2_1.length : Int) 4)) (by kernel_rfl) h51 h52) ?_
      refine W.adv 6 ?_
      obtain ⟨h53, h54, H⟩ := H
      refine W.opS (OpIs.slI_hi (k := .u64) (k' := .i64) (xs := a2_2) (i := (mn (a2_2.length : Int) 4)) (by kernel_rfl) h53 h54) ?_
      refine W.adv 12 ?_
      rcases H with ⟨h55, H⟩ | ⟨h55, H⟩
      · refine W.guard true (w := ((decide (c5t1 = 0)) == true)) (by kernel_rfl) (congrArg (fun b => b == true) (decide_eq_true h55)) ?_
        refine W.adv 1 ?_
        refine W.guard true (w := ((decide (c5t1 = 0)) == true)) (by kernel_rfl) (congrArg (fun b => b == true) (decide_eq_true h55)) ?_
        refine W.adv 1 ?_
        refine W.guard true (w := ((decide (c5t1 = 0)) == true)) (by kernel_rfl) (congrArg (fun b => b == true) (decide_eq_true h55)) ?_
        obtain ⟨c56, hc57, H⟩ := H
        refine W.callR (g := 30) (ds := [(.agg [(.bool c5t0_0), (.ints .u64 c5t0_1), (.ints .u64 c5t0_2)]), (.agg [(.bool c49_0), (.ints .u64 c49_1), (.ints .u64 c49_2)])]) (es := [(.agg [(.bool c5t0_0), (.ints .u64 c5t0_1), (.ints .u64 c5t0_2)]), (.agg [(.bool c49_0), (.ints .u64 c49_1), (.ints .u64 c49_2)])]) (r := (.bool c56)) (by kernel_rfl) (by kernel_rfl) (Ic.args hc57 (by kernel_rfl)) (by kernel_rfl) ?_
        refine W.opS (OpIs.pk true (t := (decide (c5t1 = 0))) (x := (.bool c56)) (y := (.bool false)) (by kernel_rfl) (decide_eq_true h55)) ?_
        refine W.adv 1 ?_
        rcases H with ⟨h58, H⟩ | ⟨h58, H⟩
        · refine W.guard true (w := (c56 == true)) (by kernel_rfl) (congrArg (fun b => b == true) h58) ?_
          refine W.adv 1 ?_
          refine W.guard true (w := (c56 == true)) (by kernel_rfl) (congrArg (fun b => b == true) h58) ?_
          obtain ⟨c59, hc60, H⟩ := H
          refine W.callR (g := 40) (ds := [(.agg [(.bool c5t0_0), (.ints .u64 c5t0_1), (.ints .u64 c5t0_2)])]) (es := [(.agg [(.bool c5t0_0), (.ints .u64 c5t0_1), (.ints .u64 c5t0_2)])]) (r := (.bool c59)) (by kernel_rfl) (by kernel_rfl) (Ic.args hc60 (by kernel_rfl)) (by kernel_rfl) ?_
          refine W.opS (OpIs.pk true (t := c56) (x := (.bool c59)) (y := (.bool false)) (by kernel_rfl) h58) ?_
          refine W.adv 1 ?_
          rcases H with ⟨h61, H⟩ | ⟨h61, H⟩
          · refine W.guard true (w := (c59 == true)) (by kernel_rfl) (congrArg (fun b => b == true) h61) ?_
            refine W.adv 1 ?_
            refine W.guard true (w := (c59 == true)) (by kernel_rfl) (congrArg (fun b => b == true) h61) ?_
            obtain ⟨c62, hc63, H⟩ := H
            refine W.callR (g := 40) (ds := [(.agg [(.bool a2_0), (.ints .u64 (a2_1.take (mn (a2_1.length : Int) 4).toNat)), (.ints .u64 (a2_2.take (mn (a2_2.length : Int) 4).toNat))])]) (es := [(.agg [(.bool a2_0), (.ints .u64 (a2_1.take (mn (a2_1.length : Int) 4).toNat)), (.ints .u64 (a2_2.take (mn (a2_2.length : Int) 4).toNat))])]) (r := (.bool c62)) (by kernel_rfl) (by kernel_rfl) (Ic.args hc63 (by kernel_rfl)) (by kernel_rfl) ?_
            refine W.guard true (w := (c59 == true)) (by kernel_rfl) (congrArg (fun b => b == true) h61) ?_
            refine W.adv 1 ?_
            refine W.guard true (w := (c59 == true)) (by kernel_rfl) (congrArg (fun b => b == true) h61) ?_
            obtain ⟨c64, hc65, H⟩ := H
            refine W.callR (g := 41) (ds := [(.agg [(.bool a2_0), (.ints .u64 (a2_1.take (mn (a2_1.length : Int) 4).toNat)), (.ints .u64 (a2_2.take (mn (a2_2.length : Int) 4).toNat))])]) (es := [(.agg [(.bool a2_0), (.ints .u64 (a2_1.take (mn (a2_1.length : Int) 4).toNat)), (.ints .u64 (a2_2.take (mn (a2_2.length : Int) 4).toNat))])]) (r := (.bool c64)) (by kernel_rfl) (by kernel_rfl) (Ic.args hc65 (by kernel_rfl)) (by kernel_rfl) ?_
            refine W.guard true (w := (c59 == true)) (by kernel_rfl) (congrArg (fun b => b == true) h61) ?_
            refine W.adv 1 ?_
            refine W.opS (OpIs.pk true (t := c59) (x := (.bool (c62 == c64))) (y := (.bool false)) (by kernel_rfl) h61) ?_
            refine W.adv 1 ?_
            rcases H with ⟨h66, H⟩ | ⟨h66, H⟩
            · rcases H with ⟨h67, H⟩ | ⟨h67, H⟩
              · refine W.guard true (w := ((c62 == c64) == true)) (by kernel_rfl) (congrArg (fun b => b == true) (congr (congrArg (fun x y => x == y) h66) h67)) ?_
                obtain ⟨c68, hc69, H⟩ := H
                refine W.callR (g := 31) (ds := []) (es := []) (r := (.bool c68)) (by kernel_rfl) (by kernel_rfl) (Ic.args hc69 (by kernel_rfl)) (by kernel_rfl) ?_
                refine W.opS (OpIs.pk true (t := (c62 == c64)) (x := (.bool c68)) (y := (.bool false)) (by kernel_rfl) (congr (congrArg (fun x y => x == y) h66) h67)) ?_
                refine W.adv 4 ?_
                exact W.fin (x := .ret) (by kernel_rfl) (LAns.of (d := (.bool c68)) (by kernel_rfl) (by rw [H]))
              · refine W.guard false (w := ((c62 == c64) == true)) (by kernel_rfl) (congrArg (fun b => b == true) (congr (congrArg (fun x y => x == y) h66) (bfalse h67))) ?_
                refine W.opS (OpIs.pk false (t := (c62 == c64)) (x := (.tuple [])) (y := (.bool false)) (by kernel_rfl) (congr (congrArg (fun x y => x == y) h66) (bfalse h67))) ?_
                refine W.adv 4 ?_
                exact W.fin (x := .ret) (by kernel_rfl) (LAns.of (d := (.bool false)) (by kernel_rfl) (by rw [H]))
            · rcases H with ⟨h70, H⟩ | ⟨h70, H⟩
              · refine W.guard false (w := ((c62 == c64) == true)) (by kernel_rfl) (congrArg (fun b => b == true) (congr (congrArg (fun x y => x == y) (bfalse h66)) h70)) ?_
                refine W.opS (OpIs.pk false (t := (c62 == c64)) (x := (.tuple [])) (y := (.bool false)) (by kernel_rfl) (congr (congrArg (fun x y => x == y) (bfalse h66)) h70)) ?_
                refine W.adv 4 ?_
                exact W.fin (x := .ret) (by kernel_rfl) (LAns.of (d := (.bool false)) (by kernel_rfl) (by rw [H]))
              · refine W.guard true (w := ((c62 == c64) == true)) (by kernel_rfl) (congrArg (fun b => b == true) (congr (congrArg (fun x y => x == y) (bfalse h66)) (bfalse h70))) ?_
                obtain ⟨c71, hc72, H⟩ := H
                refine W.callR (g := 31) (ds := []) (es := []) (r := (.bool c71)) (by kernel_rfl) (by kernel_rfl) (Ic.args hc72 (by kernel_rfl)) (by kernel_rfl) ?_
                refine W.opS (OpIs.pk true (t := (c62 == c64)) (x := (.bool c71)) (y := (.bool false)) (by kernel_rfl) (congr (congrArg (fun x y => x == y) (bfalse h66)) (bfalse h70))) ?_
                refine W.adv 4 ?_
                exact W.fin (x := .ret) (by kernel_rfl) (LAns.of (d := (.bool c71)) (by kernel_rfl) (by rw [H]))
          · refine W.guard false (w := (c59 == true)) (by kernel_rfl) (congrArg (fun b => b == true) (bfalse h61)) ?_
            refine W.guard false (w := (c59 == true)) (by kernel_rfl) (congrArg (fun b => b == true) (bfalse h61)) ?_
            refine W.guard false (w := (c59 == true)) (by kernel_rfl) (congrArg (fun b => b == true) (bfalse h61)) ?_
            refine W.guard false (w := (c59 == true)) (by kernel_rfl) (congrArg (fun b => b == true) (bfalse h61)) ?_
            refine W.guard false (w := (c59 == true)) (by kernel_rfl) (congrArg (fun b => b == true) (bfalse h61)) ?_
            refine W.opS (OpIs.pk false (t := c59) (x := (.tuple [])) (y := (.bool false)) (by kernel_rfl) (bfalse h61)) ?_
            refine W.adv 7 ?_
            exact W.fin (x := .ret) (by kernel_rfl) (LAns.of (d := (.bool false)) (by kernel_rfl) (by rw [H]))
        · refine W.guard false (w := (c56 == true)) (by kernel_rfl) (congrArg (fun b => b == true) (bfalse h58)) ?_
          refine W.guard false (w := (c56 == true)) (by kernel_rfl) (congrArg (fun b => b == true) (bfalse h58)) ?_
          refine W.opS (OpIs.pk false (t := c56) (x := (.tuple [])) (y := (.bool false)) (by kernel_rfl) (bfalse h58)) ?_
          refine W.adv 14 ?_
          exact W.fin (x := .ret) (by kernel_rfl) (LAns.of (d := (.bool false)) (by kernel_rfl) (by rw [H]))
      · refine W.guard false (w := ((decide (c5t1 = 0)) == true)) (by kernel_rfl) (congrArg (fun b => b == true) (decide_eq_false h55)) ?_
        refine W.guard false (w := ((decide (c5t1 = 0)) == true)) (by kernel_rfl) (congrArg (fun b => b == true) (decide_eq_false h55)) ?_
        refine W.guard false (w := ((decide (c5t1 = 0)) == true)) (by kernel_rfl) (congrArg (fun b => b == true) (decide_eq_false h55)) ?_
        refine W.opS (OpIs.pk false (t := (decide (c5t1 = 0))) (x := (.tuple [])) (y := (.bool false)) (by kernel_rfl) (decide_eq_false h55)) ?_
        refine W.adv 18 ?_
        exact W.fin (x := .ret) (by kernel_rfl) (LAns.of (d := (.bool false)) (by kernel_rfl) (by rw [H]))
end Go.Proofs.YtcmajlphfnihgaaA
