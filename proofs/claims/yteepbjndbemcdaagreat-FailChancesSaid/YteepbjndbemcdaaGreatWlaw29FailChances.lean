/- Walks through the functions: what makes each relation true. -/
import Derived.Test.YteepbjndbemcdaaGreatW0
set_option linter.unusedVariables false
set_option maxRecDepth 100000
namespace Go.Proofs.YteepbjndbemcdaaGreatA
open Go Go.Proofs
/-! ### trivium/triviumlaw29.FailChances -/
theorem law29_FailChances_go {a0 : List T_api_Rat} {a1 : Int} {z : Bool} (H : (∃ c1t0 : List T_api_Rat, (∃ c1t1 : List T_ref08_Q, (law29_few_R a0 10 c1t0 c1t1 ∧ (∃ c3t0_0 : Bool, (∃ c3t0_1 : List Int, (∃ c3t0_2 : List Int, (∃ c3t1 : Int, (fail_Chance_R c1t0 a1 c3t0_0 c3t0_1 c3t0_2 c3t1 ∧ (∃ c5t0_0 : Bool, (∃ c5t0_1 : List Int, (∃ c5t0_2 : List Int, (∃ c5t1 : Int, (fail_None_R c1t0 c5t0_0 c5t0_1 c5t0_2 c5t1 ∧ (∃ c7 : Bool, (ref29_Right_R c1t1 c7 ∧ ((c7 = true ∧ ((c5t1 = 0 ∧ (∃ c11_0 : Bool, (∃ c11_1 : List Int, (∃ c11_2 : List Int, (ref29_Chance_R c1t1 0 c11_0 c11_1 c11_2 ∧ (∃ c13_0 : Bool, (∃ c13_1 : List Int, (∃ c13_2 : List Int, (ref08_Back_R c11_0 c11_1 c11_2 c13_0 c13_1 c13_2 ∧ (∃ c15 : Bool, (ref08_Same_R c5t0_0 c5t0_1 c5t0_2 c13_0 c13_1 c13_2 c15 ∧ ((c15 = true ∧ (∃ c18 : Int, (ref29_Cases_R (c1t1.length : Int) c18 ∧ ((c18 ≤ a1 ∧ ((c3t1 = 2 ∧ (∃ c22 : Bool, (law29_works_R c22 ∧ (z = c22)))) ∨ (¬ c3t1 = 2 ∧ (z = false)))) ∨ (¬ c18 ≤ a1 ∧ ((c3t1 = 0 ∧ (∃ c25_0 : Bool, (∃ c25_1 : List Int, (∃ c25_2 : List Int, (ref29_Chance_R c1t1 a1 c25_0 c25_1 c25_2 ∧ (∃ c27_0 : Bool, (∃ c27_1 : List Int, (∃ c27_2 : List Int, (ref08_Back_R c25_0 c25_1 c25_2 c27_0 c27_1 c27_2 ∧ (∃ c29 : Bool, (ref08_Same_R c3t0_0 c3t0_1 c3t0_2 c27_0 c27_1 c27_2 c29 ∧ ((c29 = true ∧ (∃ c32 : Bool, (law29_works_R c32 ∧ (z = c32)))) ∨ (¬ c29 = true ∧ (z = false)))))))))))))) ∨ (¬ c3t1 = 0 ∧ (z = false)))))))) ∨ (¬ c15 = true ∧ (z = false)))))))))))))) ∨ (¬ c5t1 = 0 ∧ (z = false)))) ∨ (¬ c7 = true ∧ ((c3t1 = 2 ∧ ((c5t1 = c3t1 ∧ (∃ c36 : Bool, (law29_works_R c36 ∧ (z = c36)))) ∨ (¬ c5t1 = c3t1 ∧ (z = false)))) ∨ (¬ c3t1 = 2 ∧ (z = false))))))))))))))))))))) : law29_FailChances_R a0 a1 z := by
  refine W.lawIs (zs := [(.list 3 (a0.map E_api_Rat)), (.int .u64 a1)]) Tryz.func3 (by kernel_rfl) (by kernel_rfl) (by kernel_rfl) ?_
  refine W.adv 8 ?_
  obtain ⟨c1t0, c1t1, hc2, H⟩ := H
  refine W.callR (g := 7) (ds := [(.list 3 (a0.map E_api_Rat)), (.int .i64 10)]) (es := [(.list 3 (a0.map E_api_Rat)), (.int .i64 10)]) (r := (.tuple [(.list 3 (c1t0.map E_api_Rat)), (.list 3 (c1t1.map E_ref08_Q))])) (by kernel_rfl) (by kernel_rfl) (Ic.args hc2 (by kernel_rfl)) (by kernel_rfl) ?_
  refine W.adv 11 ?_
  obtain ⟨c3t0_0, c3t0_1, c3t0_2, c3t1, hc4, H⟩ := H
  refine W.callR (g := 8) (ds := [(.list 3 (c1t0.map E_api_Rat)), (.int .u64 a1)]) (es := [(.list 3 (c1t0.map E_api_Rat)), (.int .u64 a1)]) (r := (.tuple [(.agg [(.bool c3t0_0), (.ints .u64 c3t0_1), (.ints .u64 c3t0_2)]), (.int .i64 c3t1)])) (by kernel_rfl) (by kernel_rfl) (Ic.args hc4 (by kernel_rfl)) (by kernel_rfl) ?_
  refine W.adv 11 ?_
  obtain ⟨c5t0_0, c5t0_1, c5t0_2, c5t1, hc6, H⟩ := H
  refine W.callR (g := 9) (ds := [(.list 3 (c1t0.map E_api_Rat))]) (es := [(.list 3 (c1t0.map E_api_Rat))]) (r := (.tuple [(.agg [(.bool c5t0_0), (.ints .u64 c5t0_1), (.ints .u64 c5t0_2)]), (.int .i64 c5t1)])) (by kernel_rfl) (by kernel_rfl) (Ic.args hc6 (by kernel_rfl)) (by kernel_rfl) ?_
  refine W.adv 12 ?_
  obtain ⟨c7, hc8, H⟩ := H
  refine W.callR (g := 10) (ds := [(.list 3 (c1t1.map E_ref08_Q))]) (es := [(.list 3 (c1t1.map E_ref08_Q))]) (r := (.bool c7)) (by kernel_rfl) (by kernel_rfl) (Ic.args hc8 (by kernel_rfl)) (by kernel_rfl) ?_
  refine W.adv 3 ?_
  rcases H with ⟨h9, H⟩ | ⟨h9, H⟩
  · refine W.cond false (w := (!c7)) (by kernel_rfl) (congrArg (fun b => !b) h9) ?_
    refine W.adv 8 ?_
    rcases H with ⟨h10, H⟩ | ⟨h10, H⟩
    · refine W.guard true (w := ((!(decide (c5t1 = 0))) == false)) (by kernel_rfl) (congrArg (fun b => b == false) (congrArg (fun b => !b) (decide_eq_true h10))) ?_
      refine W.adv 1 ?_
      refine W.guard true (w := ((!(decide (c5t1 = 0))) == false)) (by kernel_rfl) (congrArg (fun b => b == false) (congrArg (fun b => !b) (decide_eq_true h10))) ?_
      refine W.adv 1 ?_
      refine W.guard true (w := ((!(decide (c5t1 = 0))) == false)) (by kernel_rfl) (congrArg (fun b => b == false) (congrArg (fun b => !b) (decide_eq_true h10))) ?_
      obtain ⟨c11_0, c11_1, c11_2, hc12, H⟩ := H
      refine W.callR (g := 14) (ds := [(.list 3 (c1t1.map E_ref08_Q)), (.int .u64 0)]) (es := [(.list 3 (c1t1.map E_ref08_Q)), (.int .u64 0)]) (r := (.agg [(.bool c11_0), (.ints .i64 c11_1), (.ints .i64 c11_2)])) (by kernel_rfl) (by kernel_rfl) (Ic.args hc12 (by kernel_rfl)) (by kernel_rfl) ?_
      refine W.guard true (w := ((!(decide (c5t1 = 0))) == false)) (by kernel_rfl) (congrArg (fun b => b == false) (congrArg (fun b => !b) (decide_eq_true h10))) ?_
      obtain ⟨c13_0, c13_1, c13_2, hc14, H⟩ := H
      refine W.callR (g := 13) (ds := [(.agg [(.bool c11_0), (.ints .i64 c11_1), (.ints .i64 c11_2)])]) (es := [(.agg [(.bool c11_0), (.ints .i64 c11_1), (.ints .i64 c11_2)])]) (r := (.agg [(.bool c13_0), (.ints .u64 c13_1), (.ints .u64 c13_2)])) (by kernel_rfl) (by kernel_rfl) (Ic.args hc14 (by kernel_rfl)) (by kernel_rfl) ?_
      refine W.guard true (w := ((!(decide (c5t1 = 0))) == false)) (by kernel_rfl) (congrArg (fun b => b == false) (congrArg (fun b => !b) (decide_eq_true h10))) ?_
      obtain ⟨c15, hc16, H⟩ := H
      refine W.callR (g := 12) (ds := [(.agg [(.bool c5t0_0), (.ints .u64 c5t0_1), (.ints .u64 c5t0_2)]), (.agg [(.bool c13_0), (.ints .u64 c13_1), (.ints .u64 c13_2)])]) (es := [(.agg [(.bool c5t0_0), (.ints .u64 c5t0_1), (.ints .u64 c5t0_2)]), (.agg [(.bool c13_0), (.ints .u64 c13_1), (.ints .u64 c13_2)])]) (r := (.bool c15)) (by kernel_rfl) (by kernel_rfl) (Ic.args hc16 (by kernel_rfl)) (by kernel_rfl) ?_
      refine W.guard true (w := ((!(decide (c5t1 = 0))) == false)) (by kernel_rfl) (congrArg (fun b => b == false) (congrArg (fun b => !b) (decide_eq_true h10))) ?_
      refine W.adv 1 ?_
      refine W.opS (OpIs.pk false (t := (!(decide (c5t1 = 0)))) (x := (.bool true)) (y := (.bool (!c15))) (by kernel_rfl) (congrArg (fun b => !b) (decide_eq_true h10))) ?_
      refine W.adv 2 ?_
      rcases H with ⟨h17, H⟩ | ⟨h17, H⟩
      · refine W.cond false (w := (!c15)) (by kernel_rfl) (congrArg (fun b => !b) h17) ?_
        refine W.adv 7 ?_
        refine W.opS (OpIs.ln (n := (c1t1.map E_ref08_Q).length) (m := c1t1.length) (by kernel_rfl) (by rw [List.length_map])) ?_
        obtain ⟨c18, hc19, H⟩ := H
        refine W.callR (g := 15) (ds := [(.int .i64 (c1t1.length : Int))]) (es := [(.int .i64 (c1t1.length : Int))]) (r := (.int .u64 c18)) (by kernel_rfl) (by kernel_rfl) (Ic.args hc19 (by kernel_rfl)) (by kernel_rfl) ?_
        refine W.adv 3 ?_
        rcases H with ⟨h20, H⟩ | ⟨h20, H⟩
        · refine W.cond true (w := (decide (c18 ≤ a1))) (by kernel_rfl) (decide_eq_true h20) ?_
          refine W.adv 5 ?_
          rcases H with ⟨h21, H⟩ | ⟨h21, H⟩
          · refine W.guard true (w := ((decide (c3t1 = 2)) == true)) (by kernel_rfl) (congrArg (fun b => b == true) (decide_eq_true h21)) ?_
            obtain ⟨c22, hc23, H⟩ := H
            refine W.callR (g := 11) (ds := []) (es := []) (r := (.bool c22)) (by kernel_rfl) (by kernel_rfl) (Ic.args hc23 (by kernel_rfl)) (by kernel_rfl) ?_
            refine W.opS (OpIs.pk true (t := (decide (c3t1 = 2))) (x := (.bool c22)) (y := (.bool false)) (by kernel_rfl) (decide_eq_true h21)) ?_
            refine W.adv 5 ?_
            exact W.fin (x := .ret) (by kernel_rfl) (LAns.of (d := (.bool c22)) (by kernel_rfl) (by rw [H]))
          · refine W.guard false (w := ((decide (c3t1 = 2)) == true)) (by kernel_rfl) (congrArg (fun b => b == true) (decide_eq_false h21)) ?_
            refine W.opS (OpIs.pk false (t := (decide (c3t1 = 2))) (x := (.tuple [])) (y := (.bool false)) (by kernel_rfl) (decide_eq_false h21)) ?_
            refine W.adv 5 ?_
            exact W.fin (x := .ret) (by kernel_rfl) (LAns.of (d := (.bool false)) (by kernel_rfl) (by rw [H]))
        · refine W.cond false (w := (decide (c18 ≤ a1))) (by kernel_rfl) (decide_eq_false h20) ?_
          refine W.adv 7 ?_
          rcases H with ⟨h24, H⟩ | ⟨h24, H⟩
          · refine W.guard true (w := ((decide (c3t1 = 0)) == true)) (by kernel_rfl) (congrArg (fun b => b == true) (decide_eq_true h24)) ?_
            refine W.adv 1 ?_
            refine W.guard true (w := ((decide (c3t1 = 0)) == true)) (by kernel_rfl) (congrArg (fun b => b == true) (decide_eq_true h24)) ?_
            refine W.adv 1 ?_
            refine W.guard true (w := ((decide (c3t1 = 0)) == true)) (by kernel_rfl) (congrArg (fun b => b == true) (decide_eq_true h24)) ?_
            refine W.adv 1 ?_
            refine W.guard true (w := ((decide (c3t1 = 0)) == true)) (by kernel_rfl) (congrArg (fun b => b == true) (decide_eq_true h24)) ?_
            obtain ⟨c25_0, c25_1, c25_2, hc26, H⟩ := H
            refine W.callR (g := 14) (ds := [(.list 3 (c1t1.map E_ref08_Q)), (.int .u64 a1)]) (es := [(.list 3 (c1t1.map E_ref08_Q)), (.int .u64 a1)]) (r := (.agg [(.bool c25_0), (.ints .i64 c25_1), (.ints .i64 c25_2)])) (by kernel_rfl) (by kernel_rfl) (Ic.args hc26 (by kernel_rfl)) (by kernel_rfl) ?_
            refine W.guard true (w := ((decide (c3t1 = 0)) == true)) (by kernel_rfl) (congrArg (fun b => b == true) (decide_eq_true h24)) ?_
            obtain ⟨c27_0, c27_1, c27_2, hc28, H⟩ := H
            refine W.callR (g := 13) (ds := [(.agg [(.bool c25_0), (.ints .i64 c25_1), (.ints .i64 c25_2)])]) (es := [(.agg [(.bool c25_0), (.ints .i64 c25_1), (.ints .i64 c25_2)])]) (r := (.agg [(.bool c27_0), (.ints .u64 c27_1), (.ints .u64 c27_2)])) (by kernel_rfl) (by kernel_rfl) (Ic.args hc28 (by kernel_rfl)) (by kernel_rfl) ?_
            refine W.guard true (w := ((decide (c3t1 = 0)) == true)) (by kernel_rfl) (congrArg (fun b => b == true) (decide_eq_true h24)) ?_
            obtain ⟨c29, hc30, H⟩ := H
            refine W.callR (g := 12) (ds := [(.agg [(.bool c3t0_0), (.ints .u64 c3t0_1), (.ints .u64 c3t0_2)]), (.agg [(.bool c27_0), (.ints .u64 c27_1), (.ints .u64 c27_2)])]) (es := [(.agg [(.bool c3t0_0), (.ints .u64 c3t0_1), (.ints .u64 c3t0_2)]), (.agg [(.bool c27_0), (.ints .u64 c27_1), (.ints .u64 c27_2)])]) (r := (.bool c29)) (by kernel_rfl) (by kernel_rfl) (Ic.args hc30 (by kernel_rfl)) (by kernel_rfl) ?_
            refine W.opS (OpIs.pk true (t := (decide (c3t1 = 0))) (x := (.bool c29)) (y := (.bool false)) (by kernel_rfl) (decide_eq_true h24)) ?_
            refine W.adv 1 ?_
            rcases H with ⟨h31, H⟩ | ⟨h31, H⟩
            · refine W.guard true (w := (c29 == true)) (by kernel_rfl) (congrArg (fun b => b == true) h31) ?_
              obtain ⟨c32, hc33, H⟩ := H
              refine W.callR (g := 11) (ds := []) (es := []) (r := (.bool c32)) (by kernel_rfl) (by kernel_rfl) (Ic.args hc33 (by kernel_rfl)) (by kernel_rfl) ?_
              refine W.opS (OpIs.pk true (t := c29) (x := (.bool c32)) (y := (.bool false)) (by kernel_rfl) h31) ?_
              refine W.adv 4 ?_
              exact W.fin (x := .ret) (by kernel_rfl) (LAns.of (d := (.bool c32)) (by kernel_rfl) (by rw [H]))
            · refine W.guard false (w := (c29 == true)) (by kernel_rfl) (congrArg (fun b => b == true) (bfalse h31)) ?_
              refine W.opS (OpIs.pk false (t := c29) (x := (.tuple [])) (y := (.bool false)) (by kernel_rfl) (bfalse h31)) ?_
              refine W.adv 4 ?_
              exact W.fin (x := .ret) (by kernel_rfl) (LAns.of (d := (.bool false)) (by kernel_rfl) (by rw [H]))
          · refine W.guard false (w := ((decide (c3t1 = 0)) == true)) (by kernel_rfl) (congrArg (fun b => b == true) (decide_eq_false h24)) ?_
            refine W.guard false (w := ((decide (c3t1 = 0)) == true)) (by kernel_rfl) (congrArg (fun b => b == true) (decide_eq_false h24)) ?_
            refine W.guard false (w := ((decide (c3t1 = 0)) == true)) (by kernel_rfl) (congrArg (fun b => b == true) (decide_eq_false h24)) ?_
            refine W.guard false (w := ((decide (c3t1 = 0)) == true)) (by kernel_rfl) (congrArg (fun b => b == true) (decide_eq_false h24)) ?_
            refine W.guard false (w := ((decide (c3t1 = 0)) == true)) (by kernel_rfl) (congrArg (fun b => b == true) (decide_eq_false h24)) ?_
            refine W.guard false (w := ((decide (c3t1 = 0)) == true)) (by kernel_rfl) (congrArg (fun b => b == true) (decide_eq_false h24)) ?_
            refine W.opS (OpIs.pk false (t := (decide (c3t1 = 0))) (x := (.tuple [])) (y := (.bool false)) (by kernel_rfl) (decide_eq_false h24)) ?_
            refine W.adv 7 ?_
            exact W.fin (x := .ret) (by kernel_rfl) (LAns.of (d := (.bool false)) (by kernel_rfl) (by rw [H]))
      · refine W.cond true (w := (!c15)) (by kernel_rfl) (congrArg (fun b => !b) (bfalse h17)) ?_
        refine W.adv 7 ?_
        exact W.fin (x := .ret) (by kernel_rfl) (LAns.of (d := (.bool false)) (by kernel_rfl) (by rw [H]))
    · refine W.guard false (w := ((!(decide (c5t1 = 0))) == false)) (by kernel_rfl) (congrArg (fun b => b == false) (congrArg (fun b => !b) (decide_eq_false h10))) ?_
      refine W.guard false (w := ((!(decide (c5t1 = 0))) == false)) (by kernel_rfl) (congrArg (fun b => b == false) (congrArg (fun b => !b) (decide_eq_false h10))) ?_
      refine W.guard false (w := ((!(decide (c5t1 = 0))) == false)) (by kernel_rfl) (congrArg (fun b => b == false) (congrArg (fun b => !b) (decide_eq_false h10))) ?_
      refine W.guard false (w := ((!(decide (c5t1 = 0))) == false)) (by kernel_rfl) (congrArg (fun b => b == false) (congrArg (fun b => !b) (decide_eq_false h10))) ?_
      refine W.guard false (w := ((!(decide (c5t1 = 0))) == false)) (by kernel_rfl) (congrArg (fun b => b == false) (congrArg (fun b => !b) (decide_eq_false h10))) ?_
      refine W.guard false (w := ((!(decide (c5t1 = 0))) == false)) (by kernel_rfl) (congrArg (fun b => b == false) (congrArg (fun b => !b) (decide_eq_false h10))) ?_
      refine W.opS (OpIs.pk true (t := (!(decide (c5t1 = 0)))) (x := (.bool true)) (y := (.tuple [])) (by kernel_rfl) (congrArg (fun b => !b) (decide_eq_false h10))) ?_
      refine W.adv 10 ?_
      exact W.fin (x := .ret) (by kernel_rfl) (LAns.of (d := (.bool false)) (by kernel_rfl) (by rw [H]))
  · refine W.cond true (w := (!c7)) (by kernel_rfl) (congrArg (fun b => !b) (bfalse h9)) ?_
    refine W.adv 5 ?_
    rcases H with ⟨h34, H⟩ | ⟨h34, H⟩
    · refine W.guard true (w := ((decide (c3t1 = 2)) == true)) (by kernel_rfl) (congrArg (fun b => b == true) (decide_eq_true h34)) ?_
      refine W.adv 1 ?_
      refine W.guard true (w := ((decide (c3t1 = 2)) == true)) (by kernel_rfl) (congrArg (fun b => b == true) (decide_eq_true h34)) ?_
      refine W.adv 1 ?_
      refine W.guard true (w := ((decide (c3t1 = 2)) == true)) (by kernel_rfl) (congrArg (fun b => b == true) (decide_eq_true h34)) ?_
      refine W.adv 1 ?_
      refine W.opS (OpIs.pk true (t := (decide (c3t1 = 2))) (x := (.bool (decide (c5t1 = c3t1)))) (y := (.bool false)) (by kernel_rfl) (decide_eq_true h34)) ?_
      refine W.adv 1 ?_
      rcases H with ⟨h35, H⟩ | ⟨h35, H⟩
      · refine W.guard true (w := ((decide (c5t1 = c3t1)) == true)) (by kernel_rfl) (congrArg (fun b => b == true) (decide_eq_true h35)) ?_
        obtain ⟨c36, hc37, H⟩ := H
        refine W.callR (g := 11) (ds := []) (es := []) (r := (.bool c36)) (by kernel_rfl) (by kernel_rfl) (Ic.args hc37 (by kernel_rfl)) (by kernel_rfl) ?_
        refine W.opS (OpIs.pk true (t := (decide (c5t1 = c3t1))) (x := (.bool c36)) (y := (.bool false)) (by kernel_rfl) (decide_eq_true h35)) ?_
        refine W.adv 5 ?_
        exact W.fin (x := .ret) (by kernel_rfl) (LAns.of (d := (.bool c36)) (by kernel_rfl) (by rw [H]))
      · refine W.guard false (w := ((decide (c5t1 = c3t1)) == true)) (by kernel_rfl) (congrArg (fun b => b == true) (decide_eq_false h35)) ?_
        refine W.opS (OpIs.pk false (t := (decide (c5t1 = c3t1))) (x := (.tuple [])) (y := (.bool false)) (by kernel_rfl) (decide_eq_false h35)) ?_
        refine W.adv 5 ?_
        exact W.fin (x := .ret) (by kernel_rfl) (LAns.of (d := (.bool false)) (by kernel_rfl) (by rw [H]))
    · refine W.guard false (w := ((decide (c3t1 = 2)) == true)) (by kernel_rfl) (congrArg (fun b => b == true) (decide_eq_false h34)) ?_
      refine W.guard false (w := ((decide (c3t1 = 2)) == true)) (by kernel_rfl) (congrArg (fun b => b == true) (decide_eq_false h34)) ?_
      refine W.guard false (w := ((decide (c3t1 = 2)) == true)) (by kernel_rfl) (congrArg (fun b => b == true) (decide_eq_false h34)) ?_
      refine W.opS (OpIs.pk false (t := (decide (c3t1 = 2))) (x := (.tuple [])) (y := (.bool false)) (by kernel_rfl) (decide_eq_false h34)) ?_
      refine W.adv 8 ?_
      exact W.fin (x := .ret) (by kernel_rfl) (LAns.of (d := (.bool false)) (by kernel_rfl) (by rw [H]))
end Go.Proofs.YteepbjndbemcdaaGreatA
