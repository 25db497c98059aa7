/- Walks through the functions: what makes each relation true. -/
import Derived.Test.YtjcdkemnflmfiaaGreatW0
set_option linter.unusedVariables false
set_option maxRecDepth 100000
namespace Go.Proofs.YtjcdkemnflmfiaaGreatA
open Go Go.Proofs
/-! ### trivium/lint.Covered -/
theorem lint_Covered_go {a0_0 : Int} {a0_1 : Int} {a1 : List T_api_Prefix} {z : Bool} (H : (∃ c1 : Bool, (addr_May_R a0_0 a0_1 c1 ∧ ((c1 = true ∧ (∃ c4 : Bool, (slices_ContainsFunc___api_Prefix_api_Prefix__v0_R a1 a0_0 a0_1 c4 ∧ ((c4 = true ∧ (z = true)) ∨ (¬ c4 = true ∧ ((a1 = [] ∧ (((([] : List T_api_Prefix).length : Int) = 0 ∧ (z = false)) ∨ (¬ (([] : List T_api_Prefix).length : Int) = 0 ∧ ((a0_1 = 32 ∧ (z = false)) ∨ (¬ a0_1 = 32 ∧ (0 ≤ (wi (31 - a0_1)) ∧ (∃ t11, t11 = (bits .or .u32 a0_0 (IntKind.wrap .u32 (1 * 2 ^ (min (wi (31 - a0_1)).toNat 32)))) ∧ (∃ c13 : Bool, (lint_Covered_R a0_0 (wi (a0_1 + 1)) ([] : List T_api_Prefix) c13 ∧ ((c13 = true ∧ (∃ c16 : Bool, (lint_Covered_R t11 (wi (a0_1 + 1)) ([] : List T_api_Prefix) c16 ∧ (z = c16)))) ∨ (¬ c13 = true ∧ (z = false)))))))))))) ∨ (¬ a1 = [] ∧ (a1.length + 192) * (16 + 1) ≤ 70368744177664 ∧ (∃ y18 : List T_api_Prefix, (slices_DeleteFunc___api_Prefix_api_Prefix__L1_R a1 a0_0 a0_1 y18 ∧ (((y18.length : Int) = 0 ∧ (z = false)) ∨ (¬ (y18.length : Int) = 0 ∧ ((a0_1 = 32 ∧ (z = false)) ∨ (¬ a0_1 = 32 ∧ (0 ≤ (wi (31 - a0_1)) ∧ (∃ t24, t24 = (bits .or .u32 a0_0 (IntKind.wrap .u32 (1 * 2 ^ (min (wi (31 - a0_1)).toNat 32)))) ∧ (∃ c26 : Bool, (lint_Covered_R a0_0 (wi (a0_1 + 1)) y18 c26 ∧ ((c26 = true ∧ (∃ c29 : Bool, (lint_Covered_R t24 (wi (a0_1 + 1)) y18 c29 ∧ (z = c29)))) ∨ (¬ c26 = true ∧ (z = false)))))))))))))))))))) ∨ (¬ c1 = true ∧ (z = true)))))) : lint_Covered_R a0_0 a0_1 a1 z := by
  refine W.ic (zs := [(.agg [(.int .u32 a0_0), (.int .i64 a0_1)]), (.list 2 (a1.map E_api_Prefix))]) Tryz.func27 (by kernel_rfl) (by kernel_rfl) (by kernel_rfl) (by kernel_rfl) ?_
  refine W.adv 10 ?_
  obtain ⟨c1, hc2, H⟩ := H
  refine W.callR (g := 75) (ds := [(.agg [(.int .u32 a0_0), (.int .i64 a0_1)])]) (es := [(.agg [(.int .u32 a0_0), (.int .i64 a0_1)])]) (r := (.bool c1)) (by kernel_rfl) (by kernel_rfl) (Ic.args hc2 (by kernel_rfl)) (by kernel_rfl) ?_
  refine W.adv 3 ?_
  rcases H with ⟨h3, H⟩ | ⟨h3, H⟩
  · refine W.cond false (w := (!c1)) (by kernel_rfl) (congrArg (fun b => !b) h3) ?_
    refine W.adv 7 ?_
    obtain ⟨c4, hc5, H⟩ := H
    refine W.callR (g := 76) (ds := [(.list 2 (a1.map E_api_Prefix)), (.fn 77 [] [(.pref 2 1 0 0)])]) (es := [(.list 2 (a1.map E_api_Prefix)), (.fn 77 [] [(.ptr [(.int .u32 a0_0), (.int .i64 a0_1)])])]) (r := (.bool c4)) (by kernel_rfl) (rf_cons (by kernel_rfl) (rf_cons (rf_fn rf_nil (rf_cons (by kernel_rfl) rf_nil)) rf_nil)) (Ic.args hc5 (by kernel_rfl)) (by kernel_rfl) ?_
    refine W.adv 2 ?_
    rcases H with ⟨h6, H⟩ | ⟨h6, H⟩
    · refine W.cond true (w := c4) (by kernel_rfl) h6 ?_
      refine W.adv 7 ?_
      exact W.fin (x := .ret) (by kernel_rfl) (Ans.of (d := (.bool true)) (d' := (.bool true)) (e' := (.bool true)) (by kernel_rfl) (by kernel_rfl) (by kernel_rfl) (by rw [H]))
    · refine W.cond false (w := c4) (by kernel_rfl) (bfalse h6) ?_
      refine W.adv 5 ?_
      rcases H with ⟨h7, H⟩ | ⟨h7, hbh7, H⟩
      · refine W.adoptE (t := 15) (g := 80) (ds := [(.list 2 (a1.map E_api_Prefix))]) (es := [(.list 2 (a1.map E_api_Prefix))]) (by kernel_rfl) (by kernel_rfl) (by kernel_rfl) (rf_cons (by kernel_rfl) rf_nil) (slices_Clone___api_Prefix_api_Prefix__nil h7) ?_
        refine W.adv 1 ?_
        refine W.sharedP (g := 79) (ds := [(.list 2 (([] : List T_api_Prefix).map E_api_Prefix)), (.fn 81 [] [(.pref 2 1 0 0)])]) (d := (.list 2 (([] : List T_api_Prefix).map E_api_Prefix))) (P := (fun cb => [(cb 0), (cb 1), ⟨1, false, .rows 2 [(.agg [(.int .u32 a0_0), (.int .i64 a0_1)])]⟩, (cb 3), (cb 4), (cb 5), (cb 6), (cb 7), (cb 8), (cb 9), (cb 10), (cb 11), (cb 12), (cb 13), (cb 14), (cb 15), (cb 16), (cb 17), (cb 18), (cb 19), (cb 20), (cb 21), (cb 22), (cb 23), (cb 24), (cb 25), (cb 26), (cb 27), (cb 28), (cb 29), (cb 30), (cb 31), (cb 32), (cb 33), (cb 34), (cb 35), (cb 36), (cb 37), (cb 38), (cb 39), (cb 40), (cb 41), (cb 42), (cb 43), (cb 44), (cb 45), (cb 46), (cb 47), (cb 48), (cb 49), (cb 50)])) (P' := (fun cb => [(cb 0), (cb 1), ⟨1, false, .rows 2 [(.agg [(.int .u32 a0_0), (.int .i64 a0_1)])]⟩, (cb 3), (cb 4), (cb 5), (cb 6), (cb 7), (cb 8), (cb 9), (cb 10), (cb 11), (cb 12), (cb 13), (cb 14), (cb 15), (cb 16), (cb 17), (cb 18), (cb 19), (cb 20), (cb 21), (cb 22), (cb 23), (cb 24), (cb 25), (cb 26), (cb 27), (cb 28), (cb 29), (cb 30), (cb 31), (cb 32), (cb 33), (cb 34), (cb 35), (cb 36), (cb 37), (cb 38), (cb 39), (cb 40), (cb 41), (cb 42), (cb 43), (cb 44), (cb 45), (cb 46), (cb 47), (cb 48), (cb 49), (cb 50)])) (by kernel_rfl) (by kernel_rfl) (by kernel_rfl) (fun cb => ⟨60, fun k hk => by
  obtain ⟨n, rfl⟩ := Nat.exists_eq_add_of_le' hk
  kernel_rfl⟩) ?_
        refine W.adv 7 ?_
        refine W.opS (OpIs.ln (n := (([] : List T_api_Prefix).map E_api_Prefix).length) (m := ([] : List T_api_Prefix).length) (by kernel_rfl) (by rw [List.length_map])) ?_
        refine W.adv 2 ?_
        rcases H with ⟨h8, H⟩ | ⟨h8, H⟩
        · refine W.guard false (w := ((decide ((([] : List T_api_Prefix).length : Int) = 0)) == false)) (by kernel_rfl) (congrArg (fun b => b == false) (decide_eq_true h8)) ?_
          refine W.guard false (w := ((decide ((([] : List T_api_Prefix).length : Int) = 0)) == false)) (by kernel_rfl) (congrArg (fun b => b == false) (decide_eq_true h8)) ?_
          refine W.guard false (w := ((decide ((([] : List T_api_Prefix).length : Int) = 0)) == false)) (by kernel_rfl) (congrArg (fun b => b == false) (decide_eq_true h8)) ?_
          refine W.opS (OpIs.pk true (t := (decide ((([] : List T_api_Prefix).length : Int) = 0))) (x := (.bool true)) (y := (.tuple [])) (by kernel_rfl) (decide_eq_true h8)) ?_
          refine W.adv 10 ?_
          exact W.fin (x := .ret) (by kernel_rfl) (Ans.of (d := (.bool false)) (d' := (.bool false)) (e' := (.bool false)) (by kernel_rfl) (by kernel_rfl) (by kernel_rfl) (by rw [H]))
        · refine W.guard true (w := ((decide ((([] : List T_api_Prefix).length : Int) = 0)) == false)) (by kernel_rfl) (congrArg (fun b => b == false) (decide_eq_false h8)) ?_
          refine W.adv 1 ?_
          refine W.guard true (w := ((decide ((([] : List T_api_Prefix).length : Int) = 0)) == false)) (by kernel_rfl) (congrArg (fun b => b == false) (decide_eq_false h8)) ?_
          refine W.adv 1 ?_
          refine W.guard true (w := ((decide ((([] : List T_api_Prefix).length : Int) = 0)) == false)) (by kernel_rfl) (congrArg (fun b => b == false) (decide_eq_false h8)) ?_
          refine W.adv 1 ?_
          refine W.opS (OpIs.pk false (t := (decide ((([] : List T_api_Prefix).length : Int) = 0))) (x := (.bool true)) (y := (.bool (decide (a0_1 = 32)))) (by kernel_rfl) (decide_eq_false h8)) ?_
          refine W.adv 2 ?_
          rcases H with ⟨h9, H⟩ | ⟨h9, H⟩
          · refine W.cond true (w := (decide (a0_1 = 32))) (by kernel_rfl) (decide_eq_true h9) ?_
            refine W.adv 7 ?_
            exact W.fin (x := .ret) (by kernel_rfl) (Ans.of (d := (.bool false)) (d' := (.bool false)) (e' := (.bool false)) (by kernel_rfl) (by kernel_rfl) (by kernel_rfl) (by rw [H]))
          · refine W.cond false (w := (decide (a0_1 = 32))) (by kernel_rfl) (decide_eq_false h9) ?_
            refine W.adv 21 ?_
            obtain ⟨h10, H⟩ := H
            refine W.opS (OpIs.bn (op := .shl) (x := (.int .u32 1)) (y := (.int .i64 (wi (31 - a0_1)))) (by kernel_rfl) (shlD h10)) ?_
            obtain ⟨t11, ht12, H⟩ := H
            refine W.opS (OpIs.bnN (k := .u32) (op := .or) (x := (.int .u32 a0_0)) (y := (.int .u32 (IntKind.wrap .u32 (1 * 2 ^ (min (wi (31 - a0_1)).toNat 32))))) (by kernel_rfl) ht12 (by kernel_rfl)) ?_
            refine W.adv 12 ?_
            obtain ⟨c13, hc14, H⟩ := H
            refine W.callR (g := 27) (ds := [(.agg [(.int .u32 a0_0), (.int .i64 (wi (a0_1 + 1)))]), (.list 2 (([] : List T_api_Prefix).map E_api_Prefix))]) (es := [(.agg [(.int .u32 a0_0), (.int .i64 (wi (a0_1 + 1)))]), (.list 2 (([] : List T_api_Prefix).map E_api_Prefix))]) (r := (.bool c13)) (by kernel_rfl) (by kernel_rfl) (Ic.args hc14 (by kernel_rfl)) (by kernel_rfl) ?_
            refine W.adv 1 ?_
            rcases H with ⟨h15, H⟩ | ⟨h15, H⟩
            · refine W.guard true (w := (c13 == true)) (by kernel_rfl) (congrArg (fun b => b == true) h15) ?_
              refine W.adv 1 ?_
              refine W.guard true (w := (c13 == true)) (by kernel_rfl) (congrArg (fun b => b == true) h15) ?_
              refine W.adv 1 ?_
              refine W.guard true (w := (c13 == true)) (by kernel_rfl) (congrArg (fun b => b == true) h15) ?_
              obtain ⟨c16, hc17, H⟩ := H
              refine W.callR (g := 27) (ds := [(.agg [(.int .u32 t11), (.int .i64 (wi (a0_1 + 1)))]), (.list 2 (([] : List T_api_Prefix).map E_api_Prefix))]) (es := [(.agg [(.int .u32 t11), (.int .i64 (wi (a0_1 + 1)))]), (.list 2 (([] : List T_api_Prefix).map E_api_Prefix))]) (r := (.bool c16)) (by kernel_rfl) (by kernel_rfl) (Ic.args hc17 (by kernel_rfl)) (by kernel_rfl) ?_
              refine W.opS (OpIs.pk true (t := c13) (x := (.bool c16)) (y := (.bool false)) (by kernel_rfl) h15) ?_
              refine W.adv 4 ?_
              exact W.fin (x := .ret) (by kernel_rfl) (Ans.of (d := (.bool c16)) (d' := (.bool c16)) (e' := (.bool c16)) (by kernel_rfl) (by kernel_rfl) (by kernel_rfl) (by rw [H]))
            · refine W.guard false (w := (c13 == true)) (by kernel_rfl) (congrArg (fun b => b == true) (bfalse h15)) ?_
              refine W.guard false (w := (c13 == true)) (by kernel_rfl) (congrArg (fun b => b == true) (bfalse h15)) ?_
              refine W.guard false (w := (c13 == true)) (by kernel_rfl) (congrArg (fun b => b == true) (bfalse h15)) ?_
              refine W.opS (OpIs.pk false (t := c13) (x := (.tuple [])) (y := (.bool false)) (by kernel_rfl) (bfalse h15)) ?_
              refine W.adv 4 ?_
              exact W.fin (x := .ret) (by kernel_rfl) (Ans.of (d := (.bool false)) (d' := (.bool false)) (e' := (.bool false)) (by kernel_rfl) (by kernel_rfl) (by kernel_rfl) (by rw [H]))
      · refine W.adoptE (t := 15) (g := 80) (ds := [(.list 2 (a1.map E_api_Prefix))]) (es := [(.list 2 (a1.map E_api_Prefix))]) (by kernel_rfl) (by kernel_rfl) (by kernel_rfl) (rf_cons (by kernel_rfl) rf_nil) (Ad.adopt (d := 15) (w := 1) (slices_Clone___api_Prefix_api_Prefix__ad h7 hbh7) (B := noBlk) (by kernel_rfl) (by kernel_rfl) (by kernel_rfl)) ?_
        refine W.adv 1 ?_
        obtain ⟨y18, hc19, H⟩ := H
        refine W.sharedL (g := 79) (ds := [(.sref 15 1 2 0 a1.length), (.fn 81 [] [(.pref 2 1 0 0)])]) (d := (.sref 15 1 2 0 y18.length)) (P := (fun cb => [(cb 0), (cb 1), ⟨1, false, .rows 2 [(.agg [(.int .u32 a0_0), (.int .i64 a0_1)])]⟩, (cb 3), (cb 4), (cb 5), (cb 6), (cb 7), (cb 8), (cb 9), (cb 10), (cb 11), (cb 12), (cb 13), (cb 14), ⟨1, false, .rows 2 (a1.map E_api_Prefix)⟩, (cb 16), (cb 17), (cb 18), (cb 19), (cb 20), (cb 21), (cb 22), (cb 23), (cb 24), (cb 25), (cb 26), (cb 27), (cb 28), (cb 29), (cb 30), (cb 31), (cb 32), (cb 33), (cb 34), (cb 35), (cb 36), (cb 37), (cb 38), (cb 39), (cb 40), (cb 41), (cb 42), (cb 43), (cb 44), (cb 45), (cb 46), (cb 47), (cb 48), (cb 49), (cb 50)])) (P' := (fun cb => [(cb 0), (cb 1), ⟨1, false, .rows 2 [(.agg [(.int .u32 a0_0), (.int .i64 a0_1)])]⟩, (cb 3), (cb 4), (cb 5), (cb 6), (cb 7), (cb 8), (cb 9), (cb 10), (cb 11), (cb 12), (cb 13), (cb 14), ⟨1, false, .rows 2 (y18.map E_api_Prefix)⟩, (cb 16), (cb 17), (cb 18), (cb 19), (cb 20), (cb 21), (cb 22), (cb 23), (cb 24), (cb 25), (cb 26), (cb 27), (cb 28), (cb 29), (cb 30), (cb 31), (cb 32), (cb 33), (cb 34), (cb 35), (cb 36), (cb 37), (cb 38), (cb 39), (cb 40), (cb 41), (cb 42), (cb 43), (cb 44), (cb 45), (cb 46), (cb 47), (cb 48), (cb 49), (cb 50)])) (by kernel_rfl) (by kernel_rfl) (by kernel_rfl) (fun cb => hc19 cb _ _ _ rfl) (fun rl20 => ?_)
        refine W.adv 7 ?_
        refine W.opS (OpIs.ln (n := y18.length) (m := y18.length) (by kernel_rfl) rfl) ?_
        refine W.adv 2 ?_
        rcases H with ⟨h21, H⟩ | ⟨h21, H⟩
        · refine W.guard false (w := ((decide ((y18.length : Int) = 0)) == false)) (by kernel_rfl) (congrArg (fun b => b == false) (decide_eq_true h21)) ?_
          refine W.guard false (w := ((decide ((y18.length : Int) = 0)) == false)) (by kernel_rfl) (congrArg (fun b => b == false) (decide_eq_true h21)) ?_
          refine W.guard false (w := ((decide ((y18.length : Int) = 0)) == false)) (by kernel_rfl) (congrArg (fun b => b == false) (decide_eq_true h21)) ?_
          refine W.opS (OpIs.pk true (t := (decide ((y18.length : Int) = 0))) (x := (.bool true)) (y := (.tuple [])) (by kernel_rfl) (decide_eq_true h21)) ?_
          refine W.adv 10 ?_
          exact W.fin (x := .ret) (by kernel_rfl) (Ans.of (d := (.bool false)) (d' := (.bool false)) (e' := (.bool false)) (by kernel_rfl) (by kernel_rfl) (by kernel_rfl) (by rw [H]))
        · refine W.guard true (w := ((decide ((y18.length : Int) = 0)) == false)) (by kernel_rfl) (congrArg (fun b => b == false) (decide_eq_false h21)) ?_
          refine W.adv 1 ?_
          refine W.guard true (w := ((decide ((y18.length : Int) = 0)) == false)) (by kernel_rfl) (congrArg (fun b => b == false) (decide_eq_false h21)) ?_
          refine W.adv 1 ?_
          refine W.guard true (w := ((decide ((y18.length : Int) = 0)) == false)) (by kernel_rfl) (congrArg (fun b => b == false) (decide_eq_false h21)) ?_
          refine W.adv 1 ?_
          refine W.opS (OpIs.pk false (t := (decide ((y18.length : Int) = 0))) (x := (.bool true)) (y := (.bool (decide (a0_1 = 32)))) (by kernel_rfl) (decide_eq_false h21)) ?_
          refine W.adv 2 ?_
          rcases H with ⟨h22, H⟩ | ⟨h22, H⟩
          · refine W.cond true (w := (decide (a0_1 = 32))) (by kernel_rfl) (decide_eq_true h22) ?_
            refine W.adv 7 ?_
            exact W.fin (x := .ret) (by kernel_rfl) (Ans.of (d := (.bool false)) (d' := (.bool false)) (e' := (.bool false)) (by kernel_rfl) (by kernel_rfl) (by kernel_rfl) (by rw [H]))
          · refine W.cond false (w := (decide (a0_1 = 32))) (by kernel_rfl) (decide_eq_false h22) ?_
            refine W.adv 21 ?_
            obtain ⟨h23, H⟩ := H
            refine W.opS (OpIs.bn (op := .shl) (x := (.int .u32 1)) (y := (.int .i64 (wi (31 - a0_1)))) (by kernel_rfl) (shlD h23)) ?_
            obtain ⟨t24, ht25, H⟩ := H
            refine W.opS (OpIs.bnN (k := .u32) (op := .or) (x := (.int .u32 a0_0)) (y := (.int .u32 (IntKind.wrap .u32 (1 * 2 ^ (min (wi (31 - a0_1)).toNat 32))))) (by kernel_rfl) ht25 (by kernel_rfl)) ?_
            refine W.adv 12 ?_
            obtain ⟨c26, hc27, H⟩ := H
            refine W.callR (g := 27) (ds := [(.agg [(.int .u32 a0_0), (.int .i64 (wi (a0_1 + 1)))]), (.sref 15 1 2 0 y18.length)]) (es := [(.agg [(.int .u32 a0_0), (.int .i64 (wi (a0_1 + 1)))]), (.list 2 (y18.map E_api_Prefix))]) (r := (.bool c26)) (by kernel_rfl) (rf_cons (by kernel_rfl) (rf_cons (rf_fullE (enc := E_api_Prefix) E_api_Prefix_t (b := 15) (v := 1) (w := 1) (fz := false) (xs := y18) (by kernel_rfl) rfl rfl) rf_nil)) (Ic.args hc27 (by kernel_rfl)) (by kernel_rfl) ?_
            refine W.adv 1 ?_
            rcases H with ⟨h28, H⟩ | ⟨h28, H⟩
            · refine W.guard true (w := (c26 == true)) (by kernel_rfl) (congrArg (fun b => b == true) h28) ?_
              refine W.adv 1 ?_
              refine W.guard true (w := (c26 == true)) (by kernel_rfl) (congrArg (fun b => b == true) h28) ?_
              refine W.adv 1 ?_
              refine W.guard true (w := (c26 == true)) (by kernel_rfl) (congrArg (fun b => b == true) h28) ?_
              obtain ⟨c29, hc30, H⟩ := H
              refine W.callR (g := 27) (ds := [(.agg [(.int .u32 t24), (.int .i64 (wi (a0_1 + 1)))]), (.sref 15 1 2 0 y18.length)]) (es := [(.agg [(.int .u32 t24), (.int .i64 (wi (a0_1 + 1)))]), (.list 2 (y18.map E_api_Prefix))]) (r := (.bool c29)) (by kernel_rfl) (rf_cons (by kernel_rfl) (rf_cons (rf_fullE (enc := E_api_Prefix) E_api_Prefix_t (b := 15) (v := 1) (w := 1) (fz := false) (xs := y18) (by kernel_rfl) rfl rfl) rf_nil)) (Ic.args hc30 (by kernel_rfl)) (by kernel_rfl) ?_
              refine W.opS (OpIs.pk true (t := c26) (x := (.bool c29)) (y := (.bool false)) (by kernel_rfl) h28) ?_
              refine W.adv 4 ?_
              exact W.fin (x := .ret) (by kernel_rfl) (Ans.of (d := (.bool c29)) (d' := (.bool c29)) (e' := (.bool c29)) (by kernel_rfl) (by kernel_rfl) (by kernel_rfl) (by rw [H]))
            · refine W.guard false (w := (c26 == true)) (by kernel_rfl) (congrArg (fun b => b == true) (bfalse h28)) ?_
              refine W.guard false (w := (c26 == true)) (by kernel_rfl) (congrArg (fun b => b == true) (bfalse h28)) ?_
              refine W.guard false (w := (c26 == true)) (by kernel_rfl) (congrArg (fun b => b == true) (bfalse h28)) ?_
              refine W.opS (OpIs.pk false (t := c26) (x := (.tuple [])) (y := (.bool false)) (by kernel_rfl) (bfalse h28)) ?_
              refine W.adv 4 ?_
              exact W.fin (x := .ret) (by kernel_rfl) (Ans.of (d := (.bool false)) (d' := (.bool false)) (e' := (.bool false)) (by kernel_rfl) (by kernel_rfl) (by kernel_rfl) (by rw [H]))
  · refine W.cond true (w := (!c1)) (by kernel_rfl) (congrArg (fun b => !b) (bfalse h3)) ?_
    refine W.adv 7 ?_
    exact W.fin (x := .ret) (by kernel_rfl) (Ans.of (d := (.bool true)) (d' := (.bool true)) (e' := (.bool true)) (by kernel_rfl) (by kernel_rfl) (by kernel_rfl) (by rw [H]))
end Go.Proofs.YtjcdkemnflmfiaaGreatA
