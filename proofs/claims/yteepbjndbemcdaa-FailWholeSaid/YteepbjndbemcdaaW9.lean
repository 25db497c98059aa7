/- Walks through the functions: what makes each relation true. -/
import Derived.Test.YteepbjndbemcdaaW0
set_option linter.unusedVariables false
set_option maxRecDepth 100000
namespace Go.Proofs.YteepbjndbemcdaaA
open Go Go.Proofs
/-! ### trivium/triviumlaw29.works -/
theorem law29_works_go {z : Bool} (H : (∃ c1t0_0 : Bool, (∃ c1t0_1 : List Int, (∃ c1t0_2 : List Int, (∃ c1t1 : Int, (rat_Frac_R 1 3 c1t0_0 c1t0_1 c1t0_2 c1t1 ∧ (∃ c3t0 : List T_fail_Case, (∃ c3t1 : Int, (fail_All_R ([(c1t0_0, c1t0_1, c1t0_2)] : List T_api_Rat) c3t0 c3t1 ∧ ((c3t1 = 0 ∧ (((c3t0.length : Int) = 2 ∧ (0 < (c3t0.length : Int) ∧ (∃ e8 : Int, (∃ e9 : Bool, (∃ e10 : List Int, (∃ e11 : List Int, (c3t0.getD 0 (0, false, [], []) = (e8, e9, e10, e11) ∧ ((e8 = 0 ∧ (∃ e14 : Int, (∃ e15 : Bool, (∃ e16 : List Int, (∃ e17 : List Int, (c3t0.getD 0 (0, false, [], []) = (e14, e15, e16, e17) ∧ (∃ c19 : Bool, (rat_Same_R e15 e16 e17 c1t0_0 c1t0_1 c1t0_2 c19 ∧ ((c19 = true ∧ (1 < (c3t0.length : Int) ∧ (∃ e23 : Int, (∃ e24 : Bool, (∃ e25 : List Int, (∃ e26 : List Int, (c3t0.getD 1 (0, false, [], []) = (e23, e24, e25, e26) ∧ ((e23 = 1 ∧ (∃ e29 : Int, (∃ e30 : Bool, (∃ e31 : List Int, (∃ e32 : List Int, (c3t0.getD 1 (0, false, [], []) = (e29, e30, e31, e32) ∧ (∃ c34_0 : Bool, (∃ c34_1 : List Int, (∃ c34_2 : List Int, (fold_Not_R c1t0_0 c1t0_1 c1t0_2 c34_0 c34_1 c34_2 ∧ (∃ c36 : Bool, (rat_Same_R e30 e31 e32 c34_0 c34_1 c34_2 c36 ∧ (z = c36))))))))))))) ∨ (¬ e23 = 1 ∧ (z = false)))))))))) ∨ (¬ c19 = true ∧ (z = false))))))))))) ∨ (¬ e8 = 0 ∧ (z = false)))))))))) ∨ (¬ (c3t0.length : Int) = 2 ∧ (z = false)))) ∨ (¬ c3t1 = 0 ∧ (z = false)))))))))))) : law29_works_R z := by
  refine W.ic (zs := []) Try.func8 (by kernel_rfl) (by kernel_rfl) (by kernel_rfl) (by kernel_rfl) ?_
  refine W.adv 7 ?_
  obtain ⟨c1t0_0, c1t0_1, c1t0_2, c1t1, hc2, H⟩ := H
  refine W.callR (g := 38) (ds := [(.int .i64 1), (.int .i64 3)]) (es := [(.int .i64 1), (.int .i64 3)]) (r := (.tuple [(.agg [(.bool c1t0_0), (.ints .u64 c1t0_1), (.ints .u64 c1t0_2)]), (.int .i64 c1t1)])) (by kernel_rfl) (by kernel_rfl) (Ic.args hc2 (by kernel_rfl)) (by kernel_rfl) ?_
  refine W.adv 12 ?_
  obtain ⟨c3t0, c3t1, hc4, H⟩ := H
  refine W.callR (g := 10) (ds := [(.lit (.list 3 [(.agg [(.bool c1t0_0), (.ints .u64 c1t0_1), (.ints .u64 c1t0_2)])]))]) (es := [(.list 3 [(.agg [(.bool c1t0_0), (.ints .u64 c1t0_1), (.ints .u64 c1t0_2)])])]) (r := (.tuple [(.list 4 (c3t0.map E_fail_Case)), (.int .i64 c3t1)])) (by kernel_rfl) (by kernel_rfl) (Ic.args hc4 (by kernel_rfl)) (by kernel_rfl) ?_
  refine W.adv 12 ?_
  rcases H with ⟨h5, H⟩ | ⟨h5, H⟩
  · refine W.guard true (w := ((decide (c3t1 = 0)) == true)) (by kernel_rfl) (congrArg (fun b => b == true) (decide_eq_true h5)) ?_
    refine W.adv 1 ?_
    refine W.guard true (w := ((decide (c3t1 = 0)) == true)) (by kernel_rfl) (congrArg (fun b => b == true) (decide_eq_true h5)) ?_
    refine W.opS (OpIs.ln (n := (c3t0.map E_fail_Case).length) (m := c3t0.length) (by kernel_rfl) (by rw [List.length_map])) ?_
    refine W.guard true (w := ((decide (c3t1 = 0)) == true)) (by kernel_rfl) (congrArg (fun b => b == true) (decide_eq_true h5)) ?_
    refine W.adv 1 ?_
    refine W.opS (OpIs.pk true (t := (decide (c3t1 = 0))) (x := (.bool (decide ((c3t0.length : Int) = 2)))) (y := (.bool false)) (by kernel_rfl) (decide_eq_true h5)) ?_
    refine W.adv 1 ?_
    rcases H with ⟨h6, H⟩ | ⟨h6, H⟩
    · refine W.guard true (w := ((decide ((c3t0.length : Int) = 2)) == true)) (by kernel_rfl) (congrArg (fun b => b == true) (decide_eq_true h6)) ?_
      refine W.adv 1 ?_
      refine W.guard true (w := ((decide ((c3t0.length : Int) = 2)) == true)) (by kernel_rfl) (congrArg (fun b => b == true) (decide_eq_true h6)) ?_
      obtain ⟨h7, H⟩ := H
      obtain ⟨e8, e9, e10, e11, he12, H⟩ := H
      refine W.opS (OpIs.ixE (enc := E_fail_Case) (n := 4) (k' := .i64) (L := c3t0) (i := 0) (d0 := (0, false, [], [])) (x := (e8, e9, e10, e11)) (by kernel_rfl) (by decide) h7 he12) ?_
      refine W.guard true (w := ((decide ((c3t0.length : Int) = 2)) == true)) (by kernel_rfl) (congrArg (fun b => b == true) (decide_eq_true h6)) ?_
      refine W.adv 1 ?_
      refine W.guard true (w := ((decide ((c3t0.length : Int) = 2)) == true)) (by kernel_rfl) (congrArg (fun b => b == true) (decide_eq_true h6)) ?_
      refine W.adv 1 ?_
      refine W.guard true (w := ((decide ((c3t0.length : Int) = 2)) == true)) (by kernel_rfl) (congrArg (fun b => b == true) (decide_eq_true h6)) ?_
      refine W.adv 1 ?_
      refine W.opS (OpIs.pk true (t := (decide ((c3t0.length : Int) = 2))) (x := (.bool (decide (e8 = 0)))) (y := (.bool false)) (by kernel_rfl) (decide_eq_true h6)) ?_
      refine W.adv 1 ?_
      rcases H with ⟨h13, H⟩ | ⟨h13, H⟩
      · refine W.guard true (w := ((decide (e8 = 0)) == true)) (by kernel_rfl) (congrArg (fun b => b == true) (decide_eq_true h13)) ?_
        refine W.adv 1 ?_
        refine W.guard true (w := ((decide (e8 = 0)) == true)) (by kernel_rfl) (congrArg (fun b => b == true) (decide_eq_true h13)) ?_
        obtain ⟨e14, e15, e16, e17, he18, H⟩ := H
        refine W.opS (OpIs.ixE (enc := E_fail_Case) (n := 4) (k' := .i64) (L := c3t0) (i := 0) (d0 := (0, false, [], [])) (x := (e14, e15, e16, e17)) (by kernel_rfl) (by decide) h7 he18) ?_
        refine W.guard true (w := ((decide (e8 = 0)) == true)) (by kernel_rfl) (congrArg (fun b => b == true) (decide_eq_true h13)) ?_
        refine W.adv 1 ?_
        refine W.guard true (w := ((decide (e8 = 0)) == true)) (by kernel_rfl) (congrArg (fun b => b == true) (decide_eq_true h13)) ?_
        refine W.adv 1 ?_
        refine W.guard true (w := ((decide (e8 = 0)) == true)) (by kernel_rfl) (congrArg (fun b => b == true) (decide_eq_true h13)) ?_
        refine W.adv 1 ?_
        refine W.guard true (w := ((decide (e8 = 0)) == true)) (by kernel_rfl) (congrArg (fun b => b == true) (decide_eq_true h13)) ?_
        obtain ⟨c19, hc20, H⟩ := H
        refine W.callR (g := 17) (ds := [(.agg [(.bool e15), (.ints .u64 e16), (.ints .u64 e17)]), (.agg [(.bool c1t0_0), (.ints .u64 c1t0_1), (.ints .u64 c1t0_2)])]) (es := [(.agg [(.bool e15), (.ints .u64 e16), (.ints .u64 e17)]), (.agg [(.bool c1t0_0), (.ints .u64 c1t0_1), (.ints .u64 c1t0_2)])]) (r := (.bool c19)) (by kernel_rfl) (by kernel_rfl) (Ic.args hc20 (by kernel_rfl)) (by kernel_rfl) ?_
        refine W.opS (OpIs.pk true (t := (decide (e8 = 0))) (x := (.bool c19)) (y := (.bool false)) (by kernel_rfl) (decide_eq_true h13)) ?_
        refine W.adv 1 ?_
        rcases H with ⟨h21, H⟩ | ⟨h21, H⟩
        · refine W.guard true (w := (c19 == true)) (by kernel_rfl) (congrArg (fun b => b == true) h21) ?_
          refine W.adv 1 ?_
          refine W.guard true (w := (c19 == true)) (by kernel_rfl) (congrArg (fun b => b == true) h21) ?_
          obtain ⟨h22, H⟩ := H
          obtain ⟨e23, e24, e25, e26, he27, H⟩ := H
          refine W.opS (OpIs.ixE (enc := E_fail_Case) (n := 4) (k' := .i64) (L := c3t0) (i := 1) (d0 := (0, false, [], [])) (x := (e23, e24, e25, e26)) (by kernel_rfl) (by decide) h22 he27) ?_
          refine W.guard true (w := (c19 == true)) (by kernel_rfl) (congrArg (fun b => b == true) h21) ?_
          refine W.adv 1 ?_
          refine W.guard true (w := (c19 == true)) (by kernel_rfl) (congrArg (fun b => b == true) h21) ?_
          refine W.adv 1 ?_
          refine W.guard true (w := (c19 == true)) (by kernel_rfl) (congrArg (fun b => b == true) h21) ?_
          refine W.adv 1 ?_
          refine W.opS (OpIs.pk true (t := c19) (x := (.bool (decide (e23 = 1)))) (y := (.bool false)) (by kernel_rfl) h21) ?_
          refine W.adv 1 ?_
          rcases H with ⟨h28, H⟩ | ⟨h28, H⟩
          · refine W.guard true (w := ((decide (e23 = 1)) == true)) (by kernel_rfl) (congrArg (fun b => b == true) (decide_eq_true h28)) ?_
            refine W.adv 1 ?_
            refine W.guard true (w := ((decide (e23 = 1)) == true)) (by kernel_rfl) (congrArg (fun b => b == true) (decide_eq_true h28)) ?_
            obtain ⟨e29, e30, e31, e32, he33, H⟩ := H
            refine W.opS (OpIs.ixE (enc := E_fail_Case) (n := 4) (k' := .i64) (L := c3t0) (i := 1) (d0 := (0, false, [], [])) (x := (e29, e30, e31, e32)) (by kernel_rfl) (by decide) h22 he33) ?_
            refine W.guard true (w := ((decide (e23 = 1)) == true)) (by kernel_rfl) (congrArg (fun b => b == true) (decide_eq_true h28)) ?_
            refine W.adv 1 ?_
            refine W.guard true (w := ((decide (e23 = 1)) == true)) (by kernel_rfl) (congrArg (fun b => b == true) (decide_eq_true h28)) ?_
            refine W.adv 1 ?_
            refine W.guard true (w := ((decide (e23 = 1)) == true)) (by kernel_rfl) (congrArg (fun b => b == true) (decide_eq_true h28)) ?_
            refine W.adv 1 ?_
            refine W.guard true (w := ((decide (e23 = 1)) == true)) (by kernel_rfl) (congrArg (fun b => b == true) (decide_eq_true h28)) ?_
            obtain ⟨c34_0, c34_1, c34_2, hc35, H⟩ := H
            refine W.callR (g := 18) (ds := [(.agg [(.bool c1t0_0), (.ints .u64 c1t0_1), (.ints .u64 c1t0_2)])]) (es := [(.agg [(.bool c1t0_0), (.ints .u64 c1t0_1), (.ints .u64 c1t0_2)])]) (r := (.agg [(.bool c34_0), (.ints .u64 c34_1), (.ints .u64 c34_2)])) (by kernel_rfl) (by kernel_rfl) (Ic.args hc35 (by kernel_rfl)) (by kernel_rfl) ?_
            refine W.guard true (w := ((decide (e23 = 1)) == true)) (by kernel_rfl) (congrArg (fun b => b == true) (decide_eq_true h28)) ?_
            obtain ⟨c36, hc37, H⟩ := H
            refine W.callR (g := 17) (ds := [(.agg [(.bool e30), (.ints .u64 e31), (.ints .u64 e32)]), (.agg [(.bool c34_0), (.ints .u64 c34_1), (.ints .u64 c34_2)])]) (es := [(.agg [(.bool e30), (.ints .u64 e31), (.ints .u64 e32)]), (.agg [(.bool c34_0), (.ints .u64 c34_1), (.ints .u64 c34_2)])]) (r := (.bool c36)) (by kernel_rfl) (by kernel_rfl) (Ic.args hc37 (by kernel_rfl)) (by kernel_rfl) ?_
            refine W.opS (OpIs.pk true (t := (decide (e23 = 1))) (x := (.bool c36)) (y := (.bool false)) (by kernel_rfl) (decide_eq_true h28)) ?_
            refine W.adv 4 ?_
            exact W.fin (x := .ret) (by kernel_rfl) (Ans.of (d := (.bool c36)) (d' := (.bool c36)) (e' := (.bool c36)) (by kernel_rfl) (by kernel_rfl) (by kernel_rfl) (by rw [H]))
          · refine W.guard false (w := ((decide (e23 = 1)) == true)) (by kernel_rfl) (congrArg (fun b => b == true) (decide_eq_false h28)) ?_
            refine W.guard false (w := ((decide (e23 = 1)) == true)) (by kernel_rfl) (congrArg (fun b => b == true) (decide_eq_false h28)) ?_
            refine W.guard false (w := ((decide (e23 = 1)) == true)) (by kernel_rfl) (congrArg (fun b => b == true) (decide_eq_false h28)) ?_
            refine W.guard false (w := ((decide (e23 = 1)) == true)) (by kernel_rfl) (congrArg (fun b => b == true) (decide_eq_false h28)) ?_
            refine W.guard false (w := ((decide (e23 = 1)) == true)) (by kernel_rfl) (congrArg (fun b => b == true) (decide_eq_false h28)) ?_
            refine W.guard false (w := ((decide (e23 = 1)) == true)) (by kernel_rfl) (congrArg (fun b => b == true) (decide_eq_false h28)) ?_
            refine W.guard false (w := ((decide (e23 = 1)) == true)) (by kernel_rfl) (congrArg (fun b => b == true) (decide_eq_false h28)) ?_
            refine W.opS (OpIs.pk false (t := (decide (e23 = 1))) (x := (.tuple [])) (y := (.bool false)) (by kernel_rfl) (decide_eq_false h28)) ?_
            refine W.adv 4 ?_
            exact W.fin (x := .ret) (by kernel_rfl) (Ans.of (d := (.bool false)) (d' := (.bool false)) (e' := (.bool false)) (by kernel_rfl) (by kernel_rfl) (by kernel_rfl) (by rw [H]))
        · refine W.guard false (w := (c19 == true)) (by kernel_rfl) (congrArg (fun b => b == true) (bfalse h21)) ?_
          refine W.guard false (w := (c19 == true)) (by kernel_rfl) (congrArg (fun b => b == true) (bfalse h21)) ?_
          refine W.guard false (w := (c19 == true)) (by kernel_rfl) (congrArg (fun b => b == true) (bfalse h21)) ?_
          refine W.guard false (w := (c19 == true)) (by kernel_rfl) (congrArg (fun b => b == true) (bfalse h21)) ?_
          refine W.guard false (w := (c19 == true)) (by kernel_rfl) (congrArg (fun b => b == true) (bfalse h21)) ?_
          refine W.opS (OpIs.pk false (t := c19) (x := (.tuple [])) (y := (.bool false)) (by kernel_rfl) (bfalse h21)) ?_
          refine W.adv 13 ?_
          exact W.fin (x := .ret) (by kernel_rfl) (Ans.of (d := (.bool false)) (d' := (.bool false)) (e' := (.bool false)) (by kernel_rfl) (by kernel_rfl) (by kernel_rfl) (by rw [H]))
      · refine W.guard false (w := ((decide (e8 = 0)) == true)) (by kernel_rfl) (congrArg (fun b => b == true) (decide_eq_false h13)) ?_
        refine W.guard false (w := ((decide (e8 = 0)) == true)) (by kernel_rfl) (congrArg (fun b => b == true) (decide_eq_false h13)) ?_
        refine W.guard false (w := ((decide (e8 = 0)) == true)) (by kernel_rfl) (congrArg (fun b => b == true) (decide_eq_false h13)) ?_
        refine W.guard false (w := ((decide (e8 = 0)) == true)) (by kernel_rfl) (congrArg (fun b => b == true) (decide_eq_false h13)) ?_
        refine W.guard false (w := ((decide (e8 = 0)) == true)) (by kernel_rfl) (congrArg (fun b => b == true) (decide_eq_false h13)) ?_
        refine W.guard false (w := ((decide (e8 = 0)) == true)) (by kernel_rfl) (congrArg (fun b => b == true) (decide_eq_false h13)) ?_
        refine W.opS (OpIs.pk false (t := (decide (e8 = 0))) (x := (.tuple [])) (y := (.bool false)) (by kernel_rfl) (decide_eq_false h13)) ?_
        refine W.adv 20 ?_
        exact W.fin (x := .ret) (by kernel_rfl) (Ans.of (d := (.bool false)) (d' := (.bool false)) (e' := (.bool false)) (by kernel_rfl) (by kernel_rfl) (by kernel_rfl) (by rw [H]))
    · refine W.guard false (w := ((decide ((c3t0.length : Int) = 2)) == true)) (by kernel_rfl) (congrArg (fun b => b == true) (decide_eq_false h6)) ?_
      refine W.guard false (w := ((decide ((c3t0.length : Int) = 2)) == true)) (by kernel_rfl) (congrArg (fun b => b == true) (decide_eq_false h6)) ?_
      refine W.guard false (w := ((decide ((c3t0.length : Int) = 2)) == true)) (by kernel_rfl) (congrArg (fun b => b == true) (decide_eq_false h6)) ?_
      refine W.guard false (w := ((decide ((c3t0.length : Int) = 2)) == true)) (by kernel_rfl) (congrArg (fun b => b == true) (decide_eq_false h6)) ?_
      refine W.guard false (w := ((decide ((c3t0.length : Int) = 2)) == true)) (by kernel_rfl) (congrArg (fun b => b == true) (decide_eq_false h6)) ?_
      refine W.opS (OpIs.pk false (t := (decide ((c3t0.length : Int) = 2))) (x := (.tuple [])) (y := (.bool false)) (by kernel_rfl) (decide_eq_false h6)) ?_
      refine W.adv 28 ?_
      exact W.fin (x := .ret) (by kernel_rfl) (Ans.of (d := (.bool false)) (d' := (.bool false)) (e' := (.bool false)) (by kernel_rfl) (by kernel_rfl) (by kernel_rfl) (by rw [H]))
  · refine W.guard false (w := ((decide (c3t1 = 0)) == true)) (by kernel_rfl) (congrArg (fun b => b == true) (decide_eq_false h5)) ?_
    refine W.guard false (w := ((decide (c3t1 = 0)) == true)) (by kernel_rfl) (congrArg (fun b => b == true) (decide_eq_false h5)) ?_
    refine W.guard false (w := ((decide (c3t1 = 0)) == true)) (by kernel_rfl) (congrArg (fun b => b == true) (decide_eq_false h5)) ?_
    refine W.opS (OpIs.pk false (t := (decide (c3t1 = 0))) (x := (.tuple [])) (y := (.bool false)) (by kernel_rfl) (decide_eq_false h5)) ?_
    refine W.adv 35 ?_
    exact W.fin (x := .ret) (by kernel_rfl) (Ans.of (d := (.bool false)) (d' := (.bool false)) (e' := (.bool false)) (by kernel_rfl) (by kernel_rfl) (by kernel_rfl) (by rw [H]))
/-! ### trivium/triviumlaw29.few -/
noncomputable def law29_few_l0_s (x0 : List T_api_Rat) (x1 : Int) (x8 : Int) (j : Nat → D) (jb : Nat → Blk) (vs : Nat → Nat) : Cf := cfAt Try.f9 [1, 1, 0, 1, 0] ⟨[(.list 3 (x0.map E_api_Rat)), (.int .i64 x1), (j 2), (j 3), (j 4), (j 5), .nilS, .nilS, (.int .i64 x8), (j 9), (j 10), (j 11), (j 12), (j 13), (j 14), (j 15), (j 16), (j 17), (j 18), (j 19), (j 20), (j 21), (j 22), (j 23), (j 24), (j 25), (j 26), (j 27), (j 28), (j 29), (j 30), (j 31), (j 32), (j 33), (j 34), (j 35), (j 36), (j 37), (j 38)], [(jb 0), (jb 1), (jb 2), (jb 3), (jb 4), (jb 5), (jb 6), (jb 7), (jb 8), (jb 9), (jb 10), (jb 11), (jb 12), (jb 13), (jb 14), (jb 15), (jb 16), (jb 17), (jb 18), (jb 19), (jb 20), (jb 21), (jb 22), (jb 23), (jb 24), (jb 25), (jb 26), (jb 27), (jb 28), (jb 29), (jb 30), (jb 31), (jb 32), (jb 33), (jb 34), (jb 35), (jb 36), (jb 37), (jb 38)]⟩
def law29_few_l0 (x0 : List T_api_Rat) (x1 : Int) (x8 : Int) (zt0 : List T_api_Rat) (zt1 : List T_ref08_Q) : Prop := ∀ j jb vs, W C F 9 0 (law29_few_l0_s x0 x1 x8  j jb vs) (Ans C Try.f9 (.tuple [(.list 3 (zt0.map E_api_Rat)), (.list 3 (zt1.map E_ref08_Q))]))
noncomputable def law29_few_l1_s (x0 : List T_api_Rat) (x1 : Int) (x8 : Int) (r31 : List T_api_Rat) (r36 : List T_ref08_Q) (n31 : Nat) (n36 : Nat) (j : Nat → D) (jb : Nat → Blk) (vs : Nat → Nat) : Cf := cfAt Try.f9 [1, 1, 0, 1, 0] ⟨[(.list 3 (x0.map E_api_Rat)), (.int .i64 x1), (j 2), (j 3), (j 4), (j 5), (.sref 31 ((vs 31) + 1) 3 0 n31), (.sref 36 ((vs 36) + 1) 3 0 n36), (.int .i64 x8), (j 9), (j 10), (j 11), (j 12), (j 13), (j 14), (j 15), (j 16), (j 17), (j 18), (j 19), (j 20), (j 21), (j 22), (j 23), (j 24), (j 25), (j 26), (j 27), (j 28), (j 29), (j 30), (j 31), (j 32), (j 33), (j 34), (j 35), (j 36), (j 37), (j 38)], [(jb 0), (jb 1), (jb 2), (jb 3), (jb 4), (jb 5), (jb 6), (jb 7), (jb 8), (jb 9), (jb 10), (jb 11), (jb 12), (jb 13), (jb 14), (jb 15), (jb 16), (jb 17), (jb 18), (jb 19), (jb 20), (jb 21), (jb 22), (jb 23), (jb 24), (jb 25), (jb 26), (jb 27), (jb 28), (jb 29), (jb 30), ⟨((vs 31) + 1), false, .rows 3 (r31.map E_api_Rat)⟩, (jb 32), (jb 33), (jb 34), (jb 35), ⟨((vs 36) + 1), false, .rows 3 (r36.map E_ref08_Q)⟩, (jb 37), (jb 38)]⟩
def law29_few_l1 (x0 : List T_api_Rat) (x1 : Int) (x8 : Int) (r31 : List T_api_Rat) (r36 : List T_ref08_Q) (zt0 : List T_api_Rat) (zt1 : List T_ref08_Q) : Prop := ∀ n31, n31 = r31.length → ∀ n36, n36 = r36.length → ∀ j jb vs, W C F 9 0 (law29_few_l1_s x0 x1 x8 r31 r36 n31 n36 j jb vs) (Ans C Try.f9 (.tuple [(.list 3 (zt0.map E_api_Rat)), (.list 3 (zt1.map E_ref08_Q))]))
theorem law29_few_l0_go {x0 : List T_api_Rat} {x1 : Int} {x8 : Int} {zt0 : List T_api_Rat} {zt1 : List T_ref08_Q} (H : ((x8 < (x0.length : Int) ∧ ((x8 < x1 ∧ (0 ≤ x8 ∧ (∃ e4 : Bool, (∃ e5 : List Int, (∃ e6 : List Int, (x0.getD (x8).toNat (false, [], []) = (e4, e5, e6) ∧ (∃ c8_0 : Bool, (∃ c8_1 : List Int, (∃ c8_2 : List Int, (ref08_Clean_R e4 e5 e6 1 c8_0 c8_1 c8_2 ∧ ((1 + 192) * (56 + 1) ≤ 70368744177664 ∧ (∃ y10 : List T_api_Rat, y10 = [(c8_0, c8_1, c8_2)] ∧ (∃ c14_0 : Bool, (∃ c14_1 : List Int, (∃ c14_2 : List Int, (ref08_Of_R c8_0 c8_1 c8_2 c14_0 c14_1 c14_2 ∧ (∃ y16 : List T_ref08_Q, y16 = [(c14_0, c14_1, c14_2)] ∧ (law29_few_l1 x0 x1 (wi (x8 + 1)) y10 y16 zt0 zt1)))))))))))))))))) ∨ (¬ x8 < x1 ∧ (zt0 = ([] : List T_api_Rat) ∧ zt1 = ([] : List T_ref08_Q))))) ∨ (¬ x8 < (x0.length : Int) ∧ (zt0 = ([] : List T_api_Rat) ∧ zt1 = ([] : List T_ref08_Q))))) : law29_few_l0 x0 x1 x8 zt0 zt1 := by
  intro j jb vs
  refine W.adv 1 ?_
  refine W.adv 5 ?_
  refine W.opS (OpIs.ln (n := (x0.map E_api_Rat).length) (m := x0.length) (by kernel_rfl) (by rw [List.length_map])) ?_
  refine W.adv 2 ?_
  rcases H with ⟨h1, H⟩ | ⟨h1, H⟩
  · refine W.guard true (w := ((decide (x8 < (x0.length : Int))) == true)) (by kernel_rfl) (congrArg (fun b => b == true) (decide_eq_true h1)) ?_
    refine W.adv 1 ?_
    refine W.guard true (w := ((decide (x8 < (x0.length : Int))) == true)) (by kernel_rfl) (congrArg (fun b => b == true) (decide_eq_true h1)) ?_
    refine W.adv 1 ?_
    refine W.guard true (w := ((decide (x8 < (x0.length : Int))) == true)) (by kernel_rfl) (congrArg (fun b => b == true) (decide_eq_true h1)) ?_
    refine W.adv 1 ?_
    refine W.opS (OpIs.pk true (t := (decide (x8 < (x0.length : Int)))) (x := (.bool (decide (x8 < x1)))) (y := (.bool false)) (by kernel_rfl) (decide_eq_true h1)) ?_
    refine W.adv 2 ?_
    rcases H with ⟨h2, H⟩ | ⟨h2, H⟩
    · refine W.cond true (w := (decide (x8 < x1))) (by kernel_rfl) (decide_eq_true h2) ?_
      refine W.adv 8 ?_
      obtain ⟨h3, H⟩ := H
      obtain ⟨e4, e5, e6, he7, H⟩ := H
      refine W.opS (OpIs.ixE (enc := E_api_Rat) (n := 3) (k' := .i64) (L := x0) (i := x8) (d0 := (false, [], [])) (x := (e4, e5, e6)) (by kernel_rfl) h3 h1 he7) ?_
      refine W.adv 1 ?_
      obtain ⟨c8_0, c8_1, c8_2, hc9, H⟩ := H
      refine W.callR (g := 32) (ds := [(.agg [(.bool e4), (.ints .u64 e5), (.ints .u64 e6)]), (.int .i64 1)]) (es := [(.agg [(.bool e4), (.ints .u64 e5), (.ints .u64 e6)]), (.int .i64 1)]) (r := (.agg [(.bool c8_0), (.ints .u64 c8_1), (.ints .u64 c8_2)])) (by kernel_rfl) (by kernel_rfl) (Ic.args hc9 (by kernel_rfl)) (by kernel_rfl) ?_
      refine W.adv 1 ?_
      refine W.opH (OpIs.stV (b := 9) (v := ((jb 9).ver + 1)) (i := 0) (off := 0) (w := ((jb 9).ver + 1)) (n := 3) (s := 3) (xs := [(.agg [(.bool false), .nilS, .nilS])]) (ys := [(.agg [(.bool c8_0), (.ints .u64 c8_1), (.ints .u64 c8_2)])]) (d := (.agg [(.bool false), .nilS, .nilS])) (y := (.agg [(.bool c8_0), (.ints .u64 c8_1), (.ints .u64 c8_2)])) (by kernel_rfl) rfl (by kernel_rfl) (by kernel_rfl) (Nat.le_of_ble_eq_true (by kernel_rfl)) (by kernel_rfl) (by kernel_rfl)) ?_
      refine W.adv 4 ?_
      refine W.opS (OpIs.ldV (b := 9) (v := ((jb 9).ver + 1)) (i := 0) (off := 0) (w := ((jb 9).ver + 1)) (n := 3) (s := 3) (fz := false) (a := true) (xs := [(.agg [(.bool c8_0), (.ints .u64 c8_1), (.ints .u64 c8_2)])]) (r := (.agg [(.bool c8_0), (.ints .u64 c8_1), (.ints .u64 c8_2)])) (by kernel_rfl) rfl (by kernel_rfl)) ?_
      refine W.adv 1 ?_
      obtain ⟨h13, H⟩ := H
      obtain ⟨y10, hy11, H⟩ := H
      have ln12 : 1 = y10.length := by rw [hy11] <;> rfl
      refine W.opH (OpIs.apENil (enc := E_api_Rat) (y := (.lit (.list 3 [(.agg [(.bool c8_0), (.ints .u64 c8_1), (.ints .u64 c8_2)])]))) (B := none) (n := 56) (d := 31) (v := (jb 31).ver) (m := 3) (ys := [(c8_0, c8_1, c8_2)]) (by kernel_rfl) (by kernel_rfl) hy11 h13) ?_
      refine W.adv 1 ?_
      refine W.opS (OpIs.ldV (b := 9) (v := ((jb 9).ver + 1)) (i := 0) (off := 0) (w := ((jb 9).ver + 1)) (n := 3) (s := 3) (fz := false) (a := true) (xs := [(.agg [(.bool c8_0), (.ints .u64 c8_1), (.ints .u64 c8_2)])]) (r := (.agg [(.bool c8_0), (.ints .u64 c8_1), (.ints .u64 c8_2)])) (by kernel_rfl) rfl (by kernel_rfl)) ?_
      obtain ⟨c14_0, c14_1, c14_2, hc15, H⟩ := H
      refine W.callR (g := 35) (ds := [(.agg [(.bool c8_0), (.ints .u64 c8_1), (.ints .u64 c8_2)])]) (es := [(.agg [(.bool c8_0), (.ints .u64 c8_1), (.ints .u64 c8_2)])]) (r := (.agg [(.bool c14_0), (.ints .i64 c14_1), (.ints .i64 c14_2)])) (by kernel_rfl) (by kernel_rfl) (Ic.args hc15 (by kernel_rfl)) (by kernel_rfl) ?_
      refine W.adv 1 ?_
      obtain ⟨y16, hy17, H⟩ := H
      have ln18 : 1 = y16.length := by rw [hy17] <;> rfl
      refine W.opH (OpIs.apENil (enc := E_ref08_Q) (y := (.lit (.list 3 [(.agg [(.bool c14_0), (.ints .i64 c14_1), (.ints .i64 c14_2)])]))) (B := none) (n := 56) (d := 36) (v := (jb 36).ver) (m := 3) (ys := [(c14_0, c14_1, c14_2)]) (by kernel_rfl) (by kernel_rfl) hy17 h13) ?_
      refine W.adv 11 ?_
      exact W.to_loop (P := law29_few_l1_s x0 x1 (wi (x8 + 1)) y10 y16 1 1) (H _ ln12 _ ln18) (by kernel_rfl)
    · refine W.cond false (w := (decide (x8 < x1))) (by kernel_rfl) (decide_eq_false h2) ?_
      refine W.adv 14 ?_
      exact W.fin (x := .ret) (by kernel_rfl) (Ans.of (d := (.tuple [.nilS, .nilS])) (d' := (.tuple [.nilS, .nilS])) (e' := (.tuple [(.list 3 (([] : List T_api_Rat).map E_api_Rat)), (.list 3 (([] : List T_ref08_Q).map E_ref08_Q))])) (by kernel_rfl) (by kernel_rfl) (by kernel_rfl) (by rw [H.1, H.2]))
  · refine W.guard false (w := ((decide (x8 < (x0.length : Int))) == true)) (by kernel_rfl) (congrArg (fun b => b == true) (decide_eq_false h1)) ?_
    refine W.guard false (w := ((decide (x8 < (x0.length : Int))) == true)) (by kernel_rfl) (congrArg (fun b => b == true) (decide_eq_false h1)) ?_
    refine W.guard false (w := ((decide (x8 < (x0.length : Int))) == true)) (by kernel_rfl) (congrArg (fun b => b == true) (decide_eq_false h1)) ?_
    refine W.opS (OpIs.pk false (t := (decide (x8 < (x0.length : Int)))) (x := (.tuple [])) (y := (.bool false)) (by kernel_rfl) (decide_eq_false h1)) ?_
    refine W.adv 17 ?_
    exact W.fin (x := .ret) (by kernel_rfl) (Ans.of (d := (.tuple [.nilS, .nilS])) (d' := (.tuple [.nilS, .nilS])) (e' := (.tuple [(.list 3 (([] : List T_api_Rat).map E_api_Rat)), (.list 3 (([] : List T_ref08_Q).map E_ref08_Q))])) (by kernel_rfl) (by kernel_rfl) (by kernel_rfl) (by rw [H.1, H.2]))
theorem law29_few_l1_go {x0 : List T_api_Rat} {x1 : Int} {x8 : Int} {r31 : List T_api_Rat} {r36 : List T_ref08_Q} {zt0 : List T_api_Rat} {zt1 : List T_ref08_Q} (H : ((x8 < (x0.length : Int) ∧ ((x8 < x1 ∧ (0 ≤ x8 ∧ (∃ e22 : Bool, (∃ e23 : List Int, (∃ e24 : List Int, (x0.getD (x8).toNat (false, [], []) = (e22, e23, e24) ∧ (∃ c26_0 : Bool, (∃ c26_1 : List Int, (∃ c26_2 : List Int, (ref08_Clean_R e22 e23 e24 1 c26_0 c26_1 c26_2 ∧ ((r31.length + 1 + 192) * (56 + 1) ≤ 70368744177664 ∧ (∃ y28 : List T_api_Rat, y28 = r31 ++ [(c26_0, c26_1, c26_2)] ∧ (∃ c32_0 : Bool, (∃ c32_1 : List Int, (∃ c32_2 : List Int, (ref08_Of_R c26_0 c26_1 c26_2 c32_0 c32_1 c32_2 ∧ ((r36.length + 1 + 192) * (56 + 1) ≤ 70368744177664 ∧ (∃ y34 : List T_ref08_Q, y34 = r36 ++ [(c32_0, c32_1, c32_2)] ∧ (law29_few_l1 x0 x1 (wi (x8 + 1)) y28 y34 zt0 zt1))))))))))))))))))) ∨ (¬ x8 < x1 ∧ (zt0 = r31 ∧ zt1 = r36)))) ∨ (¬ x8 < (x0.length : Int) ∧ (zt0 = r31 ∧ zt1 = r36)))) : law29_few_l1 x0 x1 x8 r31 r36 zt0 zt1 := by
  intro n31 ln_31 n36 ln_36 j jb vs
  refine W.adv 1 ?_
  refine W.adv 5 ?_
  refine W.opS (OpIs.ln (n := (x0.map E_api_Rat).length) (m := x0.length) (by kernel_rfl) (by rw [List.length_map])) ?_
  refine W.adv 2 ?_
  rcases H with ⟨h19, H⟩ | ⟨h19, H⟩
  · refine W.guard true (w := ((decide (x8 < (x0.length : Int))) == true)) (by kernel_rfl) (congrArg (fun b => b == true) (decide_eq_true h19)) ?_
    refine W.adv 1 ?_
    refine W.guard true (w := ((decide (x8 < (x0.length : Int))) == true)) (by kernel_rfl) (congrArg (fun b => b == true) (decide_eq_true h19)) ?_
    refine W.adv 1 ?_
    refine W.guard true (w := ((decide (x8 < (x0.length : Int))) == true)) (by kernel_rfl) (congrArg (fun b => b == true) (decide_eq_true h19)) ?_
    refine W.adv 1 ?_
    refine W.opS (OpIs.pk true (t := (decide (x8 < (x0.length : Int)))) (x := (.bool (decide (x8 < x1)))) (y := (.bool false)) (by kernel_rfl) (decide_eq_true h19)) ?_
    refine W.adv 2 ?_
    rcases H with ⟨h20, H⟩ | ⟨h20, H⟩
    · refine W.cond true (w := (decide (x8 < x1))) (by kernel_rfl) (decide_eq_true h20) ?_
      refine W.adv 8 ?_
      obtain ⟨h21, H⟩ := H
      obtain ⟨e22, e23, e24, he25, H⟩ := H
      refine W.opS (OpIs.ixE (enc := E_api_Rat) (n := 3) (k' := .i64) (L := x0) (i := x8) (d0 := (false, [], [])) (x := (e22, e23, e24)) (by kernel_rfl) h21 h19 he25) ?_
      refine W.adv 1 ?_
      obtain ⟨c26_0, c26_1, c26_2, hc27, H⟩ := H
      refine W.callR (g := 32) (ds := [(.agg [(.bool e22), (.ints .u64 e23), (.ints .u64 e24)]), (.int .i64 1)]) (es := [(.agg [(.bool e22), (.ints .u64 e23), (.ints .u64 e24)]), (.int .i64 1)]) (r := (.agg [(.bool c26_0), (.ints .u64 c26_1), (.ints .u64 c26_2)])) (by kernel_rfl) (by kernel_rfl) (Ic.args hc27 (by kernel_rfl)) (by kernel_rfl) ?_
      refine W.adv 1 ?_
      refine W.opH (OpIs.stV (b := 9) (v := ((jb 9).ver + 1)) (i := 0) (off := 0) (w := ((jb 9).ver + 1)) (n := 3) (s := 3) (xs := [(.agg [(.bool false), .nilS, .nilS])]) (ys := [(.agg [(.bool c26_0), (.ints .u64 c26_1), (.ints .u64 c26_2)])]) (d := (.agg [(.bool false), .nilS, .nilS])) (y := (.agg [(.bool c26_0), (.ints .u64 c26_1), (.ints .u64 c26_2)])) (by kernel_rfl) rfl (by kernel_rfl) (by kernel_rfl) (Nat.le_of_ble_eq_true (by kernel_rfl)) (by kernel_rfl) (by kernel_rfl)) ?_
      refine W.adv 4 ?_
      refine W.opS (OpIs.ldV (b := 9) (v := ((jb 9).ver + 1)) (i := 0) (off := 0) (w := ((jb 9).ver + 1)) (n := 3) (s := 3) (fz := false) (a := true) (xs := [(.agg [(.bool c26_0), (.ints .u64 c26_1), (.ints .u64 c26_2)])]) (r := (.agg [(.bool c26_0), (.ints .u64 c26_1), (.ints .u64 c26_2)])) (by kernel_rfl) rfl (by kernel_rfl)) ?_
      refine W.adv 1 ?_
      obtain ⟨h31, H⟩ := H
      obtain ⟨y28, hy29, H⟩ := H
      have ln30 : (r31.length + 1) = y28.length := by rw [hy29, List.length_append] <;> rfl
      refine W.opK (OpIs.apERow (enc := E_api_Rat) (y := (.lit (.list 3 [(.agg [(.bool c26_0), (.ints .u64 c26_1), (.ints .u64 c26_2)])]))) (n := 56) (d := 31) (dv := ((vs 31) + 1)) (b := 31) (v := ((vs 31) + 1)) (w := ((vs 31) + 1)) (len := n31) (m := 3) (xs := r31) (ys := [(c26_0, c26_1, c26_2)]) (by kernel_rfl) (by kernel_rfl) hy29 rfl ln_31 h31) ?_
      refine W.adv 1 ?_
      refine W.opS (OpIs.ldV (b := 9) (v := ((jb 9).ver + 1)) (i := 0) (off := 0) (w := ((jb 9).ver + 1)) (n := 3) (s := 3) (fz := false) (a := true) (xs := [(.agg [(.bool c26_0), (.ints .u64 c26_1), (.ints .u64 c26_2)])]) (r := (.agg [(.bool c26_0), (.ints .u64 c26_1), (.ints .u64 c26_2)])) (by kernel_rfl) rfl (by kernel_rfl)) ?_
      obtain ⟨c32_0, c32_1, c32_2, hc33, H⟩ := H
      refine W.callR (g := 35) (ds := [(.agg [(.bool c26_0), (.ints .u64 c26_1), (.ints .u64 c26_2)])]) (es := [(.agg [(.bool c26_0), (.ints .u64 c26_1), (.ints .u64 c26_2)])]) (r := (.agg [(.bool c32_0), (.ints .i64 c32_1), (.ints .i64 c32_2)])) (by kernel_rfl) (by kernel_rfl) (Ic.args hc33 (by kernel_rfl)) (by kernel_rfl) ?_
      refine W.adv 1 ?_
      obtain ⟨h37, H⟩ := H
      obtain ⟨y34, hy35, H⟩ := H
      have ln36 : (r36.length + 1) = y34.length := by rw [hy35, List.length_append] <;> rfl
      refine W.opK (OpIs.apERow (enc := E_ref08_Q) (y := (.lit (.list 3 [(.agg [(.bool c32_0), (.ints .i64 c32_1), (.ints .i64 c32_2)])]))) (n := 56) (d := 36) (dv := ((vs 36) + 1)) (b := 36) (v := ((vs 36) + 1)) (w := ((vs 36) + 1)) (len := n36) (m := 3) (xs := r36) (ys := [(c32_0, c32_1, c32_2)]) (by kernel_rfl) (by kernel_rfl) hy35 rfl ln_36 h37) ?_
      refine W.adv 11 ?_
      exact W.to_loop (P := law29_few_l1_s x0 x1 (wi (x8 + 1)) y28 y34 (r31.length + 1) (r36.length + 1)) (H _ ln30 _ ln36) (by kernel_rfl)
    · refine W.cond false (w := (decide (x8 < x1))) (by kernel_rfl) (decide_eq_false h20) ?_
      refine W.adv 14 ?_
      exact W.fin (x := .ret) (by kernel_rfl) (Ans.of (d := (.tuple [(.sref 31 ((vs 31) + 1) 3 0 n31), (.sref 36 ((vs 36) + 1) 3 0 n36)])) (d' := (.tuple [(.list 3 (r31.map E_api_Rat)), (.list 3 (r36.map E_ref08_Q))])) (e' := (.tuple [(.list 3 (r31.map E_api_Rat)), (.list 3 (r36.map E_ref08_Q))])) (by kernel_rfl) ((congrArg (fun h => reify h DEPTH (.tuple [(.sref 31 ((vs 31) + 1) 3 0 n31), (.sref 36 ((vs 36) + 1) 3 0 n36)])) (tidy_ver (b := 31) (v := (vs 31)) (fz := false) (y := .rows 3 (r31.map E_api_Rat)) (by kernel_rfl))).trans (rf_tup (rf_cons (rf_fullE (enc := E_api_Rat) E_api_Rat_t (b := 31) (v := ((vs 31) + 1)) (w := ((vs 31) + 1)) (fz := false) (xs := r31) (by kernel_rfl) rfl ln_31) (rf_cons (rf_fullE (enc := E_ref08_Q) E_ref08_Q_t (b := 36) (v := ((vs 36) + 1)) (w := ((vs 36) + 1)) (fz := false) (xs := r36) (by kernel_rfl) rfl ln_36) rf_nil)))) (by kernel_rfl) (by rw [H.1, H.2]))
  · refine W.guard false (w := ((decide (x8 < (x0.length : Int))) == true)) (by kernel_rfl) (congrArg (fun b => b == true) (decide_eq_false h19)) ?_
    refine W.guard false (w := ((decide (x8 < (x0.length : Int))) == true)) (by kernel_rfl) (congrArg (fun b => b == true) (decide_eq_false h19)) ?_
    refine W.guard false (w := ((decide (x8 < (x0.length : Int))) == true)) (by kernel_rfl) (congrArg (fun b => b == true) (decide_eq_false h19)) ?_
    refine W.opS (OpIs.pk false (t := (decide (x8 < (x0.length : Int)))) (x := (.tuple [])) (y := (.bool false)) (by kernel_rfl) (decide_eq_false h19)) ?_
    refine W.adv 17 ?_
    exact W.fin (x := .ret) (by kernel_rfl) (Ans.of (d := (.tuple [(.sref 31 ((vs 31) + 1) 3 0 n31), (.sref 36 ((vs 36) + 1) 3 0 n36)])) (d' := (.tuple [(.list 3 (r31.map E_api_Rat)), (.list 3 (r36.map E_ref08_Q))])) (e' := (.tuple [(.list 3 (r31.map E_api_Rat)), (.list 3 (r36.map E_ref08_Q))])) (by kernel_rfl) ((congrArg (fun h => reify h DEPTH (.tuple [(.sref 31 ((vs 31) + 1) 3 0 n31), (.sref 36 ((vs 36) + 1) 3 0 n36)])) (tidy_ver (b := 31) (v := (vs 31)) (fz := false) (y := .rows 3 (r31.map E_api_Rat)) (by kernel_rfl))).trans (rf_tup (rf_cons (rf_fullE (enc := E_api_Rat) E_api_Rat_t (b := 31) (v := ((vs 31) + 1)) (w := ((vs 31) + 1)) (fz := false) (xs := r31) (by kernel_rfl) rfl ln_31) (rf_cons (rf_fullE (enc := E_ref08_Q) E_ref08_Q_t (b := 36) (v := ((vs 36) + 1)) (w := ((vs 36) + 1)) (fz := false) (xs := r36) (by kernel_rfl) rfl ln_36) rf_nil)))) (by kernel_rfl) (by rw [H.1, H.2]))
theorem law29_few_go {a0 : List T_api_Rat} {a1 : Int} {zt0 : List T_api_Rat} {zt1 : List T_ref08_Q} (H : (law29_few_l0 a0 a1 0 zt0 zt1)) : law29_few_R a0 a1 zt0 zt1 := by
  refine W.ic (zs := [(.list 3 (a0.map E_api_Rat)), (.int .i64 a1)]) Try.func9 (by kernel_rfl) (by kernel_rfl) (by kernel_rfl) (by kernel_rfl) ?_
  refine W.adv 21 ?_
  exact W.to_loop (P := law29_few_l0_s a0 a1 0) (H ) (by kernel_rfl)
/-! ### trivium/fail.All -/
noncomputable def fail_All_l0_s (x0 : List T_api_Rat) (x15 : Int) (x16 : Int) (j : Nat → D) (jb : Nat → Blk) (vs : Nat → Nat) : Cf := cfAt Try.f10 [1, 1, 1, 0, 1, 0] ⟨[(.list 3 (x0.map E_api_Rat)), (j 1), (j 2), (j 3), (j 4), .nilS, (j 6), (j 7), (j 8), (j 9), (j 10), (j 11), (j 12), (j 13), (j 14), (.int .i64 x15), (.int .i64 x16), (j 17), (j 18), (j 19), (j 20), (j 21), (j 22), (j 23), (j 24), (j 25), (j 26), (j 27), (j 28), (j 29), (j 30), (j 31), (j 32), (j 33), (j 34)], [(jb 0), (jb 1), (jb 2), (jb 3), (jb 4), (jb 5), (jb 6), (jb 7), (jb 8), (jb 9), (jb 10), (jb 11), (jb 12), (jb 13), (jb 14), (jb 15), (jb 16), (jb 17), (jb 18), (jb 19), (jb 20), (jb 21), (jb 22), (jb 23), (jb 24), (jb 25), (jb 26), (jb 27), (jb 28), (jb 29), (jb 30), (jb 31), (jb 32), (jb 33), (jb 34)]⟩
def fail_All_l0 (x0 : List T_api_Rat) (x15 : Int) (x16 : Int) (zt0 : List T_fail_Case) (zt1 : Int) : Prop := ∀ j jb vs, W C F 10 0 (fail_All_l0_s x0 x15 x16  j jb vs) (Ans C Try.f10 (.tuple [(.list 4 (zt0.map E_fail_Case)), (.int .i64 zt1)]))
noncomputable def fail_All_l1_s (x0 : List T_api_Rat) (x15 : Int) (x16 : Int) (r32 : List T_fail_Case) (n32 : Nat) (j : Nat → D) (jb : Nat → Blk) (vs : Nat → Nat) : Cf := cfAt Try.f10 [1, 1, 1, 0, 1, 0] ⟨[(.list 3 (x0.map E_api_Rat)), (j 1), (j 2), (j 3), (j 4), (.sref 32 ((vs 32) + 1) 4 0 n32), (j 6), (j 7), (j 8), (j 9), (j 10), (j 11), (j 12), (j 13), (j 14), (.int .i64 x15), (.int .i64 x16), (j 17), (j 18), (j 19), (j 20), (j 21), (j 22), (j 23), (j 24), (j 25), (j 26), (j 27), (j 28), (j 29), (j 30), (j 31), (j 32), (j 33), (j 34)], [(jb 0), (jb 1), (jb 2), (jb 3), (jb 4), (jb 5), (jb 6), (jb 7), (jb 8), (jb 9), (jb 10), (jb 11), (jb 12), (jb 13), (jb 14), (jb 15), (jb 16), (jb 17), (jb 18), (jb 19), (jb 20), (jb 21), (jb 22), (jb 23), (jb 24), (jb 25), (jb 26), (jb 27), (jb 28), (jb 29), (jb 30), (jb 31), ⟨((vs 32) + 1), false, .rows 4 (r32.map E_fail_Case)⟩, (jb 33), (jb 34)]⟩
def fail_All_l1 (x0 : List T_api_Rat) (x15 : Int) (x16 : Int) (r32 : List T_fail_Case) (zt0 : List T_fail_Case) (zt1 : Int) : Prop := ∀ n32, n32 = r32.length → ∀ j jb vs, W C F 10 0 (fail_All_l1_s x0 x15 x16 r32 n32 j jb vs) (Ans C Try.f10 (.tuple [(.list 4 (zt0.map E_fail_Case)), (.int .i64 zt1)]))
theorem fail_All_l0_go {x0 : List T_api_Rat} {x15 : Int} {x16 : Int} {zt0 : List T_fail_Case} {zt1 : Int} (H : ((x16 < x15 ∧ (∃ c6_0 : Bool, (∃ c6_1 : List Int, (∃ c6_2 : List Int, (fail_chance_R x0 (wu (x16)) c6_0 c6_1 c6_2 ∧ (∃ c8 : Int, (rat_Sign_R c6_0 c6_1 c6_2 c8 ∧ ((c8 = 0 ∧ (fail_All_l0 x0 x15 (wi (x16 + 1)) zt0 zt1)) ∨ (¬ c8 = 0 ∧ ((1 + 192) * (64 + 1) ≤ 70368744177664 ∧ (∃ y11 : List T_fail_Case, y11 = [((wu (x16)), c6_0, c6_1, c6_2)] ∧ (fail_All_l1 x0 x15 (wi (x16 + 1)) y11 zt0 zt1)))))))))))) ∨ (¬ x16 < x15 ∧ (zt0 = ([] : List T_fail_Case) ∧ zt1 = 0)))) : fail_All_l0 x0 x15 x16 zt0 zt1 := by
  intro j jb vs
  refine W.adv 1 ?_
  refine W.adv 6 ?_
  rcases H with ⟨h5, H⟩ | ⟨h5, H⟩
  · refine W.cond true (w := (decide (x16 < x15))) (by kernel_rfl) (decide_eq_true h5) ?_
    refine W.adv 15 ?_
    obtain ⟨c6_0, c6_1, c6_2, hc7, H⟩ := H
    refine W.callR (g := 40) (ds := [(.list 3 (x0.map E_api_Rat)), (.int .u64 (wu (x16)))]) (es := [(.list 3 (x0.map E_api_Rat)), (.int .u64 (wu (x16)))]) (r := (.agg [(.bool c6_0), (.ints .u64 c6_1), (.ints .u64 c6_2)])) (by kernel_rfl) (by kernel_rfl) (Ic.args hc7 (by kernel_rfl)) (by kernel_rfl) ?_
    refine W.adv 1 ?_
    refine W.opH (OpIs.stV (b := 7) (v := ((jb 7).ver + 1)) (i := 0) (off := 0) (w := ((jb 7).ver + 1)) (n := 3) (s := 3) (xs := [(.agg [(.bool false), .nilS, .nilS])]) (ys := [(.agg [(.bool c6_0), (.ints .u64 c6_1), (.ints .u64 c6_2)])]) (d := (.agg [(.bool false), .nilS, .nilS])) (y := (.agg [(.bool c6_0), (.ints .u64 c6_1), (.ints .u64 c6_2)])) (by kernel_rfl) rfl (by kernel_rfl) (by kernel_rfl) (Nat.le_of_ble_eq_true (by kernel_rfl)) (by kernel_rfl) (by kernel_rfl)) ?_
    refine W.adv 4 ?_
    refine W.opS (OpIs.ldV (b := 7) (v := ((jb 7).ver + 1)) (i := 0) (off := 0) (w := ((jb 7).ver + 1)) (n := 3) (s := 3) (fz := false) (a := true) (xs := [(.agg [(.bool c6_0), (.ints .u64 c6_1), (.ints .u64 c6_2)])]) (r := (.agg [(.bool c6_0), (.ints .u64 c6_1), (.ints .u64 c6_2)])) (by kernel_rfl) rfl (by kernel_rfl)) ?_
    obtain ⟨c8, hc9, H⟩ := H
    refine W.callR (g := 41) (ds := [(.agg [(.bool c6_0), (.ints .u64 c6_1), (.ints .u64 c6_2)])]) (es := [(.agg [(.bool c6_0), (.ints .u64 c6_1), (.ints .u64 c6_2)])]) (r := (.int .i64 c8)) (by kernel_rfl) (by kernel_rfl) (Ic.args hc9 (by kernel_rfl)) (by kernel_rfl) ?_
    refine W.adv 3 ?_
    rcases H with ⟨h10, H⟩ | ⟨h10, H⟩
    · refine W.cond false (w := (!(decide (c8 = 0)))) (by kernel_rfl) (congrArg (fun b => !b) (decide_eq_true h10)) ?_
      refine W.adv 8 ?_
      exact W.to_loop (P := fail_All_l0_s x0 x15 (wi (x16 + 1))) (H ) (by kernel_rfl)
    · refine W.cond true (w := (!(decide (c8 = 0)))) (by kernel_rfl) (congrArg (fun b => !b) (decide_eq_false h10)) ?_
      refine W.adv 4 ?_
      refine W.opS (OpIs.ldV (b := 7) (v := ((jb 7).ver + 1)) (i := 0) (off := 0) (w := ((jb 7).ver + 1)) (n := 3) (s := 3) (fz := false) (a := true) (xs := [(.agg [(.bool c6_0), (.ints .u64 c6_1), (.ints .u64 c6_2)])]) (r := (.agg [(.bool c6_0), (.ints .u64 c6_1), (.ints .u64 c6_2)])) (by kernel_rfl) rfl (by kernel_rfl)) ?_
      refine W.adv 2 ?_
      obtain ⟨h14, H⟩ := H
      obtain ⟨y11, hy12, H⟩ := H
      have ln13 : 1 = y11.length := by rw [hy12] <;> rfl
      refine W.opH (OpIs.apENil (enc := E_fail_Case) (y := (.lit (.list 4 [(.agg [(.int .u64 (wu (x16))), (.bool c6_0), (.ints .u64 c6_1), (.ints .u64 c6_2)])]))) (B := none) (n := 64) (d := 32) (v := (jb 32).ver) (m := 4) (ys := [((wu (x16)), c6_0, c6_1, c6_2)]) (by kernel_rfl) (by kernel_rfl) hy12 h14) ?_
      refine W.adv 9 ?_
      exact W.to_loop (P := fail_All_l1_s x0 x15 (wi (x16 + 1)) y11 1) (H _ ln13) (by kernel_rfl)
  · refine W.cond false (w := (decide (x16 < x15))) (by kernel_rfl) (decide_eq_false h5) ?_
    refine W.adv 13 ?_
    exact W.fin (x := .ret) (by kernel_rfl) (Ans.of (d := (.tuple [.nilS, (.int .i64 0)])) (d' := (.tuple [.nilS, (.int .i64 0)])) (e' := (.tuple [(.list 4 (([] : List T_fail_Case).map E_fail_Case)), (.int .i64 0)])) (by kernel_rfl) (by kernel_rfl) (by kernel_rfl) (by rw [H.1, H.2]))
theorem fail_All_l1_go {x0 : List T_api_Rat} {x15 : Int} {x16 : Int} {r32 : List T_fail_Case} {zt0 : List T_fail_Case} {zt1 : Int} (H : ((x16 < x15 ∧ (∃ c16_0 : Bool, (∃ c16_1 : List Int, (∃ c16_2 : List Int, (fail_chance_R x0 (wu (x16)) c16_0 c16_1 c16_2 ∧ (∃ c18 : Int, (rat_Sign_R c16_0 c16_1 c16_2 c18 ∧ ((c18 = 0 ∧ (fail_All_l1 x0 x15 (wi (x16 + 1)) r32 zt0 zt1)) ∨ (¬ c18 = 0 ∧ ((r32.length + 1 + 192) * (64 + 1) ≤ 70368744177664 ∧ (∃ y21 : List T_fail_Case, y21 = r32 ++ [((wu (x16)), c16_0, c16_1, c16_2)] ∧ (fail_All_l1 x0 x15 (wi (x16 + 1)) y21 zt0 zt1)))))))))))) ∨ (¬ x16 < x15 ∧ (zt0 = r32 ∧ zt1 = 0)))) : fail_All_l1 x0 x15 x16 r32 zt0 zt1 := by
  intro n32 ln_32 j jb vs
  refine W.adv 1 ?_
  refine W.adv 6 ?_
  rcases H with ⟨h15, H⟩ | ⟨h15, H⟩
  · refine W.cond true (w := (decide (x16 < x15))) (by kernel_rfl) (decide_eq_true h15) ?_
    refine W.adv 15 ?_
    obtain ⟨c16_0, c16_1, c16_2, hc17, H⟩ := H
    refine W.callR (g := 40) (ds := [(.list 3 (x0.map E_api_Rat)), (.int .u64 (wu (x16)))]) (es := [(.list 3 (x0.map E_api_Rat)), (.int .u64 (wu (x16)))]) (r := (.agg [(.bool c16_0), (.ints .u64 c16_1), (.ints .u64 c16_2)])) (by kernel_rfl) (by kernel_rfl) (Ic.args hc17 (by kernel_rfl)) (by kernel_rfl) ?_
    refine W.adv 1 ?_
    refine W.opH (OpIs.stV (b := 7) (v := ((jb 7).ver + 1)) (i := 0) (off := 0) (w := ((jb 7).ver + 1)) (n := 3) (s := 3) (xs := [(.agg [(.bool false), .nilS, .nilS])]) (ys := [(.agg [(.bool c16_0), (.ints .u64 c16_1), (.ints .u64 c16_2)])]) (d := (.agg [(.bool false), .nilS, .nilS])) (y := (.agg [(.bool c16_0), (.ints .u64 c16_1), (.ints .u64 c16_2)])) (by kernel_rfl) rfl (by kernel_rfl) (by kernel_rfl) (Nat.le_of_ble_eq_true (by kernel_rfl)) (by kernel_rfl) (by kernel_rfl)) ?_
    refine W.adv 4 ?_
    refine W.opS (OpIs.ldV (b := 7) (v := ((jb 7).ver + 1)) (i := 0) (off := 0) (w := ((jb 7).ver + 1)) (n := 3) (s := 3) (fz := false) (a := true) (xs := [(.agg [(.bool c16_0), (.ints .u64 c16_1), (.ints .u64 c16_2)])]) (r := (.agg [(.bool c16_0), (.ints .u64 c16_1), (.ints .u64 c16_2)])) (by kernel_rfl) rfl (by kernel_rfl)) ?_
    obtain ⟨c18, hc19, H⟩ := H
    refine W.callR (g := 41) (ds := [(.agg [(.bool c16_0), (.ints .u64 c16_1), (.ints .u64 c16_2)])]) (es := [(.agg [(.bool c16_0), (.ints .u64 c16_1), (.ints .u64 c16_2)])]) (r := (.int .i64 c18)) (by kernel_rfl) (by kernel_rfl) (Ic.args hc19 (by kernel_rfl)) (by kernel_rfl) ?_
    refine W.adv 3 ?_
    rcases H with ⟨h20, H⟩ | ⟨h20, H⟩
    · refine W.cond false (w := (!(decide (c18 = 0)))) (by kernel_rfl) (congrArg (fun b => !b) (decide_eq_true h20)) ?_
      refine W.adv 8 ?_
      exact W.to_loop (P := fail_All_l1_s x0 x15 (wi (x16 + 1)) r32 n32) (H _ ln_32) (by kernel_rfl)
    · refine W.cond true (w := (!(decide (c18 = 0)))) (by kernel_rfl) (congrArg (fun b => !b) (decide_eq_false h20)) ?_
      refine W.adv 4 ?_
      refine W.opS (OpIs.ldV (b := 7) (v := ((jb 7).ver + 1)) (i := 0) (off := 0) (w := ((jb 7).ver + 1)) (n := 3) (s := 3) (fz := false) (a := true) (xs := [(.agg [(.bool c16_0), (.ints .u64 c16_1), (.ints .u64 c16_2)])]) (r := (.agg [(.bool c16_0), (.ints .u64 c16_1), (.ints .u64 c16_2)])) (by kernel_rfl) rfl (by kernel_rfl)) ?_
      refine W.adv 2 ?_
      obtain ⟨h24, H⟩ := H
      obtain ⟨y21, hy22, H⟩ := H
      have ln23 : (r32.length + 1) = y21.length := by rw [hy22, List.length_append] <;> rfl
      refine W.opK (OpIs.apERow (enc := E_fail_Case) (y := (.lit (.list 4 [(.agg [(.int .u64 (wu (x16))), (.bool c16_0), (.ints .u64 c16_1), (.ints .u64 c16_2)])]))) (n := 64) (d := 32) (dv := ((vs 32) + 1)) (b := 32) (v := ((vs 32) + 1)) (w := ((vs 32) + 1)) (len := n32) (m := 4) (xs := r32) (ys := [((wu (x16)), c16_0, c16_1, c16_2)]) (by kernel_rfl) (by kernel_rfl) hy22 rfl ln_32 h24) ?_
      refine W.adv 9 ?_
      exact W.to_loop (P := fail_All_l1_s x0 x15 (wi (x16 + 1)) y21 (r32.length + 1)) (H _ ln23) (by kernel_rfl)
  · refine W.cond false (w := (decide (x16 < x15))) (by kernel_rfl) (decide_eq_false h15) ?_
    refine W.adv 13 ?_
    exact W.fin (x := .ret) (by kernel_rfl) (Ans.of (d := (.tuple [(.sref 32 ((vs 32) + 1) 4 0 n32), (.int .i64 0)])) (d' := (.tuple [(.list 4 (r32.map E_fail_Case)), (.int .i64 0)])) (e' := (.tuple [(.list 4 (r32.map E_fail_Case)), (.int .i64 0)])) (by kernel_rfl) ((congrArg (fun h => reify h DEPTH (.tuple [(.sref 32 ((vs 32) + 1) 4 0 n32), (.int .i64 0)])) (tidy_ver (b := 32) (v := (vs 32)) (fz := false) (y := .rows 4 (r32.map E_fail_Case)) (by kernel_rfl))).trans (rf_tup (rf_cons (rf_fullE (enc := E_fail_Case) E_fail_Case_t (b := 32) (v := ((vs 32) + 1)) (w := ((vs 32) + 1)) (fz := false) (xs := r32) (by kernel_rfl) rfl ln_32) (rf_cons (by kernel_rfl) rf_nil)))) (by kernel_rfl) (by rw [H.1, H.2]))
theorem fail_All_go {a0 : List T_api_Rat} {zt0 : List T_fail_Case} {zt1 : Int} (H : (∃ c1 : Int, (fail_right_R a0 c1 ∧ ((c1 = 0 ∧ (0 ≤ (a0.length : Int) ∧ (fail_All_l0 a0 (wi (1 * 2 ^ (min (a0.length : Int).toNat 64))) 0 zt0 zt1))) ∨ (¬ c1 = 0 ∧ (zt0 = ([] : List T_fail_Case) ∧ zt1 = c1)))))) : fail_All_R a0 zt0 zt1 := by
  refine W.ic (zs := [(.list 3 (a0.map E_api_Rat))]) Try.func10 (by kernel_rfl) (by kernel_rfl) (by kernel_rfl) (by kernel_rfl) ?_
  refine W.adv 10 ?_
  obtain ⟨c1, hc2, H⟩ := H
  refine W.callR (g := 39) (ds := [(.list 3 (a0.map E_api_Rat))]) (es := [(.list 3 (a0.map E_api_Rat))]) (r := (.int .i64 c1)) (by kernel_rfl) (by kernel_rfl) (Ic.args hc2 (by kernel_rfl)) (by kernel_rfl) ?_
  refine W.adv 9 ?_
  rcases H with ⟨h3, H⟩ | ⟨h3, H⟩
  · refine W.cond false (w := (!(decide (c1 = 0)))) (by kernel_rfl) (congrArg (fun b => !b) (decide_eq_true h3)) ?_
    refine W.adv 11 ?_
    refine W.opS (OpIs.ln (n := (a0.map E_api_Rat).length) (m := a0.length) (by kernel_rfl) (by rw [List.length_map])) ?_
    obtain ⟨h4, H⟩ := H
    refine W.opS (OpIs.bn (op := .shl) (x := (.int .i64 1)) (y := (.int .i64 (a0.length : Int))) (by kernel_rfl) (shlD h4)) ?_
    refine W.adv 4 ?_
    exact W.to_loop (P := fail_All_l0_s a0 (wi (1 * 2 ^ (min (a0.length : Int).toNat 64))) 0) (H ) (by kernel_rfl)
  · refine W.cond true (w := (!(decide (c1 = 0)))) (by kernel_rfl) (congrArg (fun b => !b) (decide_eq_false h3)) ?_
    refine W.adv 9 ?_
    exact W.fin (x := .ret) (by kernel_rfl) (Ans.of (d := (.tuple [.nilS, (.int .i64 c1)])) (d' := (.tuple [.nilS, (.int .i64 c1)])) (e' := (.tuple [(.list 4 (([] : List T_fail_Case).map E_fail_Case)), (.int .i64 c1)])) (by kernel_rfl) (by kernel_rfl) (by kernel_rfl) (by rw [H.1, H.2]))
/-! ### trivium/triviumbase.Among -/
theorem triviumbase_Among_go {a0 : Int} {a1 : Int} {z : Int} (H : ((a1 < 1 ∧ (z = 0)) ∨ (¬ a1 < 1 ∧ ((wu (a1)) ≠ 0 ∧ (z = (wi (((wu (a0)).tmod (wu (a1)))))))))) : triviumbase_Among_R a0 a1 z := by
  refine W.ic (zs := [(.int .i64 a0), (.int .i64 a1)]) Try.func12 (by kernel_rfl) (by kernel_rfl) (by kernel_rfl) (by kernel_rfl) ?_
  refine W.adv 12 ?_
  rcases H with ⟨h1, H⟩ | ⟨h1, H⟩
  · refine W.cond true (w := (decide (a1 < 1))) (by kernel_rfl) (decide_eq_true h1) ?_
    refine W.adv 7 ?_
    exact W.fin (x := .ret) (by kernel_rfl) (Ans.of (d := (.int .i64 0)) (d' := (.int .i64 0)) (e' := (.int .i64 0)) (by kernel_rfl) (by kernel_rfl) (by kernel_rfl) (by rw [H]))
  · refine W.cond false (w := (decide (a1 < 1))) (by kernel_rfl) (decide_eq_false h1) ?_
    refine W.adv 8 ?_
    obtain ⟨h2, H⟩ := H
    refine W.opS (OpIs.bn (op := .rem) (x := (.int .u64 (wu (a0)))) (y := (.int .u64 (wu (a1)))) (by kernel_rfl) (remD h2)) ?_
    refine W.adv 5 ?_
    exact W.fin (x := .ret) (by kernel_rfl) (Ans.of (d := (.int .i64 (wi (((wu (a0)).tmod (wu (a1))))))) (d' := (.int .i64 (wi (((wu (a0)).tmod (wu (a1))))))) (e' := (.int .i64 (wi (((wu (a0)).tmod (wu (a1))))))) (by kernel_rfl) (by kernel_rfl) (by kernel_rfl) (by rw [H]))
/-! ### trivium/triviumbase.HasInt -/
noncomputable def triviumbase_HasInt_l0_s (x0 : List Int) (x1 : Int) (x5 : Int) (j : Nat → D) (jb : Nat → Blk) (vs : Nat → Nat) : Cf := cfAt Try.f14 [1, 0, 1, 0] ⟨[(.ints .i64 x0), (.int .i64 x1), (j 2), (j 3), (j 4), (.int .i64 x5), (j 6), (j 7), (j 8), (j 9), (j 10), (j 11), (j 12), (j 13), (j 14), (j 15), (j 16), (j 17)], [(jb 0), (jb 1), (jb 2), (jb 3), (jb 4), (jb 5), (jb 6), (jb 7), (jb 8), (jb 9), (jb 10), (jb 11), (jb 12), (jb 13), (jb 14), (jb 15), (jb 16), (jb 17)]⟩
def triviumbase_HasInt_l0 (x0 : List Int) (x1 : Int) (x5 : Int) (z : Bool) : Prop := ∀ j jb vs, W C F 14 0 (triviumbase_HasInt_l0_s x0 x1 x5  j jb vs) (Ans C Try.f14 (.bool z))
theorem triviumbase_HasInt_l0_go {x0 : List Int} {x1 : Int} {x5 : Int} {z : Bool} (H : ((x5 < (x0.length : Int) ∧ (0 ≤ x5 ∧ (((x0.getD (x5).toNat 0) = x1 ∧ (z = true)) ∨ (¬ (x0.getD (x5).toNat 0) = x1 ∧ (triviumbase_HasInt_l0 x0 x1 (wi (x5 + 1)) z))))) ∨ (¬ x5 < (x0.length : Int) ∧ (z = false)))) : triviumbase_HasInt_l0 x0 x1 x5 z := by
  intro j jb vs
  refine W.adv 1 ?_
  refine W.adv 9 ?_
  rcases H with ⟨h1, H⟩ | ⟨h1, H⟩
  · refine W.cond true (w := (decide (x5 < (x0.length : Int)))) (by kernel_rfl) (decide_eq_true h1) ?_
    refine W.adv 8 ?_
    obtain ⟨h2, H⟩ := H
    refine W.opS (OpIs.ixI (k := .i64) (k' := .i64) (xs := x0) (i := x5) (by kernel_rfl) h2 h1) ?_
    refine W.adv 5 ?_
    rcases H with ⟨h3, H⟩ | ⟨h3, H⟩
    · refine W.cond true (w := (decide ((x0.getD (x5).toNat 0) = x1))) (by kernel_rfl) (decide_eq_true h3) ?_
      refine W.adv 11 ?_
      exact W.fin (x := .ret) (by kernel_rfl) (Ans.of (d := (.bool true)) (d' := (.bool true)) (e' := (.bool true)) (by kernel_rfl) (by kernel_rfl) (by kernel_rfl) (by rw [H]))
    · refine W.cond false (w := (decide ((x0.getD (x5).toNat 0) = x1))) (by kernel_rfl) (decide_eq_false h3) ?_
      refine W.adv 9 ?_
      exact W.to_loop (P := triviumbase_HasInt_l0_s x0 x1 (wi (x5 + 1))) (H ) (by kernel_rfl)
  · refine W.cond false (w := (decide (x5 < (x0.length : Int)))) (by kernel_rfl) (decide_eq_false h1) ?_
    refine W.adv 11 ?_
    exact W.fin (x := .ret) (by kernel_rfl) (Ans.of (d := (.bool false)) (d' := (.bool false)) (e' := (.bool false)) (by kernel_rfl) (by kernel_rfl) (by kernel_rfl) (by rw [H]))
theorem triviumbase_HasInt_go {a0 : List Int} {a1 : Int} {z : Bool} (H : (triviumbase_HasInt_l0 a0 a1 0 z)) : triviumbase_HasInt_R a0 a1 z := by
  refine W.ic (zs := [(.ints .i64 a0), (.int .i64 a1)]) Try.func14 (by kernel_rfl) (by kernel_rfl) (by kernel_rfl) (by kernel_rfl) ?_
  refine W.adv 12 ?_
  exact W.to_loop (P := triviumbase_HasInt_l0_s a0 a1 0) (H ) (by kernel_rfl)
/-! ### trivium/fail.Lives -/
noncomputable def fail_Lives_l0_s (x0 : Int) (x9 : Int) (x10 : Int) (j : Nat → D) (jb : Nat → Blk) (vs : Nat → Nat) : Cf := cfAt Try.f15 [1, 1, 0, 1, 0] ⟨[(.int .u64 x0), (j 1), (j 2), (j 3), (j 4), .nilS, (j 6), (j 7), (j 8), (.int .i64 x9), (.int .i64 x10), (j 11), (j 12), (j 13), (j 14), (j 15), (j 16), (j 17), (j 18), (j 19), (j 20), (j 21), (j 22), (j 23)], [(jb 0), (jb 1), (jb 2), (jb 3), (jb 4), (jb 5), (jb 6), (jb 7), (jb 8), (jb 9), (jb 10), (jb 11), (jb 12), (jb 13), (jb 14), (jb 15), (jb 16), (jb 17), (jb 18), (jb 19), (jb 20), (jb 21), (jb 22), (jb 23)]⟩
def fail_Lives_l0 (x0 : Int) (x9 : Int) (x10 : Int) (z : List Int) : Prop := ∀ j jb vs, W C F 15 0 (fail_Lives_l0_s x0 x9 x10  j jb vs) (Ans C Try.f15 (.ints .i64 z))
noncomputable def fail_Lives_l1_s (x0 : Int) (x9 : Int) (x10 : Int) (r21 : List Int) (n21 : Nat) (j : Nat → D) (jb : Nat → Blk) (vs : Nat → Nat) : Cf := cfAt Try.f15 [1, 1, 0, 1, 0] ⟨[(.int .u64 x0), (j 1), (j 2), (j 3), (j 4), (.sref 21 ((vs 21) + 1) 1 0 n21), (j 6), (j 7), (j 8), (.int .i64 x9), (.int .i64 x10), (j 11), (j 12), (j 13), (j 14), (j 15), (j 16), (j 17), (j 18), (j 19), (j 20), (j 21), (j 22), (j 23)], [(jb 0), (jb 1), (jb 2), (jb 3), (jb 4), (jb 5), (jb 6), (jb 7), (jb 8), (jb 9), (jb 10), (jb 11), (jb 12), (jb 13), (jb 14), (jb 15), (jb 16), (jb 17), (jb 18), (jb 19), (jb 20), ⟨((vs 21) + 1), false, .ints .i64 r21⟩, (jb 22), (jb 23)]⟩
def fail_Lives_l1 (x0 : Int) (x9 : Int) (x10 : Int) (r21 : List Int) (z : List Int) : Prop := ∀ n21, n21 = r21.length → ∀ j jb vs, W C F 15 0 (fail_Lives_l1_s x0 x9 x10 r21 n21 j jb vs) (Ans C Try.f15 (.ints .i64 z))
theorem fail_Lives_l0_go {x0 : Int} {x9 : Int} {x10 : Int} {z : List Int} (H : ((x10 < x9 ∧ (0 ≤ x10 ∧ (((bits .and .u64 (x0 / 2 ^ (min (x10).toNat 64)) 1) = 1 ∧ ((1 + 192) * (8 + 1) ≤ 70368744177664 ∧ (∃ y4, y4 = [x10] ∧ (fail_Lives_l1 x0 x9 (wi (x10 + 1)) y4 z)))) ∨ (¬ (bits .and .u64 (x0 / 2 ^ (min (x10).toNat 64)) 1) = 1 ∧ (fail_Lives_l0 x0 x9 (wi (x10 + 1)) z))))) ∨ (¬ x10 < x9 ∧ (z = [])))) : fail_Lives_l0 x0 x9 x10 z := by
  intro j jb vs
  refine W.adv 1 ?_
  refine W.adv 6 ?_
  rcases H with ⟨h1, H⟩ | ⟨h1, H⟩
  · refine W.cond true (w := (decide (x10 < x9))) (by kernel_rfl) (decide_eq_true h1) ?_
    refine W.adv 14 ?_
    obtain ⟨h2, H⟩ := H
    refine W.opS (OpIs.bn (op := .shr) (x := (.int .u64 x0)) (y := (.int .i64 x10)) (by kernel_rfl) (shrD h2)) ?_
    refine W.adv 4 ?_
    rcases H with ⟨h3, H⟩ | ⟨h3, H⟩
    · refine W.cond true (w := (decide ((bits .and .u64 (x0 / 2 ^ (min (x10).toNat 64)) 1) = 1))) (by kernel_rfl) (decide_eq_true h3) ?_
      refine W.adv 4 ?_
      obtain ⟨h7, H⟩ := H
      obtain ⟨y4, hy5, H⟩ := H
      have ln6 : 1 = y4.length := by rw [hy5] <;> rfl
      refine W.opH (OpIs.apNil (y := (.lit (.ints .i64 [x10]))) (B := none) (n := 8) (d := 21) (v := (jb 21).ver) (k := .i64) (ys := [x10]) (by kernel_rfl) (by kernel_rfl) hy5 h7) ?_
      refine W.adv 9 ?_
      exact W.to_loop (P := fail_Lives_l1_s x0 x9 (wi (x10 + 1)) y4 1) (H _ ln6) (by kernel_rfl)
    · refine W.cond false (w := (decide ((bits .and .u64 (x0 / 2 ^ (min (x10).toNat 64)) 1) = 1))) (by kernel_rfl) (decide_eq_false h3) ?_
      refine W.adv 8 ?_
      exact W.to_loop (P := fail_Lives_l0_s x0 x9 (wi (x10 + 1))) (H ) (by kernel_rfl)
  · refine W.cond false (w := (decide (x10 < x9))) (by kernel_rfl) (decide_eq_false h1) ?_
    refine W.adv 12 ?_
    exact W.fin (x := .ret) (by kernel_rfl) (Ans.of (d := .nilS) (d' := .nilS) (e' := (.ints .i64 [])) (by kernel_rfl) (by kernel_rfl) (by kernel_rfl) (by rw [H]))
theorem fail_Lives_l1_go {x0 : Int} {x9 : Int} {x10 : Int} {r21 : List Int} {z : List Int} (H : ((x10 < x9 ∧ (0 ≤ x10 ∧ (((bits .and .u64 (x0 / 2 ^ (min (x10).toNat 64)) 1) = 1 ∧ ((r21.length + 1 + 192) * (8 + 1) ≤ 70368744177664 ∧ (∃ y11, y11 = r21 ++ [x10] ∧ (fail_Lives_l1 x0 x9 (wi (x10 + 1)) y11 z)))) ∨ (¬ (bits .and .u64 (x0 / 2 ^ (min (x10).toNat 64)) 1) = 1 ∧ (fail_Lives_l1 x0 x9 (wi (x10 + 1)) r21 z))))) ∨ (¬ x10 < x9 ∧ (z = r21)))) : fail_Lives_l1 x0 x9 x10 r21 z := by
  intro n21 ln_21 j jb vs
  refine W.adv 1 ?_
  refine W.adv 6 ?_
  rcases H with ⟨h8, H⟩ | ⟨h8, H⟩
  · refine W.cond true (w := (decide (x10 < x9))) (by kernel_rfl) (decide_eq_true h8) ?_
    refine W.adv 14 ?_
    obtain ⟨h9, H⟩ := H
    refine W.opS (OpIs.bn (op := .shr) (x := (.int .u64 x0)) (y := (.int .i64 x10)) (by kernel_rfl) (shrD h9)) ?_
    refine W.adv 4 ?_
    rcases H with ⟨h10, H⟩ | ⟨h10, H⟩
    · refine W.cond true (w := (decide ((bits .and .u64 (x0 / 2 ^ (min (x10).toNat 64)) 1) = 1))) (by kernel_rfl) (decide_eq_true h10) ?_
      refine W.adv 4 ?_
      obtain ⟨h14, H⟩ := H
      obtain ⟨y11, hy12, H⟩ := H
      have ln13 : (r21.length + 1) = y11.length := by rw [hy12, List.length_append] <;> rfl
      refine W.opK (OpIs.apRow (y := (.lit (.ints .i64 [x10]))) (n := 8) (d := 21) (dv := ((vs 21) + 1)) (b := 21) (v := ((vs 21) + 1)) (w := ((vs 21) + 1)) (len := n21) (k := .i64) (xs := r21) (ys := [x10]) (by kernel_rfl) (by kernel_rfl) hy12 rfl ln_21 h14) ?_
      refine W.adv 9 ?_
      exact W.to_loop (P := fail_Lives_l1_s x0 x9 (wi (x10 + 1)) y11 (r21.length + 1)) (H _ ln13) (by kernel_rfl)
    · refine W.cond false (w := (decide ((bits .and .u64 (x0 / 2 ^ (min (x10).toNat 64)) 1) = 1))) (by kernel_rfl) (decide_eq_false h10) ?_
      refine W.adv 8 ?_
      exact W.to_loop (P := fail_Lives_l1_s x0 x9 (wi (x10 + 1)) r21 n21) (H _ ln_21) (by kernel_rfl)
  · refine W.cond false (w := (decide (x10 < x9))) (by kernel_rfl) (decide_eq_false h8) ?_
    refine W.adv 12 ?_
    exact W.fin (x := .ret) (by kernel_rfl) (Ans.of (d := (.sref 21 ((vs 21) + 1) 1 0 n21)) (d' := (.ints .i64 r21)) (e' := (.ints .i64 r21)) (by kernel_rfl) ((congrArg (fun h => reify h DEPTH (.sref 21 ((vs 21) + 1) 1 0 n21)) (tidy_ver (b := 21) (v := (vs 21)) (fz := false) (y := .ints .i64 r21) (by kernel_rfl))).trans (rf_full (b := 21) (v := ((vs 21) + 1)) (w := ((vs 21) + 1)) (fz := false) (k := .i64) (xs := r21) (by kernel_rfl) rfl ln_21)) (by kernel_rfl) (by rw [H]))
theorem fail_Lives_go {a0 : Int} {a1 : Int} {z : List Int} (H : (fail_Lives_l0 a0 (mn (mx a1 0) 64) 0 z)) : fail_Lives_R a0 a1 z := by
  refine W.ic (zs := [(.int .u64 a0), (.int .i64 a1)]) Try.func15 (by kernel_rfl) (by kernel_rfl) (by kernel_rfl) (by kernel_rfl) ?_
  refine W.adv 20 ?_
  exact W.to_loop (P := fail_Lives_l0_s a0 (mn (mx a1 0) 64) 0) (H ) (by kernel_rfl)
/-! ### trivium/fail.right -/
theorem fail_right_go {a0 : List T_api_Rat} {z : Int} (H : ((8 < (a0.length : Int) ∧ (z = 2)) ∨ (¬ 8 < (a0.length : Int) ∧ (∃ c2 : Bool, (slices_ContainsFunc___api_Rat_api_Rat__v0_R a0 c2 ∧ ((c2 = true ∧ (z = 2)) ∨ (¬ c2 = true ∧ (z = 0)))))))) : fail_right_R a0 z := by
  refine W.ic (zs := [(.list 3 (a0.map E_api_Rat))]) Try.func39 (by kernel_rfl) (by kernel_rfl) (by kernel_rfl) (by kernel_rfl) ?_
  refine W.adv 9 ?_
  refine W.opS (OpIs.ln (n := (a0.map E_api_Rat).length) (m := a0.length) (by kernel_rfl) (by rw [List.length_map])) ?_
  refine W.adv 2 ?_
  rcases H with ⟨h1, H⟩ | ⟨h1, H⟩
  · refine W.guard false (w := ((decide (8 < (a0.length : Int))) == false)) (by kernel_rfl) (congrArg (fun b => b == false) (decide_eq_true h1)) ?_
    refine W.guard false (w := ((decide (8 < (a0.length : Int))) == false)) (by kernel_rfl) (congrArg (fun b => b == false) (decide_eq_true h1)) ?_
    refine W.opS (OpIs.pk true (t := (decide (8 < (a0.length : Int)))) (x := (.bool true)) (y := (.tuple [])) (by kernel_rfl) (decide_eq_true h1)) ?_
    refine W.adv 10 ?_
    exact W.fin (x := .ret) (by kernel_rfl) (Ans.of (d := (.int .i64 2)) (d' := (.int .i64 2)) (e' := (.int .i64 2)) (by kernel_rfl) (by kernel_rfl) (by kernel_rfl) (by rw [H]))
  · refine W.guard true (w := ((decide (8 < (a0.length : Int))) == false)) (by kernel_rfl) (congrArg (fun b => b == false) (decide_eq_false h1)) ?_
    refine W.adv 1 ?_
    refine W.guard true (w := ((decide (8 < (a0.length : Int))) == false)) (by kernel_rfl) (congrArg (fun b => b == false) (decide_eq_false h1)) ?_
    obtain ⟨c2, hc3, H⟩ := H
    refine W.callR (g := 77) (ds := [(.list 3 (a0.map E_api_Rat)), (.fn 78 [] [])]) (es := [(.list 3 (a0.map E_api_Rat)), (.fn 78 [] [])]) (r := (.bool c2)) (by kernel_rfl) (by kernel_rfl) (Ic.args hc3 (by kernel_rfl)) (by kernel_rfl) ?_
    refine W.opS (OpIs.pk false (t := (decide (8 < (a0.length : Int)))) (x := (.bool true)) (y := (.bool c2)) (by kernel_rfl) (decide_eq_false h1)) ?_
    refine W.adv 2 ?_
    rcases H with ⟨h4, H⟩ | ⟨h4, H⟩
    · refine W.cond true (w := c2) (by kernel_rfl) h4 ?_
      refine W.adv 7 ?_
      exact W.fin (x := .ret) (by kernel_rfl) (Ans.of (d := (.int .i64 2)) (d' := (.int .i64 2)) (e' := (.int .i64 2)) (by kernel_rfl) (by kernel_rfl) (by kernel_rfl) (by rw [H]))
    · refine W.cond false (w := c2) (by kernel_rfl) (bfalse h4) ?_
      refine W.adv 8 ?_
      exact W.fin (x := .ret) (by kernel_rfl) (Ans.of (d := (.int .i64 0)) (d' := (.int .i64 0)) (e' := (.int .i64 0)) (by kernel_rfl) (by kernel_rfl) (by kernel_rfl) (by rw [H]))
/-! ### trivium/fail.chance -/
noncomputable def fail_chance_l0_s (x1 : Int) (x9 : List T_api_Rat) (x10 : Int) (x11 : Int) (r4_0_0 : Bool) (r5_0_0 : Bool) (r5_0_1 : List Int) (r5_0_2 : List Int) (j : Nat → D) (jb : Nat → Blk) (vs : Nat → Nat) : Cf := cfAt Try.f40 [1, 1, 0, 1, 0] ⟨[(j 0), (.int .u64 x1), (j 2), (j 3), (.pref 4 1 0 0), (.pref 5 1 0 0), (j 6), (j 7), (j 8), (.list 3 (x9.map E_api_Rat)), (.int .i64 x10), (.int .i64 x11), (j 12), (j 13), (j 14), (j 15), (j 16), (j 17), (j 18), (j 19), (j 20), (j 21), (j 22), (j 23), (j 24), (j 25), (j 26), (j 27)], [(jb 0), (jb 1), (jb 2), (jb 3), ⟨1, false, .rows 3 [(.agg [(.bool r4_0_0), .nilS, .nilS])]⟩, ⟨1, false, .rows 3 [(.agg [(.bool r5_0_0), (.ints .u64 r5_0_1), (.ints .u64 r5_0_2)])]⟩, (jb 6), (jb 7), (jb 8), (jb 9), (jb 10), (jb 11), (jb 12), (jb 13), (jb 14), (jb 15), (jb 16), (jb 17), (jb 18), (jb 19), (jb 20), (jb 21), (jb 22), (jb 23), (jb 24), (jb 25), (jb 26), (jb 27)]⟩
def fail_chance_l0 (x1 : Int) (x9 : List T_api_Rat) (x10 : Int) (x11 : Int) (r4_0_0 : Bool) (r5_0_0 : Bool) (r5_0_1 : List Int) (r5_0_2 : List Int) (z_0 : Bool) (z_1 : List Int) (z_2 : List Int) : Prop := ∀ j jb vs, W C F 40 0 (fail_chance_l0_s x1 x9 x10 x11 r4_0_0 r5_0_0 r5_0_1 r5_0_2  j jb vs) (Ans C Try.f40 (.agg [(.bool z_0), (.ints .u64 z_1), (.ints .u64 z_2)]))
theorem fail_chance_l0_go {x1 : Int} {x9 : List T_api_Rat} {x10 : Int} {x11 : Int} {r4_0_0 : Bool} {r5_0_0 : Bool} {r5_0_1 : List Int} {r5_0_2 : List Int} {z_0 : Bool} {z_1 : List Int} {z_2 : List Int} (H : ((x11 < x10 ∧ (0 ≤ x11 ∧ (x11 < (x9.length : Int) ∧ (∃ e6 : Bool, (∃ e7 : List Int, (∃ e8 : List Int, (x9.getD (x11).toNat (false, [], []) = (e6, e7, e8) ∧ (((bits .and .u64 (x1 / 2 ^ (min (x11).toNat 64)) 1) = 1 ∧ (∃ c11_0 : Bool, (∃ c11_1 : List Int, (∃ c11_2 : List Int, (fold_Not_R e6 e7 e8 c11_0 c11_1 c11_2 ∧ (∃ c13_0 : Bool, (∃ c13_1 : List Int, (∃ c13_2 : List Int, (rat_Mul_R r5_0_0 r5_0_1 r5_0_2 c11_0 c11_1 c11_2 c13_0 c13_1 c13_2 ∧ (fail_chance_l0 x1 x9 x10 (wi (x11 + 1)) r4_0_0 c13_0 c13_1 c13_2 z_0 z_1 z_2)))))))))) ∨ (¬ (bits .and .u64 (x1 / 2 ^ (min (x11).toNat 64)) 1) = 1 ∧ (∃ c15_0 : Bool, (∃ c15_1 : List Int, (∃ c15_2 : List Int, (rat_Mul_R r5_0_0 r5_0_1 r5_0_2 e6 e7 e8 c15_0 c15_1 c15_2 ∧ (fail_chance_l0 x1 x9 x10 (wi (x11 + 1)) r4_0_0 c15_0 c15_1 c15_2 z_0 z_1 z_2)))))))))))))) ∨ (¬ x11 < x10 ∧ (z_0 = r5_0_0 ∧ z_1 = r5_0_1 ∧ z_2 = r5_0_2)))) : fail_chance_l0 x1 x9 x10 x11 r4_0_0 r5_0_0 r5_0_1 r5_0_2 z_0 z_1 z_2 := by
  intro j jb vs
  refine W.adv 1 ?_
  refine W.adv 6 ?_
  rcases H with ⟨h3, H⟩ | ⟨h3, H⟩
  · refine W.cond true (w := (decide (x11 < x10))) (by kernel_rfl) (decide_eq_true h3) ?_
    refine W.adv 7 ?_
    obtain ⟨h4, h5, H⟩ := H
    obtain ⟨e6, e7, e8, he9, H⟩ := H
    refine W.opS (OpIs.ixE (enc := E_api_Rat) (n := 3) (k' := .i64) (L := x9) (i := x11) (d0 := (false, [], [])) (x := (e6, e7, e8)) (by kernel_rfl) h4 h5 he9) ?_
    refine W.adv 3 ?_
    refine W.opH (OpIs.stV (b := 7) (v := ((jb 7).ver + 1)) (i := 0) (off := 0) (w := ((jb 7).ver + 1)) (n := 3) (s := 3) (xs := [(.agg [(.bool false), .nilS, .nilS])]) (ys := [(.agg [(.bool e6), (.ints .u64 e7), (.ints .u64 e8)])]) (d := (.agg [(.bool false), .nilS, .nilS])) (y := (.agg [(.bool e6), (.ints .u64 e7), (.ints .u64 e8)])) (by kernel_rfl) rfl (by kernel_rfl) (by kernel_rfl) (Nat.le_of_ble_eq_true (by kernel_rfl)) (by kernel_rfl) (by kernel_rfl)) ?_
    refine W.adv 7 ?_
    refine W.opS (OpIs.bn (op := .shr) (x := (.int .u64 x1)) (y := (.int .i64 x11)) (by kernel_rfl) (shrD h4)) ?_
    refine W.adv 4 ?_
    rcases H with ⟨h10, H⟩ | ⟨h10, H⟩
    · refine W.cond true (w := (decide ((bits .and .u64 (x1 / 2 ^ (min (x11).toNat 64)) 1) = 1))) (by kernel_rfl) (decide_eq_true h10) ?_
      refine W.adv 1 ?_
      refine W.opS (OpIs.ldV (b := 7) (v := ((jb 7).ver + 1)) (i := 0) (off := 0) (w := ((jb 7).ver + 1)) (n := 3) (s := 3) (fz := false) (a := true) (xs := [(.agg [(.bool e6), (.ints .u64 e7), (.ints .u64 e8)])]) (r := (.agg [(.bool e6), (.ints .u64 e7), (.ints .u64 e8)])) (by kernel_rfl) rfl (by kernel_rfl)) ?_
      obtain ⟨c11_0, c11_1, c11_2, hc12, H⟩ := H
      refine W.callR (g := 18) (ds := [(.agg [(.bool e6), (.ints .u64 e7), (.ints .u64 e8)])]) (es := [(.agg [(.bool e6), (.ints .u64 e7), (.ints .u64 e8)])]) (r := (.agg [(.bool c11_0), (.ints .u64 c11_1), (.ints .u64 c11_2)])) (by kernel_rfl) (by kernel_rfl) (Ic.args hc12 (by kernel_rfl)) (by kernel_rfl) ?_
      refine W.opH (OpIs.stV (b := 7) (v := ((jb 7).ver + 1)) (i := 0) (off := 0) (w := ((jb 7).ver + 1)) (n := 3) (s := 3) (xs := [(.agg [(.bool e6), (.ints .u64 e7), (.ints .u64 e8)])]) (ys := [(.agg [(.bool c11_0), (.ints .u64 c11_1), (.ints .u64 c11_2)])]) (d := (.agg [(.bool e6), (.ints .u64 e7), (.ints .u64 e8)])) (y := (.agg [(.bool c11_0), (.ints .u64 c11_1), (.ints .u64 c11_2)])) (by kernel_rfl) rfl (by kernel_rfl) (by kernel_rfl) (Nat.le_of_ble_eq_true (by kernel_rfl)) (by kernel_rfl) (by kernel_rfl)) ?_
      refine W.adv 4 ?_
      refine W.opS (OpIs.ldV (b := 7) (v := ((jb 7).ver + 1)) (i := 0) (off := 0) (w := ((jb 7).ver + 1)) (n := 3) (s := 3) (fz := false) (a := true) (xs := [(.agg [(.bool c11_0), (.ints .u64 c11_1), (.ints .u64 c11_2)])]) (r := (.agg [(.bool c11_0), (.ints .u64 c11_1), (.ints .u64 c11_2)])) (by kernel_rfl) rfl (by kernel_rfl)) ?_
      obtain ⟨c13_0, c13_1, c13_2, hc14, H⟩ := H
      refine W.callR (g := 58) (ds := [(.agg [(.bool r5_0_0), (.ints .u64 r5_0_1), (.ints .u64 r5_0_2)]), (.agg [(.bool c11_0), (.ints .u64 c11_1), (.ints .u64 c11_2)])]) (es := [(.agg [(.bool r5_0_0), (.ints .u64 r5_0_1), (.ints .u64 r5_0_2)]), (.agg [(.bool c11_0), (.ints .u64 c11_1), (.ints .u64 c11_2)])]) (r := (.agg [(.bool c13_0), (.ints .u64 c13_1), (.ints .u64 c13_2)])) (by kernel_rfl) (by kernel_rfl) (Ic.args hc14 (by kernel_rfl)) (by kernel_rfl) ?_
      refine W.adv 9 ?_
      exact W.to_loop (P := fail_chance_l0_s x1 x9 x10 (wi (x11 + 1)) r4_0_0 c13_0 c13_1 c13_2) (H ) (by kernel_rfl)
    · refine W.cond false (w := (decide ((bits .and .u64 (x1 / 2 ^ (min (x11).toNat 64)) 1) = 1))) (by kernel_rfl) (decide_eq_false h10) ?_
      refine W.adv 4 ?_
      refine W.opS (OpIs.ldV (b := 7) (v := ((jb 7).ver + 1)) (i := 0) (off := 0) (w := ((jb 7).ver + 1)) (n := 3) (s := 3) (fz := false) (a := true) (xs := [(.agg [(.bool e6), (.ints .u64 e7), (.ints .u64 e8)])]) (r := (.agg [(.bool e6), (.ints .u64 e7), (.ints .u64 e8)])) (by kernel_rfl) rfl (by kernel_rfl)) ?_
      obtain ⟨c15_0, c15_1, c15_2, hc16, H⟩ := H
      refine W.callR (g := 58) (ds := [(.agg [(.bool r5_0_0), (.ints .u64 r5_0_1), (.ints .u64 r5_0_2)]), (.agg [(.bool e6), (.ints .u64 e7), (.ints .u64 e8)])]) (es := [(.agg [(.bool r5_0_0), (.ints .u64 r5_0_1), (.ints .u64 r5_0_2)]), (.agg [(.bool e6), (.ints .u64 e7), (.ints .u64 e8)])]) (r := (.agg [(.bool c15_0), (.ints .u64 c15_1), (.ints .u64 c15_2)])) (by kernel_rfl) (by kernel_rfl) (Ic.args hc16 (by kernel_rfl)) (by kernel_rfl) ?_
      refine W.adv 9 ?_
      exact W.to_loop (P := fail_chance_l0_s x1 x9 x10 (wi (x11 + 1)) r4_0_0 c15_0 c15_1 c15_2) (H ) (by kernel_rfl)
  · refine W.cond false (w := (decide (x11 < x10))) (by kernel_rfl) (decide_eq_false h3) ?_
    refine W.adv 12 ?_
    exact W.fin (x := .ret) (by kernel_rfl) (Ans.of (d := (.agg [(.bool r5_0_0), (.ints .u64 r5_0_1), (.ints .u64 r5_0_2)])) (d' := (.agg [(.bool r5_0_0), (.ints .u64 r5_0_1), (.ints .u64 r5_0_2)])) (e' := (.agg [(.bool r5_0_0), (.ints .u64 r5_0_1), (.ints .u64 r5_0_2)])) (by kernel_rfl) (by kernel_rfl) (by kernel_rfl) (by rw [H.1, H.2.1, H.2.2]))
theorem fail_chance_go {a0 : List T_api_Rat} {a1 : Int} {z_0 : Bool} {z_1 : List Int} {z_2 : List Int} (H : (∃ c1_0 : Bool, (∃ c1_1 : List Int, (∃ c1_2 : List Int, (rat_Of_R 1 c1_0 c1_1 c1_2 ∧ (fail_chance_l0 a1 a0 (a0.length : Int) 0 false c1_0 c1_1 c1_2 z_0 z_1 z_2)))))) : fail_chance_R a0 a1 z_0 z_1 z_2 := by
  refine W.ic (zs := [(.list 3 (a0.map E_api_Rat)), (.int .u64 a1)]) Try.func40 (by kernel_rfl) (by kernel_rfl) (by kernel_rfl) (by kernel_rfl) ?_
  refine W.adv 7 ?_
  obtain ⟨c1_0, c1_1, c1_2, hc2, H⟩ := H
  refine W.callR (g := 11) (ds := [(.int .i64 1)]) (es := [(.int .i64 1)]) (r := (.agg [(.bool c1_0), (.ints .u64 c1_1), (.ints .u64 c1_2)])) (by kernel_rfl) (by kernel_rfl) (Ic.args hc2 (by kernel_rfl)) (by kernel_rfl) ?_
  refine W.adv 8 ?_
  refine W.opS (OpIs.ln (n := (a0.map E_api_Rat).length) (m := a0.length) (by kernel_rfl) (by rw [List.length_map])) ?_
  refine W.adv 4 ?_
  exact W.to_loop (P := fail_chance_l0_s a1 a0 (a0.length : Int) 0 false c1_0 c1_1 c1_2) (H ) (by kernel_rfl)
/-! ### trivium/fail.right$1 -/
theorem fail_right_1_go {a0_0 : Bool} {a0_1 : List Int} {a0_2 : List Int} {z : Bool} (H : (∃ c1 : Int, (rat_Sign_R a0_0 a0_1 a0_2 c1 ∧ ((c1 < 0 ∧ (z = true)) ∨ (¬ c1 < 0 ∧ (∃ c4_0 : Bool, (∃ c4_1 : List Int, (∃ c4_2 : List Int, (rat_Of_R 1 c4_0 c4_1 c4_2 ∧ (∃ c6 : Int, (rat_Cmp_R a0_0 a0_1 a0_2 c4_0 c4_1 c4_2 c6 ∧ (z = (decide (0 < c6)))))))))))))) : fail_right_1_R a0_0 a0_1 a0_2 z := by
  refine W.ic (zs := [(.agg [(.bool a0_0), (.ints .u64 a0_1), (.ints .u64 a0_2)])]) Try.func78 (by kernel_rfl) (by kernel_rfl) (by kernel_rfl) (by kernel_rfl) ?_
  refine W.adv 9 ?_
  obtain ⟨c1, hc2, H⟩ := H
  refine W.callR (g := 41) (ds := [(.agg [(.bool a0_0), (.ints .u64 a0_1), (.ints .u64 a0_2)])]) (es := [(.agg [(.bool a0_0), (.ints .u64 a0_1), (.ints .u64 a0_2)])]) (r := (.int .i64 c1)) (by kernel_rfl) (by kernel_rfl) (Ic.args hc2 (by kernel_rfl)) (by kernel_rfl) ?_
  refine W.adv 2 ?_
  rcases H with ⟨h3, H⟩ | ⟨h3, H⟩
  · refine W.guard false (w := ((decide (c1 < 0)) == false)) (by kernel_rfl) (congrArg (fun b => b == false) (decide_eq_true h3)) ?_
    refine W.guard false (w := ((decide (c1 < 0)) == false)) (by kernel_rfl) (congrArg (fun b => b == false) (decide_eq_true h3)) ?_
    refine W.guard false (w := ((decide (c1 < 0)) == false)) (by kernel_rfl) (congrArg (fun b => b == false) (decide_eq_true h3)) ?_
    refine W.guard false (w := ((decide (c1 < 0)) == false)) (by kernel_rfl) (congrArg (fun b => b == false) (decide_eq_true h3)) ?_
    refine W.opS (OpIs.pk true (t := (decide (c1 < 0))) (x := (.bool true)) (y := (.tuple [])) (by kernel_rfl) (decide_eq_true h3)) ?_
    refine W.adv 4 ?_
    exact W.fin (x := .ret) (by kernel_rfl) (Ans.of (d := (.bool true)) (d' := (.bool true)) (e' := (.bool true)) (by kernel_rfl) (by kernel_rfl) (by kernel_rfl) (by rw [H]))
  · refine W.guard true (w := ((decide (c1 < 0)) == false)) (by kernel_rfl) (congrArg (fun b => b == false) (decide_eq_false h3)) ?_
    refine W.adv 1 ?_
    refine W.guard true (w := ((decide (c1 < 0)) == false)) (by kernel_rfl) (congrArg (fun b => b == false) (decide_eq_false h3)) ?_
    obtain ⟨c4_0, c4_1, c4_2, hc5, H⟩ := H
    refine W.callR (g := 11) (ds := [(.int .i64 1)]) (es := [(.int .i64 1)]) (r := (.agg [(.bool c4_0), (.ints .u64 c4_1), (.ints .u64 c4_2)])) (by kernel_rfl) (by kernel_rfl) (Ic.args hc5 (by kernel_rfl)) (by kernel_rfl) ?_
    refine W.guard true (w := ((decide (c1 < 0)) == false)) (by kernel_rfl) (congrArg (fun b => b == false) (decide_eq_false h3)) ?_
    obtain ⟨c6, hc7, H⟩ := H
    refine W.callR (g := 37) (ds := [(.agg [(.bool a0_0), (.ints .u64 a0_1), (.ints .u64 a0_2)]), (.agg [(.bool c4_0), (.ints .u64 c4_1), (.ints .u64 c4_2)])]) (es := [(.agg [(.bool a0_0), (.ints .u64 a0_1), (.ints .u64 a0_2)]), (.agg [(.bool c4_0), (.ints .u64 c4_1), (.ints .u64 c4_2)])]) (r := (.int .i64 c6)) (by kernel_rfl) (by kernel_rfl) (Ic.args hc7 (by kernel_rfl)) (by kernel_rfl) ?_
    refine W.guard true (w := ((decide (c1 < 0)) == false)) (by kernel_rfl) (congrArg (fun b => b == false) (decide_eq_false h3)) ?_
    refine W.adv 1 ?_
    refine W.opS (OpIs.pk false (t := (decide (c1 < 0))) (x := (.bool true)) (y := (.bool (decide (0 < c6)))) (by kernel_rfl) (decide_eq_false h3)) ?_
    refine W.adv 4 ?_
    exact W.fin (x := .ret) (by kernel_rfl) (Ans.of (d := (.bool (decide (0 < c6)))) (d' := (.bool (decide (0 < c6)))) (e' := (.bool (decide (0 < c6)))) (by kernel_rfl) (by kernel_rfl) (by kernel_rfl) (by rw [H]))
/-! ### slices.ContainsFunc[[]trivium/api.Rat,trivium/api.Rat] -/
theorem slices_ContainsFunc___api_Rat_api_Rat__v0_go {a0 : List T_api_Rat} {z : Bool} (H : (∃ c1 : Int, (slices_IndexFunc___api_Rat_api_Rat__v0_R a0 c1 ∧ (z = (decide (0 ≤ c1)))))) : slices_ContainsFunc___api_Rat_api_Rat__v0_R a0 z := by
  refine W.ic (zs := [(.list 3 (a0.map E_api_Rat)), (.fn 78 [] [])]) Try.func77 (by kernel_rfl) (by kernel_rfl) (by kernel_rfl) (by kernel_rfl) ?_
  refine W.adv 9 ?_
  obtain ⟨c1, hc2, H⟩ := H
  refine W.callR (g := 98) (ds := [(.list 3 (a0.map E_api_Rat)), (.fn 78 [] [])]) (es := [(.list 3 (a0.map E_api_Rat)), (.fn 78 [] [])]) (r := (.int .i64 c1)) (by kernel_rfl) (by kernel_rfl) (Ic.args hc2 (by kernel_rfl)) (by kernel_rfl) ?_
  refine W.adv 5 ?_
  exact W.fin (x := .ret) (by kernel_rfl) (Ans.of (d := (.bool (decide (0 ≤ c1)))) (d' := (.bool (decide (0 ≤ c1)))) (e' := (.bool (decide (0 ≤ c1)))) (by kernel_rfl) (by kernel_rfl) (by kernel_rfl) (by rw [H]))
/-! ### slices.IndexFunc[[]trivium/api.Rat,trivium/api.Rat] -/
noncomputable def slices_IndexFunc___api_Rat_api_Rat__v0_l0_s (x0 : List T_api_Rat) (x7 : Int) (x8 : Int) (j : Nat → D) (jb : Nat → Blk) (vs : Nat → Nat) : Cf := cfAt Try.f98 [1, 0, 1, 0] ⟨[(.list 3 (x0.map E_api_Rat)), (.fn 78 [] []), (j 2), (j 3), (j 4), (j 5), (j 6), (.int .i64 x7), (.int .i64 x8), (j 9), (j 10), (j 11), (j 12), (j 13), (j 14), (j 15), (j 16), (j 17), (j 18)], [(jb 0), (jb 1), (jb 2), (jb 3), (jb 4), (jb 5), (jb 6), (jb 7), (jb 8), (jb 9), (jb 10), (jb 11), (jb 12), (jb 13), (jb 14), (jb 15), (jb 16), (jb 17), (jb 18)]⟩
def slices_IndexFunc___api_Rat_api_Rat__v0_l0 (x0 : List T_api_Rat) (x7 : Int) (x8 : Int) (z : Int) : Prop := ∀ j jb vs, W C F 98 0 (slices_IndexFunc___api_Rat_api_Rat__v0_l0_s x0 x7 x8  j jb vs) (Ans C Try.f98 (.int .i64 z))
theorem slices_IndexFunc___api_Rat_api_Rat__v0_l0_go {x0 : List T_api_Rat} {x7 : Int} {x8 : Int} {z : Int} (H : ((x8 < x7 ∧ (0 ≤ x8 ∧ (x8 < (x0.length : Int) ∧ (∃ e4 : Bool, (∃ e5 : List Int, (∃ e6 : List Int, (x0.getD (x8).toNat (false, [], []) = (e4, e5, e6) ∧ (∃ c8 : Bool, (fail_right_1_R e4 e5 e6 c8 ∧ ((c8 = true ∧ (z = x8)) ∨ (¬ c8 = true ∧ (slices_IndexFunc___api_Rat_api_Rat__v0_l0 x0 x7 (wi (x8 + 1)) z)))))))))))) ∨ (¬ x8 < x7 ∧ (z = (-1))))) : slices_IndexFunc___api_Rat_api_Rat__v0_l0 x0 x7 x8 z := by
  intro j jb vs
  refine W.adv 1 ?_
  refine W.adv 6 ?_
  rcases H with ⟨h1, H⟩ | ⟨h1, H⟩
  · refine W.cond true (w := (decide (x8 < x7))) (by kernel_rfl) (decide_eq_true h1) ?_
    refine W.adv 15 ?_
    obtain ⟨h2, h3, H⟩ := H
    obtain ⟨e4, e5, e6, he7, H⟩ := H
    refine W.opS (OpIs.ixE (enc := E_api_Rat) (n := 3) (k' := .i64) (L := x0) (i := x8) (d0 := (false, [], [])) (x := (e4, e5, e6)) (by kernel_rfl) h2 h3 he7) ?_
    refine W.adv 1 ?_
    obtain ⟨c8, hc9, H⟩ := H
    refine W.callR (g := 78) (ds := [(.agg [(.bool e4), (.ints .u64 e5), (.ints .u64 e6)])]) (es := [(.agg [(.bool e4), (.ints .u64 e5), (.ints .u64 e6)])]) (r := (.bool c8)) (by kernel_rfl) (by kernel_rfl) (Ic.args hc9 (by kernel_rfl)) (by kernel_rfl) ?_
    refine W.adv 2 ?_
    rcases H with ⟨h10, H⟩ | ⟨h10, H⟩
    · refine W.cond true (w := c8) (by kernel_rfl) h10 ?_
      refine W.adv 12 ?_
      exact W.fin (x := .ret) (by kernel_rfl) (Ans.of (d := (.int .i64 x8)) (d' := (.int .i64 x8)) (e' := (.int .i64 x8)) (by kernel_rfl) (by kernel_rfl) (by kernel_rfl) (by rw [H]))
    · refine W.cond false (w := c8) (by kernel_rfl) (bfalse h10) ?_
      refine W.adv 8 ?_
      exact W.to_loop (P := slices_IndexFunc___api_Rat_api_Rat__v0_l0_s x0 x7 (wi (x8 + 1))) (H ) (by kernel_rfl)
  · refine W.cond false (w := (decide (x8 < x7))) (by kernel_rfl) (decide_eq_false h1) ?_
    refine W.adv 11 ?_
    exact W.fin (x := .ret) (by kernel_rfl) (Ans.of (d := (.int .i64 (-1))) (d' := (.int .i64 (-1))) (e' := (.int .i64 (-1))) (by kernel_rfl) (by kernel_rfl) (by kernel_rfl) (by rw [H]))
theorem slices_IndexFunc___api_Rat_api_Rat__v0_go {a0 : List T_api_Rat} {z : Int} (H : (slices_IndexFunc___api_Rat_api_Rat__v0_l0 a0 (a0.length : Int) 0 z)) : slices_IndexFunc___api_Rat_api_Rat__v0_R a0 z := by
  refine W.ic (zs := [(.list 3 (a0.map E_api_Rat)), (.fn 78 [] [])]) Try.func98 (by kernel_rfl) (by kernel_rfl) (by kernel_rfl) (by kernel_rfl) ?_
  refine W.adv 9 ?_
  refine W.opS (OpIs.ln (n := (a0.map E_api_Rat).length) (m := a0.length) (by kernel_rfl) (by rw [List.length_map])) ?_
  refine W.adv 4 ?_
  exact W.to_loop (P := slices_IndexFunc___api_Rat_api_Rat__v0_l0_s a0 (a0.length : Int) 0) (H ) (by kernel_rfl)
end Go.Proofs.YteepbjndbemcdaaA
