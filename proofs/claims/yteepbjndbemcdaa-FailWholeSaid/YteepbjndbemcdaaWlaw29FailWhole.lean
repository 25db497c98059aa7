/- Walks through the functions: what makes each relation true. -/
import Derived.Test.YteepbjndbemcdaaW0
set_option linter.unusedVariables false
set_option maxRecDepth 100000
namespace Go.Proofs.YteepbjndbemcdaaA
open Go Go.Proofs
/-! ### trivium/triviumlaw29.FailWhole -/
noncomputable def law29_FailWhole_l0_s (x5 : List T_api_Rat) (x7 : List T_fail_Case) (x11 : Int) (x12 : Int) (r9_0_0 : Bool) (r9_0_1 : List Int) (r9_0_2 : List Int) (r10_0_0 : Bool) (r10_0_1 : List Int) (r10_0_2 : List Int) (j : Nat → D) (jb : Nat → Blk) (vs : Nat → Nat) : Cf := cfAt Try.f3 [1, 1, 1, 1, 1, 1, 1, 0, 1, 0] ⟨[(j 0), (j 1), (j 2), (j 3), (j 4), (.list 3 (x5.map E_api_Rat)), (j 6), (.list 4 (x7.map E_fail_Case)), (j 8), (.pref 9 1 0 0), (.pref 10 1 0 0), (.int .i64 x11), (.int .i64 x12), (j 13), (j 14), (j 15), (j 16), (j 17), (j 18), (j 19), (j 20), (j 21), (j 22), (j 23), (j 24), (j 25), (j 26), (j 27), (j 28), (j 29), (j 30), (j 31), (j 32), (j 33), (j 34), (j 35), (j 36), (j 37), (j 38), (j 39), (j 40), (j 41), (j 42), (j 43), (j 44), (j 45), (j 46), (j 47), (j 48), (j 49), (j 50), (j 51), (j 52), (j 53), (j 54), (j 55), (j 56), (j 57), (j 58), (j 59), (j 60), (j 61), (j 62), (j 63), (j 64), (j 65), (j 66), (j 67), (j 68), (j 69), (j 70), (j 71), (j 72), (j 73), (j 74), (j 75), (j 76), (j 77), (j 78), (j 79), (j 80), (j 81), (j 82)], [(jb 0), (jb 1), (jb 2), (jb 3), (jb 4), (jb 5), (jb 6), (jb 7), (jb 8), ⟨1, false, .rows 3 [(.agg [(.bool r9_0_0), (.ints .u64 r9_0_1), (.ints .u64 r9_0_2)])]⟩, ⟨1, false, .rows 3 [(.agg [(.bool r10_0_0), (.ints .u64 r10_0_1), (.ints .u64 r10_0_2)])]⟩, (jb 11), (jb 12), (jb 13), (jb 14), (jb 15), (jb 16), (jb 17), (jb 18), (jb 19), (jb 20), (jb 21), (jb 22), (jb 23), (jb 24), (jb 25), (jb 26), (jb 27), (jb 28), (jb 29), (jb 30), (jb 31), (jb 32), (jb 33), (jb 34), (jb 35), (jb 36), (jb 37), (jb 38), (jb 39), (jb 40), (jb 41), (jb 42), (jb 43), (jb 44), (jb 45), (jb 46), (jb 47), (jb 48), (jb 49), (jb 50), (jb 51), (jb 52), (jb 53), (jb 54), (jb 55), (jb 56), (jb 57), (jb 58), (jb 59), (jb 60), (jb 61), (jb 62), (jb 63), (jb 64), (jb 65), (jb 66), (jb 67), (jb 68), (jb 69), (jb 70), (jb 71), (jb 72), (jb 73), (jb 74), (jb 75), (jb 76), (jb 77), (jb 78), (jb 79), (jb 80), (jb 81), (jb 82)]⟩
def law29_FailWhole_l0 (x5 : List T_api_Rat) (x7 : List T_fail_Case) (x11 : Int) (x12 : Int) (r9_0_0 : Bool) (r9_0_1 : List Int) (r9_0_2 : List Int) (r10_0_0 : Bool) (r10_0_1 : List Int) (r10_0_2 : List Int) (z : Bool) : Prop := ∀ j jb vs, W C F 3 0 (law29_FailWhole_l0_s x5 x7 x11 x12 r9_0_0 r9_0_1 r9_0_2 r10_0_0 r10_0_1 r10_0_2  j jb vs) (LAns C Try.f3 z)
theorem law29_FailWhole_l0_go {x5 : List T_api_Rat} {x7 : List T_fail_Case} {x11 : Int} {x12 : Int} {r9_0_0 : Bool} {r9_0_1 : List Int} {r9_0_2 : List Int} {r10_0_0 : Bool} {r10_0_1 : List Int} {r10_0_2 : List Int} {z : Bool} (H : ((x12 < (x7.length : Int) ∧ (0 ≤ x12 ∧ (∃ e17 : Int, (∃ e18 : Bool, (∃ e19 : List Int, (∃ e20 : List Int, (x7.getD (x12).toNat (0, false, [], []) = (e17, e18, e19, e20) ∧ (∃ c22_0 : Bool, (∃ c22_1 : List Int, (∃ c22_2 : List Int, (rat_Add_R r9_0_0 r9_0_1 r9_0_2 e18 e19 e20 c22_0 c22_1 c22_2 ∧ (∃ e24 : Int, (∃ e25 : Bool, (∃ e26 : List Int, (∃ e27 : List Int, (x7.getD (x12).toNat (0, false, [], []) = (e24, e25, e26, e27) ∧ (∃ c29 : List Int, (fail_Lives_R e24 (x5.length : Int) c29 ∧ (∃ c31 : Bool, (triviumbase_HasInt_R c29 x11 c31 ∧ ((c31 = true ∧ (∃ e34 : Int, (∃ e35 : Bool, (∃ e36 : List Int, (∃ e37 : List Int, (x7.getD (x12).toNat (0, false, [], []) = (e34, e35, e36, e37) ∧ (∃ c39_0 : Bool, (∃ c39_1 : List Int, (∃ c39_2 : List Int, (rat_Add_R r10_0_0 r10_0_1 r10_0_2 e35 e36 e37 c39_0 c39_1 c39_2 ∧ (law29_FailWhole_l0 x5 x7 x11 (wi (x12 + 1)) c22_0 c22_1 c22_2 c39_0 c39_1 c39_2 z))))))))))) ∨ (¬ c31 = true ∧ (law29_FailWhole_l0 x5 x7 x11 (wi (x12 + 1)) c22_0 c22_1 c22_2 r10_0_0 r10_0_1 r10_0_2 z))))))))))))))))))))))) ∨ (¬ x12 < (x7.length : Int) ∧ (∃ c41 : Bool, (rat_One_R r9_0_0 r9_0_1 r9_0_2 c41 ∧ ((c41 = true ∧ (((x5.length : Int) = 0 ∧ (z = true)) ∨ (¬ (x5.length : Int) = 0 ∧ (0 ≤ x11 ∧ (x11 < (x5.length : Int) ∧ (∃ e47 : Bool, (∃ e48 : List Int, (∃ e49 : List Int, (x5.getD (x11).toNat (false, [], []) = (e47, e48, e49) ∧ (∃ c51_0 : Bool, (∃ c51_1 : List Int, (∃ c51_2 : List Int, (fold_Not_R e47 e48 e49 c51_0 c51_1 c51_2 ∧ (∃ c53 : Bool, (rat_Same_R r10_0_0 r10_0_1 r10_0_2 c51_0 c51_1 c51_2 c53 ∧ (z = c53)))))))))))))))) ∨ (¬ c41 = true ∧ (z = false)))))))) : law29_FailWhole_l0 x5 x7 x11 x12 r9_0_0 r9_0_1 r9_0_2 r10_0_0 r10_0_1 r10_0_2 z := by
  intro j jb vs
  refine W.adv 1 ?_
  refine W.adv 5 ?_
  refine W.opS (OpIs.ln (n := (x7.map E_fail_Case).length) (m := x7.length) (by kernel_rfl) (by rw [List.length_map])) ?_
  refine W.adv 3 ?_
  rcases H with ⟨h15, H⟩ | ⟨h15, H⟩
  · refine W.cond true (w := (decide (x12 < (x7.length : Int)))) (by kernel_rfl) (decide_eq_true h15) ?_
    refine W.adv 9 ?_
    obtain ⟨h16, H⟩ := H
    obtain ⟨e17, e18, e19, e20, he21, H⟩ := H
    refine W.opS (OpIs.ixE (enc := E_fail_Case) (n := 4) (k' := .i64) (L := x7) (i := x12) (d0 := (0, false, [], [])) (x := (e17, e18, e19, e20)) (by kernel_rfl) h16 h15 he21) ?_
    refine W.adv 2 ?_
    obtain ⟨c22_0, c22_1, c22_2, hc23, H⟩ := H
    refine W.callR (g := 13) (ds := [(.agg [(.bool r9_0_0), (.ints .u64 r9_0_1), (.ints .u64 r9_0_2)]), (.agg [(.bool e18), (.ints .u64 e19), (.ints .u64 e20)])]) (es := [(.agg [(.bool r9_0_0), (.ints .u64 r9_0_1), (.ints .u64 r9_0_2)]), (.agg [(.bool e18), (.ints .u64 e19), (.ints .u64 e20)])]) (r := (.agg [(.bool c22_0), (.ints .u64 c22_1), (.ints .u64 c22_2)])) (by kernel_rfl) (by kernel_rfl) (Ic.args hc23 (by kernel_rfl)) (by kernel_rfl) ?_
    refine W.adv 7 ?_
    obtain ⟨e24, e25, e26, e27, he28, H⟩ := H
    refine W.opS (OpIs.ixE (enc := E_fail_Case) (n := 4) (k' := .i64) (L := x7) (i := x12) (d0 := (0, false, [], [])) (x := (e24, e25, e26, e27)) (by kernel_rfl) h16 h15 he28) ?_
    refine W.adv 3 ?_
    refine W.opS (OpIs.ln (n := (x5.map E_api_Rat).length) (m := x5.length) (by kernel_rfl) (by rw [List.length_map])) ?_
    obtain ⟨c29, hc30, H⟩ := H
    refine W.callR (g := 15) (ds := [(.int .u64 e24), (.int .i64 (x5.length : Int))]) (es := [(.int .u64 e24), (.int .i64 (x5.length : Int))]) (r := (.ints .i64 c29)) (by kernel_rfl) (by kernel_rfl) (Ic.args hc30 (by kernel_rfl)) (by kernel_rfl) ?_
    refine W.adv 1 ?_
    obtain ⟨c31, hc32, H⟩ := H
    refine W.callR (g := 14) (ds := [(.ints .i64 c29), (.int .i64 x11)]) (es := [(.ints .i64 c29), (.int .i64 x11)]) (r := (.bool c31)) (by kernel_rfl) (by kernel_rfl) (Ic.args hc32 (by kernel_rfl)) (by kernel_rfl) ?_
    refine W.adv 2 ?_
    rcases H with ⟨h33, H⟩ | ⟨h33, H⟩
    · refine W.cond true (w := c31) (by kernel_rfl) h33 ?_
      refine W.adv 4 ?_
      obtain ⟨e34, e35, e36, e37, he38, H⟩ := H
      refine W.opS (OpIs.ixE (enc := E_fail_Case) (n := 4) (k' := .i64) (L := x7) (i := x12) (d0 := (0, false, [], [])) (x := (e34, e35, e36, e37)) (by kernel_rfl) h16 h15 he38) ?_
      refine W.adv 2 ?_
      obtain ⟨c39_0, c39_1, c39_2, hc40, H⟩ := H
      refine W.callR (g := 13) (ds := [(.agg [(.bool r10_0_0), (.ints .u64 r10_0_1), (.ints .u64 r10_0_2)]), (.agg [(.bool e35), (.ints .u64 e36), (.ints .u64 e37)])]) (es := [(.agg [(.bool r10_0_0), (.ints .u64 r10_0_1), (.ints .u64 r10_0_2)]), (.agg [(.bool e35), (.ints .u64 e36), (.ints .u64 e37)])]) (r := (.agg [(.bool c39_0), (.ints .u64 c39_1), (.ints .u64 c39_2)])) (by kernel_rfl) (by kernel_rfl) (Ic.args hc40 (by kernel_rfl)) (by kernel_rfl) ?_
      refine W.adv 10 ?_
      exact W.to_loop (P := law29_FailWhole_l0_s x5 x7 x11 (wi (x12 + 1)) c22_0 c22_1 c22_2 c39_0 c39_1 c39_2) (H ) (by kernel_rfl)
    · refine W.cond false (w := c31) (by kernel_rfl) (bfalse h33) ?_
      refine W.adv 9 ?_
      exact W.to_loop (P := law29_FailWhole_l0_s x5 x7 x11 (wi (x12 + 1)) c22_0 c22_1 c22_2 r10_0_0 r10_0_1 r10_0_2) (H ) (by kernel_rfl)
  · refine W.cond false (w := (decide (x12 < (x7.length : Int)))) (by kernel_rfl) (decide_eq_false h15) ?_
    refine W.adv 8 ?_
    obtain ⟨c41, hc42, H⟩ := H
    refine W.callR (g := 16) (ds := [(.agg [(.bool r9_0_0), (.ints .u64 r9_0_1), (.ints .u64 r9_0_2)])]) (es := [(.agg [(.bool r9_0_0), (.ints .u64 r9_0_1), (.ints .u64 r9_0_2)])]) (r := (.bool c41)) (by kernel_rfl) (by kernel_rfl) (Ic.args hc42 (by kernel_rfl)) (by kernel_rfl) ?_
    refine W.adv 1 ?_
    rcases H with ⟨h43, H⟩ | ⟨h43, H⟩
    · refine W.guard true (w := (c41 == true)) (by kernel_rfl) (congrArg (fun b => b == true) h43) ?_
      refine W.adv 1 ?_
      refine W.guard true (w := (c41 == true)) (by kernel_rfl) (congrArg (fun b => b == true) h43) ?_
      refine W.opS (OpIs.ln (n := (x5.map E_api_Rat).length) (m := x5.length) (by kernel_rfl) (by rw [List.length_map])) ?_
      refine W.guard true (w := (c41 == true)) (by kernel_rfl) (congrArg (fun b => b == true) h43) ?_
      refine W.adv 1 ?_
      refine W.guard true (w := (c41 == true)) (by kernel_rfl) (congrArg (fun b => b == true) h43) ?_
      refine W.adv 1 ?_
      rcases H with ⟨h44, H⟩ | ⟨h44, H⟩
      · refine W.guard false (w := ((decide ((x5.length : Int) = 0)) == false)) (by kernel_rfl) (congrArg (fun b => b == false) (decide_eq_true h44)) ?_
        refine W.guard false (w := ((decide ((x5.length : Int) = 0)) == false)) (by kernel_rfl) (congrArg (fun b => b == false) (decide_eq_true h44)) ?_
        refine W.guard false (w := ((decide ((x5.length : Int) = 0)) == false)) (by kernel_rfl) (congrArg (fun b => b == false) (decide_eq_true h44)) ?_
        refine W.guard false (w := ((decide ((x5.length : Int) = 0)) == false)) (by kernel_rfl) (congrArg (fun b => b == false) (decide_eq_true h44)) ?_
        refine W.guard false (w := ((decide ((x5.length : Int) = 0)) == false)) (by kernel_rfl) (congrArg (fun b => b == false) (decide_eq_true h44)) ?_
        refine W.guard false (w := ((decide ((x5.length : Int) = 0)) == false)) (by kernel_rfl) (congrArg (fun b => b == false) (decide_eq_true h44)) ?_
        refine W.guard false (w := ((decide ((x5.length : Int) = 0)) == false)) (by kernel_rfl) (congrArg (fun b => b == false) (decide_eq_true h44)) ?_
        refine W.guard true (w := (c41 == true)) (by kernel_rfl) (congrArg (fun b => b == true) h43) ?_
        refine W.opS (OpIs.pk true (t := (decide ((x5.length : Int) = 0))) (x := (.bool true)) (y := (.tuple [])) (by kernel_rfl) (decide_eq_true h44)) ?_
        refine W.opS (OpIs.pk true (t := c41) (x := (.bool true)) (y := (.bool false)) (by kernel_rfl) h43) ?_
        refine W.adv 4 ?_
        exact W.fin (x := .ret) (by kernel_rfl) (LAns.of (d := (.bool true)) (by kernel_rfl) (by rw [H]))
      · refine W.guard true (w := ((decide ((x5.length : Int) = 0)) == false)) (by kernel_rfl) (congrArg (fun b => b == false) (decide_eq_false h44)) ?_
        refine W.adv 1 ?_
        refine W.guard true (w := ((decide ((x5.length : Int) = 0)) == false)) (by kernel_rfl) (congrArg (fun b => b == false) (decide_eq_false h44)) ?_
        refine W.adv 1 ?_
        refine W.guard true (w := ((decide ((x5.length : Int) = 0)) == false)) (by kernel_rfl) (congrArg (fun b => b == false) (decide_eq_false h44)) ?_
        refine W.adv 1 ?_
        refine W.guard true (w := ((decide ((x5.length : Int) = 0)) == false)) (by kernel_rfl) (congrArg (fun b => b == false) (decide_eq_false h44)) ?_
        obtain ⟨h45, h46, H⟩ := H
        obtain ⟨e47, e48, e49, he50, H⟩ := H
        refine W.opS (OpIs.ixE (enc := E_api_Rat) (n := 3) (k' := .i64) (L := x5) (i := x11) (d0 := (false, [], [])) (x := (e47, e48, e49)) (by kernel_rfl) h45 h46 he50) ?_
        refine W.guard true (w := ((decide ((x5.length : Int) = 0)) == false)) (by kernel_rfl) (congrArg (fun b => b == false) (decide_eq_false h44)) ?_
        refine W.adv 1 ?_
        refine W.guard true (w := ((decide ((x5.length : Int) = 0)) == false)) (by kernel_rfl) (congrArg (fun b => b == false) (decide_eq_false h44)) ?_
        obtain ⟨c51_0, c51_1, c51_2, hc52, H⟩ := H
        refine W.callR (g := 18) (ds := [(.agg [(.bool e47), (.ints .u64 e48), (.ints .u64 e49)])]) (es := [(.agg [(.bool e47), (.ints .u64 e48), (.ints .u64 e49)])]) (r := (.agg [(.bool c51_0), (.ints .u64 c51_1), (.ints .u64 c51_2)])) (by kernel_rfl) (by kernel_rfl) (Ic.args hc52 (by kernel_rfl)) (by kernel_rfl) ?_
        refine W.guard true (w := ((decide ((x5.length : Int) = 0)) == false)) (by kernel_rfl) (congrArg (fun b => b == false) (decide_eq_false h44)) ?_
        obtain ⟨c53, hc54, H⟩ := H
        refine W.callR (g := 17) (ds := [(.agg [(.bool r10_0_0), (.ints .u64 r10_0_1), (.ints .u64 r10_0_2)]), (.agg [(.bool c51_0), (.ints .u64 c51_1), (.ints .u64 c51_2)])]) (es := [(.agg [(.bool r10_0_0), (.ints .u64 r10_0_1), (.ints .u64 r10_0_2)]), (.agg [(.bool c51_0), (.ints .u64 c51_1), (.ints .u64 c51_2)])]) (r := (.bool c53)) (by kernel_rfl) (by kernel_rfl) (Ic.args hc54 (by kernel_rfl)) (by kernel_rfl) ?_
        refine W.guard true (w := (c41 == true)) (by kernel_rfl) (congrArg (fun b => b == true) h43) ?_
        refine W.opS (OpIs.pk false (t := (decide ((x5.length : Int) = 0))) (x := (.bool true)) (y := (.bool c53)) (by kernel_rfl) (decide_eq_false h44)) ?_
        refine W.opS (OpIs.pk true (t := c41) (x := (.bool c53)) (y := (.bool false)) (by kernel_rfl) h43) ?_
        refine W.adv 4 ?_
        exact W.fin (x := .ret) (by kernel_rfl) (LAns.of (d := (.bool c53)) (by kernel_rfl) (by rw [H]))
    · refine W.guard false (w := (c41 == true)) (by kernel_rfl) (congrArg (fun b => b == true) (bfalse h43)) ?_
      refine W.guard false (w := (c41 == true)) (by kernel_rfl) (congrArg (fun b => b == true) (bfalse h43)) ?_
      refine W.guard false (w := (c41 == true)) (by kernel_rfl) (congrArg (fun b => b == true) (bfalse h43)) ?_
      refine W.guard false (w := (c41 == true)) (by kernel_rfl) (congrArg (fun b => b == true) (bfalse h43)) ?_
      refine W.adv 7 ?_
      refine W.guard false (w := (c41 == true)) (by kernel_rfl) (congrArg (fun b => b == true) (bfalse h43)) ?_
      refine W.opS (OpIs.pk false (t := c41) (x := (.tuple [])) (y := (.bool false)) (by kernel_rfl) (bfalse h43)) ?_
      refine W.adv 4 ?_
      exact W.fin (x := .ret) (by kernel_rfl) (LAns.of (d := (.bool false)) (by kernel_rfl) (by rw [H]))
theorem law29_FailWhole_go {a0 : List T_api_Rat} {a1 : Int} {z : Bool} (H : (∃ c1 : Bool, (law29_works_R c1 ∧ ((c1 = true ∧ (∃ c4t0 : List T_api_Rat, (∃ c4t1 : List T_ref08_Q, (law29_few_R a0 6 c4t0 c4t1 ∧ (∃ c6t0 : List T_fail_Case, (∃ c6t1 : Int, (fail_All_R c4t0 c6t0 c6t1 ∧ ((c6t1 = 0 ∧ (∃ c9_0 : Bool, (∃ c9_1 : List Int, (∃ c9_2 : List Int, (rat_Of_R 0 c9_0 c9_1 c9_2 ∧ (∃ c11_0 : Bool, (∃ c11_1 : List Int, (∃ c11_2 : List Int, (rat_Of_R 0 c11_0 c11_1 c11_2 ∧ (∃ c13 : Int, (triviumbase_Among_R a1 (mx (c4t0.length : Int) 1) c13 ∧ (law29_FailWhole_l0 c4t0 c6t0 c13 0 c9_0 c9_1 c9_2 c11_0 c11_1 c11_2 z)))))))))))) ∨ (¬ c6t1 = 0 ∧ (z = (decide ((c6t0.length : Int) = 0)))))))))))) ∨ (¬ c1 = true ∧ (z = false)))))) : law29_FailWhole_R a0 a1 z := by
  refine W.lawIs (zs := [(.list 3 (a0.map E_api_Rat)), (.int .i64 a1)]) Try.func3 (by kernel_rfl) (by kernel_rfl) (by kernel_rfl) ?_
  refine W.adv 8 ?_
  obtain ⟨c1, hc2, H⟩ := H
  refine W.callR (g := 8) (ds := []) (es := []) (r := (.bool c1)) (by kernel_rfl) (by kernel_rfl) (Ic.args hc2 (by kernel_rfl)) (by kernel_rfl) ?_
  refine W.adv 3 ?_
  rcases H with ⟨h3, H⟩ | ⟨h3, H⟩
  · refine W.cond false (w := (!c1)) (by kernel_rfl) (congrArg (fun b => !b) h3) ?_
    refine W.adv 5 ?_
    obtain ⟨c4t0, c4t1, hc5, H⟩ := H
    refine W.callR (g := 9) (ds := [(.list 3 (a0.map E_api_Rat)), (.int .i64 6)]) (es := [(.list 3 (a0.map E_api_Rat)), (.int .i64 6)]) (r := (.tuple [(.list 3 (c4t0.map E_api_Rat)), (.list 3 (c4t1.map E_ref08_Q))])) (by kernel_rfl) (by kernel_rfl) (Ic.args hc5 (by kernel_rfl)) (by kernel_rfl) ?_
    refine W.adv 10 ?_
    obtain ⟨c6t0, c6t1, hc7, H⟩ := H
    refine W.callR (g := 10) (ds := [(.list 3 (c4t0.map E_api_Rat))]) (es := [(.list 3 (c4t0.map E_api_Rat))]) (r := (.tuple [(.list 4 (c6t0.map E_fail_Case)), (.int .i64 c6t1)])) (by kernel_rfl) (by kernel_rfl) (Ic.args hc7 (by kernel_rfl)) (by kernel_rfl) ?_
    refine W.adv 14 ?_
    rcases H with ⟨h8, H⟩ | ⟨h8, H⟩
    · refine W.cond false (w := (!(decide (c6t1 = 0)))) (by kernel_rfl) (congrArg (fun b => !b) (decide_eq_true h8)) ?_
      refine W.adv 4 ?_
      obtain ⟨c9_0, c9_1, c9_2, hc10, H⟩ := H
      refine W.callR (g := 11) (ds := [(.int .i64 0)]) (es := [(.int .i64 0)]) (r := (.agg [(.bool c9_0), (.ints .u64 c9_1), (.ints .u64 c9_2)])) (by kernel_rfl) (by kernel_rfl) (Ic.args hc10 (by kernel_rfl)) (by kernel_rfl) ?_
      obtain ⟨c11_0, c11_1, c11_2, hc12, H⟩ := H
      refine W.callR (g := 11) (ds := [(.int .i64 0)]) (es := [(.int .i64 0)]) (r := (.agg [(.bool c11_0), (.ints .u64 c11_1), (.ints .u64 c11_2)])) (by kernel_rfl) (by kernel_rfl) (Ic.args hc12 (by kernel_rfl)) (by kernel_rfl) ?_
      refine W.adv 10 ?_
      refine W.opS (OpIs.ln (n := (c4t0.map E_api_Rat).length) (m := c4t0.length) (by kernel_rfl) (by rw [List.length_map])) ?_
      refine W.adv 1 ?_
      obtain ⟨c13, hc14, H⟩ := H
      refine W.callR (g := 12) (ds := [(.int .i64 a1), (.int .i64 (mx (c4t0.length : Int) 1))]) (es := [(.int .i64 a1), (.int .i64 (mx (c4t0.length : Int) 1))]) (r := (.int .i64 c13)) (by kernel_rfl) (by kernel_rfl) (Ic.args hc14 (by kernel_rfl)) (by kernel_rfl) ?_
      refine W.adv 10 ?_
      exact W.to_loop (P := law29_FailWhole_l0_s c4t0 c6t0 c13 0 c9_0 c9_1 c9_2 c11_0 c11_1 c11_2) (H ) (by kernel_rfl)
    · refine W.cond true (w := (!(decide (c6t1 = 0)))) (by kernel_rfl) (congrArg (fun b => !b) (decide_eq_false h8)) ?_
      refine W.adv 3 ?_
      refine W.opS (OpIs.ln (n := (c6t0.map E_fail_Case).length) (m := c6t0.length) (by kernel_rfl) (by rw [List.length_map])) ?_
      refine W.adv 6 ?_
      exact W.fin (x := .ret) (by kernel_rfl) (LAns.of (d := (.bool (decide ((c6t0.length : Int) = 0)))) (by kernel_rfl) (by rw [H]))
  · refine W.cond true (w := (!c1)) (by kernel_rfl) (congrArg (fun b => !b) (bfalse h3)) ?_
    refine W.adv 7 ?_
    exact W.fin (x := .ret) (by kernel_rfl) (LAns.of (d := (.bool false)) (by kernel_rfl) (by rw [H]))
end Go.Proofs.YteepbjndbemcdaaA
