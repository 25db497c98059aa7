/- Walks through the functions: what makes each relation true. -/
import Derived.Test.YteepbjndbemcdaaW0
set_option linter.unusedVariables false
set_option maxRecDepth 100000
namespace Go.Proofs.YteepbjndbemcdaaA
open Go Go.Proofs
/-! ### trivium/triviumlaw10.FoldEnds -/
noncomputable def law10_FoldEnds_l0_s (x4 : List T_ref08_Q) (x6 : Int) (x8 : Int) (x11 : Int) (r5_0_0 : Bool) (r5_0_1 : List Int) (r5_0_2 : List Int) (r7_0_0 : Bool) (r7_0_1 : List Int) (r7_0_2 : List Int) (r9_0_0 : Bool) (r9_0_1 : List Int) (r9_0_2 : List Int) (r10_0_0 : Bool) (r10_0_1 : List Int) (r10_0_2 : List Int) (j : Nat → D) (jb : Nat → Blk) (vs : Nat → Nat) : Cf := cfAt Try.f5 [1, 1, 1, 1, 1, 1, 0, 1, 0] ⟨[(j 0), (j 1), (j 2), (j 3), (.list 3 (x4.map E_ref08_Q)), (.pref 5 1 0 0), (.int .i64 x6), (.pref 7 1 0 0), (.int .i64 x8), (.pref 9 1 0 0), (.pref 10 1 0 0), (.int .i64 x11), (j 12), (j 13), (j 14), (j 15), (j 16), (j 17), (j 18), (j 19), (j 20), (j 21), (j 22), (j 23), (j 24), (j 25), (j 26), (j 27), (j 28), (j 29), (j 30), (j 31), (j 32), (j 33), (j 34), (j 35), (j 36), (j 37), (j 38), (j 39), (j 40), (j 41), (j 42), (j 43), (j 44), (j 45), (j 46), (j 47), (j 48), (j 49), (j 50), (j 51), (j 52), (j 53), (j 54), (j 55), (j 56), (j 57), (j 58), (j 59), (j 60), (j 61), (j 62), (j 63), (j 64), (j 65), (j 66), (j 67), (j 68), (j 69), (j 70), (j 71), (j 72), (j 73), (j 74), (j 75), (j 76), (j 77), (j 78), (j 79), (j 80), (j 81), (j 82), (j 83), (j 84), (j 85), (j 86), (j 87), (j 88), (j 89), (j 90), (j 91), (j 92), (j 93), (j 94)], [(jb 0), (jb 1), (jb 2), (jb 3), (jb 4), ⟨1, false, .rows 3 [(.agg [(.bool r5_0_0), (.ints .u64 r5_0_1), (.ints .u64 r5_0_2)])]⟩, (jb 6), ⟨1, false, .rows 3 [(.agg [(.bool r7_0_0), (.ints .u64 r7_0_1), (.ints .u64 r7_0_2)])]⟩, (jb 8), ⟨1, false, .rows 3 [(.agg [(.bool r9_0_0), (.ints .i64 r9_0_1), (.ints .i64 r9_0_2)])]⟩, ⟨1, false, .rows 3 [(.agg [(.bool r10_0_0), (.ints .i64 r10_0_1), (.ints .i64 r10_0_2)])]⟩, (jb 11), (jb 12), (jb 13), (jb 14), (jb 15), (jb 16), (jb 17), (jb 18), (jb 19), (jb 20), (jb 21), (jb 22), (jb 23), (jb 24), (jb 25), (jb 26), (jb 27), (jb 28), (jb 29), (jb 30), (jb 31), (jb 32), (jb 33), (jb 34), (jb 35), (jb 36), (jb 37), (jb 38), (jb 39), (jb 40), (jb 41), (jb 42), (jb 43), (jb 44), (jb 45), (jb 46), (jb 47), (jb 48), (jb 49), (jb 50), (jb 51), (jb 52), (jb 53), (jb 54), (jb 55), (jb 56), (jb 57), (jb 58), (jb 59), (jb 60), (jb 61), (jb 62), (jb 63), (jb 64), (jb 65), (jb 66), (jb 67), (jb 68), (jb 69), (jb 70), (jb 71), (jb 72), (jb 73), (jb 74), (jb 75), (jb 76), (jb 77), (jb 78), (jb 79), (jb 80), (jb 81), (jb 82), (jb 83), (jb 84), (jb 85), (jb 86), (jb 87), (jb 88), (jb 89), (jb 90), (jb 91), (jb 92), (jb 93), (jb 94)]⟩
def law10_FoldEnds_l0 (x4 : List T_ref08_Q) (x6 : Int) (x8 : Int) (x11 : Int) (r5_0_0 : Bool) (r5_0_1 : List Int) (r5_0_2 : List Int) (r7_0_0 : Bool) (r7_0_1 : List Int) (r7_0_2 : List Int) (r9_0_0 : Bool) (r9_0_1 : List Int) (r9_0_2 : List Int) (r10_0_0 : Bool) (r10_0_1 : List Int) (r10_0_2 : List Int) (z : Bool) : Prop := ∀ j jb vs, W C F 5 0 (law10_FoldEnds_l0_s x4 x6 x8 x11 r5_0_0 r5_0_1 r5_0_2 r7_0_0 r7_0_1 r7_0_2 r9_0_0 r9_0_1 r9_0_2 r10_0_0 r10_0_1 r10_0_2  j jb vs) (LAns C Try.f5 z)
theorem law10_FoldEnds_l0_go {x4 : List T_ref08_Q} {x6 : Int} {x8 : Int} {x11 : Int} {r5_0_0 : Bool} {r5_0_1 : List Int} {r5_0_2 : List Int} {r7_0_0 : Bool} {r7_0_1 : List Int} {r7_0_2 : List Int} {r9_0_0 : Bool} {r9_0_1 : List Int} {r9_0_2 : List Int} {r10_0_0 : Bool} {r10_0_1 : List Int} {r10_0_2 : List Int} {z : Bool} (H : ((x11 < (x4.length : Int) ∧ (0 ≤ x11 ∧ (∃ e23 : Bool, (∃ e24 : List Int, (∃ e25 : List Int, (x4.getD (x11).toNat (false, [], []) = (e23, e24, e25) ∧ (∃ c27 : Int, (ref08_Cmp_R e23 e24 e25 r9_0_0 r9_0_1 r9_0_2 c27 ∧ ((c27 < 0 ∧ (∃ e30 : Bool, (∃ e31 : List Int, (∃ e32 : List Int, (x4.getD (x11).toNat (false, [], []) = (e30, e31, e32) ∧ (∃ e34 : Bool, (∃ e35 : List Int, (∃ e36 : List Int, (x4.getD (x11).toNat (false, [], []) = (e34, e35, e36) ∧ (∃ c38 : Int, (ref08_Cmp_R e34 e35 e36 r10_0_0 r10_0_1 r10_0_2 c38 ∧ ((0 < c38 ∧ (∃ e41 : Bool, (∃ e42 : List Int, (∃ e43 : List Int, (x4.getD (x11).toNat (false, [], []) = (e41, e42, e43) ∧ (law10_FoldEnds_l0 x4 x6 x8 (wi (x11 + 1)) r5_0_0 r5_0_1 r5_0_2 r7_0_0 r7_0_1 r7_0_2 e30 e31 e32 e41 e42 e43 z)))))) ∨ (¬ 0 < c38 ∧ (law10_FoldEnds_l0 x4 x6 x8 (wi (x11 + 1)) r5_0_0 r5_0_1 r5_0_2 r7_0_0 r7_0_1 r7_0_2 e30 e31 e32 r10_0_0 r10_0_1 r10_0_2 z)))))))))))))) ∨ (¬ c27 < 0 ∧ (∃ e45 : Bool, (∃ e46 : List Int, (∃ e47 : List Int, (x4.getD (x11).toNat (false, [], []) = (e45, e46, e47) ∧ (∃ c49 : Int, (ref08_Cmp_R e45 e46 e47 r10_0_0 r10_0_1 r10_0_2 c49 ∧ ((0 < c49 ∧ (∃ e52 : Bool, (∃ e53 : List Int, (∃ e54 : List Int, (x4.getD (x11).toNat (false, [], []) = (e52, e53, e54) ∧ (law10_FoldEnds_l0 x4 x6 x8 (wi (x11 + 1)) r5_0_0 r5_0_1 r5_0_2 r7_0_0 r7_0_1 r7_0_2 r9_0_0 r9_0_1 r9_0_2 e52 e53 e54 z)))))) ∨ (¬ 0 < c49 ∧ (law10_FoldEnds_l0 x4 x6 x8 (wi (x11 + 1)) r5_0_0 r5_0_1 r5_0_2 r7_0_0 r7_0_1 r7_0_2 r9_0_0 r9_0_1 r9_0_2 r10_0_0 r10_0_1 r10_0_2 z))))))))))))))))))) ∨ (¬ x11 < (x4.length : Int) ∧ ((x6 = 0 ∧ ((x8 = 0 ∧ (∃ c58_0 : Bool, (∃ c58_1 : List Int, (∃ c58_2 : List Int, (ref08_Back_R r9_0_0 r9_0_1 r9_0_2 c58_0 c58_1 c58_2 ∧ (∃ c60 : Bool, (ref08_Same_R r5_0_0 r5_0_1 r5_0_2 c58_0 c58_1 c58_2 c60 ∧ ((c60 = true ∧ (∃ c63_0 : Bool, (∃ c63_1 : List Int, (∃ c63_2 : List Int, (ref08_Back_R r10_0_0 r10_0_1 r10_0_2 c63_0 c63_1 c63_2 ∧ (∃ c65 : Bool, (ref08_Same_R r7_0_0 r7_0_1 r7_0_2 c63_0 c63_1 c63_2 c65 ∧ ((c65 = true ∧ (∃ c68 : Bool, (law10_works_R c68 ∧ (z = c68)))) ∨ (¬ c65 = true ∧ (z = false)))))))))) ∨ (¬ c60 = true ∧ (z = false)))))))))) ∨ (¬ x8 = 0 ∧ (z = false)))) ∨ (¬ x6 = 0 ∧ (z = false)))))) : law10_FoldEnds_l0 x4 x6 x8 x11 r5_0_0 r5_0_1 r5_0_2 r7_0_0 r7_0_1 r7_0_2 r9_0_0 r9_0_1 r9_0_2 r10_0_0 r10_0_1 r10_0_2 z := by
  intro j jb vs
  refine W.adv 1 ?_
  refine W.adv 5 ?_
  refine W.opS (OpIs.ln (n := (x4.map E_ref08_Q).length) (m := x4.length) (by kernel_rfl) (by rw [List.length_map])) ?_
  refine W.adv 3 ?_
  rcases H with ⟨h21, H⟩ | ⟨h21, H⟩
  · refine W.cond true (w := (decide (x11 < (x4.length : Int)))) (by kernel_rfl) (decide_eq_true h21) ?_
    refine W.adv 9 ?_
    obtain ⟨h22, H⟩ := H
    obtain ⟨e23, e24, e25, he26, H⟩ := H
    refine W.opS (OpIs.ixE (enc := E_ref08_Q) (n := 3) (k' := .i64) (L := x4) (i := x11) (d0 := (false, [], [])) (x := (e23, e24, e25)) (by kernel_rfl) h22 h21 he26) ?_
    refine W.adv 2 ?_
    obtain ⟨c27, hc28, H⟩ := H
    refine W.callR (g := 31) (ds := [(.agg [(.bool e23), (.ints .i64 e24), (.ints .i64 e25)]), (.agg [(.bool r9_0_0), (.ints .i64 r9_0_1), (.ints .i64 r9_0_2)])]) (es := [(.agg [(.bool e23), (.ints .i64 e24), (.ints .i64 e25)]), (.agg [(.bool r9_0_0), (.ints .i64 r9_0_1), (.ints .i64 r9_0_2)])]) (r := (.int .i64 c27)) (by kernel_rfl) (by kernel_rfl) (Ic.args hc28 (by kernel_rfl)) (by kernel_rfl) ?_
    refine W.adv 3 ?_
    rcases H with ⟨h29, H⟩ | ⟨h29, H⟩
    · refine W.cond true (w := (decide (c27 < 0))) (by kernel_rfl) (decide_eq_true h29) ?_
      refine W.adv 3 ?_
      obtain ⟨e30, e31, e32, he33, H⟩ := H
      refine W.opS (OpIs.ixE (enc := E_ref08_Q) (n := 3) (k' := .i64) (L := x4) (i := x11) (d0 := (false, [], [])) (x := (e30, e31, e32)) (by kernel_rfl) h22 h21 he33) ?_
      refine W.adv 8 ?_
      obtain ⟨e34, e35, e36, he37, H⟩ := H
      refine W.opS (OpIs.ixE (enc := E_ref08_Q) (n := 3) (k' := .i64) (L := x4) (i := x11) (d0 := (false, [], [])) (x := (e34, e35, e36)) (by kernel_rfl) h22 h21 he37) ?_
      refine W.adv 2 ?_
      obtain ⟨c38, hc39, H⟩ := H
      refine W.callR (g := 31) (ds := [(.agg [(.bool e34), (.ints .i64 e35), (.ints .i64 e36)]), (.agg [(.bool r10_0_0), (.ints .i64 r10_0_1), (.ints .i64 r10_0_2)])]) (es := [(.agg [(.bool e34), (.ints .i64 e35), (.ints .i64 e36)]), (.agg [(.bool r10_0_0), (.ints .i64 r10_0_1), (.ints .i64 r10_0_2)])]) (r := (.int .i64 c38)) (by kernel_rfl) (by kernel_rfl) (Ic.args hc39 (by kernel_rfl)) (by kernel_rfl) ?_
      refine W.adv 3 ?_
      rcases H with ⟨h40, H⟩ | ⟨h40, H⟩
      · refine W.cond true (w := (decide (0 < c38))) (by kernel_rfl) (decide_eq_true h40) ?_
        refine W.adv 3 ?_
        obtain ⟨e41, e42, e43, he44, H⟩ := H
        refine W.opS (OpIs.ixE (enc := E_ref08_Q) (n := 3) (k' := .i64) (L := x4) (i := x11) (d0 := (false, [], [])) (x := (e41, e42, e43)) (by kernel_rfl) h22 h21 he44) ?_
        refine W.adv 11 ?_
        exact W.to_loop (P := law10_FoldEnds_l0_s x4 x6 x8 (wi (x11 + 1)) r5_0_0 r5_0_1 r5_0_2 r7_0_0 r7_0_1 r7_0_2 e30 e31 e32 e41 e42 e43) (H ) (by kernel_rfl)
      · refine W.cond false (w := (decide (0 < c38))) (by kernel_rfl) (decide_eq_false h40) ?_
        refine W.adv 9 ?_
        exact W.to_loop (P := law10_FoldEnds_l0_s x4 x6 x8 (wi (x11 + 1)) r5_0_0 r5_0_1 r5_0_2 r7_0_0 r7_0_1 r7_0_2 e30 e31 e32 r10_0_0 r10_0_1 r10_0_2) (H ) (by kernel_rfl)
    · refine W.cond false (w := (decide (c27 < 0))) (by kernel_rfl) (decide_eq_false h29) ?_
      refine W.adv 6 ?_
      obtain ⟨e45, e46, e47, he48, H⟩ := H
      refine W.opS (OpIs.ixE (enc := E_ref08_Q) (n := 3) (k' := .i64) (L := x4) (i := x11) (d0 := (false, [], [])) (x := (e45, e46, e47)) (by kernel_rfl) h22 h21 he48) ?_
      refine W.adv 2 ?_
      obtain ⟨c49, hc50, H⟩ := H
      refine W.callR (g := 31) (ds := [(.agg [(.bool e45), (.ints .i64 e46), (.ints .i64 e47)]), (.agg [(.bool r10_0_0), (.ints .i64 r10_0_1), (.ints .i64 r10_0_2)])]) (es := [(.agg [(.bool e45), (.ints .i64 e46), (.ints .i64 e47)]), (.agg [(.bool r10_0_0), (.ints .i64 r10_0_1), (.ints .i64 r10_0_2)])]) (r := (.int .i64 c49)) (by kernel_rfl) (by kernel_rfl) (Ic.args hc50 (by kernel_rfl)) (by kernel_rfl) ?_
      refine W.adv 3 ?_
      rcases H with ⟨h51, H⟩ | ⟨h51, H⟩
      · refine W.cond true (w := (decide (0 < c49))) (by kernel_rfl) (decide_eq_true h51) ?_
        refine W.adv 3 ?_
        obtain ⟨e52, e53, e54, he55, H⟩ := H
        refine W.opS (OpIs.ixE (enc := E_ref08_Q) (n := 3) (k' := .i64) (L := x4) (i := x11) (d0 := (false, [], [])) (x := (e52, e53, e54)) (by kernel_rfl) h22 h21 he55) ?_
        refine W.adv 11 ?_
        exact W.to_loop (P := law10_FoldEnds_l0_s x4 x6 x8 (wi (x11 + 1)) r5_0_0 r5_0_1 r5_0_2 r7_0_0 r7_0_1 r7_0_2 r9_0_0 r9_0_1 r9_0_2 e52 e53 e54) (H ) (by kernel_rfl)
      · refine W.cond false (w := (decide (0 < c49))) (by kernel_rfl) (decide_eq_false h51) ?_
        refine W.adv 9 ?_
        exact W.to_loop (P := law10_FoldEnds_l0_s x4 x6 x8 (wi (x11 + 1)) r5_0_0 r5_0_1 r5_0_2 r7_0_0 r7_0_1 r7_0_2 r9_0_0 r9_0_1 r9_0_2 r10_0_0 r10_0_1 r10_0_2) (H ) (by kernel_rfl)
  · refine W.cond false (w := (decide (x11 < (x4.length : Int)))) (by kernel_rfl) (decide_eq_false h21) ?_
    refine W.adv 10 ?_
    rcases H with ⟨h56, H⟩ | ⟨h56, H⟩
    · refine W.guard true (w := ((decide (x6 = 0)) == true)) (by kernel_rfl) (congrArg (fun b => b == true) (decide_eq_true h56)) ?_
      refine W.adv 1 ?_
      refine W.guard true (w := ((decide (x6 = 0)) == true)) (by kernel_rfl) (congrArg (fun b => b == true) (decide_eq_true h56)) ?_
      refine W.adv 1 ?_
      refine W.opS (OpIs.pk true (t := (decide (x6 = 0))) (x := (.bool (decide (x8 = 0)))) (y := (.bool false)) (by kernel_rfl) (decide_eq_true h56)) ?_
      refine W.adv 1 ?_
      rcases H with ⟨h57, H⟩ | ⟨h57, H⟩
      · refine W.guard true (w := ((decide (x8 = 0)) == true)) (by kernel_rfl) (congrArg (fun b => b == true) (decide_eq_true h57)) ?_
        refine W.adv 1 ?_
        refine W.guard true (w := ((decide (x8 = 0)) == true)) (by kernel_rfl) (congrArg (fun b => b == true) (decide_eq_true h57)) ?_
        refine W.adv 1 ?_
        refine W.guard true (w := ((decide (x8 = 0)) == true)) (by kernel_rfl) (congrArg (fun b => b == true) (decide_eq_true h57)) ?_
        obtain ⟨c58_0, c58_1, c58_2, hc59, H⟩ := H
        refine W.callR (g := 23) (ds := [(.agg [(.bool r9_0_0), (.ints .i64 r9_0_1), (.ints .i64 r9_0_2)])]) (es := [(.agg [(.bool r9_0_0), (.ints .i64 r9_0_1), (.ints .i64 r9_0_2)])]) (r := (.agg [(.bool c58_0), (.ints .u64 c58_1), (.ints .u64 c58_2)])) (by kernel_rfl) (by kernel_rfl) (Ic.args hc59 (by kernel_rfl)) (by kernel_rfl) ?_
        refine W.guard true (w := ((decide (x8 = 0)) == true)) (by kernel_rfl) (congrArg (fun b => b == true) (decide_eq_true h57)) ?_
        obtain ⟨c60, hc61, H⟩ := H
        refine W.callR (g := 22) (ds := [(.agg [(.bool r5_0_0), (.ints .u64 r5_0_1), (.ints .u64 r5_0_2)]), (.agg [(.bool c58_0), (.ints .u64 c58_1), (.ints .u64 c58_2)])]) (es := [(.agg [(.bool r5_0_0), (.ints .u64 r5_0_1), (.ints .u64 r5_0_2)]), (.agg [(.bool c58_0), (.ints .u64 c58_1), (.ints .u64 c58_2)])]) (r := (.bool c60)) (by kernel_rfl) (by kernel_rfl) (Ic.args hc61 (by kernel_rfl)) (by kernel_rfl) ?_
        refine W.opS (OpIs.pk true (t := (decide (x8 = 0))) (x := (.bool c60)) (y := (.bool false)) (by kernel_rfl) (decide_eq_true h57)) ?_
        refine W.adv 1 ?_
        rcases H with ⟨h62, H⟩ | ⟨h62, H⟩
        · refine W.guard true (w := (c60 == true)) (by kernel_rfl) (congrArg (fun b => b == true) h62) ?_
          refine W.adv 1 ?_
          refine W.guard true (w := (c60 == true)) (by kernel_rfl) (congrArg (fun b => b == true) h62) ?_
          refine W.adv 1 ?_
          refine W.guard true (w := (c60 == true)) (by kernel_rfl) (congrArg (fun b => b == true) h62) ?_
          obtain ⟨c63_0, c63_1, c63_2, hc64, H⟩ := H
          refine W.callR (g := 23) (ds := [(.agg [(.bool r10_0_0), (.ints .i64 r10_0_1), (.ints .i64 r10_0_2)])]) (es := [(.agg [(.bool r10_0_0), (.ints .i64 r10_0_1), (.ints .i64 r10_0_2)])]) (r := (.agg [(.bool c63_0), (.ints .u64 c63_1), (.ints .u64 c63_2)])) (by kernel_rfl) (by kernel_rfl) (Ic.args hc64 (by kernel_rfl)) (by kernel_rfl) ?_
          refine W.guard true (w := (c60 == true)) (by kernel_rfl) (congrArg (fun b => b == true) h62) ?_
          obtain ⟨c65, hc66, H⟩ := H
          refine W.callR (g := 22) (ds := [(.agg [(.bool r7_0_0), (.ints .u64 r7_0_1), (.ints .u64 r7_0_2)]), (.agg [(.bool c63_0), (.ints .u64 c63_1), (.ints .u64 c63_2)])]) (es := [(.agg [(.bool r7_0_0), (.ints .u64 r7_0_1), (.ints .u64 r7_0_2)]), (.agg [(.bool c63_0), (.ints .u64 c63_1), (.ints .u64 c63_2)])]) (r := (.bool c65)) (by kernel_rfl) (by kernel_rfl) (Ic.args hc66 (by kernel_rfl)) (by kernel_rfl) ?_
          refine W.opS (OpIs.pk true (t := c60) (x := (.bool c65)) (y := (.bool false)) (by kernel_rfl) h62) ?_
          refine W.adv 1 ?_
          rcases H with ⟨h67, H⟩ | ⟨h67, H⟩
          · refine W.guard true (w := (c65 == true)) (by kernel_rfl) (congrArg (fun b => b == true) h67) ?_
            obtain ⟨c68, hc69, H⟩ := H
            refine W.callR (g := 25) (ds := []) (es := []) (r := (.bool c68)) (by kernel_rfl) (by kernel_rfl) (Ic.args hc69 (by kernel_rfl)) (by kernel_rfl) ?_
            refine W.opS (OpIs.pk true (t := c65) (x := (.bool c68)) (y := (.bool false)) (by kernel_rfl) h67) ?_
            refine W.adv 4 ?_
            exact W.fin (x := .ret) (by kernel_rfl) (LAns.of (d := (.bool c68)) (by kernel_rfl) (by rw [H]))
          · refine W.guard false (w := (c65 == true)) (by kernel_rfl) (congrArg (fun b => b == true) (bfalse h67)) ?_
            refine W.opS (OpIs.pk false (t := c65) (x := (.tuple [])) (y := (.bool false)) (by kernel_rfl) (bfalse h67)) ?_
            refine W.adv 4 ?_
            exact W.fin (x := .ret) (by kernel_rfl) (LAns.of (d := (.bool false)) (by kernel_rfl) (by rw [H]))
        · refine W.guard false (w := (c60 == true)) (by kernel_rfl) (congrArg (fun b => b == true) (bfalse h62)) ?_
          refine W.guard false (w := (c60 == true)) (by kernel_rfl) (congrArg (fun b => b == true) (bfalse h62)) ?_
          refine W.guard false (w := (c60 == true)) (by kernel_rfl) (congrArg (fun b => b == true) (bfalse h62)) ?_
          refine W.guard false (w := (c60 == true)) (by kernel_rfl) (congrArg (fun b => b == true) (bfalse h62)) ?_
          refine W.opS (OpIs.pk false (t := c60) (x := (.tuple [])) (y := (.bool false)) (by kernel_rfl) (bfalse h62)) ?_
          refine W.adv 7 ?_
          exact W.fin (x := .ret) (by kernel_rfl) (LAns.of (d := (.bool false)) (by kernel_rfl) (by rw [H]))
      · refine W.guard false (w := ((decide (x8 = 0)) == true)) (by kernel_rfl) (congrArg (fun b => b == true) (decide_eq_false h57)) ?_
        refine W.guard false (w := ((decide (x8 = 0)) == true)) (by kernel_rfl) (congrArg (fun b => b == true) (decide_eq_false h57)) ?_
        refine W.guard false (w := ((decide (x8 = 0)) == true)) (by kernel_rfl) (congrArg (fun b => b == true) (decide_eq_false h57)) ?_
        refine W.guard false (w := ((decide (x8 = 0)) == true)) (by kernel_rfl) (congrArg (fun b => b == true) (decide_eq_false h57)) ?_
        refine W.opS (OpIs.pk false (t := (decide (x8 = 0))) (x := (.tuple [])) (y := (.bool false)) (by kernel_rfl) (decide_eq_false h57)) ?_
        refine W.adv 13 ?_
        exact W.fin (x := .ret) (by kernel_rfl) (LAns.of (d := (.bool false)) (by kernel_rfl) (by rw [H]))
    · refine W.guard false (w := ((decide (x6 = 0)) == true)) (by kernel_rfl) (congrArg (fun b => b == true) (decide_eq_false h56)) ?_
      refine W.guard false (w := ((decide (x6 = 0)) == true)) (by kernel_rfl) (congrArg (fun b => b == true) (decide_eq_false h56)) ?_
      refine W.opS (OpIs.pk false (t := (decide (x6 = 0))) (x := (.tuple [])) (y := (.bool false)) (by kernel_rfl) (decide_eq_false h56)) ?_
      refine W.adv 19 ?_
      exact W.fin (x := .ret) (by kernel_rfl) (LAns.of (d := (.bool false)) (by kernel_rfl) (by rw [H]))
theorem law10_FoldEnds_go {a0 : List T_api_Rat} {z : Bool} (H : (∃ c1t0 : List T_api_Rat, (∃ c1t1 : List T_ref08_Q, (law10_few_R a0 c1t0 c1t1 ∧ (∃ c3t0_0 : Bool, (∃ c3t0_1 : List Int, (∃ c3t0_2 : List Int, (∃ c3t1 : Int, (fold_Least_R c1t0 c3t0_0 c3t0_1 c3t0_2 c3t1 ∧ (∃ c5t0_0 : Bool, (∃ c5t0_1 : List Int, (∃ c5t0_2 : List Int, (∃ c5t1 : Int, (fold_Greatest_R c1t0 c5t0_0 c5t0_1 c5t0_2 c5t1 ∧ (((c1t1.length : Int) = 0 ∧ ((c3t1 = 9 ∧ ((c5t1 = c3t1 ∧ (∃ c10 : Bool, (law10_works_R c10 ∧ (z = c10)))) ∨ (¬ c5t1 = c3t1 ∧ (z = false)))) ∨ (¬ c3t1 = 9 ∧ (z = false)))) ∨ (¬ (c1t1.length : Int) = 0 ∧ (0 < (c1t1.length : Int) ∧ (∃ e13 : Bool, (∃ e14 : List Int, (∃ e15 : List Int, (c1t1.getD 0 (false, [], []) = (e13, e14, e15) ∧ (∃ e17 : Bool, (∃ e18 : List Int, (∃ e19 : List Int, (c1t1.getD 0 (false, [], []) = (e17, e18, e19) ∧ (law10_FoldEnds_l0 c1t1 c3t1 c5t1 0 c3t0_0 c3t0_1 c3t0_2 c5t0_0 c5t0_1 c5t0_2 e13 e14 e15 e17 e18 e19 z)))))))))))))))))))))))))) : law10_FoldEnds_R a0 z := by
  refine W.lawIs (zs := [(.list 3 (a0.map E_api_Rat))]) Try.func5 (by kernel_rfl) (by kernel_rfl) (by kernel_rfl) ?_
  refine W.adv 8 ?_
  obtain ⟨c1t0, c1t1, hc2, H⟩ := H
  refine W.callR (g := 19) (ds := [(.list 3 (a0.map E_api_Rat))]) (es := [(.list 3 (a0.map E_api_Rat))]) (r := (.tuple [(.list 3 (c1t0.map E_api_Rat)), (.list 3 (c1t1.map E_ref08_Q))])) (by kernel_rfl) (by kernel_rfl) (Ic.args hc2 (by kernel_rfl)) (by kernel_rfl) ?_
  refine W.adv 10 ?_
  obtain ⟨c3t0_0, c3t0_1, c3t0_2, c3t1, hc4, H⟩ := H
  refine W.callR (g := 29) (ds := [(.list 3 (c1t0.map E_api_Rat))]) (es := [(.list 3 (c1t0.map E_api_Rat))]) (r := (.tuple [(.agg [(.bool c3t0_0), (.ints .u64 c3t0_1), (.ints .u64 c3t0_2)]), (.int .i64 c3t1)])) (by kernel_rfl) (by kernel_rfl) (Ic.args hc4 (by kernel_rfl)) (by kernel_rfl) ?_
  refine W.adv 11 ?_
  obtain ⟨c5t0_0, c5t0_1, c5t0_2, c5t1, hc6, H⟩ := H
  refine W.callR (g := 30) (ds := [(.list 3 (c1t0.map E_api_Rat))]) (es := [(.list 3 (c1t0.map E_api_Rat))]) (r := (.tuple [(.agg [(.bool c5t0_0), (.ints .u64 c5t0_1), (.ints .u64 c5t0_2)]), (.int .i64 c5t1)])) (by kernel_rfl) (by kernel_rfl) (Ic.args hc6 (by kernel_rfl)) (by kernel_rfl) ?_
  refine W.adv 12 ?_
  refine W.opS (OpIs.ln (n := (c1t1.map E_ref08_Q).length) (m := c1t1.length) (by kernel_rfl) (by rw [List.length_map])) ?_
  refine W.adv 3 ?_
  rcases H with ⟨h7, H⟩ | ⟨h7, H⟩
  · refine W.cond true (w := (decide ((c1t1.length : Int) = 0))) (by kernel_rfl) (decide_eq_true h7) ?_
    refine W.adv 5 ?_
    rcases H with ⟨h8, H⟩ | ⟨h8, H⟩
    · refine W.guard true (w := ((decide (c3t1 = 9)) == true)) (by kernel_rfl) (congrArg (fun b => b == true) (decide_eq_true h8)) ?_
      refine W.adv 1 ?_
      refine W.guard true (w := ((decide (c3t1 = 9)) == true)) (by kernel_rfl) (congrArg (fun b => b == true) (decide_eq_true h8)) ?_
      refine W.adv 1 ?_
      refine W.guard true (w := ((decide (c3t1 = 9)) == true)) (by kernel_rfl) (congrArg (fun b => b == true) (decide_eq_true h8)) ?_
      refine W.adv 1 ?_
      refine W.opS (OpIs.pk true (t := (decide (c3t1 = 9))) (x := (.bool (decide (c5t1 = c3t1)))) (y := (.bool false)) (by kernel_rfl) (decide_eq_true h8)) ?_
      refine W.adv 1 ?_
      rcases H with ⟨h9, H⟩ | ⟨h9, H⟩
      · refine W.guard true (w := ((decide (c5t1 = c3t1)) == true)) (by kernel_rfl) (congrArg (fun b => b == true) (decide_eq_true h9)) ?_
        obtain ⟨c10, hc11, H⟩ := H
        refine W.callR (g := 25) (ds := []) (es := []) (r := (.bool c10)) (by kernel_rfl) (by kernel_rfl) (Ic.args hc11 (by kernel_rfl)) (by kernel_rfl) ?_
        refine W.opS (OpIs.pk true (t := (decide (c5t1 = c3t1))) (x := (.bool c10)) (y := (.bool false)) (by kernel_rfl) (decide_eq_true h9)) ?_
        refine W.adv 5 ?_
        exact W.fin (x := .ret) (by kernel_rfl) (LAns.of (d := (.bool c10)) (by kernel_rfl) (by rw [H]))
      · refine W.guard false (w := ((decide (c5t1 = c3t1)) == true)) (by kernel_rfl) (congrArg (fun b => b == true) (decide_eq_false h9)) ?_
        refine W.opS (OpIs.pk false (t := (decide (c5t1 = c3t1))) (x := (.tuple [])) (y := (.bool false)) (by kernel_rfl) (decide_eq_false h9)) ?_
        refine W.adv 5 ?_
        exact W.fin (x := .ret) (by kernel_rfl) (LAns.of (d := (.bool false)) (by kernel_rfl) (by rw [H]))
    · refine W.guard false (w := ((decide (c3t1 = 9)) == true)) (by kernel_rfl) (congrArg (fun b => b == true) (decide_eq_false h8)) ?_
      refine W.guard false (w := ((decide (c3t1 = 9)) == true)) (by kernel_rfl) (congrArg (fun b => b == true) (decide_eq_false h8)) ?_
      refine W.guard false (w := ((decide (c3t1 = 9)) == true)) (by kernel_rfl) (congrArg (fun b => b == true) (decide_eq_false h8)) ?_
      refine W.opS (OpIs.pk false (t := (decide (c3t1 = 9))) (x := (.tuple [])) (y := (.bool false)) (by kernel_rfl) (decide_eq_false h8)) ?_
      refine W.adv 8 ?_
      exact W.fin (x := .ret) (by kernel_rfl) (LAns.of (d := (.bool false)) (by kernel_rfl) (by rw [H]))
  · refine W.cond false (w := (decide ((c1t1.length : Int) = 0))) (by kernel_rfl) (decide_eq_false h7) ?_
    refine W.adv 5 ?_
    obtain ⟨h12, H⟩ := H
    obtain ⟨e13, e14, e15, he16, H⟩ := H
    refine W.opS (OpIs.ixE (enc := E_ref08_Q) (n := 3) (k' := .i64) (L := c1t1) (i := 0) (d0 := (false, [], [])) (x := (e13, e14, e15)) (by kernel_rfl) (by decide) h12 he16) ?_
    refine W.adv 2 ?_
    obtain ⟨e17, e18, e19, he20, H⟩ := H
    refine W.opS (OpIs.ixE (enc := E_ref08_Q) (n := 3) (k' := .i64) (L := c1t1) (i := 0) (d0 := (false, [], [])) (x := (e17, e18, e19)) (by kernel_rfl) (by decide) h12 he20) ?_
    refine W.adv 14 ?_
    exact W.to_loop (P := law10_FoldEnds_l0_s c1t1 c3t1 c5t1 0 c3t0_0 c3t0_1 c3t0_2 c5t0_0 c5t0_1 c5t0_2 e13 e14 e15 e17 e18 e19) (H ) (by kernel_rfl)
end Go.Proofs.YteepbjndbemcdaaA
