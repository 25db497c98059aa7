/- Walks through the functions: what makes each relation true. -/
import Derived.Test.YtjcdkemnflmfiaaGreatW0
set_option linter.unusedVariables false
set_option maxRecDepth 100000
namespace Go.Proofs.YtjcdkemnflmfiaaGreatA
open Go Go.Proofs
/-! ### slices.ContainsFunc[[]trivium/api.Prefix,trivium/api.Prefix] -/
theorem slices_ContainsFunc___api_Prefix_api_Prefix__v0_go {a0 : List T_api_Prefix} {a1_c0_0 : Int} {a1_c0_1 : Int} {z : Bool} (H : (∃ c1 : Int, (slices_IndexFunc___api_Prefix_api_Prefix__v0_R a0 a1_c0_0 a1_c0_1 c1 ∧ (z = (decide (0 ≤ c1)))))) : slices_ContainsFunc___api_Prefix_api_Prefix__v0_R a0 a1_c0_0 a1_c0_1 z := by
  refine W.ic (zs := [(.list 2 (a0.map E_api_Prefix)), (.fn 77 [] [(.ptr [(.int .u32 a1_c0_0), (.int .i64 a1_c0_1)])])]) Tryz.func76 (by kernel_rfl) (by kernel_rfl) (by kernel_rfl) (by kernel_rfl) ?_
  refine W.adv 9 ?_
  obtain ⟨c1, hc2, H⟩ := H
  refine W.callR (g := 133) (ds := [(.list 2 (a0.map E_api_Prefix)), (.fn 77 [] [(.ptr [(.int .u32 a1_c0_0), (.int .i64 a1_c0_1)])])]) (es := [(.list 2 (a0.map E_api_Prefix)), (.fn 77 [] [(.ptr [(.int .u32 a1_c0_0), (.int .i64 a1_c0_1)])])]) (r := (.int .i64 c1)) (by kernel_rfl) (by kernel_rfl) (Ic.args hc2 (by kernel_rfl)) (by kernel_rfl) ?_
  refine W.adv 5 ?_
  exact W.fin (x := .ret) (by kernel_rfl) (Ans.of (d := (.bool (decide (0 ≤ c1)))) (d' := (.bool (decide (0 ≤ c1)))) (e' := (.bool (decide (0 ≤ c1)))) (by kernel_rfl) (by kernel_rfl) (by kernel_rfl) (by rw [H]))
/-! ### slices.IndexFunc[[]trivium/api.Prefix,trivium/api.Prefix] -/
noncomputable def slices_IndexFunc___api_Prefix_api_Prefix__v0_l0_s (x0 : List T_api_Prefix) (x1_c0_0 : Int) (x1_c0_1 : Int) (x7 : Int) (x8 : Int) (j : Nat → D) (jb : Nat → Blk) (vs : Nat → Nat) : Cf := cfAt Tryz.f133 [1, 0, 1, 0] ⟨[(.list 2 (x0.map E_api_Prefix)), (.fn 77 [] [(.ptr [(.int .u32 x1_c0_0), (.int .i64 x1_c0_1)])]), (j 2), (j 3), (j 4), (j 5), (j 6), (.int .i64 x7), (.int .i64 x8), (j 9), (j 10), (j 11), (j 12), (j 13), (j 14), (j 15), (j 16), (j 17), (j 18)], [(jb 0), (jb 1), (jb 2), (jb 3), (jb 4), (jb 5), (jb 6), (jb 7), (jb 8), (jb 9), (jb 10), (jb 11), (jb 12), (jb 13), (jb 14), (jb 15), (jb 16), (jb 17), (jb 18)]⟩
def slices_IndexFunc___api_Prefix_api_Prefix__v0_l0 (x0 : List T_api_Prefix) (x1_c0_0 : Int) (x1_c0_1 : Int) (x7 : Int) (x8 : Int) (z : Int) : Prop := ∀ j jb vs, W C F 133 0 (slices_IndexFunc___api_Prefix_api_Prefix__v0_l0_s x0 x1_c0_0 x1_c0_1 x7 x8  j jb vs) (Ans C Tryz.f133 (.int .i64 z))
theorem slices_IndexFunc___api_Prefix_api_Prefix__v0_l0_go {x0 : List T_api_Prefix} {x1_c0_0 : Int} {x1_c0_1 : Int} {x7 : Int} {x8 : Int} {z : Int} (H : ((x8 < x7 ∧ (0 ≤ x8 ∧ (x8 < (x0.length : Int) ∧ (∃ e4 : Int, (∃ e5 : Int, (x0.getD (x8).toNat (0, 0) = (e4, e5) ∧ (∃ c7 : Bool, (lint_Covered_1_v0_R e4 e5 x1_c0_0 x1_c0_1 c7 ∧ ((c7 = true ∧ (z = x8)) ∨ (¬ c7 = true ∧ (slices_IndexFunc___api_Prefix_api_Prefix__v0_l0 x0 x1_c0_0 x1_c0_1 x7 (wi (x8 + 1)) z))))))))))) ∨ (¬ x8 < x7 ∧ (z = (-1))))) : slices_IndexFunc___api_Prefix_api_Prefix__v0_l0 x0 x1_c0_0 x1_c0_1 x7 x8 z := by
  intro j jb vs
  refine W.adv 1 ?_
  refine W.adv 6 ?_
  rcases H with ⟨h1, H⟩ | ⟨h1, H⟩
  · refine W.cond true (w := (decide (x8 < x7))) (by kernel_rfl) (decide_eq_true h1) ?_
    refine W.adv 15 ?_
    obtain ⟨h2, h3, H⟩ := H
    obtain ⟨e4, e5, he6, H⟩ := H
    refine W.opS (OpIs.ixE (enc := E_api_Prefix) (n := 2) (k' := .i64) (L := x0) (i := x8) (d0 := (0, 0)) (x := (e4, e5)) (by kernel_rfl) h2 h3 he6) ?_
    refine W.adv 1 ?_
    obtain ⟨c7, hc8, H⟩ := H
    refine W.callR (g := 77) (ds := [(.agg [(.int .u32 e4), (.int .i64 e5)]), (.ptr [(.int .u32 x1_c0_0), (.int .i64 x1_c0_1)])]) (es := [(.agg [(.int .u32 e4), (.int .i64 e5)]), (.ptr [(.int .u32 x1_c0_0), (.int .i64 x1_c0_1)])]) (r := (.bool c7)) (by kernel_rfl) (by kernel_rfl) (Ic.args hc8 (by kernel_rfl)) (by kernel_rfl) ?_
    refine W.adv 2 ?_
    rcases H with ⟨h9, H⟩ | ⟨h9, H⟩
    · refine W.cond true (w := c7) (by kernel_rfl) h9 ?_
      refine W.adv 12 ?_
      exact W.fin (x := .ret) (by kernel_rfl) (Ans.of (d := (.int .i64 x8)) (d' := (.int .i64 x8)) (e' := (.int .i64 x8)) (by kernel_rfl) (by kernel_rfl) (by kernel_rfl) (by rw [H]))
    · refine W.cond false (w := c7) (by kernel_rfl) (bfalse h9) ?_
      refine W.adv 8 ?_
      exact W.to_loop (P := slices_IndexFunc___api_Prefix_api_Prefix__v0_l0_s x0 x1_c0_0 x1_c0_1 x7 (wi (x8 + 1))) (H ) (by kernel_rfl)
  · refine W.cond false (w := (decide (x8 < x7))) (by kernel_rfl) (decide_eq_false h1) ?_
    refine W.adv 11 ?_
    exact W.fin (x := .ret) (by kernel_rfl) (Ans.of (d := (.int .i64 (-1))) (d' := (.int .i64 (-1))) (e' := (.int .i64 (-1))) (by kernel_rfl) (by kernel_rfl) (by kernel_rfl) (by rw [H]))
theorem slices_IndexFunc___api_Prefix_api_Prefix__v0_go {a0 : List T_api_Prefix} {a1_c0_0 : Int} {a1_c0_1 : Int} {z : Int} (H : (slices_IndexFunc___api_Prefix_api_Prefix__v0_l0 a0 a1_c0_0 a1_c0_1 (a0.length : Int) 0 z)) : slices_IndexFunc___api_Prefix_api_Prefix__v0_R a0 a1_c0_0 a1_c0_1 z := by
  refine W.ic (zs := [(.list 2 (a0.map E_api_Prefix)), (.fn 77 [] [(.ptr [(.int .u32 a1_c0_0), (.int .i64 a1_c0_1)])])]) Tryz.func133 (by kernel_rfl) (by kernel_rfl) (by kernel_rfl) (by kernel_rfl) ?_
  refine W.adv 9 ?_
  refine W.opS (OpIs.ln (n := (a0.map E_api_Prefix).length) (m := a0.length) (by kernel_rfl) (by rw [List.length_map])) ?_
  refine W.adv 4 ?_
  exact W.to_loop (P := slices_IndexFunc___api_Prefix_api_Prefix__v0_l0_s a0 a1_c0_0 a1_c0_1 (a0.length : Int) 0) (H ) (by kernel_rfl)
/-! ### slices.DeleteFunc[[]trivium/api.Prefix,trivium/api.Prefix], on its caller's rows -/
noncomputable def slices_DeleteFunc___api_Prefix_api_Prefix__L1_l0_s (cb : Nat → Blk) (ver : Nat) (ver2 : Nat) (e2_0_0 : Int) (e2_0_1 : Int) (x5 : Int) (x6 : Int) (r15 : List T_api_Prefix) (n15 : Nat) (j : Nat → D) (jb : Nat → Blk) (vs : Nat → Nat) : Cf := cfAt Tryz.f79 [1, 1, 1, 0, 1, 0] ⟨[(.sref 15 ver 2 0 n15), (.fn 81 [] [(.pref 2 ver2 0 0)]), (j 2), (j 3), (j 4), (.int .i64 x5), (.int .i64 x6), (j 7), (j 8), (j 9), (j 10), (j 11), (j 12), (j 13), (j 14), (j 15), (j 16), (j 17), (j 18), (j 19), (j 20), (j 21), (j 22), (j 23), (j 24), (j 25), (j 26), (j 27), (j 28), (j 29), (j 30), (j 31), (j 32), (j 33), (j 34), (j 35), (j 36), (j 37), (j 38), (j 39), (j 40), (j 41)], [(cb 0), (cb 1), ⟨ver2, false, .rows 2 [(.agg [(.int .u32 e2_0_0), (.int .i64 e2_0_1)])]⟩, (cb 3), (cb 4), (cb 5), (cb 6), (cb 7), (cb 8), (cb 9), (cb 10), (cb 11), (cb 12), (cb 13), (cb 14), ⟨ver, false, .rows 2 (r15.map E_api_Prefix)⟩, (cb 16), (cb 17), (cb 18), (cb 19), (cb 20), (cb 21), (cb 22), (cb 23), (cb 24), (cb 25), (cb 26), (cb 27), (cb 28), (cb 29), (cb 30), (cb 31), (cb 32), (cb 33), (cb 34), (cb 35), (cb 36), (cb 37), (cb 38), (cb 39), (cb 40), (cb 41), (cb 42), (cb 43), (cb 44), (cb 45), (cb 46), (cb 47), (cb 48), (cb 49), (cb 50), noBlk, noBlk, noBlk, noBlk, noBlk, noBlk, noBlk, noBlk, noBlk, noBlk, noBlk, noBlk, noBlk, noBlk, noBlk, noBlk, noBlk, noBlk, noBlk, noBlk, noBlk, noBlk, noBlk, noBlk, noBlk, noBlk, noBlk, noBlk, noBlk, noBlk, noBlk, noBlk, noBlk, noBlk, noBlk, noBlk, noBlk, noBlk, noBlk, noBlk, noBlk, noBlk]⟩
def slices_DeleteFunc___api_Prefix_api_Prefix__L1_l0 (cb : Nat → Blk) (ver : Nat) (ver2 : Nat) (e2_0_0 : Int) (e2_0_1 : Int) (x5 : Int) (x6 : Int) (r15 : List T_api_Prefix) (ys : List T_api_Prefix) : Prop := ∀ n15, n15 = r15.length → ∀ j jb vs, W C F 79 51 (slices_DeleteFunc___api_Prefix_api_Prefix__L1_l0_s cb ver ver2 e2_0_0 e2_0_1 x5 x6 r15 n15 j jb vs) (SAnsL C Tryz.f79 51 (.sref 15 ver 2 0 ys.length) [(cb 0), (cb 1), ⟨ver2, false, .rows 2 [(.agg [(.int .u32 e2_0_0), (.int .i64 e2_0_1)])]⟩, (cb 3), (cb 4), (cb 5), (cb 6), (cb 7), (cb 8), (cb 9), (cb 10), (cb 11), (cb 12), (cb 13), (cb 14), ⟨ver, false, .rows 2 (ys.map E_api_Prefix)⟩, (cb 16), (cb 17), (cb 18), (cb 19), (cb 20), (cb 21), (cb 22), (cb 23), (cb 24), (cb 25), (cb 26), (cb 27), (cb 28), (cb 29), (cb 30), (cb 31), (cb 32), (cb 33), (cb 34), (cb 35), (cb 36), (cb 37), (cb 38), (cb 39), (cb 40), (cb 41), (cb 42), (cb 43), (cb 44), (cb 45), (cb 46), (cb 47), (cb 48), (cb 49), (cb 50)])
noncomputable def slices_DeleteFunc___api_Prefix_api_Prefix__L1_l1_s (cb : Nat → Blk) (ver : Nat) (ver2 : Nat) (e2_0_0 : Int) (e2_0_1 : Int) (x5 : Int) (x6 : Int) (r15 : List T_api_Prefix) (n15 : Nat) (j : Nat → D) (jb : Nat → Blk) (vs : Nat → Nat) : Cf := cfAt Tryz.f79 [1, 1, 1, 0, 1, 0] ⟨[(.sref 15 ver 2 0 n15), (.fn 81 [] [(.pref 2 ver2 0 0)]), (j 2), (j 3), (j 4), (.int .i64 x5), (.int .i64 x6), (j 7), (j 8), (j 9), (j 10), (j 11), (j 12), (j 13), (j 14), (j 15), (j 16), (j 17), (j 18), (j 19), (j 20), (j 21), (j 22), (j 23), (j 24), (j 25), (j 26), (j 27), (j 28), (j 29), (j 30), (j 31), (j 32), (j 33), (j 34), (j 35), (j 36), (j 37), (j 38), (j 39), (j 40), (j 41)], [(cb 0), (cb 1), ⟨ver2, false, .rows 2 [(.agg [(.int .u32 e2_0_0), (.int .i64 e2_0_1)])]⟩, (cb 3), (cb 4), (cb 5), (cb 6), (cb 7), (cb 8), (cb 9), (cb 10), (cb 11), (cb 12), (cb 13), (cb 14), ⟨ver, false, .rows 2 (r15.map E_api_Prefix)⟩, (cb 16), (cb 17), (cb 18), (cb 19), (cb 20), (cb 21), (cb 22), (cb 23), (cb 24), (cb 25), (cb 26), (cb 27), (cb 28), (cb 29), (cb 30), (cb 31), (cb 32), (cb 33), (cb 34), (cb 35), (cb 36), (cb 37), (cb 38), (cb 39), (cb 40), (cb 41), (cb 42), (cb 43), (cb 44), (cb 45), (cb 46), (cb 47), (cb 48), (cb 49), (cb 50), noBlk, noBlk, noBlk, noBlk, noBlk, noBlk, noBlk, (jb 58), noBlk, noBlk, noBlk, noBlk, noBlk, noBlk, noBlk, noBlk, noBlk, noBlk, noBlk, noBlk, noBlk, noBlk, noBlk, noBlk, noBlk, noBlk, noBlk, noBlk, noBlk, noBlk, noBlk, noBlk, noBlk, noBlk, noBlk, noBlk, noBlk, noBlk, noBlk, noBlk, noBlk, noBlk]⟩
def slices_DeleteFunc___api_Prefix_api_Prefix__L1_l1 (cb : Nat → Blk) (ver : Nat) (ver2 : Nat) (e2_0_0 : Int) (e2_0_1 : Int) (x5 : Int) (x6 : Int) (r15 : List T_api_Prefix) (ys : List T_api_Prefix) : Prop := ∀ n15, n15 = r15.length → ∀ j jb vs, W C F 79 51 (slices_DeleteFunc___api_Prefix_api_Prefix__L1_l1_s cb ver ver2 e2_0_0 e2_0_1 x5 x6 r15 n15 j jb vs) (SAnsL C Tryz.f79 51 (.sref 15 ver 2 0 ys.length) [(cb 0), (cb 1), ⟨ver2, false, .rows 2 [(.agg [(.int .u32 e2_0_0), (.int .i64 e2_0_1)])]⟩, (cb 3), (cb 4), (cb 5), (cb 6), (cb 7), (cb 8), (cb 9), (cb 10), (cb 11), (cb 12), (cb 13), (cb 14), ⟨ver, false, .rows 2 (ys.map E_api_Prefix)⟩, (cb 16), (cb 17), (cb 18), (cb 19), (cb 20), (cb 21), (cb 22), (cb 23), (cb 24), (cb 25), (cb 26), (cb 27), (cb 28), (cb 29), (cb 30), (cb 31), (cb 32), (cb 33), (cb 34), (cb 35), (cb 36), (cb 37), (cb 38), (cb 39), (cb 40), (cb 41), (cb 42), (cb 43), (cb 44), (cb 45), (cb 46), (cb 47), (cb 48), (cb 49), (cb 50)])
theorem slices_DeleteFunc___api_Prefix_api_Prefix__L1_l0_go {cb : Nat → Blk} {ver : Nat} {ver2 : Nat} {e2_0_0 : Int} {e2_0_1 : Int} {x5 : Int} {x6 : Int} {r15 : List T_api_Prefix} {ys : List T_api_Prefix} (H : ((x6 < (r15.length : Int) ∧ (0 ≤ x6 ∧ (∃ e6 : Int, (∃ e7 : Int, (r15.getD (x6).toNat (0, 0) = (e6, e7) ∧ (∃ c9 : Bool, (lint_Covered_2_v0_R e6 e7 e2_0_0 e2_0_1 c9 ∧ ((c9 = true ∧ (slices_DeleteFunc___api_Prefix_api_Prefix__L1_l1 cb ver ver2 e2_0_0 e2_0_1 x5 (wi (x6 + 1)) r15 ys)) ∨ (¬ c9 = true ∧ (0 ≤ x5 ∧ (x5 < (r15.length : Int) ∧ (∃ y14, y14 = r15.set (x5).toNat (e6, e7) ∧ (slices_DeleteFunc___api_Prefix_api_Prefix__L1_l1 cb ver ver2 e2_0_0 e2_0_1 (wi (x5 + 1)) (wi (x6 + 1)) y14 ys))))))))))))) ∨ (¬ x6 < (r15.length : Int) ∧ (0 ≤ x5 ∧ (x5 ≤ (r15.length : Int) ∧ (∃ y19, y19 = r15.take ((x5).toNat) ∧ (ys = y19))))))) : slices_DeleteFunc___api_Prefix_api_Prefix__L1_l0 cb ver ver2 e2_0_0 e2_0_1 x5 x6 r15 ys := by
  intro n15 ln_15 j jb vs
  refine W.adv 1 ?_
  refine W.adv 5 ?_
  refine W.opS (OpIs.ln (n := n15) (m := r15.length) (by kernel_rfl) ln_15) ?_
  refine W.adv 3 ?_
  rcases H with ⟨h4, H⟩ | ⟨h4, H⟩
  · refine W.cond true (w := (decide (x6 < (r15.length : Int)))) (by kernel_rfl) (decide_eq_true h4) ?_
    refine W.adv 8 ?_
    obtain ⟨h5, H⟩ := H
    refine W.opS (OpIs.ixR (k' := .i64) (b := 15) (v := ver) (sz := 2) (len := n15) (i := x6) (by kernel_rfl) h5 (by rw [ln_15]; exact h4)) ?_
    obtain ⟨e6, e7, he8, H⟩ := H
    refine W.opS (OpIs.ldE (enc := E_api_Prefix) (b := 15) (v := ver) (i := (x6).toNat) (off := 0) (w := ver) (n := 2) (s := 2) (fz := false) (a := true) (L := r15) (d0 := (0, 0)) (x := (e6, e7)) (r := (.agg [(.int .u32 e6), (.int .i64 e7)])) (by kernel_rfl) rfl (by omega) he8 (by kernel_rfl)) ?_
    refine W.adv 8 ?_
    obtain ⟨c9, hc10, H⟩ := H
    refine W.callR (g := 81) (ds := [(.agg [(.int .u32 e6), (.int .i64 e7)]), (.pref 2 ver2 0 0)]) (es := [(.agg [(.int .u32 e6), (.int .i64 e7)]), (.ptr [(.int .u32 e2_0_0), (.int .i64 e2_0_1)])]) (r := (.bool c9)) (by kernel_rfl) (rf_cons (by kernel_rfl) (rf_cons (rf_prefV (b := 2) (v := ver2) (w := ver2) (i := 0) (off := 0) (n := 2) (fz := false) (xs := [(.agg [(.int .u32 e2_0_0), (.int .i64 e2_0_1)])]) (d := (.agg [(.int .u32 e2_0_0), (.int .i64 e2_0_1)])) (by kernel_rfl) rfl (by kernel_rfl) (by kernel_rfl)) rf_nil)) (Ic.args hc10 (by kernel_rfl)) (by kernel_rfl) ?_
    refine W.adv 3 ?_
    rcases H with ⟨h11, H⟩ | ⟨h11, H⟩
    · refine W.cond false (w := (!c9)) (by kernel_rfl) (congrArg (fun b => !b) h11) ?_
      refine W.adv 9 ?_
      exact W.to_loop (P := slices_DeleteFunc___api_Prefix_api_Prefix__L1_l1_s cb ver ver2 e2_0_0 e2_0_1 x5 (wi (x6 + 1)) r15 n15) (H _ ln_15) (by kernel_rfl)
    · refine W.cond true (w := (!c9)) (by kernel_rfl) (congrArg (fun b => !b) (bfalse h11)) ?_
      refine W.adv 5 ?_
      obtain ⟨h12, h13, H⟩ := H
      refine W.opS (OpIs.ixR (k' := .i64) (b := 15) (v := ver) (sz := 2) (len := n15) (i := x5) (by kernel_rfl) h12 (by rw [ln_15]; exact h13)) ?_
      obtain ⟨y14, hy15, H⟩ := H
      have ln16 : n15 = y14.length := by rw [hy15, List.length_set]; exact ln_15
      refine W.opH (OpIs.stE (enc := E_api_Prefix) (b := 15) (v := ver) (i := (x5).toNat) (off := 0) (w := ver) (n := 2) (s := 2) (L := r15) (d0 := (0, 0)) (x := (r15.getD (x5).toNat (0, 0))) (z := (e6, e7)) (y := (.agg [(.int .u32 e6), (.int .i64 e7)])) (by kernel_rfl) hy15 rfl (by omega) rfl (by kernel_rfl) (Nat.le_of_ble_eq_true (by kernel_rfl)) (by kernel_rfl) (by kernel_rfl)) ?_
      refine W.adv 15 ?_
      exact W.to_loop (P := slices_DeleteFunc___api_Prefix_api_Prefix__L1_l1_s cb ver ver2 e2_0_0 e2_0_1 (wi (x5 + 1)) (wi (x6 + 1)) y14 n15) (H _ ln16) (by kernel_rfl)
  · refine W.cond false (w := (decide (x6 < (r15.length : Int)))) (by kernel_rfl) (decide_eq_false h4) ?_
    refine W.adv 9 ?_
    obtain ⟨h17, h18, H⟩ := H
    refine W.opS (OpIs.slR (k' := .i64) (b := 15) (v := ver) (sz := 2) (len := n15) (m := r15.length) (i := x5) (by kernel_rfl) ln_15 h17 h18) ?_
    obtain ⟨y19, hy20, H⟩ := H
    have ln21 : (x5).toNat = y19.length := by rw [hy20, List.length_take]; omega
    refine W.opH (OpIs.clE (enc := E_api_Prefix) (b := 15) (v := ver) (w := ver) (s := 2) (off := (x5).toNat) (len := (r15.length - (x5).toNat)) (L := r15) (by kernel_rfl) hy20 rfl rfl) ?_
    refine W.adv 6 ?_
    refine W.opS (OpIs.slS (b := 15) (v := ver) (sz := 2) (off := 0) (len := n15) (p := 0) (q := (x5).toNat) (lo := none) (hi := some (.int .i64 x5)) (by kernel_rfl) (bound_some h17 (by rw [ln_15]; exact h18)) rfl) ?_
    refine W.adv 4 ?_
    exact W.fin (x := .ret) (by kernel_rfl) (SAnsL.any (d0 := (.sref 15 ver 2 0 (x5).toNat)) (h0 := [(cb 0), (cb 1), ⟨ver2, false, .rows 2 [(.agg [(.int .u32 e2_0_0), (.int .i64 e2_0_1)])]⟩, (cb 3), (cb 4), (cb 5), (cb 6), (cb 7), (cb 8), (cb 9), (cb 10), (cb 11), (cb 12), (cb 13), (cb 14), ⟨ver, false, .rows 2 (y19.map E_api_Prefix)⟩, (cb 16), (cb 17), (cb 18), (cb 19), (cb 20), (cb 21), (cb 22), (cb 23), (cb 24), (cb 25), (cb 26), (cb 27), (cb 28), (cb 29), (cb 30), (cb 31), (cb 32), (cb 33), (cb 34), (cb 35), (cb 36), (cb 37), (cb 38), (cb 39), (cb 40), (cb 41), (cb 42), (cb 43), (cb 44), (cb 45), (cb 46), (cb 47), (cb 48), (cb 49), (cb 50)]) (by kernel_rfl) (by rw [H, ← ln21]) (by kernel_rfl) (by kernel_rfl) (by rw [H]))
theorem slices_DeleteFunc___api_Prefix_api_Prefix__L1_l1_go {cb : Nat → Blk} {ver : Nat} {ver2 : Nat} {e2_0_0 : Int} {e2_0_1 : Int} {x5 : Int} {x6 : Int} {r15 : List T_api_Prefix} {ys : List T_api_Prefix} (H : ((x6 < (r15.length : Int) ∧ (0 ≤ x6 ∧ (∃ e24 : Int, (∃ e25 : Int, (r15.getD (x6).toNat (0, 0) = (e24, e25) ∧ (∃ c27 : Bool, (lint_Covered_2_v0_R e24 e25 e2_0_0 e2_0_1 c27 ∧ ((c27 = true ∧ (slices_DeleteFunc___api_Prefix_api_Prefix__L1_l1 cb ver ver2 e2_0_0 e2_0_1 x5 (wi (x6 + 1)) r15 ys)) ∨ (¬ c27 = true ∧ (0 ≤ x5 ∧ (x5 < (r15.length : Int) ∧ (∃ y32, y32 = r15.set (x5).toNat (e24, e25) ∧ (slices_DeleteFunc___api_Prefix_api_Prefix__L1_l1 cb ver ver2 e2_0_0 e2_0_1 (wi (x5 + 1)) (wi (x6 + 1)) y32 ys))))))))))))) ∨ (¬ x6 < (r15.length : Int) ∧ (0 ≤ x5 ∧ (x5 ≤ (r15.length : Int) ∧ (∃ y37, y37 = r15.take ((x5).toNat) ∧ (ys = y37))))))) : slices_DeleteFunc___api_Prefix_api_Prefix__L1_l1 cb ver ver2 e2_0_0 e2_0_1 x5 x6 r15 ys := by
  intro n15 ln_15 j jb vs
  refine W.adv 1 ?_
  refine W.adv 5 ?_
  refine W.opS (OpIs.ln (n := n15) (m := r15.length) (by kernel_rfl) ln_15) ?_
  refine W.adv 3 ?_
  rcases H with ⟨h22, H⟩ | ⟨h22, H⟩
  · refine W.cond true (w := (decide (x6 < (r15.length : Int)))) (by kernel_rfl) (decide_eq_true h22) ?_
    refine W.adv 8 ?_
    obtain ⟨h23, H⟩ := H
    refine W.opS (OpIs.ixR (k' := .i64) (b := 15) (v := ver) (sz := 2) (len := n15) (i := x6) (by kernel_rfl) h23 (by rw [ln_15]; exact h22)) ?_
    obtain ⟨e24, e25, he26, H⟩ := H
    refine W.opS (OpIs.ldE (enc := E_api_Prefix) (b := 15) (v := ver) (i := (x6).toNat) (off := 0) (w := ver) (n := 2) (s := 2) (fz := false) (a := true) (L := r15) (d0 := (0, 0)) (x := (e24, e25)) (r := (.agg [(.int .u32 e24), (.int .i64 e25)])) (by kernel_rfl) rfl (by omega) he26 (by kernel_rfl)) ?_
    refine W.adv 1 ?_
    refine W.opH (OpIs.stV (b := 58) (v := ((jb 58).ver + 1)) (i := 0) (off := 0) (w := ((jb 58).ver + 1)) (n := 2) (s := 2) (xs := [(.agg [(.int .u32 0), (.int .i64 0)])]) (ys := [(.agg [(.int .u32 e24), (.int .i64 e25)])]) (d := (.agg [(.int .u32 0), (.int .i64 0)])) (y := (.agg [(.int .u32 e24), (.int .i64 e25)])) (by kernel_rfl) rfl (by kernel_rfl) (by kernel_rfl) (Nat.le_of_ble_eq_true (by kernel_rfl)) (by kernel_rfl) (by kernel_rfl)) ?_
    refine W.adv 5 ?_
    refine W.opS (OpIs.ldV (b := 58) (v := ((jb 58).ver + 1)) (i := 0) (off := 0) (w := ((jb 58).ver + 1)) (n := 2) (s := 2) (fz := false) (a := true) (xs := [(.agg [(.int .u32 e24), (.int .i64 e25)])]) (r := (.agg [(.int .u32 e24), (.int .i64 e25)])) (by kernel_rfl) rfl (by kernel_rfl)) ?_
    obtain ⟨c27, hc28, H⟩ := H
    refine W.callR (g := 81) (ds := [(.agg [(.int .u32 e24), (.int .i64 e25)]), (.pref 2 ver2 0 0)]) (es := [(.agg [(.int .u32 e24), (.int .i64 e25)]), (.ptr [(.int .u32 e2_0_0), (.int .i64 e2_0_1)])]) (r := (.bool c27)) (by kernel_rfl) (rf_cons (by kernel_rfl) (rf_cons (rf_prefV (b := 2) (v := ver2) (w := ver2) (i := 0) (off := 0) (n := 2) (fz := false) (xs := [(.agg [(.int .u32 e2_0_0), (.int .i64 e2_0_1)])]) (d := (.agg [(.int .u32 e2_0_0), (.int .i64 e2_0_1)])) (by kernel_rfl) rfl (by kernel_rfl) (by kernel_rfl)) rf_nil)) (Ic.args hc28 (by kernel_rfl)) (by kernel_rfl) ?_
    refine W.adv 3 ?_
    rcases H with ⟨h29, H⟩ | ⟨h29, H⟩
    · refine W.cond false (w := (!c27)) (by kernel_rfl) (congrArg (fun b => !b) h29) ?_
      refine W.adv 9 ?_
      exact W.to_loop (P := slices_DeleteFunc___api_Prefix_api_Prefix__L1_l1_s cb ver ver2 e2_0_0 e2_0_1 x5 (wi (x6 + 1)) r15 n15) (H _ ln_15) (by kernel_rfl)
    · refine W.cond true (w := (!c27)) (by kernel_rfl) (congrArg (fun b => !b) (bfalse h29)) ?_
      refine W.adv 4 ?_
      refine W.opS (OpIs.ldV (b := 58) (v := ((jb 58).ver + 1)) (i := 0) (off := 0) (w := ((jb 58).ver + 1)) (n := 2) (s := 2) (fz := false) (a := true) (xs := [(.agg [(.int .u32 e24), (.int .i64 e25)])]) (r := (.agg [(.int .u32 e24), (.int .i64 e25)])) (by kernel_rfl) rfl (by kernel_rfl)) ?_
      obtain ⟨h30, h31, H⟩ := H
      refine W.opS (OpIs.ixR (k' := .i64) (b := 15) (v := ver) (sz := 2) (len := n15) (i := x5) (by kernel_rfl) h30 (by rw [ln_15]; exact h31)) ?_
      obtain ⟨y32, hy33, H⟩ := H
      have ln34 : n15 = y32.length := by rw [hy33, List.length_set]; exact ln_15
      refine W.opH (OpIs.stE (enc := E_api_Prefix) (b := 15) (v := ver) (i := (x5).toNat) (off := 0) (w := ver) (n := 2) (s := 2) (L := r15) (d0 := (0, 0)) (x := (r15.getD (x5).toNat (0, 0))) (z := (e24, e25)) (y := (.agg [(.int .u32 e24), (.int .i64 e25)])) (by kernel_rfl) hy33 rfl (by omega) rfl (by kernel_rfl) (Nat.le_of_ble_eq_true (by kernel_rfl)) (by kernel_rfl) (by kernel_rfl)) ?_
      refine W.adv 15 ?_
      exact W.to_loop (P := slices_DeleteFunc___api_Prefix_api_Prefix__L1_l1_s cb ver ver2 e2_0_0 e2_0_1 (wi (x5 + 1)) (wi (x6 + 1)) y32 n15) (H _ ln34) (by kernel_rfl)
  · refine W.cond false (w := (decide (x6 < (r15.length : Int)))) (by kernel_rfl) (decide_eq_false h22) ?_
    refine W.adv 9 ?_
    obtain ⟨h35, h36, H⟩ := H
    refine W.opS (OpIs.slR (k' := .i64) (b := 15) (v := ver) (sz := 2) (len := n15) (m := r15.length) (i := x5) (by kernel_rfl) ln_15 h35 h36) ?_
    obtain ⟨y37, hy38, H⟩ := H
    have ln39 : (x5).toNat = y37.length := by rw [hy38, List.length_take]; omega
    refine W.opH (OpIs.clE (enc := E_api_Prefix) (b := 15) (v := ver) (w := ver) (s := 2) (off := (x5).toNat) (len := (r15.length - (x5).toNat)) (L := r15) (by kernel_rfl) hy38 rfl rfl) ?_
    refine W.adv 6 ?_
    refine W.opS (OpIs.slS (b := 15) (v := ver) (sz := 2) (off := 0) (len := n15) (p := 0) (q := (x5).toNat) (lo := none) (hi := some (.int .i64 x5)) (by kernel_rfl) (bound_some h35 (by rw [ln_15]; exact h36)) rfl) ?_
    refine W.adv 4 ?_
    exact W.fin (x := .ret) (by kernel_rfl) (SAnsL.any (d0 := (.sref 15 ver 2 0 (x5).toNat)) (h0 := [(cb 0), (cb 1), ⟨ver2, false, .rows 2 [(.agg [(.int .u32 e2_0_0), (.int .i64 e2_0_1)])]⟩, (cb 3), (cb 4), (cb 5), (cb 6), (cb 7), (cb 8), (cb 9), (cb 10), (cb 11), (cb 12), (cb 13), (cb 14), ⟨ver, false, .rows 2 (y37.map E_api_Prefix)⟩, (cb 16), (cb 17), (cb 18), (cb 19), (cb 20), (cb 21), (cb 22), (cb 23), (cb 24), (cb 25), (cb 26), (cb 27), (cb 28), (cb 29), (cb 30), (cb 31), (cb 32), (cb 33), (cb 34), (cb 35), (cb 36), (cb 37), (cb 38), (cb 39), (cb 40), (cb 41), (cb 42), (cb 43), (cb 44), (cb 45), (cb 46), (cb 47), (cb 48), (cb 49), (cb 50)]) (by kernel_rfl) (by rw [H, ← ln39]) (by kernel_rfl) (by kernel_rfl) (by rw [H]))
theorem slices_DeleteFunc___api_Prefix_api_Prefix__L1_go {xs : List T_api_Prefix} {e2_0_0 : Int} {e2_0_1 : Int} {ys : List T_api_Prefix} (H : ∀ (cb : Nat → Blk) (ver ver2 : Nat), (∃ c1 : Int, (slices_IndexFunc___api_Prefix_api_Prefix__v1_R xs e2_0_0 e2_0_1 c1 ∧ ((c1 = (-1) ∧ (ys = xs)) ∨ (¬ c1 = (-1) ∧ (slices_DeleteFunc___api_Prefix_api_Prefix__L1_l0 cb ver ver2 e2_0_0 e2_0_1 c1 (wi (c1 + 1)) xs ys)))))) : slices_DeleteFunc___api_Prefix_api_Prefix__L1_R xs e2_0_0 e2_0_1 ys := by
  intro cb ver ver2 n ln
  replace H := H cb ver ver2
  refine W.scL (n := 51) Tryz.func79 (by kernel_rfl) (by kernel_rfl) (by kernel_rfl) (by kernel_rfl) ?_
  refine W.adv 9 ?_
  obtain ⟨c1, hc2, H⟩ := H
  refine W.callR (g := 133) (ds := [(.sref 15 ver 2 0 n), (.fn 81 [] [(.pref 2 ver2 0 0)])]) (es := [(.list 2 (xs.map E_api_Prefix)), (.fn 81 [] [(.ptr [(.int .u32 e2_0_0), (.int .i64 e2_0_1)])])]) (r := (.int .i64 c1)) (by kernel_rfl) (rf_cons (rf_fullE (enc := E_api_Prefix) E_api_Prefix_t (b := 15) (v := ver) (w := ver) (fz := false) (xs := xs) (by kernel_rfl) rfl ln) (rf_cons (rf_fn rf_nil (rf_cons (rf_prefV (b := 2) (v := ver2) (w := ver2) (i := 0) (off := 0) (n := 2) (fz := false) (xs := [(.agg [(.int .u32 e2_0_0), (.int .i64 e2_0_1)])]) (d := (.agg [(.int .u32 e2_0_0), (.int .i64 e2_0_1)])) (by kernel_rfl) rfl (by kernel_rfl) (by kernel_rfl)) rf_nil)) rf_nil)) (Ic.args hc2 (by kernel_rfl)) (by kernel_rfl) ?_
  refine W.adv 10 ?_
  rcases H with ⟨h3, H⟩ | ⟨h3, H⟩
  · refine W.cond true (w := (decide (c1 = (-1)))) (by kernel_rfl) (decide_eq_true h3) ?_
    refine W.adv 8 ?_
    exact W.fin (x := .ret) (by kernel_rfl) (SAnsL.any (d0 := (.sref 15 ver 2 0 n)) (h0 := [(cb 0), (cb 1), ⟨ver2, false, .rows 2 [(.agg [(.int .u32 e2_0_0), (.int .i64 e2_0_1)])]⟩, (cb 3), (cb 4), (cb 5), (cb 6), (cb 7), (cb 8), (cb 9), (cb 10), (cb 11), (cb 12), (cb 13), (cb 14), ⟨ver, false, .rows 2 (xs.map E_api_Prefix)⟩, (cb 16), (cb 17), (cb 18), (cb 19), (cb 20), (cb 21), (cb 22), (cb 23), (cb 24), (cb 25), (cb 26), (cb 27), (cb 28), (cb 29), (cb 30), (cb 31), (cb 32), (cb 33), (cb 34), (cb 35), (cb 36), (cb 37), (cb 38), (cb 39), (cb 40), (cb 41), (cb 42), (cb 43), (cb 44), (cb 45), (cb 46), (cb 47), (cb 48), (cb 49), (cb 50)]) (by kernel_rfl) (by rw [H, ← ln]) (by kernel_rfl) (by kernel_rfl) (by rw [H]))
  · refine W.cond false (w := (decide (c1 = (-1)))) (by kernel_rfl) (decide_eq_false h3) ?_
    refine W.adv 11 ?_
    exact W.to_loop (P := slices_DeleteFunc___api_Prefix_api_Prefix__L1_l0_s cb ver ver2 e2_0_0 e2_0_1 c1 (wi (c1 + 1)) xs n) (H _ ln) (by kernel_rfl)
/-! ### slices.IndexFunc[[]trivium/api.Prefix,trivium/api.Prefix] -/
noncomputable def slices_IndexFunc___api_Prefix_api_Prefix__v1_l0_s (x0 : List T_api_Prefix) (x1_c0_0 : Int) (x1_c0_1 : Int) (x7 : Int) (x8 : Int) (j : Nat → D) (jb : Nat → Blk) (vs : Nat → Nat) : Cf := cfAt Tryz.f133 [1, 0, 1, 0] ⟨[(.list 2 (x0.map E_api_Prefix)), (.fn 81 [] [(.ptr [(.int .u32 x1_c0_0), (.int .i64 x1_c0_1)])]), (j 2), (j 3), (j 4), (j 5), (j 6), (.int .i64 x7), (.int .i64 x8), (j 9), (j 10), (j 11), (j 12), (j 13), (j 14), (j 15), (j 16), (j 17), (j 18)], [(jb 0), (jb 1), (jb 2), (jb 3), (jb 4), (jb 5), (jb 6), (jb 7), (jb 8), (jb 9), (jb 10), (jb 11), (jb 12), (jb 13), (jb 14), (jb 15), (jb 16), (jb 17), (jb 18)]⟩
def slices_IndexFunc___api_Prefix_api_Prefix__v1_l0 (x0 : List T_api_Prefix) (x1_c0_0 : Int) (x1_c0_1 : Int) (x7 : Int) (x8 : Int) (z : Int) : Prop := ∀ j jb vs, W C F 133 0 (slices_IndexFunc___api_Prefix_api_Prefix__v1_l0_s x0 x1_c0_0 x1_c0_1 x7 x8  j jb vs) (Ans C Tryz.f133 (.int .i64 z))
theorem slices_IndexFunc___api_Prefix_api_Prefix__v1_l0_go {x0 : List T_api_Prefix} {x1_c0_0 : Int} {x1_c0_1 : Int} {x7 : Int} {x8 : Int} {z : Int} (H : ((x8 < x7 ∧ (0 ≤ x8 ∧ (x8 < (x0.length : Int) ∧ (∃ e4 : Int, (∃ e5 : Int, (x0.getD (x8).toNat (0, 0) = (e4, e5) ∧ (∃ c7 : Bool, (lint_Covered_2_v0_R e4 e5 x1_c0_0 x1_c0_1 c7 ∧ ((c7 = true ∧ (z = x8)) ∨ (¬ c7 = true ∧ (slices_IndexFunc___api_Prefix_api_Prefix__v1_l0 x0 x1_c0_0 x1_c0_1 x7 (wi (x8 + 1)) z))))))))))) ∨ (¬ x8 < x7 ∧ (z = (-1))))) : slices_IndexFunc___api_Prefix_api_Prefix__v1_l0 x0 x1_c0_0 x1_c0_1 x7 x8 z := by
  intro j jb vs
  refine W.adv 1 ?_
  refine W.adv 6 ?_
  rcases H with ⟨h1, H⟩ | ⟨h1, H⟩
  · refine W.cond true (w := (decide (x8 < x7))) (by kernel_rfl) (decide_eq_true h1) ?_
    refine W.adv 15 ?_
    obtain ⟨h2, h3, H⟩ := H
    obtain ⟨e4, e5, he6, H⟩ := H
    refine W.opS (OpIs.ixE (enc := E_api_Prefix) (n := 2) (k' := .i64) (L := x0) (i := x8) (d0 := (0, 0)) (x := (e4, e5)) (by kernel_rfl) h2 h3 he6) ?_
    refine W.adv 1 ?_
    obtain ⟨c7, hc8, H⟩ := H
    refine W.callR (g := 81) (ds := [(.agg [(.int .u32 e4), (.int .i64 e5)]), (.ptr [(.int .u32 x1_c0_0), (.int .i64 x1_c0_1)])]) (es := [(.agg [(.int .u32 e4), (.int .i64 e5)]), (.ptr [(.int .u32 x1_c0_0), (.int .i64 x1_c0_1)])]) (r := (.bool c7)) (by kernel_rfl) (by kernel_rfl) (Ic.args hc8 (by kernel_rfl)) (by kernel_rfl) ?_
    refine W.adv 2 ?_
    rcases H with ⟨h9, H⟩ | ⟨h9, H⟩
    · refine W.cond true (w := c7) (by kernel_rfl) h9 ?_
      refine W.adv 12 ?_
      exact W.fin (x := .ret) (by kernel_rfl) (Ans.of (d := (.int .i64 x8)) (d' := (.int .i64 x8)) (e' := (.int .i64 x8)) (by kernel_rfl) (by kernel_rfl) (by kernel_rfl) (by rw [H]))
    · refine W.cond false (w := c7) (by kernel_rfl) (bfalse h9) ?_
      refine W.adv 8 ?_
      exact W.to_loop (P := slices_IndexFunc___api_Prefix_api_Prefix__v1_l0_s x0 x1_c0_0 x1_c0_1 x7 (wi (x8 + 1))) (H ) (by kernel_rfl)
  · refine W.cond false (w := (decide (x8 < x7))) (by kernel_rfl) (decide_eq_false h1) ?_
    refine W.adv 11 ?_
    exact W.fin (x := .ret) (by kernel_rfl) (Ans.of (d := (.int .i64 (-1))) (d' := (.int .i64 (-1))) (e' := (.int .i64 (-1))) (by kernel_rfl) (by kernel_rfl) (by kernel_rfl) (by rw [H]))
theorem slices_IndexFunc___api_Prefix_api_Prefix__v1_go {a0 : List T_api_Prefix} {a1_c0_0 : Int} {a1_c0_1 : Int} {z : Int} (H : (slices_IndexFunc___api_Prefix_api_Prefix__v1_l0 a0 a1_c0_0 a1_c0_1 (a0.length : Int) 0 z)) : slices_IndexFunc___api_Prefix_api_Prefix__v1_R a0 a1_c0_0 a1_c0_1 z := by
  refine W.ic (zs := [(.list 2 (a0.map E_api_Prefix)), (.fn 81 [] [(.ptr [(.int .u32 a1_c0_0), (.int .i64 a1_c0_1)])])]) Tryz.func133 (by kernel_rfl) (by kernel_rfl) (by kernel_rfl) (by kernel_rfl) ?_
  refine W.adv 9 ?_
  refine W.opS (OpIs.ln (n := (a0.map E_api_Prefix).length) (m := a0.length) (by kernel_rfl) (by rw [List.length_map])) ?_
  refine W.adv 4 ?_
  exact W.to_loop (P := slices_IndexFunc___api_Prefix_api_Prefix__v1_l0_s a0 a1_c0_0 a1_c0_1 (a0.length : Int) 0) (H ) (by kernel_rfl)
end Go.Proofs.YtjcdkemnflmfiaaGreatA
