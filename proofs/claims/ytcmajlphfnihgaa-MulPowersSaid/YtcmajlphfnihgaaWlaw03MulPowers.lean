/- Walks through the functions: what makes each relation true. -/
import Derived.Test.YtcmajlphfnihgaaW0
set_option linter.unusedVariables false
set_option maxRecDepth 100000
namespace Go.Proofs.YtcmajlphfnihgaaA
open Go Go.Proofs
/-! ### trivium/triviumlaw03.MulPowers -/
noncomputable def law03_MulPowers_l0_s (x2 : List (List Int)) (x7 : List Int) (x8 : Int) (x9 : List Int) (x10 : Int) (x12 : List Int) (x13 : Int) (j : Nat → D) (jb : Nat → Blk) (vs : Nat → Nat) : Cf := cfAt Try.f6 [1, 1, 1, 1, 1, 1, 0, 1, 0] ⟨[(j 0), (j 1), (.list 1 (x2.map (D.ints .u64))), (j 3), (j 4), (j 5), (j 6), (.ints .u64 x7), (.int .i64 x8), (.ints .u64 x9), (.int .i64 x10), .nilS, (.lit (.ints .u64 x12)), (.int .i64 x13), (j 14), (j 15), (j 16), (j 17), (j 18), (j 19), (j 20), (j 21), (j 22), (j 23), (j 24), (j 25), (j 26), (j 27), (j 28), (j 29), (j 30), (j 31), (j 32), (j 33), (j 34), (j 35), (j 36), (j 37), (j 38), (j 39), (j 40), (j 41), (j 42), (j 43), (j 44), (j 45), (j 46), (j 47), (j 48), (j 49), (j 50), (j 51), (j 52), (j 53), (j 54), (j 55), (j 56), (j 57), (j 58), (j 59), (j 60), (j 61), (j 62), (j 63), (j 64), (j 65), (j 66), (j 67), (j 68), (j 69), (j 70), (j 71), (j 72), (j 73), (j 74), (j 75), (j 76), (j 77)], [(jb 0), (jb 1), (jb 2), (jb 3), (jb 4), (jb 5), (jb 6), (jb 7), (jb 8), (jb 9), (jb 10), (jb 11), (jb 12), (jb 13), (jb 14), (jb 15), (jb 16), (jb 17), (jb 18), (jb 19), (jb 20), (jb 21), (jb 22), (jb 23), (jb 24), (jb 25), (jb 26), (jb 27), (jb 28), (jb 29), (jb 30), (jb 31), (jb 32), (jb 33), (jb 34), (jb 35), (jb 36), (jb 37), (jb 38), (jb 39), (jb 40), (jb 41), (jb 42), (jb 43), (jb 44), (jb 45), (jb 46), (jb 47), (jb 48), (jb 49), (jb 50), (jb 51), (jb 52), (jb 53), (jb 54), (jb 55), (jb 56), (jb 57), (jb 58), (jb 59), (jb 60), (jb 61), (jb 62), (jb 63), (jb 64), (jb 65), (jb 66), (jb 67), (jb 68), (jb 69), (jb 70), (jb 71), (jb 72), (jb 73), (jb 74), (jb 75), (jb 76), (jb 77)]⟩
def law03_MulPowers_l0 (x2 : List (List Int)) (x7 : List Int) (x8 : Int) (x9 : List Int) (x10 : Int) (x12 : List Int) (x13 : Int) (z : Bool) : Prop := ∀ j jb vs, W C F 6 0 (law03_MulPowers_l0_s x2 x7 x8 x9 x10 x12 x13  j jb vs) (LAns C Try.f6 z)
noncomputable def law03_MulPowers_l1_s (x2 : List (List Int)) (x7 : List Int) (x8 : Int) (x9 : List Int) (x10 : Int) (x12 : List Int) (x13 : Int) (r57 : List (List Int)) (n57 : Nat) (j : Nat → D) (jb : Nat → Blk) (vs : Nat → Nat) : Cf := cfAt Try.f6 [1, 1, 1, 1, 1, 1, 0, 1, 0] ⟨[(j 0), (j 1), (.list 1 (x2.map (D.ints .u64))), (j 3), (j 4), (j 5), (j 6), (.ints .u64 x7), (.int .i64 x8), (.ints .u64 x9), (.int .i64 x10), (.sref 57 ((vs 57) + 1) 1 0 n57), (.ints .u64 x12), (.int .i64 x13), (j 14), (j 15), (j 16), (j 17), (j 18), (j 19), (j 20), (j 21), (j 22), (j 23), (j 24), (j 25), (j 26), (j 27), (j 28), (j 29), (j 30), (j 31), (j 32), (j 33), (j 34), (j 35), (j 36), (j 37), (j 38), (j 39), (j 40), (j 41), (j 42), (j 43), (j 44), (j 45), (j 46), (j 47), (j 48), (j 49), (j 50), (j 51), (j 52), (j 53), (j 54), (j 55), (j 56), (j 57), (j 58), (j 59), (j 60), (j 61), (j 62), (j 63), (j 64), (j 65), (j 66), (j 67), (j 68), (j 69), (j 70), (j 71), (j 72), (j 73), (j 74), (j 75), (j 76), (j 77)], [(jb 0), (jb 1), (jb 2), (jb 3), (jb 4), (jb 5), (jb 6), (jb 7), (jb 8), (jb 9), (jb 10), (jb 11), (jb 12), (jb 13), (jb 14), (jb 15), (jb 16), (jb 17), (jb 18), (jb 19), (jb 20), (jb 21), (jb 22), (jb 23), (jb 24), (jb 25), (jb 26), (jb 27), (jb 28), (jb 29), (jb 30), (jb 31), (jb 32), (jb 33), (jb 34), (jb 35), (jb 36), (jb 37), (jb 38), (jb 39), (jb 40), (jb 41), (jb 42), (jb 43), (jb 44), (jb 45), (jb 46), (jb 47), (jb 48), (jb 49), (jb 50), (jb 51), (jb 52), (jb 53), (jb 54), (jb 55), (jb 56), ⟨((vs 57) + 1), false, .rows 1 (r57.map (D.ints .u64))⟩, (jb 58), (jb 59), (jb 60), (jb 61), (jb 62), (jb 63), (jb 64), (jb 65), (jb 66), (jb 67), (jb 68), (jb 69), (jb 70), (jb 71), (jb 72), (jb 73), (jb 74), (jb 75), (jb 76), (jb 77)]⟩
def law03_MulPowers_l1 (x2 : List (List Int)) (x7 : List Int) (x8 : Int) (x9 : List Int) (x10 : Int) (x12 : List Int) (x13 : Int) (r57 : List (List Int)) (z : Bool) : Prop := ∀ n57, n57 = r57.length → ∀ j jb vs, W C F 6 0 (law03_MulPowers_l1_s x2 x7 x8 x9 x10 x12 x13 r57 n57 j jb vs) (LAns C Try.f6 z)
theorem law03_MulPowers_l0_go {x2 : List (List Int)} {x7 : List Int} {x8 : Int} {x9 : List Int} {x10 : Int} {x12 : List Int} {x13 : Int} {z : Bool} (H : ((x13 < (x2.length : Int) ∧ ((x13 < 6 ∧ (0 ≤ x13 ∧ (∃ c20 : List Int, (ref02_Clean_R (x2.getD (x13).toNat []) 6 c20 ∧ ((1 + 192) * (24 + 1) ≤ 70368744177664 ∧ (∃ y22 : List (List Int), y22 = [c20] ∧ (∃ c26 : List Int, (ref03_Mul_R x12 c20 c26 ∧ (law03_MulPowers_l1 x2 x7 x8 x9 x10 c26 (wi (x13 + 1)) y22 z))))))))) ∨ (¬ x13 < 6 ∧ (∃ c28 : Bool, (ref02_Same_R x7 x9 c28 ∧ ((c28 = true ∧ ((x8 = x10 ∧ (∃ c32 : List Int, (mul_Product_R [] c32 ∧ (∃ c34 : Bool, (ref02_Same_R c32 x12 c34 ∧ ((c34 = true ∧ (∃ c37 : Bool, (law03_works_R c37 ∧ (z = c37)))) ∨ (¬ c34 = true ∧ (z = false)))))))) ∨ (¬ x8 = x10 ∧ (z = false)))) ∨ (¬ c28 = true ∧ (z = false)))))))) ∨ (¬ x13 < (x2.length : Int) ∧ (∃ c39 : Bool, (ref02_Same_R x7 x9 c39 ∧ ((c39 = true ∧ ((x8 = x10 ∧ (∃ c43 : List Int, (mul_Product_R [] c43 ∧ (∃ c45 : Bool, (ref02_Same_R c43 x12 c45 ∧ ((c45 = true ∧ (∃ c48 : Bool, (law03_works_R c48 ∧ (z = c48)))) ∨ (¬ c45 = true ∧ (z = false)))))))) ∨ (¬ x8 = x10 ∧ (z = false)))) ∨ (¬ c39 = true ∧ (z = false)))))))) : law03_MulPowers_l0 x2 x7 x8 x9 x10 x12 x13 z := by
  intro j jb vs
  refine W.adv 1 ?_
  refine W.adv 5 ?_
  refine W.opS (OpIs.ln (n := (x2.map (D.ints .u64)).length) (m := x2.length) (by kernel_rfl) (by rw [List.length_map])) ?_
  refine W.adv 2 ?_
  rcases H with ⟨h17, H⟩ | ⟨h17, H⟩
  · refine W.guard true (w := ((decide (x13 < (x2.length : Int))) == true)) (by kernel_rfl) (congrArg (fun b => b == true) (decide_eq_true h17)) ?_
    refine W.adv 1 ?_
    refine W.guard true (w := ((decide (x13 < (x2.length : Int))) == true)) (by kernel_rfl) (congrArg (fun b => b == true) (decide_eq_true h17)) ?_
    refine W.adv 1 ?_
    refine W.opS (OpIs.pk true (t := (decide (x13 < (x2.length : Int)))) (x := (.bool (decide (x13 < 6)))) (y := (.bool false)) (by kernel_rfl) (decide_eq_true h17)) ?_
    refine W.adv 2 ?_
    rcases H with ⟨h18, H⟩ | ⟨h18, H⟩
    · refine W.cond true (w := (decide (x13 < 6))) (by kernel_rfl) (decide_eq_true h18) ?_
      refine W.adv 8 ?_
      obtain ⟨h19, H⟩ := H
      refine W.opS (OpIs.ixLL (k := .u64) (k' := .i64) (L := x2) (i := x13) (by kernel_rfl) h19 h17) ?_
      refine W.adv 1 ?_
      obtain ⟨c20, hc21, H⟩ := H
      refine W.callR (g := 12) (ds := [(.ints .u64 (x2.getD (x13).toNat [])), (.int .i64 6)]) (es := [(.ints .u64 (x2.getD (x13).toNat [])), (.int .i64 6)]) (r := (.ints .u64 c20)) (by kernel_rfl) (by kernel_rfl) (Ic.args hc21 (by kernel_rfl)) (by kernel_rfl) ?_
      refine W.adv 8 ?_
      obtain ⟨h25, H⟩ := H
      obtain ⟨y22, hy23, H⟩ := H
      have ln24 : 1 = y22.length := by rw [hy23] <;> rfl
      refine W.opH (OpIs.apLNil (y := (.lit (.list 1 [(.ints .u64 c20)]))) (B := none) (n := 24) (d := 57) (v := (jb 57).ver) (k := .u64) (ys := [c20]) (by kernel_rfl) (by kernel_rfl) hy23 h25) ?_
      refine W.adv 6 ?_
      obtain ⟨c26, hc27, H⟩ := H
      refine W.callR (g := 17) (ds := [(.lit (.ints .u64 x12)), (.ints .u64 c20)]) (es := [(.ints .u64 x12), (.ints .u64 c20)]) (r := (.ints .u64 c26)) (by kernel_rfl) (by kernel_rfl) (Ic.args hc27 (by kernel_rfl)) (by kernel_rfl) ?_
      refine W.adv 10 ?_
      exact W.to_loop (P := law03_MulPowers_l1_s x2 x7 x8 x9 x10 c26 (wi (x13 + 1)) y22 1) (H _ ln24) (by kernel_rfl)
    · refine W.cond false (w := (decide (x13 < 6))) (by kernel_rfl) (decide_eq_false h18) ?_
      refine W.adv 9 ?_
      obtain ⟨c28, hc29, H⟩ := H
      refine W.callR (g := 13) (ds := [(.ints .u64 x7), (.ints .u64 x9)]) (es := [(.ints .u64 x7), (.ints .u64 x9)]) (r := (.bool c28)) (by kernel_rfl) (by kernel_rfl) (Ic.args hc29 (by kernel_rfl)) (by kernel_rfl) ?_
      refine W.adv 1 ?_
      rcases H with ⟨h30, H⟩ | ⟨h30, H⟩
      · refine W.guard true (w := (c28 == true)) (by kernel_rfl) (congrArg (fun b => b == true) h30) ?_
        refine W.adv 1 ?_
        refine W.guard true (w := (c28 == true)) (by kernel_rfl) (congrArg (fun b => b == true) h30) ?_
        refine W.adv 1 ?_
        refine W.guard true (w := (c28 == true)) (by kernel_rfl) (congrArg (fun b => b == true) h30) ?_
        refine W.adv 1 ?_
        refine W.opS (OpIs.pk true (t := c28) (x := (.bool (decide (x8 = x10)))) (y := (.bool false)) (by kernel_rfl) h30) ?_
        refine W.adv 1 ?_
        rcases H with ⟨h31, H⟩ | ⟨h31, H⟩
        · refine W.guard true (w := ((decide (x8 = x10)) == true)) (by kernel_rfl) (congrArg (fun b => b == true) (decide_eq_true h31)) ?_
          refine W.adv 1 ?_
          refine W.guard true (w := ((decide (x8 = x10)) == true)) (by kernel_rfl) (congrArg (fun b => b == true) (decide_eq_true h31)) ?_
          obtain ⟨c32, hc33, H⟩ := H
          refine W.callR (g := 26) (ds := [.nilS]) (es := [.nilS]) (r := (.ints .u64 c32)) (by kernel_rfl) (by kernel_rfl) (Ic.args hc33 (by kernel_rfl)) (by kernel_rfl) ?_
          refine W.guard true (w := ((decide (x8 = x10)) == true)) (by kernel_rfl) (congrArg (fun b => b == true) (decide_eq_true h31)) ?_
          refine W.adv 1 ?_
          refine W.guard true (w := ((decide (x8 = x10)) == true)) (by kernel_rfl) (congrArg (fun b => b == true) (decide_eq_true h31)) ?_
          obtain ⟨c34, hc35, H⟩ := H
          refine W.callR (g := 13) (ds := [(.ints .u64 c32), (.lit (.ints .u64 x12))]) (es := [(.ints .u64 c32), (.ints .u64 x12)]) (r := (.bool c34)) (by kernel_rfl) (by kernel_rfl) (Ic.args hc35 (by kernel_rfl)) (by kernel_rfl) ?_
          refine W.opS (OpIs.pk true (t := (decide (x8 = x10))) (x := (.bool c34)) (y := (.bool false)) (by kernel_rfl) (decide_eq_true h31)) ?_
          refine W.adv 1 ?_
          rcases H with ⟨h36, H⟩ | ⟨h36, H⟩
          · refine W.guard true (w := (c34 == true)) (by kernel_rfl) (congrArg (fun b => b == true) h36) ?_
            obtain ⟨c37, hc38, H⟩ := H
            refine W.callR (g := 16) (ds := []) (es := []) (r := (.bool c37)) (by kernel_rfl) (by kernel_rfl) (Ic.args hc38 (by kernel_rfl)) (by kernel_rfl) ?_
            refine W.opS (OpIs.pk true (t := c34) (x := (.bool c37)) (y := (.bool false)) (by kernel_rfl) h36) ?_
            refine W.adv 4 ?_
            exact W.fin (x := .ret) (by kernel_rfl) (LAns.of (d := (.bool c37)) (by kernel_rfl) (by rw [H]))
          · refine W.guard false (w := (c34 == true)) (by kernel_rfl) (congrArg (fun b => b == true) (bfalse h36)) ?_
            refine W.opS (OpIs.pk false (t := c34) (x := (.tuple [])) (y := (.bool false)) (by kernel_rfl) (bfalse h36)) ?_
            refine W.adv 4 ?_
            exact W.fin (x := .ret) (by kernel_rfl) (LAns.of (d := (.bool false)) (by kernel_rfl) (by rw [H]))
        · refine W.guard false (w := ((decide (x8 = x10)) == true)) (by kernel_rfl) (congrArg (fun b => b == true) (decide_eq_false h31)) ?_
          refine W.guard false (w := ((decide (x8 = x10)) == true)) (by kernel_rfl) (congrArg (fun b => b == true) (decide_eq_false h31)) ?_
          refine W.guard false (w := ((decide (x8 = x10)) == true)) (by kernel_rfl) (congrArg (fun b => b == true) (decide_eq_false h31)) ?_
          refine W.guard false (w := ((decide (x8 = x10)) == true)) (by kernel_rfl) (congrArg (fun b => b == true) (decide_eq_false h31)) ?_
          refine W.opS (OpIs.pk false (t := (decide (x8 = x10))) (x := (.tuple [])) (y := (.bool false)) (by kernel_rfl) (decide_eq_false h31)) ?_
          refine W.adv 7 ?_
          exact W.fin (x := .ret) (by kernel_rfl) (LAns.of (d := (.bool false)) (by kernel_rfl) (by rw [H]))
      · refine W.guard false (w := (c28 == true)) (by kernel_rfl) (congrArg (fun b => b == true) (bfalse h30)) ?_
        refine W.guard false (w := (c28 == true)) (by kernel_rfl) (congrArg (fun b => b == true) (bfalse h30)) ?_
        refine W.guard false (w := (c28 == true)) (by kernel_rfl) (congrArg (fun b => b == true) (bfalse h30)) ?_
        refine W.opS (OpIs.pk false (t := c28) (x := (.tuple [])) (y := (.bool false)) (by kernel_rfl) (bfalse h30)) ?_
        refine W.adv 13 ?_
        exact W.fin (x := .ret) (by kernel_rfl) (LAns.of (d := (.bool false)) (by kernel_rfl) (by rw [H]))
  · refine W.guard false (w := ((decide (x13 < (x2.length : Int))) == true)) (by kernel_rfl) (congrArg (fun b => b == true) (decide_eq_false h17)) ?_
    refine W.guard false (w := ((decide (x13 < (x2.length : Int))) == true)) (by kernel_rfl) (congrArg (fun b => b == true) (decide_eq_false h17)) ?_
    refine W.opS (OpIs.pk false (t := (decide (x13 < (x2.length : Int)))) (x := (.tuple [])) (y := (.bool false)) (by kernel_rfl) (decide_eq_false h17)) ?_
    refine W.adv 12 ?_
    obtain ⟨c39, hc40, H⟩ := H
    refine W.callR (g := 13) (ds := [(.ints .u64 x7), (.ints .u64 x9)]) (es := [(.ints .u64 x7), (.ints .u64 x9)]) (r := (.bool c39)) (by kernel_rfl) (by kernel_rfl) (Ic.args hc40 (by kernel_rfl)) (by kernel_rfl) ?_
    refine W.adv 1 ?_
    rcases H with ⟨h41, H⟩ | ⟨h41, H⟩
    · refine W.guard true (w := (c39 == true)) (by kernel_rfl) (congrArg (fun b => b == true) h41) ?_
      refine W.adv 1 ?_
      refine W.guard true (w := (c39 == true)) (by kernel_rfl) (congrArg (fun b => b == true) h41) ?_
      refine W.adv 1 ?_
      refine W.guard true (w := (c39 == true)) (by kernel_rfl) (congrArg (fun b => b == true) h41) ?_
      refine W.adv 1 ?_
      refine W.opS (OpIs.pk true (t := c39) (x := (.bool (decide (x8 = x10)))) (y := (.bool false)) (by kernel_rfl) h41) ?_
      refine W.adv 1 ?_
      rcases H with ⟨h42, H⟩ | ⟨h42, H⟩
      · refine W.guard true (w := ((decide (x8 = x10)) == true)) (by kernel_rfl) (congrArg (fun b => b == true) (decide_eq_true h42)) ?_
        refine W.adv 1 ?_
        refine W.guard true (w := ((decide (x8 = x10)) == true)) (by kernel_rfl) (congrArg (fun b => b == true) (decide_eq_true h42)) ?_
        obtain ⟨c43, hc44, H⟩ := H
        refine W.callR (g := 26) (ds := [.nilS]) (es := [.nilS]) (r := (.ints .u64 c43)) (by kernel_rfl) (by kernel_rfl) (Ic.args hc44 (by kernel_rfl)) (by kernel_rfl) ?_
        refine W.guard true (w := ((decide (x8 = x10)) == true)) (by kernel_rfl) (congrArg (fun b => b == true) (decide_eq_true h42)) ?_
        refine W.adv 1 ?_
        refine W.guard true (w := ((decide (x8 = x10)) == true)) (by kernel_rfl) (congrArg (fun b => b == true) (decide_eq_true h42)) ?_
        obtain ⟨c45, hc46, H⟩ := H
        refine W.callR (g := 13) (ds := [(.ints .u64 c43), (.lit (.ints .u64 x12))]) (es := [(.ints .u64 c43), (.ints .u64 x12)]) (r := (.bool c45)) (by kernel_rfl) (by kernel_rfl) (Ic.args hc46 (by kernel_rfl)) (by kernel_rfl) ?_
        refine W.opS (OpIs.pk true (t := (decide (x8 = x10))) (x := (.bool c45)) (y := (.bool false)) (by kernel_rfl) (decide_eq_true h42)) ?_
        refine W.adv 1 ?_
        rcases H with ⟨h47, H⟩ | ⟨h47, H⟩
        · refine W.guard true (w := (c45 == true)) (by kernel_rfl) (congrArg (fun b => b == true) h47) ?_
          obtain ⟨c48, hc49, H⟩ := H
          refine W.callR (g := 16) (ds := []) (es := []) (r := (.bool c48)) (by kernel_rfl) (by kernel_rfl) (Ic.args hc49 (by kernel_rfl)) (by kernel_rfl) ?_
          refine W.opS (OpIs.pk true (t := c45) (x := (.bool c48)) (y := (.bool false)) (by kernel_rfl) h47) ?_
          refine W.adv 4 ?_
          exact W.fin (x := .ret) (by kernel_rfl) (LAns.of (d := (.bool c48)) (by kernel_rfl) (by rw [H]))
        · refine W.guard false (w := (c45 == true)) (by kernel_rfl) (congrArg (fun b => b == true) (bfalse h47)) ?_
          refine W.opS (OpIs.pk false (t := c45) (x := (.tuple [])) (y := (.bool false)) (by kernel_rfl) (bfalse h47)) ?_
          refine W.adv 4 ?_
          exact W.fin (x := .ret) (by kernel_rfl) (LAns.of (d := (.bool false)) (by kernel_rfl) (by rw [H]))
      · refine W.guard false (w := ((decide (x8 = x10)) == true)) (by kernel_rfl) (congrArg (fun b => b == true) (decide_eq_false h42)) ?_
        refine W.guard false (w := ((decide (x8 = x10)) == true)) (by kernel_rfl) (congrArg (fun b => b == true) (decide_eq_false h42)) ?_
        refine W.guard false (w := ((decide (x8 = x10)) == true)) (by kernel_rfl) (congrArg (fun b => b == true) (decide_eq_false h42)) ?_
        refine W.guard false (w := ((decide (x8 = x10)) == true)) (by kernel_rfl) (congrArg (fun b => b == true) (decide_eq_false h42)) ?_
        refine W.opS (OpIs.pk false (t := (decide (x8 = x10))) (x := (.tuple [])) (y := (.bool false)) (by kernel_rfl) (decide_eq_false h42)) ?_
        refine W.adv 7 ?_
        exact W.fin (x := .ret) (by kernel_rfl) (LAns.of (d := (.bool false)) (by kernel_rfl) (by rw [H]))
    · refine W.guard false (w := (c39 == true)) (by kernel_rfl) (congrArg (fun b => b == true) (bfalse h41)) ?_
      refine W.guard false (w := (c39 == true)) (by kernel_rfl) (congrArg (fun b => b == true) (bfalse h41)) ?_
      refine W.guard false (w := (c39 == true)) (by kernel_rfl) (congrArg (fun b => b == true) (bfalse h41)) ?_
      refine W.opS (OpIs.pk false (t := c39) (x := (.tuple [])) (y := (.bool false)) (by kernel_rfl) (bfalse h41)) ?_
      refine W.adv 13 ?_
      exact W.fin (x := .ret) (by kernel_rfl) (LAns.of (d := (.bool false)) (by kernel_rfl) (by rw [H]))
theorem law03_MulPowers_l1_go {x2 : List (List Int)} {x7 : List Int} {x8 : Int} {x9 : List Int} {x10 : Int} {x12 : List Int} {x13 : Int} {r57 : List (List Int)} {z : Bool} (H : ((x13 < (x2.length : Int) ∧ ((x13 < 6 ∧ (0 ≤ x13 ∧ (∃ c53 : List Int, (ref02_Clean_R (x2.getD (x13).toNat []) 6 c53 ∧ ((r57.length + 1 + 192) * (24 + 1) ≤ 70368744177664 ∧ (∃ y55 : List (List Int), y55 = r57 ++ [c53] ∧ (∃ c59 : List Int, (ref03_Mul_R x12 c53 c59 ∧ (law03_MulPowers_l1 x2 x7 x8 x9 x10 c59 (wi (x13 + 1)) y55 z))))))))) ∨ (¬ x13 < 6 ∧ (∃ c61 : Bool, (ref02_Same_R x7 x9 c61 ∧ ((c61 = true ∧ ((x8 = x10 ∧ (∃ c65 : List Int, (mul_Product_R r57 c65 ∧ (∃ c67 : Bool, (ref02_Same_R c65 x12 c67 ∧ ((c67 = true ∧ (∃ c70 : Bool, (law03_works_R c70 ∧ (z = c70)))) ∨ (¬ c67 = true ∧ (z = false)))))))) ∨ (¬ x8 = x10 ∧ (z = false)))) ∨ (¬ c61 = true ∧ (z = false)))))))) ∨ (¬ x13 < (x2.length : Int) ∧ (∃ c72 : Bool, (ref02_Same_R x7 x9 c72 ∧ ((c72 = true ∧ ((x8 = x10 ∧ (∃ c76 : List Int, (mul_Product_R r57 c76 ∧ (∃ c78 : Bool, (ref02_Same_R c76 x12 c78 ∧ ((c78 = true ∧ (∃ c81 : Bool, (law03_works_R c81 ∧ (z = c81)))) ∨ (¬ c78 = true ∧ (z = false)))))))) ∨ (¬ x8 = x10 ∧ (z = false)))) ∨ (¬ c72 = true ∧ (z = false)))))))) : law03_MulPowers_l1 x2 x7 x8 x9 x10 x12 x13 r57 z := by
  intro n57 ln_57 j jb vs
  refine W.adv 1 ?_
  refine W.adv 5 ?_
  refine W.opS (OpIs.ln (n := (x2.map (D.ints .u64)).length) (m := x2.length) (by kernel_rfl) (by rw [List.length_map])) ?_
  refine W.adv 2 ?_
  rcases H with ⟨h50, H⟩ | ⟨h50, H⟩
  · refine W.guard true (w := ((decide (x13 < (x2.length : Int))) == true)) (by kernel_rfl) (congrArg (fun b => b == true) (decide_eq_true h50)) ?_
    refine W.adv 1 ?_
    refine W.guard true (w := ((decide (x13 < (x2.length : Int))) == true)) (by kernel_rfl) (congrArg (fun b => b == true) (decide_eq_true h50)) ?_
    refine W.adv 1 ?_
    refine W.opS (OpIs.pk true (t := (decide (x13 < (x2.length : Int)))) (x := (.bool (decide (x13 < 6)))) (y := (.bool false)) (by kernel_rfl) (decide_eq_true h50)) ?_
    refine W.adv 2 ?_
    rcases H with ⟨h51, H⟩ | ⟨h51, H⟩
    · refine W.cond true (w := (decide (x13 < 6))) (by kernel_rfl) (decide_eq_true h51) ?_
      refine W.adv 8 ?_
      obtain ⟨h52, H⟩ := H
      refine W.opS (OpIs.ixLL (k := .u64) (k' := .i64) (L := x2) (i := x13) (by kernel_rfl) h52 h50) ?_
      refine W.adv 1 ?_
      obtain ⟨c53, hc54, H⟩ := H
      refine W.callR (g := 12) (ds := [(.ints .u64 (x2.getD (x13).toNat [])), (.int .i64 6)]) (es := [(.ints .u64 (x2.getD (x13).toNat [])), (.int .i64 6)]) (r := (.ints .u64 c53)) (by kernel_rfl) (by kernel_rfl) (Ic.args hc54 (by kernel_rfl)) (by kernel_rfl) ?_
      refine W.adv 8 ?_
      obtain ⟨h58, H⟩ := H
      obtain ⟨y55, hy56, H⟩ := H
      have ln57 : (r57.length + 1) = y55.length := by rw [hy56, List.length_append] <;> rfl
      refine W.opK (OpIs.apLRow (y := (.lit (.list 1 [(.ints .u64 c53)]))) (n := 24) (d := 57) (dv := ((vs 57) + 1)) (b := 57) (v := ((vs 57) + 1)) (w := ((vs 57) + 1)) (len := n57) (k := .u64) (xs := r57) (ys := [c53]) (by kernel_rfl) (by kernel_rfl) hy56 rfl ln_57 h58) ?_
      refine W.adv 6 ?_
      obtain ⟨c59, hc60, H⟩ := H
      refine W.callR (g := 17) (ds := [(.ints .u64 x12), (.ints .u64 c53)]) (es := [(.ints .u64 x12), (.ints .u64 c53)]) (r := (.ints .u64 c59)) (by kernel_rfl) (by kernel_rfl) (Ic.args hc60 (by kernel_rfl)) (by kernel_rfl) ?_
      refine W.adv 10 ?_
      exact W.to_loop (P := law03_MulPowers_l1_s x2 x7 x8 x9 x10 c59 (wi (x13 + 1)) y55 (r57.length + 1)) (H _ ln57) (by kernel_rfl)
    · refine W.cond false (w := (decide (x13 < 6))) (by kernel_rfl) (decide_eq_false h51) ?_
      refine W.adv 9 ?_
      obtain ⟨c61, hc62, H⟩ := H
      refine W.callR (g := 13) (ds := [(.ints .u64 x7), (.ints .u64 x9)]) (es := [(.ints .u64 x7), (.ints .u64 x9)]) (r := (.bool c61)) (by kernel_rfl) (by kernel_rfl) (Ic.args hc62 (by kernel_rfl)) (by kernel_rfl) ?_
      refine W.adv 1 ?_
      rcases H with ⟨h63, H⟩ | ⟨h63, H⟩
      · refine W.guard true (w := (c61 == true)) (by kernel_rfl) (congrArg (fun b => b == true) h63) ?_
        refine W.adv 1 ?_
        refine W.guard true (w := (c61 == true)) (by kernel_rfl) (congrArg (fun b => b == true) h63) ?_
        refine W.adv 1 ?_
        refine W.guard true (w := (c61 == true)) (by kernel_rfl) (congrArg (fun b => b == true) h63) ?_
        refine W.adv 1 ?_
        refine W.opS (OpIs.pk true (t := c61) (x := (.bool (decide (x8 = x10)))) (y := (.bool false)) (by kernel_rfl) h63) ?_
        refine W.adv 1 ?_
        rcases H with ⟨h64, H⟩ | ⟨h64, H⟩
        · refine W.guard true (w := ((decide (x8 = x10)) == true)) (by kernel_rfl) (congrArg (fun b => b == true) (decide_eq_true h64)) ?_
          refine W.adv 1 ?_
          refine W.guard true (w := ((decide (x8 = x10)) == true)) (by kernel_rfl) (congrArg (fun b => b == true) (decide_eq_true h64)) ?_
          obtain ⟨c65, hc66, H⟩ := H
          refine W.callR (g := 26) (ds := [(.sref 57 ((vs 57) + 1) 1 0 n57)]) (es := [(.list 1 (r57.map (D.ints .u64)))]) (r := (.ints .u64 c65)) (by kernel_rfl) (rf_cons (rf_fullL (b := 57) (v := ((vs 57) + 1)) (w := ((vs 57) + 1)) (fz := false) (k := .u64) (xs := r57) (by kernel_rfl) rfl ln_57) rf_nil) (Ic.args hc66 (by kernel_rfl)) (by kernel_rfl) ?_
          refine W.guard true (w := ((decide (x8 = x10)) == true)) (by kernel_rfl) (congrArg (fun b => b == true) (decide_eq_true h64)) ?_
          refine W.adv 1 ?_
          refine W.guard true (w := ((decide (x8 = x10)) == true)) (by kernel_rfl) (congrArg (fun b => b == true) (decide_eq_true h64)) ?_
          obtain ⟨c67, hc68, H⟩ := H
          refine W.callR (g := 13) (ds := [(.ints .u64 c65), (.ints .u64 x12)]) (es := [(.ints .u64 c65), (.ints .u64 x12)]) (r := (.bool c67)) (by kernel_rfl) (by kernel_rfl) (Ic.args hc68 (by kernel_rfl)) (by kernel_rfl) ?_
          refine W.opS (OpIs.pk true (t := (decide (x8 = x10))) (x := (.bool c67)) (y := (.bool false)) (by kernel_rfl) (decide_eq_true h64)) ?_
          refine W.adv 1 ?_
          rcases H with ⟨h69, H⟩ | ⟨h69, H⟩
          · refine W.guard true (w := (c67 == true)) (by kernel_rfl) (congrArg (fun b => b == true) h69) ?_
            obtain ⟨c70, hc71, H⟩ := H
            refine W.callR (g := 16) (ds := []) (es := []) (r := (.bool c70)) (by kernel_rfl) (by kernel_rfl) (Ic.args hc71 (by kernel_rfl)) (by kernel_rfl) ?_
            refine W.opS (OpIs.pk true (t := c67) (x := (.bool c70)) (y := (.bool false)) (by kernel_rfl) h69) ?_
            refine W.adv 4 ?_
            exact W.fin (x := .ret) (by kernel_rfl) (LAns.of (d := (.bool c70)) (by kernel_rfl) (by rw [H]))
          · refine W.guard false (w := (c67 == true)) (by kernel_rfl) (congrArg (fun b => b == true) (bfalse h69)) ?_
            refine W.opS (OpIs.pk false (t := c67) (x := (.tuple [])) (y := (.bool false)) (by kernel_rfl) (bfalse h69)) ?_
            refine W.adv 4 ?_
            exact W.fin (x := .ret) (by kernel_rfl) (LAns.of (d := (.bool false)) (by kernel_rfl) (by rw [H]))
        · refine W.guard false (w := ((decide (x8 = x10)) == true)) (by kernel_rfl) (congrArg (fun b => b == true) (decide_eq_false h64)) ?_
          refine W.guard false (w := ((decide (x8 = x10)) == true)) (by kernel_rfl) (congrArg (fun b => b == true) (decide_eq_false h64)) ?_
          refine W.guard false (w := ((decide (x8 = x10)) == true)) (by kernel_rfl) (congrArg (fun b => b == true) (decide_eq_false h64)) ?_
          refine W.guard false (w := ((decide (x8 = x10)) == true)) (by kernel_rfl) (congrArg (fun b => b == true) (decide_eq_false h64)) ?_
          refine W.opS (OpIs.pk false (t := (decide (x8 = x10))) (x := (.tuple [])) (y := (.bool false)) (by kernel_rfl) (decide_eq_false h64)) ?_
          refine W.adv 7 ?_
          exact W.fin (x := .ret) (by kernel_rfl) (LAns.of (d := (.bool false)) (by kernel_rfl) (by rw [H]))
      · refine W.guard false (w := (c61 == true)) (by kernel_rfl) (congrArg (fun b => b == true) (bfalse h63)) ?_
        refine W.guard false (w := (c61 == true)) (by kernel_rfl) (congrArg (fun b => b == true) (bfalse h63)) ?_
        refine W.guard false (w := (c61 == true)) (by kernel_rfl) (congrArg (fun b => b == true) (bfalse h63)) ?_
        refine W.opS (OpIs.pk false (t := c61) (x := (.tuple [])) (y := (.bool false)) (by kernel_rfl) (bfalse h63)) ?_
        refine W.adv 13 ?_
        exact W.fin (x := .ret) (by kernel_rfl) (LAns.of (d := (.bool false)) (by kernel_rfl) (by rw [H]))
  · refine W.guard false (w := ((decide (x13 < (x2.length : Int))) == true)) (by kernel_rfl) (congrArg (fun b => b == true) (decide_eq_false h50)) ?_
    refine W.guard false (w := ((decide (x13 < (x2.length : Int))) == true)) (by kernel_rfl) (congrArg (fun b => b == true) (decide_eq_false h50)) ?_
    refine W.opS (OpIs.pk false (t := (decide (x13 < (x2.length : Int)))) (x := (.tuple [])) (y := (.bool false)) (by kernel_rfl) (decide_eq_false h50)) ?_
    refine W.adv 12 ?_
    obtain ⟨c72, hc73, H⟩ := H
    refine W.callR (g := 13) (ds := [(.ints .u64 x7), (.ints .u64 x9)]) (es := [(.ints .u64 x7), (.ints .u64 x9)]) (r := (.bool c72)) (by kernel_rfl) (by kernel_rfl) (Ic.args hc73 (by kernel_rfl)) (by kernel_rfl) ?_
    refine W.adv 1 ?_
    rcases H with ⟨h74, H⟩ | ⟨h74, H⟩
    · refine W.guard true (w := (c72 == true)) (by kernel_rfl) (congrArg (fun b => b == true) h74) ?_
      refine W.adv 1 ?_
      refine W.guard true (w := (c72 == true)) (by kernel_rfl) (congrArg (fun b => b == true) h74) ?_
      refine W.adv 1 ?_
      refine W.guard true (w := (c72 == true)) (by kernel_rfl) (congrArg (fun b => b == true) h74) ?_
      refine W.adv 1 ?_
      refine W.opS (OpIs.pk true (t := c72) (x := (.bool (decide (x8 = x10)))) (y := (.bool false)) (by kernel_rfl) h74) ?_
      refine W.adv 1 ?_
      rcases H with ⟨h75, H⟩ | ⟨h75, H⟩
      · refine W.guard true (w := ((decide (x8 = x10)) == true)) (by kernel_rfl) (congrArg (fun b => b == true) (decide_eq_true h75)) ?_
        refine W.adv 1 ?_
        refine W.guard true (w := ((decide (x8 = x10)) == true)) (by kernel_rfl) (congrArg (fun b => b == true) (decide_eq_true h75)) ?_
        obtain ⟨c76, hc77, H⟩ := H
        refine W.callR (g := 26) (ds := [(.sref 57 ((vs 57) + 1) 1 0 n57)]) (es := [(.list 1 (r57.map (D.ints .u64)))]) (r := (.ints .u64 c76)) (by kernel_rfl) (rf_cons (rf_fullL (b := 57) (v := ((vs 57) + 1)) (w := ((vs 57) + 1)) (fz := false) (k := .u64) (xs := r57) (by kernel_rfl) rfl ln_57) rf_nil) (Ic.args hc77 (by kernel_rfl)) (by kernel_rfl) ?_
        refine W.guard true (w := ((decide (x8 = x10)) == true)) (by kernel_rfl) (congrArg (fun b => b == true) (decide_eq_true h75)) ?_
        refine W.adv 1 ?_
        refine W.guard true (w := ((decide (x8 = x10)) == true)) (by kernel_rfl) (congrArg (fun b => b == true) (decide_eq_true h75)) ?_
        obtain ⟨c78, hc79, H⟩ := H
        refine W.callR (g := 13) (ds := [(.ints .u64 c76), (.ints .u64 x12)]) (es := [(.ints .u64 c76), (.ints .u64 x12)]) (r := (.bool c78)) (by kernel_rfl) (by kernel_rfl) (Ic.args hc79 (by kernel_rfl)) (by kernel_rfl) ?_
        refine W.opS (OpIs.pk true (t := (decide (x8 = x10))) (x := (.bool c78)) (y := (.bool false)) (by kernel_rfl) (decide_eq_true h75)) ?_
        refine W.adv 1 ?_
        rcases H with ⟨h80, H⟩ | ⟨h80, H⟩
        · refine W.guard true (w := (c78 == true)) (by kernel_rfl) (congrArg (fun b => b == true) h80) ?_
          obtain ⟨c81, hc82, H⟩ := H
          refine W.callR (g := 16) (ds := []) (es := []) (r := (.bool c81)) (by kernel_rfl) (by kernel_rfl) (Ic.args hc82 (by kernel_rfl)) (by kernel_rfl) ?_
          refine W.opS (OpIs.pk true (t := c78) (x := (.bool c81)) (y := (.bool false)) (by kernel_rfl) h80) ?_
          refine W.adv 4 ?_
          exact W.fin (x := .ret) (by kernel_rfl) (LAns.of (d := (.bool c81)) (by kernel_rfl) (by rw [H]))
        · refine W.guard false (w := (c78 == true)) (by kernel_rfl) (congrArg (fun b => b == true) (bfalse h80)) ?_
          refine W.opS (OpIs.pk false (t := c78) (x := (.tuple [])) (y := (.bool false)) (by kernel_rfl) (bfalse h80)) ?_
          refine W.adv 4 ?_
          exact W.fin (x := .ret) (by kernel_rfl) (LAns.of (d := (.bool false)) (by kernel_rfl) (by rw [H]))
      · refine W.guard false (w := ((decide (x8 = x10)) == true)) (by kernel_rfl) (congrArg (fun b => b == true) (decide_eq_false h75)) ?_
        refine W.guard false (w := ((decide (x8 = x10)) == true)) (by kernel_rfl) (congrArg (fun b => b == true) (decide_eq_false h75)) ?_
        refine W.guard false (w := ((decide (x8 = x10)) == true)) (by kernel_rfl) (congrArg (fun b => b == true) (decide_eq_false h75)) ?_
        refine W.guard false (w := ((decide (x8 = x10)) == true)) (by kernel_rfl) (congrArg (fun b => b == true) (decide_eq_false h75)) ?_
        refine W.opS (OpIs.pk false (t := (decide (x8 = x10))) (x := (.tuple [])) (y := (.bool false)) (by kernel_rfl) (decide_eq_false h75)) ?_
        refine W.adv 7 ?_
        exact W.fin (x := .ret) (by kernel_rfl) (LAns.of (d := (.bool false)) (by kernel_rfl) (by rw [H]))
    · refine W.guard false (w := (c72 == true)) (by kernel_rfl) (congrArg (fun b => b == true) (bfalse h74)) ?_
      refine W.guard false (w := (c72 == true)) (by kernel_rfl) (congrArg (fun b => b == true) (bfalse h74)) ?_
      refine W.guard false (w := (c72 == true)) (by kernel_rfl) (congrArg (fun b => b == true) (bfalse h74)) ?_
      refine W.opS (OpIs.pk false (t := c72) (x := (.tuple [])) (y := (.bool false)) (by kernel_rfl) (bfalse h74)) ?_
      refine W.adv 13 ?_
      exact W.fin (x := .ret) (by kernel_rfl) (LAns.of (d := (.bool false)) (by kernel_rfl) (by rw [H]))
theorem law03_MulPowers_go {a0 : List Int} {a1 : Int} {a2 : List (List Int)} {z : Bool} (H : (∃ c1 : List Int, (ref02_Clean_R a0 3 c1 ∧ ((30 < a1 ∧ ((a1 ≤ 10000 ∧ (∃ c5t0 : List Int, (∃ c5t1 : Int, (mul_Pow_R c1 (a1.tmod 31) c5t0 c5t1 ∧ (∃ c7t0 : List Int, (∃ c7t1 : Int, (ref03_Pow_R c1 (a1.tmod 31) c7t0 c7t1 ∧ (law03_MulPowers_l0 a2 c5t0 c5t1 c7t0 c7t1 [1] 0 z)))))))) ∨ (¬ a1 ≤ 10000 ∧ (∃ c9t0 : List Int, (∃ c9t1 : Int, (mul_Pow_R c1 a1 c9t0 c9t1 ∧ (∃ c11t0 : List Int, (∃ c11t1 : Int, (ref03_Pow_R c1 a1 c11t0 c11t1 ∧ (law03_MulPowers_l0 a2 c9t0 c9t1 c11t0 c11t1 [1] 0 z)))))))))) ∨ (¬ 30 < a1 ∧ (∃ c13t0 : List Int, (∃ c13t1 : Int, (mul_Pow_R c1 a1 c13t0 c13t1 ∧ (∃ c15t0 : List Int, (∃ c15t1 : Int, (ref03_Pow_R c1 a1 c15t0 c15t1 ∧ (law03_MulPowers_l0 a2 c13t0 c13t1 c15t0 c15t1 [1] 0 z)))))))))))) : law03_MulPowers_R a0 a1 a2 z := by
  refine W.lawIs (zs := [(.ints .u64 a0), (.int .i64 a1), (.list 1 (a2.map (D.ints .u64)))]) Try.func6 (by kernel_rfl) (by kernel_rfl) (by kernel_rfl) ?_
  refine W.adv 8 ?_
  obtain ⟨c1, hc2, H⟩ := H
  refine W.callR (g := 12) (ds := [(.ints .u64 a0), (.int .i64 3)]) (es := [(.ints .u64 a0), (.int .i64 3)]) (r := (.ints .u64 c1)) (by kernel_rfl) (by kernel_rfl) (Ic.args hc2 (by kernel_rfl)) (by kernel_rfl) ?_
  refine W.adv 9 ?_
  rcases H with ⟨h3, H⟩ | ⟨h3, H⟩
  · refine W.guard true (w := ((decide (30 < a1)) == true)) (by kernel_rfl) (congrArg (fun b => b == true) (decide_eq_true h3)) ?_
    refine W.adv 1 ?_
    refine W.guard true (w := ((decide (30 < a1)) == true)) (by kernel_rfl) (congrArg (fun b => b == true) (decide_eq_true h3)) ?_
    refine W.adv 1 ?_
    refine W.opS (OpIs.pk true (t := (decide (30 < a1))) (x := (.bool (decide (a1 ≤ 10000)))) (y := (.bool false)) (by kernel_rfl) (decide_eq_true h3)) ?_
    refine W.adv 2 ?_
    rcases H with ⟨h4, H⟩ | ⟨h4, H⟩
    · refine W.cond true (w := (decide (a1 ≤ 10000))) (by kernel_rfl) (decide_eq_true h4) ?_
      refine W.adv 10 ?_
      obtain ⟨c5t0, c5t1, hc6, H⟩ := H
      refine W.callR (g := 24) (ds := [(.ints .u64 c1), (.int .i64 (a1.tmod 31))]) (es := [(.ints .u64 c1), (.int .i64 (a1.tmod 31))]) (r := (.tuple [(.ints .u64 c5t0), (.int .i64 c5t1)])) (by kernel_rfl) (by kernel_rfl) (Ic.args hc6 (by kernel_rfl)) (by kernel_rfl) ?_
      refine W.adv 11 ?_
      obtain ⟨c7t0, c7t1, hc8, H⟩ := H
      refine W.callR (g := 25) (ds := [(.ints .u64 c1), (.int .i64 (a1.tmod 31))]) (es := [(.ints .u64 c1), (.int .i64 (a1.tmod 31))]) (r := (.tuple [(.ints .u64 c7t0), (.int .i64 c7t1)])) (by kernel_rfl) (by kernel_rfl) (Ic.args hc8 (by kernel_rfl)) (by kernel_rfl) ?_
      refine W.adv 22 ?_
      exact W.to_loop (P := law03_MulPowers_l0_s a2 c5t0 c5t1 c7t0 c7t1 [1] 0) (H ) (by kernel_rfl)
    · refine W.cond false (w := (decide (a1 ≤ 10000))) (by kernel_rfl) (decide_eq_false h4) ?_
      refine W.adv 6 ?_
      obtain ⟨c9t0, c9t1, hc10, H⟩ := H
      refine W.callR (g := 24) (ds := [(.ints .u64 c1), (.int .i64 a1)]) (es := [(.ints .u64 c1), (.int .i64 a1)]) (r := (.tuple [(.ints .u64 c9t0), (.int .i64 c9t1)])) (by kernel_rfl) (by kernel_rfl) (Ic.args hc10 (by kernel_rfl)) (by kernel_rfl) ?_
      refine W.adv 11 ?_
      obtain ⟨c11t0, c11t1, hc12, H⟩ := H
      refine W.callR (g := 25) (ds := [(.ints .u64 c1), (.int .i64 a1)]) (es := [(.ints .u64 c1), (.int .i64 a1)]) (r := (.tuple [(.ints .u64 c11t0), (.int .i64 c11t1)])) (by kernel_rfl) (by kernel_rfl) (Ic.args hc12 (by kernel_rfl)) (by kernel_rfl) ?_
      refine W.adv 22 ?_
      exact W.to_loop (P := law03_MulPowers_l0_s a2 c9t0 c9t1 c11t0 c11t1 [1] 0) (H ) (by kernel_rfl)
  · refine W.guard false (w := ((decide (30 < a1)) == true)) (by kernel_rfl) (congrArg (fun b => b == true) (decide_eq_false h3)) ?_
    refine W.guard false (w := ((decide (30 < a1)) == true)) (by kernel_rfl) (congrArg (fun b => b == true) (decide_eq_false h3)) ?_
    refine W.opS (OpIs.pk false (t := (decide (30 < a1))) (x := (.tuple [])) (y := (.bool false)) (by kernel_rfl) (decide_eq_false h3)) ?_
    refine W.adv 9 ?_
    obtain ⟨c13t0, c13t1, hc14, H⟩ := H
    refine W.callR (g := 24) (ds := [(.ints .u64 c1), (.int .i64 a1)]) (es := [(.ints .u64 c1), (.int .i64 a1)]) (r := (.tuple [(.ints .u64 c13t0), (.int .i64 c13t1)])) (by kernel_rfl) (by kernel_rfl) (Ic.args hc14 (by kernel_rfl)) (by kernel_rfl) ?_
    refine W.adv 11 ?_
    obtain ⟨c15t0, c15t1, hc16, H⟩ := H
    refine W.callR (g := 25) (ds := [(.ints .u64 c1), (.int .i64 a1)]) (es := [(.ints .u64 c1), (.int .i64 a1)]) (r := (.tuple [(.ints .u64 c15t0), (.int .i64 c15t1)])) (by kernel_rfl) (by kernel_rfl) (Ic.args hc16 (by kernel_rfl)) (by kernel_rfl) ?_
    refine W.adv 22 ?_
    exact W.to_loop (P := law03_MulPowers_l0_s a2 c13t0 c13t1 c15t0 c15t1 [1] 0) (H ) (by kernel_rfl)
end Go.Proofs.YtcmajlphfnihgaaA
