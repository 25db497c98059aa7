/- Walks through the functions: what makes each relation true. -/
import Derived.Test.YtfijdkdpcjfiaaaGreatW0
set_option linter.unusedVariables false
set_option maxRecDepth 100000
namespace Go.Proofs.YtfijdkdpcjfiaaaGreatA
open Go Go.Proofs
noncomputable def ref02_Clean_l0_s (x0 : List Int) (x1 : Int) (x6 : Int) (j : Nat → D) (jb : Nat → Blk) (vs : Nat → Nat) : Cf := cfAt Tryz.f31 [1, 1, 0, 1, 0] ⟨[.ints .u64 x0, .int .i64 x1, j 2, j 3, j 4, .nilS, .int .i64 x6, j 7, j 8, j 9, j 10, j 11, j 12, j 13, j 14, j 15, j 16, j 17, j 18, j 19, j 20, j 21, j 22, j 23, j 24, j 25, j 26, j 27, j 28, j 29, j 30, j 31, j 32, j 33, j 34, j 35, j 36, j 37, j 38, j 39, j 40, j 41, j 42, j 43, j 44], [jb 0, jb 1, jb 2, jb 3, jb 4, jb 5, jb 6, jb 7, jb 8, jb 9, jb 10, jb 11, jb 12, jb 13, jb 14, jb 15, jb 16, jb 17, jb 18, jb 19, jb 20, jb 21, jb 22, jb 23, jb 24, jb 25, jb 26, jb 27, jb 28, jb 29, jb 30, jb 31, jb 32, jb 33, jb 34, jb 35, jb 36, jb 37, jb 38, jb 39, jb 40, jb 41, jb 42, jb 43, jb 44]⟩
def ref02_Clean_l0 (x0 : List Int) (x1 : Int) (x6 : Int) (z : List Int) : Prop := ∀ j jb vs, W C F 31 0 (ref02_Clean_l0_s x0 x1 x6  j jb vs) (Ans C Tryz.f31 (.ints .u64 z))
noncomputable def ref02_Clean_l1_s (x0 : List Int) (x1 : Int) (x6 : Int) (r26 : List Int) (n26 : Nat) (j : Nat → D) (jb : Nat → Blk) (vs : Nat → Nat) : Cf := cfAt Tryz.f31 [1, 1, 0, 1, 0] ⟨[.ints .u64 x0, .int .i64 x1, j 2, j 3, j 4, (.sref 26 ((vs 26) + 1) 1 0 n26), .int .i64 x6, j 7, j 8, j 9, j 10, j 11, j 12, j 13, j 14, j 15, j 16, j 17, j 18, j 19, j 20, j 21, j 22, j 23, j 24, j 25, j 26, j 27, j 28, j 29, j 30, j 31, j 32, j 33, j 34, j 35, j 36, j 37, j 38, j 39, j 40, j 41, j 42, j 43, j 44], [jb 0, jb 1, jb 2, jb 3, jb 4, jb 5, jb 6, jb 7, jb 8, jb 9, jb 10, jb 11, jb 12, jb 13, jb 14, jb 15, jb 16, jb 17, jb 18, jb 19, jb 20, jb 21, jb 22, jb 23, jb 24, jb 25, ⟨((vs 26) + 1), false, .ints .u64 r26⟩, jb 27, jb 28, jb 29, jb 30, jb 31, jb 32, jb 33, jb 34, jb 35, jb 36, jb 37, jb 38, jb 39, jb 40, jb 41, jb 42, jb 43, jb 44]⟩
def ref02_Clean_l1 (x0 : List Int) (x1 : Int) (x6 : Int) (r26 : List Int) (z : List Int) : Prop := ∀ n26, n26 = r26.length → ∀ j jb vs, W C F 31 0 (ref02_Clean_l1_s x0 x1 x6 r26 n26 j jb vs) (Ans C Tryz.f31 (.ints .u64 z))
noncomputable def ref02_Clean_l2_s  (j : Nat → D) (jb : Nat → Blk) (vs : Nat → Nat) : Cf := cfAt Tryz.f31 [1, 1, 1, 0, 0] ⟨[j 0, j 1, j 2, j 3, j 4, .nilS, j 6, j 7, j 8, j 9, j 10, j 11, j 12, j 13, j 14, j 15, j 16, j 17, j 18, j 19, j 20, j 21, j 22, j 23, j 24, j 25, j 26, j 27, j 28, j 29, j 30, j 31, j 32, j 33, j 34, j 35, j 36, j 37, j 38, j 39, j 40, j 41, j 42, j 43, j 44], [jb 0, jb 1, jb 2, jb 3, jb 4, jb 5, jb 6, jb 7, jb 8, jb 9, jb 10, jb 11, jb 12, jb 13, jb 14, jb 15, jb 16, jb 17, jb 18, jb 19, jb 20, jb 21, jb 22, jb 23, jb 24, jb 25, jb 26, jb 27, jb 28, jb 29, jb 30, jb 31, jb 32, jb 33, jb 34, jb 35, jb 36, jb 37, jb 38, jb 39, jb 40, jb 41, jb 42, jb 43, jb 44]⟩
def ref02_Clean_l2 (z : List Int) : Prop := ∀ j jb vs, W C F 31 0 (ref02_Clean_l2_s   j jb vs) (Ans C Tryz.f31 (.ints .u64 z))
noncomputable def ref02_Clean_l3_s (r26 : List Int) (n26 : Nat) (j : Nat → D) (jb : Nat → Blk) (vs : Nat → Nat) : Cf := cfAt Tryz.f31 [1, 1, 1, 0, 0] ⟨[j 0, j 1, j 2, j 3, j 4, (.sref 26 ((vs 26) + 1) 1 0 n26), j 6, j 7, j 8, j 9, j 10, j 11, j 12, j 13, j 14, j 15, j 16, j 17, j 18, j 19, j 20, j 21, j 22, j 23, j 24, j 25, j 26, j 27, j 28, j 29, j 30, j 31, j 32, j 33, j 34, j 35, j 36, j 37, j 38, j 39, j 40, j 41, j 42, j 43, j 44], [jb 0, jb 1, jb 2, jb 3, jb 4, jb 5, jb 6, jb 7, jb 8, jb 9, jb 10, jb 11, jb 12, jb 13, jb 14, jb 15, jb 16, jb 17, jb 18, jb 19, jb 20, jb 21, jb 22, jb 23, jb 24, jb 25, ⟨((vs 26) + 1), false, .ints .u64 r26⟩, jb 27, jb 28, jb 29, jb 30, jb 31, jb 32, jb 33, jb 34, jb 35, jb 36, jb 37, jb 38, jb 39, jb 40, jb 41, jb 42, jb 43, jb 44]⟩
def ref02_Clean_l3 (r26 : List Int) (z : List Int) : Prop := ∀ n26, n26 = r26.length → ∀ j jb vs, W C F 31 0 (ref02_Clean_l3_s r26 n26 j jb vs) (Ans C Tryz.f31 (.ints .u64 z))
noncomputable def ref02_Clean_l4_s (m5 : Nat) (r26 : List Int) (n26 : Nat) (j : Nat → D) (jb : Nat → Blk) (vs : Nat → Nat) : Cf := cfAt Tryz.f31 [1, 1, 1, 0, 0] ⟨[j 0, j 1, j 2, j 3, j 4, (.sref 26 ((vs 26) + 1) 1 0 m5), j 6, j 7, j 8, j 9, j 10, j 11, j 12, j 13, j 14, j 15, j 16, j 17, j 18, j 19, j 20, j 21, j 22, j 23, j 24, j 25, j 26, j 27, j 28, j 29, j 30, j 31, j 32, j 33, j 34, j 35, j 36, j 37, j 38, j 39, j 40, j 41, j 42, j 43, j 44], [jb 0, jb 1, jb 2, jb 3, jb 4, jb 5, jb 6, jb 7, jb 8, jb 9, jb 10, jb 11, jb 12, jb 13, jb 14, jb 15, jb 16, jb 17, jb 18, jb 19, jb 20, jb 21, jb 22, jb 23, jb 24, jb 25, ⟨((vs 26) + 1), false, .ints .u64 r26⟩, jb 27, jb 28, jb 29, jb 30, jb 31, jb 32, jb 33, jb 34, jb 35, jb 36, jb 37, jb 38, jb 39, jb 40, jb 41, jb 42, jb 43, jb 44]⟩
def ref02_Clean_l4 (m5 : Nat) (r26 : List Int) (z : List Int) : Prop := ∀ n26, n26 = r26.length → m5 ≤ r26.length → ∀ j jb vs, W C F 31 0 (ref02_Clean_l4_s m5 r26 n26 j jb vs) (Ans C Tryz.f31 (.ints .u64 z))
theorem ref02_Clean_l0_go {x0 : List Int} {x1 : Int} {x6 : Int} {z : List Int} (H : ((x6 < (x0.length : Int) ∧ ((x6 < x1 ∧ (0 ≤ x6 ∧ ((1 + 192) * (8 + 1) ≤ 70368744177664 ∧ (∃ y4, y4 = [((x0.getD (x6).toNat 0).tmod 4294967296)] ∧ (ref02_Clean_l1 x0 x1 (wi (x6 + 1)) y4 z))))) ∨ (¬ x6 < x1 ∧ (ref02_Clean_l2 z)))) ∨ (¬ x6 < (x0.length : Int) ∧ (ref02_Clean_l2 z)))) : ref02_Clean_l0 x0 x1 x6 z := by
 intro j jb vs
 refine W.adv 1 ?_
 refine W.adv 8 ?_
 rcases H with ⟨h1, H⟩ | ⟨h1, H⟩
 ·refine W.guard true (w := ((decide (x6 < (x0.length : Int))) == true)) (by kernel_rfl) (congrArg (fun b => b == true) (decide_eq_true h1)) ?_
  refine W.adv 1 ?_
  refine W.guard true (w := ((decide (x6 < (x0.length : Int))) == true)) (by kernel_rfl) (congrArg (fun b => b == true) (decide_eq_true h1)) ?_
  refine W.adv 1 ?_
  refine W.guard true (w := ((decide (x6 < (x0.length : Int))) == true)) (by kernel_rfl) (congrArg (fun b => b == true) (decide_eq_true h1)) ?_
  refine W.adv 1 ?_
  refine W.opS (OpIs.pk true (t := (decide (x6 < (x0.length : Int)))) (x := (.bool (decide (x6 < x1)))) (y := (.bool false)) (by kernel_rfl) (decide_eq_true h1)) ?_
  refine W.adv 2 ?_
  rcases H with ⟨h2, H⟩ | ⟨h2, H⟩
  ·refine W.cond true (w := (decide (x6 < x1))) (by kernel_rfl) (decide_eq_true h2) ?_
   refine W.adv 8 ?_
   obtain ⟨h3, H⟩ := H
   refine W.opS (OpIs.ixI (k := .u64) (k' := .i64) (xs := x0) (i := x6) (by kernel_rfl) h3 h1) ?_
   refine W.adv 3 ?_
   obtain ⟨h7, H⟩ := H
   obtain ⟨y4, hy5, H⟩ := H
   have ln6 : 1 = y4.length := by rw [hy5] <;> rfl
   refine W.opH (OpIs.apNil (y := (.lit (.ints .u64 [((x0.getD (x6).toNat 0).tmod 4294967296)]))) (B := none) (n := 8) (d := 26) (v := (jb 26).ver) (k := .u64) (ys := [((x0.getD (x6).toNat 0).tmod 4294967296)]) (by kernel_rfl) (by kernel_rfl) hy5 h7) ?_
   refine W.adv 10 ?_
   exact W.to_loop (P := ref02_Clean_l1_s x0 x1 (wi (x6 + 1)) y4 1) (H _ ln6) (by kernel_rfl)
  ·refine W.cond false (w := (decide (x6 < x1))) (by kernel_rfl) (decide_eq_false h2) ?_
   refine W.adv 7 ?_
   exact W.to_loop (P := ref02_Clean_l2_s ) (H ) (by kernel_rfl)
 ·refine W.guard false (w := ((decide (x6 < (x0.length : Int))) == true)) (by kernel_rfl) (congrArg (fun b => b == true) (decide_eq_false h1)) ?_
  refine W.guard false (w := ((decide (x6 < (x0.length : Int))) == true)) (by kernel_rfl) (congrArg (fun b => b == true) (decide_eq_false h1)) ?_
  refine W.guard false (w := ((decide (x6 < (x0.length : Int))) == true)) (by kernel_rfl) (congrArg (fun b => b == true) (decide_eq_false h1)) ?_
  refine W.opS (OpIs.pk false (t := (decide (x6 < (x0.length : Int)))) (x := (.tuple [])) (y := (.bool false)) (by kernel_rfl) (decide_eq_false h1)) ?_
  refine W.adv 10 ?_
  exact W.to_loop (P := ref02_Clean_l2_s ) (H ) (by kernel_rfl)
theorem ref02_Clean_l1_go {x0 : List Int} {x1 : Int} {x6 : Int} {r26 : List Int} {z : List Int} (H : ((x6 < (x0.length : Int) ∧ ((x6 < x1 ∧ (0 ≤ x6 ∧ ((r26.length + 1 + 192) * (8 + 1) ≤ 70368744177664 ∧ (∃ y11, y11 = r26 ++ [((x0.getD (x6).toNat 0).tmod 4294967296)] ∧ (ref02_Clean_l1 x0 x1 (wi (x6 + 1)) y11 z))))) ∨ (¬ x6 < x1 ∧ (ref02_Clean_l3 r26 z)))) ∨ (¬ x6 < (x0.length : Int) ∧ (ref02_Clean_l3 r26 z)))) : ref02_Clean_l1 x0 x1 x6 r26 z := by
 intro n26 ln_26 j jb vs
 refine W.adv 1 ?_
 refine W.adv 8 ?_
 rcases H with ⟨h8, H⟩ | ⟨h8, H⟩
 ·refine W.guard true (w := ((decide (x6 < (x0.length : Int))) == true)) (by kernel_rfl) (congrArg (fun b => b == true) (decide_eq_true h8)) ?_
  refine W.adv 1 ?_
  refine W.guard true (w := ((decide (x6 < (x0.length : Int))) == true)) (by kernel_rfl) (congrArg (fun b => b == true) (decide_eq_true h8)) ?_
  refine W.adv 1 ?_
  refine W.guard true (w := ((decide (x6 < (x0.length : Int))) == true)) (by kernel_rfl) (congrArg (fun b => b == true) (decide_eq_true h8)) ?_
  refine W.adv 1 ?_
  refine W.opS (OpIs.pk true (t := (decide (x6 < (x0.length : Int)))) (x := (.bool (decide (x6 < x1)))) (y := (.bool false)) (by kernel_rfl) (decide_eq_true h8)) ?_
  refine W.adv 2 ?_
  rcases H with ⟨h9, H⟩ | ⟨h9, H⟩
  ·refine W.cond true (w := (decide (x6 < x1))) (by kernel_rfl) (decide_eq_true h9) ?_
   refine W.adv 8 ?_
   obtain ⟨h10, H⟩ := H
   refine W.opS (OpIs.ixI (k := .u64) (k' := .i64) (xs := x0) (i := x6) (by kernel_rfl) h10 h8) ?_
   refine W.adv 3 ?_
   obtain ⟨h14, H⟩ := H
   obtain ⟨y11, hy12, H⟩ := H
   have ln13 : (r26.length + 1) = y11.length := by rw [hy12, List.length_append] <;> rfl
   refine W.opK (OpIs.apRow (y := (.lit (.ints .u64 [((x0.getD (x6).toNat 0).tmod 4294967296)]))) (n := 8) (d := 26) (dv := ((vs 26) + 1)) (b := 26) (v := ((vs 26) + 1)) (w := ((vs 26) + 1)) (len := n26) (k := .u64) (xs := r26) (ys := [((x0.getD (x6).toNat 0).tmod 4294967296)]) (by kernel_rfl) (by kernel_rfl) hy12 rfl ln_26 h14) ?_
   refine W.adv 10 ?_
   exact W.to_loop (P := ref02_Clean_l1_s x0 x1 (wi (x6 + 1)) y11 (r26.length + 1)) (H _ ln13) (by kernel_rfl)
  ·refine W.cond false (w := (decide (x6 < x1))) (by kernel_rfl) (decide_eq_false h9) ?_
   refine W.adv 7 ?_
   exact W.to_loop (P := ref02_Clean_l3_s r26 n26) (H _ ln_26) (by kernel_rfl)
 ·refine W.guard false (w := ((decide (x6 < (x0.length : Int))) == true)) (by kernel_rfl) (congrArg (fun b => b == true) (decide_eq_false h8)) ?_
  refine W.guard false (w := ((decide (x6 < (x0.length : Int))) == true)) (by kernel_rfl) (congrArg (fun b => b == true) (decide_eq_false h8)) ?_
  refine W.guard false (w := ((decide (x6 < (x0.length : Int))) == true)) (by kernel_rfl) (congrArg (fun b => b == true) (decide_eq_false h8)) ?_
  refine W.opS (OpIs.pk false (t := (decide (x6 < (x0.length : Int)))) (x := (.tuple [])) (y := (.bool false)) (by kernel_rfl) (decide_eq_false h8)) ?_
  refine W.adv 10 ?_
  exact W.to_loop (P := ref02_Clean_l3_s r26 n26) (H _ ln_26) (by kernel_rfl)
theorem ref02_Clean_l2_go {z : List Int} (H : (z = [])) : ref02_Clean_l2 z := by
 intro j jb vs
 refine W.adv 1 ?_
 refine W.adv 30 ?_
 exact W.fin (x := .ret) (by kernel_rfl) (Ans.of (d := .nilS) (d' := .nilS) (e' := (.ints .u64 [])) (by kernel_rfl) (by kernel_rfl) (by kernel_rfl) (by rw [H]))
theorem ref02_Clean_l3_go {r26 : List Int} {z : List Int} (H : ((0 < (r26.length : Int) ∧ (0 ≤ (wi ((r26.length : Int) - 1)) ∧ ((wi ((r26.length : Int) - 1)) < (r26.length : Int) ∧ (((r26.getD (wi ((r26.length : Int) - 1)).toNat 0) = 0 ∧ ((wi ((r26.length : Int) - 1)) ≤ (r26.length : Int) ∧ (ref02_Clean_l4 ((wi ((r26.length : Int) - 1)).toNat) r26 z))) ∨ (¬ (r26.getD (wi ((r26.length : Int) - 1)).toNat 0) = 0 ∧ (z = r26)))))) ∨ (¬ 0 < (r26.length : Int) ∧ (z = r26)))) : ref02_Clean_l3 r26 z := by
 intro n26 ln_26 j jb vs
 refine W.adv 1 ?_
 refine W.adv 4 ?_
 refine W.opS (OpIs.ln (n := n26) (m := r26.length) (by kernel_rfl) ln_26) ?_
 refine W.adv 2 ?_
 rcases H with ⟨h15, H⟩ | ⟨h15, H⟩
 ·refine W.guard true (w := ((decide (0 < (r26.length : Int))) == true)) (by kernel_rfl) (congrArg (fun b => b == true) (decide_eq_true h15)) ?_
  refine W.adv 1 ?_
  refine W.guard true (w := ((decide (0 < (r26.length : Int))) == true)) (by kernel_rfl) (congrArg (fun b => b == true) (decide_eq_true h15)) ?_
  refine W.adv 1 ?_
  refine W.guard true (w := ((decide (0 < (r26.length : Int))) == true)) (by kernel_rfl) (congrArg (fun b => b == true) (decide_eq_true h15)) ?_
  refine W.opS (OpIs.ln (n := n26) (m := r26.length) (by kernel_rfl) ln_26) ?_
  refine W.guard true (w := ((decide (0 < (r26.length : Int))) == true)) (by kernel_rfl) (congrArg (fun b => b == true) (decide_eq_true h15)) ?_
  refine W.adv 1 ?_
  refine W.guard true (w := ((decide (0 < (r26.length : Int))) == true)) (by kernel_rfl) (congrArg (fun b => b == true) (decide_eq_true h15)) ?_
  obtain ⟨h16, h17, H⟩ := H
  refine W.opS (OpIs.ixR (k' := .i64) (b := 26) (v := ((vs 26) + 1)) (sz := 1) (len := n26) (i := (wi ((r26.length : Int) - 1))) (by kernel_rfl) h16 (by rw [ln_26]; exact h17)) ?_
  refine W.guard true (w := ((decide (0 < (r26.length : Int))) == true)) (by kernel_rfl) (congrArg (fun b => b == true) (decide_eq_true h15)) ?_
  refine W.opS (OpIs.ldI (b := 26) (v := ((vs 26) + 1)) (i := (wi ((r26.length : Int) - 1)).toNat) (w := ((vs 26) + 1)) (fz := false) (k := .u64) (xs := r26) (by kernel_rfl) rfl (by omega)) ?_
  refine W.guard true (w := ((decide (0 < (r26.length : Int))) == true)) (by kernel_rfl) (congrArg (fun b => b == true) (decide_eq_true h15)) ?_
  refine W.adv 1 ?_
  refine W.opS (OpIs.pk true (t := (decide (0 < (r26.length : Int)))) (x := (.bool (decide ((r26.getD (wi ((r26.length : Int) - 1)).toNat 0) = 0)))) (y := (.bool false)) (by kernel_rfl) (decide_eq_true h15)) ?_
  refine W.adv 2 ?_
  rcases H with ⟨h18, H⟩ | ⟨h18, H⟩
  ·refine W.cond true (w := (decide ((r26.getD (wi ((r26.length : Int) - 1)).toNat 0) = 0))) (by kernel_rfl) (decide_eq_true h18) ?_
   refine W.adv 6 ?_
   refine W.opS (OpIs.ln (n := n26) (m := r26.length) (by kernel_rfl) ln_26) ?_
   refine W.adv 1 ?_
   obtain ⟨h19, H⟩ := H
   refine W.opS (OpIs.slS (b := 26) (v := ((vs 26) + 1)) (sz := 1) (off := 0) (len := n26) (p := 0) (q := (wi ((r26.length : Int) - 1)).toNat) (lo := none) (hi := some (.int .i64 (wi ((r26.length : Int) - 1)))) (by kernel_rfl) (bound_some h16 (by rw [ln_26]; exact h19)) rfl) ?_
   refine W.adv 4 ?_
   exact W.to_loop (P := ref02_Clean_l4_s ((wi ((r26.length : Int) - 1)).toNat) r26 n26) (H _ ln_26 (by omega)) (by kernel_rfl)
  ·refine W.cond false (w := (decide ((r26.getD (wi ((r26.length : Int) - 1)).toNat 0) = 0))) (by kernel_rfl) (decide_eq_false h18) ?_
   refine W.adv 12 ?_
   exact W.fin (x := .ret) (by kernel_rfl) (Ans.of (d := (.sref 26 ((vs 26) + 1) 1 0 n26)) (d' := (.ints .u64 r26)) (e' := (.ints .u64 r26)) (by kernel_rfl) ((congrArg (fun h => reify h DEPTH (.sref 26 ((vs 26) + 1) 1 0 n26)) (tidy_ver (b := 26) (v := (vs 26)) (fz := false) (y := .ints .u64 r26) (by kernel_rfl))).trans (rf_full (b := 26) (v := ((vs 26) + 1)) (w := ((vs 26) + 1)) (fz := false) (k := .u64) (xs := r26) (by kernel_rfl) rfl ln_26)) (by kernel_rfl) (by rw [H]))
 ·refine W.guard false (w := ((decide (0 < (r26.length : Int))) == true)) (by kernel_rfl) (congrArg (fun b => b == true) (decide_eq_false h15)) ?_
  refine W.guard false (w := ((decide (0 < (r26.length : Int))) == true)) (by kernel_rfl) (congrArg (fun b => b == true) (decide_eq_false h15)) ?_
  refine W.guard false (w := ((decide (0 < (r26.length : Int))) == true)) (by kernel_rfl) (congrArg (fun b => b == true) (decide_eq_false h15)) ?_
  refine W.guard false (w := ((decide (0 < (r26.length : Int))) == true)) (by kernel_rfl) (congrArg (fun b => b == true) (decide_eq_false h15)) ?_
  refine W.guard false (w := ((decide (0 < (r26.length : Int))) == true)) (by kernel_rfl) (congrArg (fun b => b == true) (decide_eq_false h15)) ?_
  refine W.guard false (w := ((decide (0 < (r26.length : Int))) == true)) (by kernel_rfl) (congrArg (fun b => b == true) (decide_eq_false h15)) ?_
  refine W.guard false (w := ((decide (0 < (r26.length : Int))) == true)) (by kernel_rfl) (congrArg (fun b => b == true) (decide_eq_false h15)) ?_
  refine W.opS (OpIs.pk false (t := (decide (0 < (r26.length : Int)))) (x := (.tuple [])) (y := (.bool false)) (by kernel_rfl) (decide_eq_false h15)) ?_
  refine W.adv 15 ?_
  exact W.fin (x := .ret) (by kernel_rfl) (Ans.of (d := (.sref 26 ((vs 26) + 1) 1 0 n26)) (d' := (.ints .u64 r26)) (e' := (.ints .u64 r26)) (by kernel_rfl) ((congrArg (fun h => reify h DEPTH (.sref 26 ((vs 26) + 1) 1 0 n26)) (tidy_ver (b := 26) (v := (vs 26)) (fz := false) (y := .ints .u64 r26) (by kernel_rfl))).trans (rf_full (b := 26) (v := ((vs 26) + 1)) (w := ((vs 26) + 1)) (fz := false) (k := .u64) (xs := r26) (by kernel_rfl) rfl ln_26)) (by kernel_rfl) (by rw [H]))
theorem ref02_Clean_l4_go {m5 : Nat} {r26 : List Int} {z : List Int} (H : ((0 < ((m5 : Nat) : Int) ∧ (0 ≤ (wi (((m5 : Nat) : Int) - 1)) ∧ ((wi (((m5 : Nat) : Int) - 1)) < ((m5 : Nat) : Int) ∧ (((r26.getD (wi (((m5 : Nat) : Int) - 1)).toNat 0) = 0 ∧ ((wi (((m5 : Nat) : Int) - 1)) ≤ ((m5 : Nat) : Int) ∧ (ref02_Clean_l4 ((wi (((m5 : Nat) : Int) - 1)).toNat) r26 z))) ∨ (¬ (r26.getD (wi (((m5 : Nat) : Int) - 1)).toNat 0) = 0 ∧ (z = (r26.take m5))))))) ∨ (¬ 0 < ((m5 : Nat) : Int) ∧ (z = (r26.take m5))))) : ref02_Clean_l4 m5 r26 z := by
 intro n26 ln_26 lp_m5 j jb vs
 refine W.adv 1 ?_
 refine W.adv 7 ?_
 rcases H with ⟨h20, H⟩ | ⟨h20, H⟩
 ·refine W.guard true (w := ((decide (0 < ((m5 : Nat) : Int))) == true)) (by kernel_rfl) (congrArg (fun b => b == true) (decide_eq_true h20)) ?_
  refine W.adv 1 ?_
  refine W.guard true (w := ((decide (0 < ((m5 : Nat) : Int))) == true)) (by kernel_rfl) (congrArg (fun b => b == true) (decide_eq_true h20)) ?_
  refine W.adv 1 ?_
  refine W.guard true (w := ((decide (0 < ((m5 : Nat) : Int))) == true)) (by kernel_rfl) (congrArg (fun b => b == true) (decide_eq_true h20)) ?_
  refine W.adv 1 ?_
  refine W.guard true (w := ((decide (0 < ((m5 : Nat) : Int))) == true)) (by kernel_rfl) (congrArg (fun b => b == true) (decide_eq_true h20)) ?_
  refine W.adv 1 ?_
  refine W.guard true (w := ((decide (0 < ((m5 : Nat) : Int))) == true)) (by kernel_rfl) (congrArg (fun b => b == true) (decide_eq_true h20)) ?_
  obtain ⟨h21, h22, H⟩ := H
  refine W.opS (OpIs.ixR (k' := .i64) (b := 26) (v := ((vs 26) + 1)) (sz := 1) (len := m5) (i := (wi (((m5 : Nat) : Int) - 1))) (by kernel_rfl) h21 h22) ?_
  refine W.guard true (w := ((decide (0 < ((m5 : Nat) : Int))) == true)) (by kernel_rfl) (congrArg (fun b => b == true) (decide_eq_true h20)) ?_
  refine W.opS (OpIs.ldI (b := 26) (v := ((vs 26) + 1)) (i := (wi (((m5 : Nat) : Int) - 1)).toNat) (w := ((vs 26) + 1)) (fz := false) (k := .u64) (xs := r26) (by kernel_rfl) rfl (by omega)) ?_
  refine W.guard true (w := ((decide (0 < ((m5 : Nat) : Int))) == true)) (by kernel_rfl) (congrArg (fun b => b == true) (decide_eq_true h20)) ?_
  refine W.adv 1 ?_
  refine W.opS (OpIs.pk true (t := (decide (0 < ((m5 : Nat) : Int)))) (x := (.bool (decide ((r26.getD (wi (((m5 : Nat) : Int) - 1)).toNat 0) = 0)))) (y := (.bool false)) (by kernel_rfl) (decide_eq_true h20)) ?_
  refine W.adv 2 ?_
  rcases H with ⟨h23, H⟩ | ⟨h23, H⟩
  ·refine W.cond true (w := (decide ((r26.getD (wi (((m5 : Nat) : Int) - 1)).toNat 0) = 0))) (by kernel_rfl) (decide_eq_true h23) ?_
   refine W.adv 8 ?_
   obtain ⟨h24, H⟩ := H
   refine W.opS (OpIs.slS (b := 26) (v := ((vs 26) + 1)) (sz := 1) (off := 0) (len := m5) (p := 0) (q := (wi (((m5 : Nat) : Int) - 1)).toNat) (lo := none) (hi := some (.int .i64 (wi (((m5 : Nat) : Int) - 1)))) (by kernel_rfl) (bound_some h21 h24) rfl) ?_
   refine W.adv 4 ?_
   exact W.to_loop (P := ref02_Clean_l4_s ((wi (((m5 : Nat) : Int) - 1)).toNat) r26 n26) (H _ ln_26 (by omega)) (by kernel_rfl)
  ·refine W.cond false (w := (decide ((r26.getD (wi (((m5 : Nat) : Int) - 1)).toNat 0) = 0))) (by kernel_rfl) (decide_eq_false h23) ?_
   refine W.adv 12 ?_
   exact W.fin (x := .ret) (by kernel_rfl) (Ans.of (d := (.sref 26 ((vs 26) + 1) 1 0 m5)) (d' := (.ints .u64 (r26.take m5))) (e' := (.ints .u64 (r26.take m5))) (by kernel_rfl) ((congrArg (fun h => reify h DEPTH (.sref 26 ((vs 26) + 1) 1 0 m5)) (tidy_ver (b := 26) (v := (vs 26)) (fz := false) (y := .ints .u64 r26) (by kernel_rfl))).trans (rf_row (off := 0) (len := m5) (b := 26) (v := ((vs 26) + 1)) (w := ((vs 26) + 1)) (fz := false) (k := .u64) (xs := r26) (by kernel_rfl) rfl (by omega))) (by kernel_rfl) (by rw [H]))
 ·refine W.guard false (w := ((decide (0 < ((m5 : Nat) : Int))) == true)) (by kernel_rfl) (congrArg (fun b => b == true) (decide_eq_false h20)) ?_
  refine W.guard false (w := ((decide (0 < ((m5 : Nat) : Int))) == true)) (by kernel_rfl) (congrArg (fun b => b == true) (decide_eq_false h20)) ?_
  refine W.guard false (w := ((decide (0 < ((m5 : Nat) : Int))) == true)) (by kernel_rfl) (congrArg (fun b => b == true) (decide_eq_false h20)) ?_
  refine W.guard false (w := ((decide (0 < ((m5 : Nat) : Int))) == true)) (by kernel_rfl) (congrArg (fun b => b == true) (decide_eq_false h20)) ?_
  refine W.guard false (w := ((decide (0 < ((m5 : Nat) : Int))) == true)) (by kernel_rfl) (congrArg (fun b => b == true) (decide_eq_false h20)) ?_
  refine W.guard false (w := ((decide (0 < ((m5 : Nat) : Int))) == true)) (by kernel_rfl) (congrArg (fun b => b == true) (decide_eq_false h20)) ?_
  refine W.guard false (w := ((decide (0 < ((m5 : Nat) : Int))) == true)) (by kernel_rfl) (congrArg (fun b => b == true) (decide_eq_false h20)) ?_
  refine W.opS (OpIs.pk false (t := (decide (0 < ((m5 : Nat) : Int)))) (x := (.tuple [])) (y := (.bool false)) (by kernel_rfl) (decide_eq_false h20)) ?_
  refine W.adv 15 ?_
  exact W.fin (x := .ret) (by kernel_rfl) (Ans.of (d := (.sref 26 ((vs 26) + 1) 1 0 m5)) (d' := (.ints .u64 (r26.take m5))) (e' := (.ints .u64 (r26.take m5))) (by kernel_rfl) ((congrArg (fun h => reify h DEPTH (.sref 26 ((vs 26) + 1) 1 0 m5)) (tidy_ver (b := 26) (v := (vs 26)) (fz := false) (y := .ints .u64 r26) (by kernel_rfl))).trans (rf_row (off := 0) (len := m5) (b := 26) (v := ((vs 26) + 1)) (w := ((vs 26) + 1)) (fz := false) (k := .u64) (xs := r26) (by kernel_rfl) rfl (by omega))) (by kernel_rfl) (by rw [H]))
theorem ref02_Clean_go {a0 : List Int} {a1 : Int} {z : List Int} (H : (ref02_Clean_l0 a0 a1 0 z)) : ref02_Clean_R a0 a1 z := by
 refine W.ic (zs := [.ints .u64 a0, .int .i64 a1]) Tryz.func31 (by kernel_rfl) (by kernel_rfl) (by kernel_rfl) (by kernel_rfl) ?_
 refine W.adv 18 ?_
 exact W.to_loop (P := ref02_Clean_l0_s a0 a1 0) (H ) (by kernel_rfl)
noncomputable def ref02_Of_l0_s (x0 : List Int) (x4 : Int) (j : Nat → D) (jb : Nat → Blk) (vs : Nat → Nat) : Cf := cfAt Tryz.f36 [1, 1, 0, 1, 0] ⟨[.ints .u64 x0, j 1, j 2, .nilS, .int .i64 x4, j 5, j 6, j 7, j 8, j 9, j 10, j 11, j 12, j 13, j 14, j 15, j 16, j 17, j 18, j 19, j 20, j 21], [jb 0, jb 1, jb 2, jb 3, jb 4, jb 5, jb 6, jb 7, jb 8, jb 9, jb 10, jb 11, jb 12, jb 13, jb 14, jb 15, jb 16, jb 17, jb 18, jb 19, jb 20, jb 21]⟩
def ref02_Of_l0 (x0 : List Int) (x4 : Int) (z : List Int) : Prop := ∀ j jb vs, W C F 36 0 (ref02_Of_l0_s x0 x4  j jb vs) (Ans C Tryz.f36 (.ints .i64 z))
noncomputable def ref02_Of_l1_s (x0 : List Int) (x3 : List Int) (x4 : Int) (j : Nat → D) (jb : Nat → Blk) (vs : Nat → Nat) : Cf := cfAt Tryz.f36 [1, 1, 0, 1, 0] ⟨[.ints .u64 x0, j 1, j 2, .ints .i64 x3, .int .i64 x4, j 5, j 6, j 7, j 8, j 9, j 10, j 11, j 12, j 13, j 14, j 15, j 16, j 17, j 18, j 19, j 20, j 21], [jb 0, jb 1, jb 2, jb 3, jb 4, jb 5, jb 6, jb 7, jb 8, jb 9, jb 10, jb 11, jb 12, jb 13, jb 14, jb 15, jb 16, jb 17, jb 18, jb 19, jb 20, jb 21]⟩
def ref02_Of_l1 (x0 : List Int) (x3 : List Int) (x4 : Int) (z : List Int) : Prop := ∀ j jb vs, W C F 36 0 (ref02_Of_l1_s x0 x3 x4  j jb vs) (Ans C Tryz.f36 (.ints .i64 z))
theorem ref02_Of_l0_go {x0 : List Int} {x4 : Int} {z : List Int} (H : ((0 ≤ x4 ∧ (x4 < (x0.length : Int) ∧ (∃ c3 : List Int, (ref02_MulAdd_R [] 4294967296 (wi (((x0.getD (x4).toNat 0).tmod 4294967296))) c3 ∧ (ref02_Of_l1 x0 c3 (wi (x4 - 1)) z))))) ∨ (¬ 0 ≤ x4 ∧ (z = [])))) : ref02_Of_l0 x0 x4 z := by
 intro j jb vs
 refine W.adv 1 ?_
 refine W.adv 7 ?_
 rcases H with ⟨h1, H⟩ | ⟨h1, H⟩
 ·refine W.cond true (w := (decide (0 ≤ x4))) (by kernel_rfl) (decide_eq_true h1) ?_
  refine W.adv 8 ?_
  obtain ⟨h2, H⟩ := H
  refine W.opS (OpIs.ixI (k := .u64) (k' := .i64) (xs := x0) (i := x4) (by kernel_rfl) h1 h2) ?_
  refine W.adv 3 ?_
  obtain ⟨c3, hc4, H⟩ := H
  refine W.callR (g := 52) (ds := [.nilS, .int .i64 4294967296, (.int .i64 (wi (((x0.getD (x4).toNat 0).tmod 4294967296))))]) (es := [.nilS, .int .i64 4294967296, (.int .i64 (wi (((x0.getD (x4).toNat 0).tmod 4294967296))))]) (r := (.ints .i64 c3)) (by kernel_rfl) (by kernel_rfl) (Ic.args hc4 (by kernel_rfl)) (by kernel_rfl) ?_
  refine W.adv 10 ?_
  exact W.to_loop (P := ref02_Of_l1_s x0 c3 (wi (x4 - 1))) (H ) (by kernel_rfl)
 ·refine W.cond false (w := (decide (0 ≤ x4))) (by kernel_rfl) (decide_eq_false h1) ?_
  refine W.adv 12 ?_
  exact W.fin (x := .ret) (by kernel_rfl) (Ans.of (d := .nilS) (d' := .nilS) (e' := (.ints .i64 [])) (by kernel_rfl) (by kernel_rfl) (by kernel_rfl) (by rw [H]))
theorem ref02_Of_l1_go {x0 : List Int} {x3 : List Int} {x4 : Int} {z : List Int} (H : ((0 ≤ x4 ∧ (x4 < (x0.length : Int) ∧ (∃ c7 : List Int, (ref02_MulAdd_R x3 4294967296 (wi (((x0.getD (x4).toNat 0).tmod 4294967296))) c7 ∧ (ref02_Of_l1 x0 c7 (wi (x4 - 1)) z))))) ∨ (¬ 0 ≤ x4 ∧ (z = x3)))) : ref02_Of_l1 x0 x3 x4 z := by
 intro j jb vs
 refine W.adv 1 ?_
 refine W.adv 7 ?_
 rcases H with ⟨h5, H⟩ | ⟨h5, H⟩
 ·refine W.cond true (w := (decide (0 ≤ x4))) (by kernel_rfl) (decide_eq_true h5) ?_
  refine W.adv 8 ?_
  obtain ⟨h6, H⟩ := H
  refine W.opS (OpIs.ixI (k := .u64) (k' := .i64) (xs := x0) (i := x4) (by kernel_rfl) h5 h6) ?_
  refine W.adv 3 ?_
  obtain ⟨c7, hc8, H⟩ := H
  refine W.callR (g := 52) (ds := [.ints .i64 x3, .int .i64 4294967296, (.int .i64 (wi (((x0.getD (x4).toNat 0).tmod 4294967296))))]) (es := [.ints .i64 x3, .int .i64 4294967296, (.int .i64 (wi (((x0.getD (x4).toNat 0).tmod 4294967296))))]) (r := (.ints .i64 c7)) (by kernel_rfl) (by kernel_rfl) (Ic.args hc8 (by kernel_rfl)) (by kernel_rfl) ?_
  refine W.adv 10 ?_
  exact W.to_loop (P := ref02_Of_l1_s x0 c7 (wi (x4 - 1))) (H ) (by kernel_rfl)
 ·refine W.cond false (w := (decide (0 ≤ x4))) (by kernel_rfl) (decide_eq_false h5) ?_
  refine W.adv 12 ?_
  exact W.fin (x := .ret) (by kernel_rfl) (Ans.of (d := (.ints .i64 x3)) (d' := (.ints .i64 x3)) (e' := (.ints .i64 x3)) (by kernel_rfl) (by kernel_rfl) (by kernel_rfl) (by rw [H]))
theorem ref02_Of_go {a0 : List Int} {z : List Int} (H : (ref02_Of_l0 a0 (wi ((a0.length : Int) - 1)) z)) : ref02_Of_R a0 z := by
 refine W.ic (zs := [.ints .u64 a0]) Tryz.func36 (by kernel_rfl) (by kernel_rfl) (by kernel_rfl) (by kernel_rfl) ?_
 refine W.adv 21 ?_
 exact W.to_loop (P := ref02_Of_l0_s a0 (wi ((a0.length : Int) - 1))) (H ) (by kernel_rfl)
noncomputable def ref02_Back_l0_s (x0 : List Int) (j : Nat → D) (jb : Nat → Blk) (vs : Nat → Nat) : Cf := cfAt Tryz.f48 [1, 1, 0, 0] ⟨[.ints .i64 x0, j 1, j 2, .nilS, j 4, j 5, j 6, j 7, j 8, j 9, j 10, j 11, j 12, j 13, j 14, j 15, j 16, j 17, j 18, j 19, j 20, j 21], [jb 0, jb 1, jb 2, jb 3, jb 4, jb 5, jb 6, jb 7, jb 8, jb 9, jb 10, jb 11, jb 12, jb 13, jb 14, jb 15, jb 16, jb 17, jb 18, jb 19, jb 20, jb 21]⟩
def ref02_Back_l0 (x0 : List Int) (z : List Int) : Prop := ∀ j jb vs, W C F 48 0 (ref02_Back_l0_s x0  j jb vs) (Ans C Tryz.f48 (.ints .u64 z))
noncomputable def ref02_Back_l1_s (x0 : List Int) (r19 : List Int) (n19 : Nat) (j : Nat → D) (jb : Nat → Blk) (vs : Nat → Nat) : Cf := cfAt Tryz.f48 [1, 1, 0, 0] ⟨[.ints .i64 x0, j 1, j 2, (.sref 19 ((vs 19) + 1) 1 0 n19), j 4, j 5, j 6, j 7, j 8, j 9, j 10, j 11, j 12, j 13, j 14, j 15, j 16, j 17, j 18, j 19, j 20, j 21], [jb 0, jb 1, jb 2, jb 3, jb 4, jb 5, jb 6, jb 7, jb 8, jb 9, jb 10, jb 11, jb 12, jb 13, jb 14, jb 15, jb 16, jb 17, jb 18, ⟨((vs 19) + 1), false, .ints .u64 r19⟩, jb 20, jb 21]⟩
def ref02_Back_l1 (x0 : List Int) (r19 : List Int) (z : List Int) : Prop := ∀ n19, n19 = r19.length → ∀ j jb vs, W C F 48 0 (ref02_Back_l1_s x0 r19 n19 j jb vs) (Ans C Tryz.f48 (.ints .u64 z))
theorem ref02_Back_l0_go {x0 : List Int} {z : List Int} (H : ((0 < (x0.length : Int) ∧ (∃ c2t0 : List Int, (∃ c2t1 : Int, (ref02_DivSmall_R x0 4294967296 c2t0 c2t1 ∧ ((1 + 192) * (8 + 1) ≤ 70368744177664 ∧ (∃ y4, y4 = [(wu (c2t1))] ∧ (ref02_Back_l1 c2t0 y4 z))))))) ∨ (¬ 0 < (x0.length : Int) ∧ (z = [])))) : ref02_Back_l0 x0 z := by
 intro j jb vs
 refine W.adv 1 ?_
 refine W.adv 8 ?_
 rcases H with ⟨h1, H⟩ | ⟨h1, H⟩
 ·refine W.cond true (w := (decide (0 < (x0.length : Int)))) (by kernel_rfl) (decide_eq_true h1) ?_
  refine W.adv 6 ?_
  obtain ⟨c2t0, c2t1, hc3, H⟩ := H
  refine W.callR (g := 74) (ds := [.ints .i64 x0, .int .i64 4294967296]) (es := [.ints .i64 x0, .int .i64 4294967296]) (r := (.tuple [.ints .i64 c2t0, .int .i64 c2t1])) (by kernel_rfl) (by kernel_rfl) (Ic.args hc3 (by kernel_rfl)) (by kernel_rfl) ?_
  refine W.adv 13 ?_
  obtain ⟨h7, H⟩ := H
  obtain ⟨y4, hy5, H⟩ := H
  have ln6 : 1 = y4.length := by rw [hy5] <;> rfl
  refine W.opH (OpIs.apNil (y := (.lit (.ints .u64 [(wu (c2t1))]))) (B := none) (n := 8) (d := 19) (v := (jb 19).ver) (k := .u64) (ys := [(wu (c2t1))]) (by kernel_rfl) (by kernel_rfl) hy5 h7) ?_
  refine W.adv 9 ?_
  exact W.to_loop (P := ref02_Back_l1_s c2t0 y4 1) (H _ ln6) (by kernel_rfl)
 ·refine W.cond false (w := (decide (0 < (x0.length : Int)))) (by kernel_rfl) (decide_eq_false h1) ?_
  refine W.adv 12 ?_
  exact W.fin (x := .ret) (by kernel_rfl) (Ans.of (d := .nilS) (d' := .nilS) (e' := (.ints .u64 [])) (by kernel_rfl) (by kernel_rfl) (by kernel_rfl) (by rw [H]))
theorem ref02_Back_l1_go {x0 : List Int} {r19 : List Int} {z : List Int} (H : ((0 < (x0.length : Int) ∧ (∃ c9t0 : List Int, (∃ c9t1 : Int, (ref02_DivSmall_R x0 4294967296 c9t0 c9t1 ∧ ((r19.length + 1 + 192) * (8 + 1) ≤ 70368744177664 ∧ (∃ y11, y11 = r19 ++ [(wu (c9t1))] ∧ (ref02_Back_l1 c9t0 y11 z))))))) ∨ (¬ 0 < (x0.length : Int) ∧ (z = r19)))) : ref02_Back_l1 x0 r19 z := by
 intro n19 ln_19 j jb vs
 refine W.adv 1 ?_
 refine W.adv 8 ?_
 rcases H with ⟨h8, H⟩ | ⟨h8, H⟩
 ·refine W.cond true (w := (decide (0 < (x0.length : Int)))) (by kernel_rfl) (decide_eq_true h8) ?_
  refine W.adv 6 ?_
  obtain ⟨c9t0, c9t1, hc10, H⟩ := H
  refine W.callR (g := 74) (ds := [.ints .i64 x0, .int .i64 4294967296]) (es := [.ints .i64 x0, .int .i64 4294967296]) (r := (.tuple [.ints .i64 c9t0, .int .i64 c9t1])) (by kernel_rfl) (by kernel_rfl) (Ic.args hc10 (by kernel_rfl)) (by kernel_rfl) ?_
  refine W.adv 13 ?_
  obtain ⟨h14, H⟩ := H
  obtain ⟨y11, hy12, H⟩ := H
  have ln13 : (r19.length + 1) = y11.length := by rw [hy12, List.length_append] <;> rfl
  refine W.opK (OpIs.apRow (y := (.lit (.ints .u64 [(wu (c9t1))]))) (n := 8) (d := 19) (dv := ((vs 19) + 1)) (b := 19) (v := ((vs 19) + 1)) (w := ((vs 19) + 1)) (len := n19) (k := .u64) (xs := r19) (ys := [(wu (c9t1))]) (by kernel_rfl) (by kernel_rfl) hy12 rfl ln_19 h14) ?_
  refine W.adv 9 ?_
  exact W.to_loop (P := ref02_Back_l1_s c9t0 y11 (r19.length + 1)) (H _ ln13) (by kernel_rfl)
 ·refine W.cond false (w := (decide (0 < (x0.length : Int)))) (by kernel_rfl) (decide_eq_false h8) ?_
  refine W.adv 12 ?_
  exact W.fin (x := .ret) (by kernel_rfl) (Ans.of (d := (.sref 19 ((vs 19) + 1) 1 0 n19)) (d' := (.ints .u64 r19)) (e' := (.ints .u64 r19)) (by kernel_rfl) ((congrArg (fun h => reify h DEPTH (.sref 19 ((vs 19) + 1) 1 0 n19)) (tidy_ver (b := 19) (v := (vs 19)) (fz := false) (y := .ints .u64 r19) (by kernel_rfl))).trans (rf_full (b := 19) (v := ((vs 19) + 1)) (w := ((vs 19) + 1)) (fz := false) (k := .u64) (xs := r19) (by kernel_rfl) rfl ln_19)) (by kernel_rfl) (by rw [H]))
theorem ref02_Back_go {a0 : List Int} {z : List Int} (H : (ref02_Back_l0 a0 z)) : ref02_Back_R a0 z := by
 refine W.ic (zs := [.ints .i64 a0]) Tryz.func48 (by kernel_rfl) (by kernel_rfl) (by kernel_rfl) (by kernel_rfl) ?_
 refine W.adv 13 ?_
 exact W.to_loop (P := ref02_Back_l0_s a0) (H ) (by kernel_rfl)
noncomputable def ref02_Gcd_l0_s (x0 : List Int) (x1 : List Int) (j : Nat → D) (jb : Nat → Blk) (vs : Nat → Nat) : Cf := cfAt Tryz.f49 [1, 0, 0] ⟨[.ints .i64 x0, .ints .i64 x1, j 2, j 3, j 4, j 5, j 6, j 7, j 8, j 9, j 10, j 11, j 12, j 13, j 14, j 15, j 16, j 17, j 18], [jb 0, jb 1, jb 2, jb 3, jb 4, jb 5, jb 6, jb 7, jb 8, jb 9, jb 10, jb 11, jb 12, jb 13, jb 14, jb 15, jb 16, jb 17, jb 18]⟩
def ref02_Gcd_l0 (x0 : List Int) (x1 : List Int) (z : List Int) : Prop := ∀ j jb vs, W C F 49 0 (ref02_Gcd_l0_s x0 x1  j jb vs) (Ans C Tryz.f49 (.ints .i64 z))
theorem ref02_Gcd_l0_go {x0 : List Int} {x1 : List Int} {z : List Int} (H : ((0 < (x1.length : Int) ∧ (∃ c2t0 : List Int, (∃ c2t1 : List Int, (ref02_Div_R x0 x1 c2t0 c2t1 ∧ (ref02_Gcd_l0 x1 c2t1 z))))) ∨ (¬ 0 < (x1.length : Int) ∧ (z = x0)))) : ref02_Gcd_l0 x0 x1 z := by
 intro j jb vs
 refine W.adv 1 ?_
 refine W.adv 8 ?_
 rcases H with ⟨h1, H⟩ | ⟨h1, H⟩
 ·refine W.cond true (w := (decide (0 < (x1.length : Int)))) (by kernel_rfl) (decide_eq_true h1) ?_
  refine W.adv 7 ?_
  obtain ⟨c2t0, c2t1, hc3, H⟩ := H
  refine W.callR (g := 50) (ds := [.ints .i64 x0, .ints .i64 x1]) (es := [.ints .i64 x0, .ints .i64 x1]) (r := (.tuple [.ints .i64 c2t0, .ints .i64 c2t1])) (by kernel_rfl) (by kernel_rfl) (Ic.args hc3 (by kernel_rfl)) (by kernel_rfl) ?_
  refine W.adv 15 ?_
  exact W.to_loop (P := ref02_Gcd_l0_s x1 c2t1) (H ) (by kernel_rfl)
 ·refine W.cond false (w := (decide (0 < (x1.length : Int)))) (by kernel_rfl) (decide_eq_false h1) ?_
  refine W.adv 12 ?_
  exact W.fin (x := .ret) (by kernel_rfl) (Ans.of (d := (.ints .i64 x0)) (d' := (.ints .i64 x0)) (e' := (.ints .i64 x0)) (by kernel_rfl) (by kernel_rfl) (by kernel_rfl) (by rw [H]))
theorem ref02_Gcd_go {a0 : List Int} {a1 : List Int} {z : List Int} (H : (ref02_Gcd_l0 a0 a1 z)) : ref02_Gcd_R a0 a1 z := by
 refine W.ic (zs := [.ints .i64 a0, .ints .i64 a1]) Tryz.func49 (by kernel_rfl) (by kernel_rfl) (by kernel_rfl) (by kernel_rfl) ?_
 refine W.adv 7 ?_
 exact W.to_loop (P := ref02_Gcd_l0_s a0 a1) (H ) (by kernel_rfl)
noncomputable def ref02_Div_l0_s (x0 : List Int) (x1 : List Int) (x8 : Int) (r14 : List Int) (n14 : Nat) (j : Nat → D) (jb : Nat → Blk) (vs : Nat → Nat) : Cf := cfAt Tryz.f50 [1, 1, 0, 1, 0] ⟨[.ints .i64 x0, .ints .i64 x1, j 2, j 3, j 4, j 5, .sref 14 1 1 0 n14, .nilS, .int .i64 x8, j 9, j 10, j 11, j 12, j 13, j 14, j 15, j 16, j 17, j 18, j 19, j 20, j 21, j 22, j 23, j 24, j 25, j 26, j 27, j 28, j 29, j 30, j 31, j 32, j 33, j 34, j 35, j 36, j 37, j 38, j 39, j 40, j 41, j 42, j 43, j 44, j 45, j 46, j 47, j 48, j 49, j 50, j 51, j 52, j 53, j 54, j 55, j 56, j 57, j 58], [jb 0, jb 1, jb 2, jb 3, jb 4, jb 5, jb 6, jb 7, jb 8, jb 9, jb 10, jb 11, jb 12, jb 13, ⟨1, false, .ints .i64 r14⟩, jb 15, jb 16, jb 17, jb 18, jb 19, jb 20, jb 21, jb 22, jb 23, jb 24, jb 25, jb 26, jb 27, jb 28, jb 29, jb 30, jb 31, jb 32, jb 33, jb 34, jb 35, jb 36, jb 37, jb 38, jb 39, jb 40, jb 41, jb 42, jb 43, jb 44, jb 45, jb 46, jb 47, jb 48, jb 49, jb 50, jb 51, jb 52, jb 53, jb 54, jb 55, jb 56, jb 57, jb 58]⟩
def ref02_Div_l0 (x0 : List Int) (x1 : List Int) (x8 : Int) (r14 : List Int) (zt0 : List Int) (zt1 : List Int) : Prop := ∀ n14, n14 = r14.length → ∀ j jb vs, W C F 50 0 (ref02_Div_l0_s x0 x1 x8 r14 n14 j jb vs) (Ans C Tryz.f50 (.tuple [.ints .i64 zt0, .ints .i64 zt1]))
noncomputable def ref02_Div_l1_s (x0 : List Int) (x1 : List Int) (x7 : List Int) (x8 : Int) (x9 : Int) (x10 : Int) (r14 : List Int) (n14 : Nat) (j : Nat → D) (jb : Nat → Blk) (vs : Nat → Nat) : Cf := cfAt Tryz.f50 [1, 1, 0, 1, 0, 0, 1, 0, 0, 1, 1, 0, 0] ⟨[.ints .i64 x0, .ints .i64 x1, j 2, j 3, j 4, j 5, .sref 14 1 1 0 n14, .ints .i64 x7, .int .i64 x8, .int .i64 x9, .int .i64 x10, j 11, j 12, j 13, j 14, j 15, j 16, j 17, j 18, j 19, j 20, j 21, j 22, j 23, j 24, j 25, j 26, j 27, j 28, j 29, j 30, j 31, j 32, j 33, j 34, j 35, j 36, j 37, j 38, j 39, j 40, j 41, j 42, j 43, j 44, j 45, j 46, j 47, j 48, j 49, j 50, j 51, j 52, j 53, j 54, j 55, j 56, j 57, j 58], [jb 0, jb 1, jb 2, jb 3, jb 4, jb 5, jb 6, jb 7, jb 8, jb 9, jb 10, jb 11, jb 12, jb 13, ⟨1, false, .ints .i64 r14⟩, jb 15, jb 16, jb 17, jb 18, jb 19, jb 20, jb 21, jb 22, jb 23, jb 24, jb 25, jb 26, jb 27, jb 28, jb 29, jb 30, jb 31, jb 32, jb 33, jb 34, jb 35, jb 36, jb 37, jb 38, jb 39, jb 40, jb 41, jb 42, jb 43, jb 44, jb 45, jb 46, jb 47, jb 48, jb 49, jb 50, jb 51, jb 52, jb 53, jb 54, jb 55, jb 56, jb 57, jb 58]⟩
def ref02_Div_l1 (x0 : List Int) (x1 : List Int) (x7 : List Int) (x8 : Int) (x9 : Int) (x10 : Int) (r14 : List Int) (zt0 : List Int) (zt1 : List Int) : Prop := ∀ n14, n14 = r14.length → ∀ j jb vs, W C F 50 0 (ref02_Div_l1_s x0 x1 x7 x8 x9 x10 r14 n14 j jb vs) (Ans C Tryz.f50 (.tuple [.ints .i64 zt0, .ints .i64 zt1]))
noncomputable def ref02_Div_l2_s (x0 : List Int) (x1 : List Int) (x7 : List Int) (x8 : Int) (r14 : List Int) (n14 : Nat) (j : Nat → D) (jb : Nat → Blk) (vs : Nat → Nat) : Cf := cfAt Tryz.f50 [1, 1, 0, 1, 0] ⟨[.ints .i64 x0, .ints .i64 x1, j 2, j 3, j 4, j 5, .sref 14 1 1 0 n14, .ints .i64 x7, .int .i64 x8, j 9, j 10, j 11, j 12, j 13, j 14, j 15, j 16, j 17, j 18, j 19, j 20, j 21, j 22, j 23, j 24, j 25, j 26, j 27, j 28, j 29, j 30, j 31, j 32, j 33, j 34, j 35, j 36, j 37, j 38, j 39, j 40, j 41, j 42, j 43, j 44, j 45, j 46, j 47, j 48, j 49, j 50, j 51, j 52, j 53, j 54, j 55, j 56, j 57, j 58], [jb 0, jb 1, jb 2, jb 3, jb 4, jb 5, jb 6, jb 7, jb 8, jb 9, jb 10, jb 11, jb 12, jb 13, ⟨1, false, .ints .i64 r14⟩, jb 15, jb 16, jb 17, jb 18, jb 19, jb 20, jb 21, jb 22, jb 23, jb 24, jb 25, jb 26, jb 27, jb 28, jb 29, jb 30, jb 31, jb 32, jb 33, jb 34, jb 35, jb 36, jb 37, jb 38, jb 39, jb 40, jb 41, jb 42, jb 43, jb 44, jb 45, jb 46, jb 47, jb 48, jb 49, jb 50, jb 51, jb 52, jb 53, jb 54, jb 55, jb 56, jb 57, jb 58]⟩
def ref02_Div_l2 (x0 : List Int) (x1 : List Int) (x7 : List Int) (x8 : Int) (r14 : List Int) (zt0 : List Int) (zt1 : List Int) : Prop := ∀ n14, n14 = r14.length → ∀ j jb vs, W C F 50 0 (ref02_Div_l2_s x0 x1 x7 x8 r14 n14 j jb vs) (Ans C Tryz.f50 (.tuple [.ints .i64 zt0, .ints .i64 zt1]))
theorem ref02_Div_l0_go {x0 : List Int} {x1 : List Int} {x8 : Int} {r14 : List Int} {zt0 : List Int} {zt1 : List Int} (H : ((0 ≤ x8 ∧ (x8 < (x0.length : Int) ∧ (∃ c8 : List Int, (ref02_Trim_R [(x0.getD (x8).toNat 0)] c8 ∧ (ref02_Div_l1 x0 x1 c8 x8 0 10000 r14 zt0 zt1))))) ∨ (¬ 0 ≤ x8 ∧ (∃ c10 : List Int, (ref02_Trim_R r14 c10 ∧ (zt0 = c10 ∧ zt1 = [])))))) : ref02_Div_l0 x0 x1 x8 r14 zt0 zt1 := by
 intro n14 ln_14 j jb vs
 refine W.adv 1 ?_
 refine W.adv 7 ?_
 rcases H with ⟨h6, H⟩ | ⟨h6, H⟩
 ·refine W.cond true (w := (decide (0 ≤ x8))) (by kernel_rfl) (decide_eq_true h6) ?_
  refine W.adv 8 ?_
  obtain ⟨h7, H⟩ := H
  refine W.opS (OpIs.ixI (k := .i64) (k' := .i64) (xs := x0) (i := x8) (by kernel_rfl) h6 h7) ?_
  refine W.adv 3 ?_
  refine W.opS (OpIs.apSame (x := (.lit (.ints .i64 [(x0.getD (x8).toNat 0)]))) (y := .nilS) (B := none) (n := 8) (d := 29) (dv := (jb 29).ver) (by kernel_rfl) (by kernel_rfl) (by kernel_rfl)) ?_
  obtain ⟨c8, hc9, H⟩ := H
  refine W.callR (g := 75) (ds := [(.lit (.ints .i64 [(x0.getD (x8).toNat 0)]))]) (es := [(.ints .i64 [(x0.getD (x8).toNat 0)])]) (r := (.ints .i64 c8)) (by kernel_rfl) (by kernel_rfl) (Ic.args hc9 (by kernel_rfl)) (by kernel_rfl) ?_
  refine W.adv 11 ?_
  exact W.to_loop (P := ref02_Div_l1_s x0 x1 c8 x8 0 10000 r14 n14) (H _ ln_14) (by kernel_rfl)
 ·refine W.cond false (w := (decide (0 ≤ x8))) (by kernel_rfl) (decide_eq_false h6) ?_
  refine W.adv 8 ?_
  obtain ⟨c10, hc11, H⟩ := H
  refine W.callR (g := 75) (ds := [.sref 14 1 1 0 n14]) (es := [.ints .i64 r14]) (r := (.ints .i64 c10)) (by kernel_rfl) (rf_cons (rf_full (b := 14) (v := 1) (w := 1) (fz := false) (k := .i64) (xs := r14) (by kernel_rfl) rfl ln_14) rf_nil) (Ic.args hc11 (by kernel_rfl)) (by kernel_rfl) ?_
  refine W.adv 6 ?_
  exact W.fin (x := .ret) (by kernel_rfl) (Ans.of (d := (.tuple [.ints .i64 c10, .nilS])) (d' := (.tuple [.ints .i64 c10, .nilS])) (e' := (.tuple [.ints .i64 c10, .ints .i64 []])) (by kernel_rfl) (by kernel_rfl) (by kernel_rfl) (by rw [H.1, H.2]))
theorem ref02_Div_l1_go {x0 : List Int} {x1 : List Int} {x7 : List Int} {x8 : Int} {x9 : Int} {x10 : Int} {r14 : List Int} {zt0 : List Int} {zt1 : List Int} (H : ((1 < (wi (x10 - x9)) ∧ (∃ c13 : List Int, (ref02_MulAdd_R x1 (wi ((wi (x9 + x10)).tdiv 2)) 0 c13 ∧ (∃ c15 : Int, (ref02_Cmp_R c13 x7 c15 ∧ ((c15 ≤ 0 ∧ (ref02_Div_l1 x0 x1 x7 x8 (wi ((wi (x9 + x10)).tdiv 2)) x10 r14 zt0 zt1)) ∨ (¬ c15 ≤ 0 ∧ (ref02_Div_l1 x0 x1 x7 x8 x9 (wi ((wi (x9 + x10)).tdiv 2)) r14 zt0 zt1)))))))) ∨ (¬ 1 < (wi (x10 - x9)) ∧ (0 ≤ x8 ∧ (x8 < (r14.length : Int) ∧ (∃ y20, y20 = r14.set (x8).toNat x9 ∧ (∃ c23 : List Int, (ref02_MulAdd_R x1 x9 0 c23 ∧ (∃ c25 : List Int, (ref02_Sub_R x7 c23 c25 ∧ (ref02_Div_l2 x0 x1 c25 (wi (x8 - 1)) y20 zt0 zt1))))))))))) : ref02_Div_l1 x0 x1 x7 x8 x9 x10 r14 zt0 zt1 := by
 intro n14 ln_14 j jb vs
 refine W.adv 1 ?_
 refine W.adv 9 ?_
 rcases H with ⟨h12, H⟩ | ⟨h12, H⟩
 ·refine W.cond true (w := (decide (1 < (wi (x10 - x9))))) (by kernel_rfl) (decide_eq_true h12) ?_
  refine W.adv 16 ?_
  obtain ⟨c13, hc14, H⟩ := H
  refine W.callR (g := 52) (ds := [.ints .i64 x1, (.int .i64 (wi ((wi (x9 + x10)).tdiv 2))), .int .i64 0]) (es := [.ints .i64 x1, (.int .i64 (wi ((wi (x9 + x10)).tdiv 2))), .int .i64 0]) (r := (.ints .i64 c13)) (by kernel_rfl) (by kernel_rfl) (Ic.args hc14 (by kernel_rfl)) (by kernel_rfl) ?_
  refine W.adv 1 ?_
  obtain ⟨c15, hc16, H⟩ := H
  refine W.callR (g := 76) (ds := [.ints .i64 c13, .ints .i64 x7]) (es := [.ints .i64 c13, .ints .i64 x7]) (r := (.int .i64 c15)) (by kernel_rfl) (by kernel_rfl) (Ic.args hc16 (by kernel_rfl)) (by kernel_rfl) ?_
  refine W.adv 3 ?_
  rcases H with ⟨h17, H⟩ | ⟨h17, H⟩
  ·refine W.cond true (w := (decide (c15 ≤ 0))) (by kernel_rfl) (decide_eq_true h17) ?_
   refine W.adv 6 ?_
   exact W.to_loop (P := ref02_Div_l1_s x0 x1 x7 x8 (wi ((wi (x9 + x10)).tdiv 2)) x10 r14 n14) (H _ ln_14) (by kernel_rfl)
  ·refine W.cond false (w := (decide (c15 ≤ 0))) (by kernel_rfl) (decide_eq_false h17) ?_
   refine W.adv 6 ?_
   exact W.to_loop (P := ref02_Div_l1_s x0 x1 x7 x8 x9 (wi ((wi (x9 + x10)).tdiv 2)) r14 n14) (H _ ln_14) (by kernel_rfl)
 ·refine W.cond false (w := (decide (1 < (wi (x10 - x9))))) (by kernel_rfl) (decide_eq_false h12) ?_
  refine W.adv 10 ?_
  obtain ⟨h18, h19, H⟩ := H
  refine W.opS (OpIs.ixR (k' := .i64) (b := 14) (v := 1) (sz := 1) (len := n14) (i := x8) (by kernel_rfl) h18 (by rw [ln_14]; exact h19)) ?_
  obtain ⟨y20, hy21, H⟩ := H
  have ln22 : n14 = y20.length := by rw [hy21, List.length_set]; exact ln_14
  refine W.opH (OpIs.stN (b := 14) (v := 1) (i := (x8).toNat) (w := 1) (k := .i64) (xs := r14) (n := x9) (by kernel_rfl) hy21 rfl (by omega)) ?_
  refine W.adv 6 ?_
  obtain ⟨c23, hc24, H⟩ := H
  refine W.callR (g := 52) (ds := [.ints .i64 x1, .int .i64 x9, .int .i64 0]) (es := [.ints .i64 x1, .int .i64 x9, .int .i64 0]) (r := (.ints .i64 c23)) (by kernel_rfl) (by kernel_rfl) (Ic.args hc24 (by kernel_rfl)) (by kernel_rfl) ?_
  obtain ⟨c25, hc26, H⟩ := H
  refine W.callR (g := 77) (ds := [.ints .i64 x7, .ints .i64 c23]) (es := [.ints .i64 x7, .ints .i64 c23]) (r := (.ints .i64 c25)) (by kernel_rfl) (by kernel_rfl) (Ic.args hc26 (by kernel_rfl)) (by kernel_rfl) ?_
  refine W.adv 10 ?_
  exact W.to_loop (P := ref02_Div_l2_s x0 x1 c25 (wi (x8 - 1)) y20 n14) (H _ ln22) (by kernel_rfl)
theorem ref02_Div_l2_go {x0 : List Int} {x1 : List Int} {x7 : List Int} {x8 : Int} {r14 : List Int} {zt0 : List Int} {zt1 : List Int} (H : ((0 ≤ x8 ∧ (x8 < (x0.length : Int) ∧ ((x7 = [] ∧ (∃ c33 : List Int, (ref02_Trim_R [(x0.getD (x8).toNat 0)] c33 ∧ (ref02_Div_l1 x0 x1 c33 x8 0 10000 r14 zt0 zt1)))) ∨ (¬ x7 = [] ∧ (([(x0.getD (x8).toNat 0)].length + x7.length + 192) * (8 + 1) ≤ 70368744177664 ∧ (∃ y29, y29 = [(x0.getD (x8).toNat 0)] ++ x7 ∧ (∃ c36 : List Int, (ref02_Trim_R y29 c36 ∧ (ref02_Div_l1 x0 x1 c36 x8 0 10000 r14 zt0 zt1))))))))) ∨ (¬ 0 ≤ x8 ∧ (∃ c38 : List Int, (ref02_Trim_R r14 c38 ∧ (zt0 = c38 ∧ zt1 = x7)))))) : ref02_Div_l2 x0 x1 x7 x8 r14 zt0 zt1 := by
 intro n14 ln_14 j jb vs
 refine W.adv 1 ?_
 refine W.adv 7 ?_
 rcases H with ⟨h27, H⟩ | ⟨h27, H⟩
 ·refine W.cond true (w := (decide (0 ≤ x8))) (by kernel_rfl) (decide_eq_true h27) ?_
  refine W.adv 8 ?_
  obtain ⟨h28, H⟩ := H
  refine W.opS (OpIs.ixI (k := .i64) (k' := .i64) (xs := x0) (i := x8) (by kernel_rfl) h27 h28) ?_
  refine W.adv 3 ?_
  rcases H with ⟨h32, H⟩ | ⟨h32, H⟩
  ·refine W.opS (OpIs.apLit0 (y := (.ints .i64 x7)) (B := none) (n := 8) (d := 29) (dv := (jb 29).ver) (k := .i64) (xs := [(x0.getD (x8).toNat 0)]) (ys := x7) (by kernel_rfl) (by kernel_rfl) h32) ?_
   obtain ⟨c33, hc34, H⟩ := H
   refine W.callR (g := 75) (ds := [(.lit (.ints .i64 [(x0.getD (x8).toNat 0)]))]) (es := [(.ints .i64 [(x0.getD (x8).toNat 0)])]) (r := (.ints .i64 c33)) (by kernel_rfl) (by kernel_rfl) (Ic.args hc34 (by kernel_rfl)) (by kernel_rfl) ?_
   refine W.adv 11 ?_
   exact W.to_loop (P := ref02_Div_l1_s x0 x1 c33 x8 0 10000 r14 n14) (H _ ln_14) (by kernel_rfl)
  ·obtain ⟨h35, H⟩ := H
   obtain ⟨y29, hy30, H⟩ := H
   have ln31 : ([(x0.getD (x8).toNat 0)].length + x7.length) = y29.length := by rw [hy30, List.length_append] <;> rfl
   refine W.opH (OpIs.apLit (y := (.ints .i64 x7)) (B := none) (n := 8) (d := 29) (dv := (jb 29).ver) (k := .i64) (xs := [(x0.getD (x8).toNat 0)]) (ys := x7) (by kernel_rfl) (by kernel_rfl) hy30 h35 h32) ?_
   obtain ⟨c36, hc37, H⟩ := H
   refine W.callR (g := 75) (ds := [(.sref 29 ((jb 29).ver + 1) 1 0 ([(x0.getD (x8).toNat 0)].length + x7.length))]) (es := [.ints .i64 y29]) (r := (.ints .i64 c36)) (by kernel_rfl) (rf_cons (rf_full (b := 29) (v := ((jb 29).ver + 1)) (w := ((jb 29).ver + 1)) (fz := false) (k := .i64) (xs := y29) (by kernel_rfl) rfl ln31) rf_nil) (Ic.args hc37 (by kernel_rfl)) (by kernel_rfl) ?_
   refine W.adv 11 ?_
   exact W.to_loop (P := ref02_Div_l1_s x0 x1 c36 x8 0 10000 r14 n14) (H _ ln_14) (by kernel_rfl)
 ·refine W.cond false (w := (decide (0 ≤ x8))) (by kernel_rfl) (decide_eq_false h27) ?_
  refine W.adv 8 ?_
  obtain ⟨c38, hc39, H⟩ := H
  refine W.callR (g := 75) (ds := [.sref 14 1 1 0 n14]) (es := [.ints .i64 r14]) (r := (.ints .i64 c38)) (by kernel_rfl) (rf_cons (rf_full (b := 14) (v := 1) (w := 1) (fz := false) (k := .i64) (xs := r14) (by kernel_rfl) rfl ln_14) rf_nil) (Ic.args hc39 (by kernel_rfl)) (by kernel_rfl) ?_
  refine W.adv 6 ?_
  exact W.fin (x := .ret) (by kernel_rfl) (Ans.of (d := (.tuple [.ints .i64 c38, .ints .i64 x7])) (d' := (.tuple [.ints .i64 c38, .ints .i64 x7])) (e' := (.tuple [.ints .i64 c38, .ints .i64 x7])) (by kernel_rfl) (by kernel_rfl) (by kernel_rfl) (by rw [H.1, H.2]))
theorem ref02_Div_go {a0 : List Int} {a1 : List Int} {zt0 : List Int} {zt1 : List Int} (H : (0 ≤ (a0.length : Int) ∧ (8 * (a0.length : Int) ≤ 140737488351232 ∧ (∃ y1, y1 = List.replicate (a0.length : Int).toNat 0 ∧ (ref02_Div_l0 a0 a1 (wi ((a0.length : Int) - 1)) y1 zt0 zt1))))) : ref02_Div_R a0 a1 zt0 zt1 := by
 refine W.ic (zs := [.ints .i64 a0, .ints .i64 a1]) Tryz.func50 (by kernel_rfl) (by kernel_rfl) (by kernel_rfl) (by kernel_rfl) ?_
 refine W.adv 10 ?_
 obtain ⟨h4, h5, H⟩ := H
 obtain ⟨y1, hy2, H⟩ := H
 have ln3 : (a0.length : Int).toNat = y1.length := by rw [hy2, List.length_replicate]
 refine W.opH (OpIs.msN (k1 := .i64) (k2 := .i64) (k := .i64) (n := (a0.length : Int)) (m := (a0.length : Int)) (y := 8) (b := 14) (v := 0) (by kernel_rfl) hy2 h4 (Int.le_refl _) h5 (by omega)) ?_
 refine W.adv 15 ?_
 exact W.to_loop (P := ref02_Div_l0_s a0 a1 (wi ((a0.length : Int) - 1)) y1 ((a0.length : Int).toNat)) (H _ ln3) (by kernel_rfl)
noncomputable def ref02_MulAdd_l0_s (x0 : List Int) (x1 : Int) (x2 : Int) (x8 : Int) (j : Nat → D) (jb : Nat → Blk) (vs : Nat → Nat) : Cf := cfAt Tryz.f52 [1, 1, 0, 1, 0] ⟨[.ints .i64 x0, .int .i64 x1, .int .i64 x2, j 3, j 4, j 5, j 6, .nilS, .int .i64 x8, j 9, j 10, j 11, j 12, j 13, j 14, j 15, j 16, j 17, j 18, j 19, j 20, j 21, j 22, j 23, j 24, j 25, j 26, j 27, j 28, j 29, j 30, j 31, j 32, j 33, j 34, j 35, j 36, j 37, j 38, j 39, j 40, j 41], [jb 0, jb 1, jb 2, jb 3, jb 4, jb 5, jb 6, jb 7, jb 8, jb 9, jb 10, jb 11, jb 12, jb 13, jb 14, jb 15, jb 16, jb 17, jb 18, jb 19, jb 20, jb 21, jb 22, jb 23, jb 24, jb 25, jb 26, jb 27, jb 28, jb 29, jb 30, jb 31, jb 32, jb 33, jb 34, jb 35, jb 36, jb 37, jb 38, jb 39, jb 40, jb 41]⟩
def ref02_MulAdd_l0 (x0 : List Int) (x1 : Int) (x2 : Int) (x8 : Int) (z : List Int) : Prop := ∀ j jb vs, W C F 52 0 (ref02_MulAdd_l0_s x0 x1 x2 x8  j jb vs) (Ans C Tryz.f52 (.ints .i64 z))
noncomputable def ref02_MulAdd_l1_s (x0 : List Int) (x1 : Int) (x2 : Int) (x8 : Int) (r28 : List Int) (n28 : Nat) (j : Nat → D) (jb : Nat → Blk) (vs : Nat → Nat) : Cf := cfAt Tryz.f52 [1, 1, 0, 1, 0] ⟨[.ints .i64 x0, .int .i64 x1, .int .i64 x2, j 3, j 4, j 5, j 6, (.sref 28 ((vs 28) + 1) 1 0 n28), .int .i64 x8, j 9, j 10, j 11, j 12, j 13, j 14, j 15, j 16, j 17, j 18, j 19, j 20, j 21, j 22, j 23, j 24, j 25, j 26, j 27, j 28, j 29, j 30, j 31, j 32, j 33, j 34, j 35, j 36, j 37, j 38, j 39, j 40, j 41], [jb 0, jb 1, jb 2, jb 3, jb 4, jb 5, jb 6, jb 7, jb 8, jb 9, jb 10, jb 11, jb 12, jb 13, jb 14, jb 15, jb 16, jb 17, jb 18, jb 19, jb 20, jb 21, jb 22, jb 23, jb 24, jb 25, jb 26, jb 27, ⟨((vs 28) + 1), false, .ints .i64 r28⟩, jb 29, jb 30, jb 31, jb 32, jb 33, jb 34, jb 35, jb 36, jb 37, jb 38, jb 39, jb 40, jb 41]⟩
def ref02_MulAdd_l1 (x0 : List Int) (x1 : Int) (x2 : Int) (x8 : Int) (r28 : List Int) (z : List Int) : Prop := ∀ n28, n28 = r28.length → ∀ j jb vs, W C F 52 0 (ref02_MulAdd_l1_s x0 x1 x2 x8 r28 n28 j jb vs) (Ans C Tryz.f52 (.ints .i64 z))
noncomputable def ref02_MulAdd_l2_s (x2 : Int) (j : Nat → D) (jb : Nat → Blk) (vs : Nat → Nat) : Cf := cfAt Tryz.f52 [1, 1, 1, 0, 0] ⟨[j 0, j 1, .int .i64 x2, j 3, j 4, j 5, j 6, .nilS, j 8, j 9, j 10, j 11, j 12, j 13, j 14, j 15, j 16, j 17, j 18, j 19, j 20, j 21, j 22, j 23, j 24, j 25, j 26, j 27, j 28, j 29, j 30, j 31, j 32, j 33, j 34, j 35, j 36, j 37, j 38, j 39, j 40, j 41], [jb 0, jb 1, jb 2, jb 3, jb 4, jb 5, jb 6, jb 7, jb 8, jb 9, jb 10, jb 11, jb 12, jb 13, jb 14, jb 15, jb 16, jb 17, jb 18, jb 19, jb 20, jb 21, jb 22, jb 23, jb 24, jb 25, jb 26, jb 27, jb 28, jb 29, jb 30, jb 31, jb 32, jb 33, jb 34, jb 35, jb 36, jb 37, jb 38, jb 39, jb 40, jb 41]⟩
def ref02_MulAdd_l2 (x2 : Int) (z : List Int) : Prop := ∀ j jb vs, W C F 52 0 (ref02_MulAdd_l2_s x2  j jb vs) (Ans C Tryz.f52 (.ints .i64 z))
noncomputable def ref02_MulAdd_l3_s (x2 : Int) (r28 : List Int) (n28 : Nat) (j : Nat → D) (jb : Nat → Blk) (vs : Nat → Nat) : Cf := cfAt Tryz.f52 [1, 1, 1, 0, 0] ⟨[j 0, j 1, .int .i64 x2, j 3, j 4, j 5, j 6, (.sref 28 ((vs 28) + 1) 1 0 n28), j 8, j 9, j 10, j 11, j 12, j 13, j 14, j 15, j 16, j 17, j 18, j 19, j 20, j 21, j 22, j 23, j 24, j 25, j 26, j 27, j 28, j 29, j 30, j 31, j 32, j 33, j 34, j 35, j 36, j 37, j 38, j 39, j 40, j 41], [jb 0, jb 1, jb 2, jb 3, jb 4, jb 5, jb 6, jb 7, jb 8, jb 9, jb 10, jb 11, jb 12, jb 13, jb 14, jb 15, jb 16, jb 17, jb 18, jb 19, jb 20, jb 21, jb 22, jb 23, jb 24, jb 25, jb 26, jb 27, ⟨((vs 28) + 1), false, .ints .i64 r28⟩, jb 29, jb 30, jb 31, jb 32, jb 33, jb 34, jb 35, jb 36, jb 37, jb 38, jb 39, jb 40, jb 41]⟩
def ref02_MulAdd_l3 (x2 : Int) (r28 : List Int) (z : List Int) : Prop := ∀ n28, n28 = r28.length → ∀ j jb vs, W C F 52 0 (ref02_MulAdd_l3_s x2 r28 n28 j jb vs) (Ans C Tryz.f52 (.ints .i64 z))
noncomputable def ref02_MulAdd_l4_s (x2 : Int) (r37 : List Int) (n37 : Nat) (j : Nat → D) (jb : Nat → Blk) (vs : Nat → Nat) : Cf := cfAt Tryz.f52 [1, 1, 1, 0, 0] ⟨[j 0, j 1, .int .i64 x2, j 3, j 4, j 5, j 6, (.sref 37 ((vs 37) + 1) 1 0 n37), j 8, j 9, j 10, j 11, j 12, j 13, j 14, j 15, j 16, j 17, j 18, j 19, j 20, j 21, j 22, j 23, j 24, j 25, j 26, j 27, j 28, j 29, j 30, j 31, j 32, j 33, j 34, j 35, j 36, j 37, j 38, j 39, j 40, j 41], [jb 0, jb 1, jb 2, jb 3, jb 4, jb 5, jb 6, jb 7, jb 8, jb 9, jb 10, jb 11, jb 12, jb 13, jb 14, jb 15, jb 16, jb 17, jb 18, jb 19, jb 20, jb 21, jb 22, jb 23, jb 24, jb 25, jb 26, jb 27, jb 28, jb 29, jb 30, jb 31, jb 32, jb 33, jb 34, jb 35, jb 36, ⟨((vs 37) + 1), false, .ints .i64 r37⟩, jb 38, jb 39, jb 40, jb 41]⟩
def ref02_MulAdd_l4 (x2 : Int) (r37 : List Int) (z : List Int) : Prop := ∀ n37, n37 = r37.length → ∀ j jb vs, W C F 52 0 (ref02_MulAdd_l4_s x2 r37 n37 j jb vs) (Ans C Tryz.f52 (.ints .i64 z))
theorem ref02_MulAdd_l0_go {x0 : List Int} {x1 : Int} {x2 : Int} {x8 : Int} {z : List Int} (H : ((x8 < (x0.length : Int) ∧ (0 ≤ x8 ∧ ((1 + 192) * (8 + 1) ≤ 70368744177664 ∧ (∃ y3, y3 = [((wi (x2 + (wi ((x0.getD (x8).toNat 0) * x1)))).tmod 10000)] ∧ (ref02_MulAdd_l1 x0 x1 (wi ((wi (x2 + (wi ((x0.getD (x8).toNat 0) * x1)))).tdiv 10000)) (wi (x8 + 1)) y3 z))))) ∨ (¬ x8 < (x0.length : Int) ∧ (ref02_MulAdd_l2 x2 z)))) : ref02_MulAdd_l0 x0 x1 x2 x8 z := by
 intro j jb vs
 refine W.adv 1 ?_
 refine W.adv 9 ?_
 rcases H with ⟨h1, H⟩ | ⟨h1, H⟩
 ·refine W.cond true (w := (decide (x8 < (x0.length : Int)))) (by kernel_rfl) (decide_eq_true h1) ?_
  refine W.adv 9 ?_
  obtain ⟨h2, H⟩ := H
  refine W.opS (OpIs.ixI (k := .i64) (k' := .i64) (xs := x0) (i := x8) (by kernel_rfl) h2 h1) ?_
  refine W.adv 13 ?_
  obtain ⟨h6, H⟩ := H
  obtain ⟨y3, hy4, H⟩ := H
  have ln5 : 1 = y3.length := by rw [hy4] <;> rfl
  refine W.opH (OpIs.apNil (y := (.lit (.ints .i64 [((wi (x2 + (wi ((x0.getD (x8).toNat 0) * x1)))).tmod 10000)]))) (B := none) (n := 8) (d := 28) (v := (jb 28).ver) (k := .i64) (ys := [((wi (x2 + (wi ((x0.getD (x8).toNat 0) * x1)))).tmod 10000)]) (by kernel_rfl) (by kernel_rfl) hy4 h6) ?_
  refine W.adv 16 ?_
  exact W.to_loop (P := ref02_MulAdd_l1_s x0 x1 (wi ((wi (x2 + (wi ((x0.getD (x8).toNat 0) * x1)))).tdiv 10000)) (wi (x8 + 1)) y3 1) (H _ ln5) (by kernel_rfl)
 ·refine W.cond false (w := (decide (x8 < (x0.length : Int)))) (by kernel_rfl) (decide_eq_false h1) ?_
  refine W.adv 7 ?_
  exact W.to_loop (P := ref02_MulAdd_l2_s x2) (H ) (by kernel_rfl)
theorem ref02_MulAdd_l1_go {x0 : List Int} {x1 : Int} {x2 : Int} {x8 : Int} {r28 : List Int} {z : List Int} (H : ((x8 < (x0.length : Int) ∧ (0 ≤ x8 ∧ ((r28.length + 1 + 192) * (8 + 1) ≤ 70368744177664 ∧ (∃ y9, y9 = r28 ++ [((wi (x2 + (wi ((x0.getD (x8).toNat 0) * x1)))).tmod 10000)] ∧ (ref02_MulAdd_l1 x0 x1 (wi ((wi (x2 + (wi ((x0.getD (x8).toNat 0) * x1)))).tdiv 10000)) (wi (x8 + 1)) y9 z))))) ∨ (¬ x8 < (x0.length : Int) ∧ (ref02_MulAdd_l3 x2 r28 z)))) : ref02_MulAdd_l1 x0 x1 x2 x8 r28 z := by
 intro n28 ln_28 j jb vs
 refine W.adv 1 ?_
 refine W.adv 9 ?_
 rcases H with ⟨h7, H⟩ | ⟨h7, H⟩
 ·refine W.cond true (w := (decide (x8 < (x0.length : Int)))) (by kernel_rfl) (decide_eq_true h7) ?_
  refine W.adv 9 ?_
  obtain ⟨h8, H⟩ := H
  refine W.opS (OpIs.ixI (k := .i64) (k' := .i64) (xs := x0) (i := x8) (by kernel_rfl) h8 h7) ?_
  refine W.adv 13 ?_
  obtain ⟨h12, H⟩ := H
  obtain ⟨y9, hy10, H⟩ := H
  have ln11 : (r28.length + 1) = y9.length := by rw [hy10, List.length_append] <;> rfl
  refine W.opK (OpIs.apRow (y := (.lit (.ints .i64 [((wi (x2 + (wi ((x0.getD (x8).toNat 0) * x1)))).tmod 10000)]))) (n := 8) (d := 28) (dv := ((vs 28) + 1)) (b := 28) (v := ((vs 28) + 1)) (w := ((vs 28) + 1)) (len := n28) (k := .i64) (xs := r28) (ys := [((wi (x2 + (wi ((x0.getD (x8).toNat 0) * x1)))).tmod 10000)]) (by kernel_rfl) (by kernel_rfl) hy10 rfl ln_28 h12) ?_
  refine W.adv 16 ?_
  exact W.to_loop (P := ref02_MulAdd_l1_s x0 x1 (wi ((wi (x2 + (wi ((x0.getD (x8).toNat 0) * x1)))).tdiv 10000)) (wi (x8 + 1)) y9 (r28.length + 1)) (H _ ln11) (by kernel_rfl)
 ·refine W.cond false (w := (decide (x8 < (x0.length : Int)))) (by kernel_rfl) (decide_eq_false h7) ?_
  refine W.adv 7 ?_
  exact W.to_loop (P := ref02_MulAdd_l3_s x2 r28 n28) (H _ ln_28) (by kernel_rfl)
theorem ref02_MulAdd_l2_go {x2 : Int} {z : List Int} (H : ((0 < x2 ∧ ((1 + 192) * (8 + 1) ≤ 70368744177664 ∧ (∃ y14, y14 = [(x2.tmod 10000)] ∧ (ref02_MulAdd_l4 (wi (x2.tdiv 10000)) y14 z)))) ∨ (¬ 0 < x2 ∧ (∃ c18 : List Int, (ref02_Trim_R [] c18 ∧ (z = c18)))))) : ref02_MulAdd_l2 x2 z := by
 intro j jb vs
 refine W.adv 1 ?_
 refine W.adv 7 ?_
 rcases H with ⟨h13, H⟩ | ⟨h13, H⟩
 ·refine W.cond true (w := (decide (0 < x2))) (by kernel_rfl) (decide_eq_true h13) ?_
  refine W.adv 9 ?_
  obtain ⟨h17, H⟩ := H
  obtain ⟨y14, hy15, H⟩ := H
  have ln16 : 1 = y14.length := by rw [hy15] <;> rfl
  refine W.opH (OpIs.apNil (y := (.lit (.ints .i64 [(x2.tmod 10000)]))) (B := none) (n := 8) (d := 37) (v := (jb 37).ver) (k := .i64) (ys := [(x2.tmod 10000)]) (by kernel_rfl) (by kernel_rfl) hy15 h17) ?_
  refine W.adv 10 ?_
  exact W.to_loop (P := ref02_MulAdd_l4_s (wi (x2.tdiv 10000)) y14 1) (H _ ln16) (by kernel_rfl)
 ·refine W.cond false (w := (decide (0 < x2))) (by kernel_rfl) (decide_eq_false h13) ?_
  refine W.adv 8 ?_
  obtain ⟨c18, hc19, H⟩ := H
  refine W.callR (g := 75) (ds := [.nilS]) (es := [.nilS]) (r := (.ints .i64 c18)) (by kernel_rfl) (by kernel_rfl) (Ic.args hc19 (by kernel_rfl)) (by kernel_rfl) ?_
  refine W.adv 4 ?_
  exact W.fin (x := .ret) (by kernel_rfl) (Ans.of (d := (.ints .i64 c18)) (d' := (.ints .i64 c18)) (e' := (.ints .i64 c18)) (by kernel_rfl) (by kernel_rfl) (by kernel_rfl) (by rw [H]))
theorem ref02_MulAdd_l3_go {x2 : Int} {r28 : List Int} {z : List Int} (H : ((0 < x2 ∧ ((r28.length + 1 + 192) * (8 + 1) ≤ 70368744177664 ∧ (∃ y21, y21 = r28 ++ [(x2.tmod 10000)] ∧ (ref02_MulAdd_l4 (wi (x2.tdiv 10000)) y21 z)))) ∨ (¬ 0 < x2 ∧ (∃ c25 : List Int, (ref02_Trim_R r28 c25 ∧ (z = c25)))))) : ref02_MulAdd_l3 x2 r28 z := by
 intro n28 ln_28 j jb vs
 refine W.adv 1 ?_
 refine W.adv 7 ?_
 rcases H with ⟨h20, H⟩ | ⟨h20, H⟩
 ·refine W.cond true (w := (decide (0 < x2))) (by kernel_rfl) (decide_eq_true h20) ?_
  refine W.adv 9 ?_
  obtain ⟨h24, H⟩ := H
  obtain ⟨y21, hy22, H⟩ := H
  have ln23 : (r28.length + 1) = y21.length := by rw [hy22, List.length_append] <;> rfl
  refine W.opK (OpIs.apRow (y := (.lit (.ints .i64 [(x2.tmod 10000)]))) (n := 8) (d := 37) (dv := (jb 37).ver) (b := 28) (v := ((vs 28) + 1)) (w := ((vs 28) + 1)) (len := n28) (k := .i64) (xs := r28) (ys := [(x2.tmod 10000)]) (by kernel_rfl) (by kernel_rfl) hy22 rfl ln_28 h24) ?_
  refine W.adv 10 ?_
  exact W.to_loop (P := ref02_MulAdd_l4_s (wi (x2.tdiv 10000)) y21 (r28.length + 1)) (H _ ln23) (by kernel_rfl)
 ·refine W.cond false (w := (decide (0 < x2))) (by kernel_rfl) (decide_eq_false h20) ?_
  refine W.adv 8 ?_
  obtain ⟨c25, hc26, H⟩ := H
  refine W.callR (g := 75) (ds := [(.sref 28 ((vs 28) + 1) 1 0 n28)]) (es := [.ints .i64 r28]) (r := (.ints .i64 c25)) (by kernel_rfl) (rf_cons (rf_full (b := 28) (v := ((vs 28) + 1)) (w := ((vs 28) + 1)) (fz := false) (k := .i64) (xs := r28) (by kernel_rfl) rfl ln_28) rf_nil) (Ic.args hc26 (by kernel_rfl)) (by kernel_rfl) ?_
  refine W.adv 4 ?_
  exact W.fin (x := .ret) (by kernel_rfl) (Ans.of (d := (.ints .i64 c25)) (d' := (.ints .i64 c25)) (e' := (.ints .i64 c25)) (by kernel_rfl) (by kernel_rfl) (by kernel_rfl) (by rw [H]))
theorem ref02_MulAdd_l4_go {x2 : Int} {r37 : List Int} {z : List Int} (H : ((0 < x2 ∧ ((r37.length + 1 + 192) * (8 + 1) ≤ 70368744177664 ∧ (∃ y28, y28 = r37 ++ [(x2.tmod 10000)] ∧ (ref02_MulAdd_l4 (wi (x2.tdiv 10000)) y28 z)))) ∨ (¬ 0 < x2 ∧ (∃ c32 : List Int, (ref02_Trim_R r37 c32 ∧ (z = c32)))))) : ref02_MulAdd_l4 x2 r37 z := by
 intro n37 ln_37 j jb vs
 refine W.adv 1 ?_
 refine W.adv 7 ?_
 rcases H with ⟨h27, H⟩ | ⟨h27, H⟩
 ·refine W.cond true (w := (decide (0 < x2))) (by kernel_rfl) (decide_eq_true h27) ?_
  refine W.adv 9 ?_
  obtain ⟨h31, H⟩ := H
  obtain ⟨y28, hy29, H⟩ := H
  have ln30 : (r37.length + 1) = y28.length := by rw [hy29, List.length_append] <;> rfl
  refine W.opK (OpIs.apRow (y := (.lit (.ints .i64 [(x2.tmod 10000)]))) (n := 8) (d := 37) (dv := ((vs 37) + 1)) (b := 37) (v := ((vs 37) + 1)) (w := ((vs 37) + 1)) (len := n37) (k := .i64) (xs := r37) (ys := [(x2.tmod 10000)]) (by kernel_rfl) (by kernel_rfl) hy29 rfl ln_37 h31) ?_
  refine W.adv 10 ?_
  exact W.to_loop (P := ref02_MulAdd_l4_s (wi (x2.tdiv 10000)) y28 (r37.length + 1)) (H _ ln30) (by kernel_rfl)
 ·refine W.cond false (w := (decide (0 < x2))) (by kernel_rfl) (decide_eq_false h27) ?_
  refine W.adv 8 ?_
  obtain ⟨c32, hc33, H⟩ := H
  refine W.callR (g := 75) (ds := [(.sref 37 ((vs 37) + 1) 1 0 n37)]) (es := [.ints .i64 r37]) (r := (.ints .i64 c32)) (by kernel_rfl) (rf_cons (rf_full (b := 37) (v := ((vs 37) + 1)) (w := ((vs 37) + 1)) (fz := false) (k := .i64) (xs := r37) (by kernel_rfl) rfl ln_37) rf_nil) (Ic.args hc33 (by kernel_rfl)) (by kernel_rfl) ?_
  refine W.adv 4 ?_
  exact W.fin (x := .ret) (by kernel_rfl) (Ans.of (d := (.ints .i64 c32)) (d' := (.ints .i64 c32)) (e' := (.ints .i64 c32)) (by kernel_rfl) (by kernel_rfl) (by kernel_rfl) (by rw [H]))
theorem ref02_MulAdd_go {a0 : List Int} {a1 : Int} {a2 : Int} {z : List Int} (H : (ref02_MulAdd_l0 a0 a1 a2 0 z)) : ref02_MulAdd_R a0 a1 a2 z := by
 refine W.ic (zs := [.ints .i64 a0, .int .i64 a1, .int .i64 a2]) Tryz.func52 (by kernel_rfl) (by kernel_rfl) (by kernel_rfl) (by kernel_rfl) ?_
 refine W.adv 18 ?_
 exact W.to_loop (P := ref02_MulAdd_l0_s a0 a1 a2 0) (H ) (by kernel_rfl)
noncomputable def ref02_DivSmall_l0_s (x0 : List Int) (x1 : Int) (x7 : Int) (x8 : Int) (r11 : List Int) (n11 : Nat) (j : Nat → D) (jb : Nat → Blk) (vs : Nat → Nat) : Cf := cfAt Tryz.f74 [1, 1, 0, 1, 0] ⟨[.ints .i64 x0, .int .i64 x1, j 2, j 3, j 4, j 5, .sref 11 1 1 0 n11, .int .i64 x7, .int .i64 x8, j 9, j 10, j 11, j 12, j 13, j 14, j 15, j 16, j 17, j 18, j 19, j 20, j 21, j 22, j 23, j 24, j 25, j 26, j 27, j 28, j 29, j 30, j 31, j 32, j 33, j 34, j 35, j 36, j 37], [jb 0, jb 1, jb 2, jb 3, jb 4, jb 5, jb 6, jb 7, jb 8, jb 9, jb 10, ⟨1, false, .ints .i64 r11⟩, jb 12, jb 13, jb 14, jb 15, jb 16, jb 17, jb 18, jb 19, jb 20, jb 21, jb 22, jb 23, jb 24, jb 25, jb 26, jb 27, jb 28, jb 29, jb 30, jb 31, jb 32, jb 33, jb 34, jb 35, jb 36, jb 37]⟩
def ref02_DivSmall_l0 (x0 : List Int) (x1 : Int) (x7 : Int) (x8 : Int) (r11 : List Int) (zt0 : List Int) (zt1 : Int) : Prop := ∀ n11, n11 = r11.length → ∀ j jb vs, W C F 74 0 (ref02_DivSmall_l0_s x0 x1 x7 x8 r11 n11 j jb vs) (Ans C Tryz.f74 (.tuple [.ints .i64 zt0, .int .i64 zt1]))
theorem ref02_DivSmall_l0_go {x0 : List Int} {x1 : Int} {x7 : Int} {x8 : Int} {r11 : List Int} {zt0 : List Int} {zt1 : Int} (H : ((0 ≤ x8 ∧ (x8 < (x0.length : Int) ∧ (x1 ≠ 0 ∧ (x8 < (r11.length : Int) ∧ (∃ y10, y10 = r11.set (x8).toNat (wi ((wi ((wi (10000 * x7)) + (x0.getD (x8).toNat 0))).tdiv x1)) ∧ (ref02_DivSmall_l0 x0 x1 ((wi ((wi (10000 * x7)) + (x0.getD (x8).toNat 0))).tmod x1) (wi (x8 - 1)) y10 zt0 zt1)))))) ∨ (¬ 0 ≤ x8 ∧ (∃ c13 : List Int, (ref02_Trim_R r11 c13 ∧ (zt0 = c13 ∧ zt1 = x7)))))) : ref02_DivSmall_l0 x0 x1 x7 x8 r11 zt0 zt1 := by
 intro n11 ln_11 j jb vs
 refine W.adv 1 ?_
 refine W.adv 7 ?_
 rcases H with ⟨h6, H⟩ | ⟨h6, H⟩
 ·refine W.cond true (w := (decide (0 ≤ x8))) (by kernel_rfl) (decide_eq_true h6) ?_
  refine W.adv 10 ?_
  obtain ⟨h7, H⟩ := H
  refine W.opS (OpIs.ixI (k := .i64) (k' := .i64) (xs := x0) (i := x8) (by kernel_rfl) h6 h7) ?_
  refine W.adv 11 ?_
  obtain ⟨h8, H⟩ := H
  refine W.opS (OpIs.bn (op := .quo) (x := (.int .i64 (wi ((wi (10000 * x7)) + (x0.getD (x8).toNat 0))))) (y := (.int .i64 x1)) (by kernel_rfl) (quoD h8)) ?_
  obtain ⟨h9, H⟩ := H
  refine W.opS (OpIs.ixR (k' := .i64) (b := 11) (v := 1) (sz := 1) (len := n11) (i := x8) (by kernel_rfl) h6 (by rw [ln_11]; exact h9)) ?_
  obtain ⟨y10, hy11, H⟩ := H
  have ln12 : n11 = y10.length := by rw [hy11, List.length_set]; exact ln_11
  refine W.opH (OpIs.stN (b := 11) (v := 1) (i := (x8).toNat) (w := 1) (k := .i64) (xs := r11) (n := (wi ((wi ((wi (10000 * x7)) + (x0.getD (x8).toNat 0))).tdiv x1))) (by kernel_rfl) hy11 rfl (by omega)) ?_
  refine W.adv 5 ?_
  refine W.opS (OpIs.bn (op := .rem) (x := (.int .i64 (wi ((wi (10000 * x7)) + (x0.getD (x8).toNat 0))))) (y := (.int .i64 x1)) (by kernel_rfl) (remD h8)) ?_
  refine W.adv 10 ?_
  exact W.to_loop (P := ref02_DivSmall_l0_s x0 x1 ((wi ((wi (10000 * x7)) + (x0.getD (x8).toNat 0))).tmod x1) (wi (x8 - 1)) y10 n11) (H _ ln12) (by kernel_rfl)
 ·refine W.cond false (w := (decide (0 ≤ x8))) (by kernel_rfl) (decide_eq_false h6) ?_
  refine W.adv 8 ?_
  obtain ⟨c13, hc14, H⟩ := H
  refine W.callR (g := 75) (ds := [.sref 11 1 1 0 n11]) (es := [.ints .i64 r11]) (r := (.ints .i64 c13)) (by kernel_rfl) (rf_cons (rf_full (b := 11) (v := 1) (w := 1) (fz := false) (k := .i64) (xs := r11) (by kernel_rfl) rfl ln_11) rf_nil) (Ic.args hc14 (by kernel_rfl)) (by kernel_rfl) ?_
  refine W.adv 6 ?_
  exact W.fin (x := .ret) (by kernel_rfl) (Ans.of (d := (.tuple [.ints .i64 c13, .int .i64 x7])) (d' := (.tuple [.ints .i64 c13, .int .i64 x7])) (e' := (.tuple [.ints .i64 c13, .int .i64 x7])) (by kernel_rfl) (by kernel_rfl) (by kernel_rfl) (by rw [H.1, H.2]))
theorem ref02_DivSmall_go {a0 : List Int} {a1 : Int} {zt0 : List Int} {zt1 : Int} (H : (0 ≤ (a0.length : Int) ∧ (8 * (a0.length : Int) ≤ 140737488351232 ∧ (∃ y1, y1 = List.replicate (a0.length : Int).toNat 0 ∧ (ref02_DivSmall_l0 a0 a1 0 (wi ((a0.length : Int) - 1)) y1 zt0 zt1))))) : ref02_DivSmall_R a0 a1 zt0 zt1 := by
 refine W.ic (zs := [.ints .i64 a0, .int .i64 a1]) Tryz.func74 (by kernel_rfl) (by kernel_rfl) (by kernel_rfl) (by kernel_rfl) ?_
 refine W.adv 10 ?_
 obtain ⟨h4, h5, H⟩ := H
 obtain ⟨y1, hy2, H⟩ := H
 have ln3 : (a0.length : Int).toNat = y1.length := by rw [hy2, List.length_replicate]
 refine W.opH (OpIs.msN (k1 := .i64) (k2 := .i64) (k := .i64) (n := (a0.length : Int)) (m := (a0.length : Int)) (y := 8) (b := 11) (v := 0) (by kernel_rfl) hy2 h4 (Int.le_refl _) h5 (by omega)) ?_
 refine W.adv 14 ?_
 exact W.to_loop (P := ref02_DivSmall_l0_s a0 a1 0 (wi ((a0.length : Int) - 1)) y1 ((a0.length : Int).toNat)) (H _ ln3) (by kernel_rfl)
noncomputable def ref02_Trim_l0_s (x0 : List Int) (x3 : Int) (j : Nat → D) (jb : Nat → Blk) (vs : Nat → Nat) : Cf := cfAt Tryz.f75 [1, 1, 0, 0] ⟨[.ints .i64 x0, j 1, j 2, .int .i64 x3, j 4, j 5, j 6, j 7, j 8, j 9, j 10, j 11, j 12, j 13, j 14, j 15, j 16, j 17, j 18, j 19, j 20, j 21, j 22], [jb 0, jb 1, jb 2, jb 3, jb 4, jb 5, jb 6, jb 7, jb 8, jb 9, jb 10, jb 11, jb 12, jb 13, jb 14, jb 15, jb 16, jb 17, jb 18, jb 19, jb 20, jb 21, jb 22]⟩
def ref02_Trim_l0 (x0 : List Int) (x3 : Int) (z : List Int) : Prop := ∀ j jb vs, W C F 75 0 (ref02_Trim_l0_s x0 x3  j jb vs) (Ans C Tryz.f75 (.ints .i64 z))
theorem ref02_Trim_l0_go {x0 : List Int} {x3 : Int} {z : List Int} (H : ((0 < x3 ∧ (0 ≤ (wi (x3 - 1)) ∧ ((wi (x3 - 1)) < (x0.length : Int) ∧ (((x0.getD (wi (x3 - 1)).toNat 0) = 0 ∧ (ref02_Trim_l0 x0 (wi (x3 - 1)) z)) ∨ (¬ (x0.getD (wi (x3 - 1)).toNat 0) = 0 ∧ (0 ≤ x3 ∧ (x3 ≤ (x0.length : Int) ∧ (((x0.take (x3).toNat).length + 192) * (8 + 1) ≤ 70368744177664 ∧ (∃ y7, y7 = (x0.take (x3).toNat) ∧ (z = y7)))))))))) ∨ (¬ 0 < x3 ∧ (0 ≤ x3 ∧ (x3 ≤ (x0.length : Int) ∧ (((x0.take (x3).toNat).length + 192) * (8 + 1) ≤ 70368744177664 ∧ (∃ y13, y13 = (x0.take (x3).toNat) ∧ (z = y13)))))))) : ref02_Trim_l0 x0 x3 z := by
 intro j jb vs
 refine W.adv 1 ?_
 refine W.adv 6 ?_
 rcases H with ⟨h1, H⟩ | ⟨h1, H⟩
 ·refine W.guard true (w := ((decide (0 < x3)) == true)) (by kernel_rfl) (congrArg (fun b => b == true) (decide_eq_true h1)) ?_
  refine W.adv 1 ?_
  refine W.guard true (w := ((decide (0 < x3)) == true)) (by kernel_rfl) (congrArg (fun b => b == true) (decide_eq_true h1)) ?_
  refine W.adv 1 ?_
  refine W.guard true (w := ((decide (0 < x3)) == true)) (by kernel_rfl) (congrArg (fun b => b == true) (decide_eq_true h1)) ?_
  refine W.adv 1 ?_
  refine W.guard true (w := ((decide (0 < x3)) == true)) (by kernel_rfl) (congrArg (fun b => b == true) (decide_eq_true h1)) ?_
  obtain ⟨h2, h3, H⟩ := H
  refine W.opS (OpIs.ixI (k := .i64) (k' := .i64) (xs := x0) (i := (wi (x3 - 1))) (by kernel_rfl) h2 h3) ?_
  refine W.guard true (w := ((decide (0 < x3)) == true)) (by kernel_rfl) (congrArg (fun b => b == true) (decide_eq_true h1)) ?_
  refine W.adv 1 ?_
  refine W.guard true (w := ((decide (0 < x3)) == true)) (by kernel_rfl) (congrArg (fun b => b == true) (decide_eq_true h1)) ?_
  refine W.adv 1 ?_
  refine W.opS (OpIs.pk true (t := (decide (0 < x3))) (x := (.bool (decide ((x0.getD (wi (x3 - 1)).toNat 0) = 0)))) (y := (.bool false)) (by kernel_rfl) (decide_eq_true h1)) ?_
  refine W.adv 2 ?_
  rcases H with ⟨h4, H⟩ | ⟨h4, H⟩
  ·refine W.cond true (w := (decide ((x0.getD (wi (x3 - 1)).toNat 0) = 0))) (by kernel_rfl) (decide_eq_true h4) ?_
   refine W.adv 10 ?_
   exact W.to_loop (P := ref02_Trim_l0_s x0 (wi (x3 - 1))) (H ) (by kernel_rfl)
  ·refine W.cond false (w := (decide ((x0.getD (wi (x3 - 1)).toNat 0) = 0))) (by kernel_rfl) (decide_eq_false h4) ?_
   refine W.adv 10 ?_
   obtain ⟨h5, h6, H⟩ := H
   refine W.opS (OpIs.slI_hi (k := .i64) (k' := .i64) (xs := x0) (i := x3) (by kernel_rfl) h5 h6) ?_
   obtain ⟨h10, H⟩ := H
   obtain ⟨y7, hy8, H⟩ := H
   have ln9 : (x0.take (x3).toNat).length = y7.length := by rw [hy8] <;> rfl
   refine W.opH (OpIs.apNil (y := (.ints .i64 (x0.take (x3).toNat))) (B := none) (n := 8) (d := 22) (v := (jb 22).ver) (k := .i64) (ys := (x0.take (x3).toNat)) (by kernel_rfl) (by kernel_rfl) hy8 h10) ?_
   refine W.adv 4 ?_
   exact W.fin (x := .ret) (by kernel_rfl) (Ans.of (d := (.sref 22 ((jb 22).ver + 1) 1 0 (x0.take (x3).toNat).length)) (d' := (.ints .i64 y7)) (e' := (.ints .i64 y7)) (by kernel_rfl) ((congrArg (fun h => reify h DEPTH (.sref 22 ((jb 22).ver + 1) 1 0 (x0.take (x3).toNat).length)) (tidy_ver (b := 22) (v := (jb 22).ver) (fz := false) (y := .ints .i64 y7) (by kernel_rfl))).trans (rf_full (b := 22) (v := ((jb 22).ver + 1)) (w := ((jb 22).ver + 1)) (fz := false) (k := .i64) (xs := y7) (by kernel_rfl) rfl ln9)) (by kernel_rfl) (by rw [H]))
 ·refine W.guard false (w := ((decide (0 < x3)) == true)) (by kernel_rfl) (congrArg (fun b => b == true) (decide_eq_false h1)) ?_
  refine W.guard false (w := ((decide (0 < x3)) == true)) (by kernel_rfl) (congrArg (fun b => b == true) (decide_eq_false h1)) ?_
  refine W.guard false (w := ((decide (0 < x3)) == true)) (by kernel_rfl) (congrArg (fun b => b == true) (decide_eq_false h1)) ?_
  refine W.guard false (w := ((decide (0 < x3)) == true)) (by kernel_rfl) (congrArg (fun b => b == true) (decide_eq_false h1)) ?_
  refine W.guard false (w := ((decide (0 < x3)) == true)) (by kernel_rfl) (congrArg (fun b => b == true) (decide_eq_false h1)) ?_
  refine W.guard false (w := ((decide (0 < x3)) == true)) (by kernel_rfl) (congrArg (fun b => b == true) (decide_eq_false h1)) ?_
  refine W.opS (OpIs.pk false (t := (decide (0 < x3))) (x := (.tuple [])) (y := (.bool false)) (by kernel_rfl) (decide_eq_false h1)) ?_
  refine W.adv 13 ?_
  obtain ⟨h11, h12, H⟩ := H
  refine W.opS (OpIs.slI_hi (k := .i64) (k' := .i64) (xs := x0) (i := x3) (by kernel_rfl) h11 h12) ?_
  obtain ⟨h16, H⟩ := H
  obtain ⟨y13, hy14, H⟩ := H
  have ln15 : (x0.take (x3).toNat).length = y13.length := by rw [hy14] <;> rfl
  refine W.opH (OpIs.apNil (y := (.ints .i64 (x0.take (x3).toNat))) (B := none) (n := 8) (d := 22) (v := (jb 22).ver) (k := .i64) (ys := (x0.take (x3).toNat)) (by kernel_rfl) (by kernel_rfl) hy14 h16) ?_
  refine W.adv 4 ?_
  exact W.fin (x := .ret) (by kernel_rfl) (Ans.of (d := (.sref 22 ((jb 22).ver + 1) 1 0 (x0.take (x3).toNat).length)) (d' := (.ints .i64 y13)) (e' := (.ints .i64 y13)) (by kernel_rfl) ((congrArg (fun h => reify h DEPTH (.sref 22 ((jb 22).ver + 1) 1 0 (x0.take (x3).toNat).length)) (tidy_ver (b := 22) (v := (jb 22).ver) (fz := false) (y := .ints .i64 y13) (by kernel_rfl))).trans (rf_full (b := 22) (v := ((jb 22).ver + 1)) (w := ((jb 22).ver + 1)) (fz := false) (k := .i64) (xs := y13) (by kernel_rfl) rfl ln15)) (by kernel_rfl) (by rw [H]))
theorem ref02_Trim_go {a0 : List Int} {z : List Int} (H : (ref02_Trim_l0 a0 (a0.length : Int) z)) : ref02_Trim_R a0 z := by
 refine W.ic (zs := [.ints .i64 a0]) Tryz.func75 (by kernel_rfl) (by kernel_rfl) (by kernel_rfl) (by kernel_rfl) ?_
 refine W.adv 14 ?_
 exact W.to_loop (P := ref02_Trim_l0_s a0 (a0.length : Int)) (H ) (by kernel_rfl)
noncomputable def ref02_Cmp_l0_s (x0 : List Int) (x1 : List Int) (x5 : Int) (j : Nat → D) (jb : Nat → Blk) (vs : Nat → Nat) : Cf := cfAt Tryz.f76 [1, 1, 0, 1, 0] ⟨[.ints .i64 x0, .ints .i64 x1, j 2, j 3, j 4, .int .i64 x5, j 6, j 7, j 8, j 9, j 10, j 11, j 12, j 13, j 14, j 15, j 16, j 17, j 18, j 19, j 20, j 21, j 22, j 23, j 24, j 25, j 26, j 27, j 28, j 29, j 30, j 31, j 32, j 33, j 34, j 35, j 36, j 37, j 38, j 39, j 40], [jb 0, jb 1, jb 2, jb 3, jb 4, jb 5, jb 6, jb 7, jb 8, jb 9, jb 10, jb 11, jb 12, jb 13, jb 14, jb 15, jb 16, jb 17, jb 18, jb 19, jb 20, jb 21, jb 22, jb 23, jb 24, jb 25, jb 26, jb 27, jb 28, jb 29, jb 30, jb 31, jb 32, jb 33, jb 34, jb 35, jb 36, jb 37, jb 38, jb 39, jb 40]⟩
def ref02_Cmp_l0 (x0 : List Int) (x1 : List Int) (x5 : Int) (z : Int) : Prop := ∀ j jb vs, W C F 76 0 (ref02_Cmp_l0_s x0 x1 x5  j jb vs) (Ans C Tryz.f76 (.int .i64 z))
theorem ref02_Cmp_l0_go {x0 : List Int} {x1 : List Int} {x5 : Int} {z : Int} (H : ((0 ≤ x5 ∧ (x5 < (x0.length : Int) ∧ (x5 < (x1.length : Int) ∧ (((x0.getD (x5).toNat 0) < (x1.getD (x5).toNat 0) ∧ (z = (-1))) ∨ (¬ (x0.getD (x5).toNat 0) < (x1.getD (x5).toNat 0) ∧ (((x1.getD (x5).toNat 0) < (x0.getD (x5).toNat 0) ∧ (z = 1)) ∨ (¬ (x1.getD (x5).toNat 0) < (x0.getD (x5).toNat 0) ∧ (ref02_Cmp_l0 x0 x1 (wi (x5 - 1)) z)))))))) ∨ (¬ 0 ≤ x5 ∧ (z = 0)))) : ref02_Cmp_l0 x0 x1 x5 z := by
 intro j jb vs
 refine W.adv 1 ?_
 refine W.adv 7 ?_
 rcases H with ⟨h3, H⟩ | ⟨h3, H⟩
 ·refine W.cond true (w := (decide (0 ≤ x5))) (by kernel_rfl) (decide_eq_true h3) ?_
  refine W.adv 9 ?_
  obtain ⟨h4, H⟩ := H
  refine W.opS (OpIs.ixI (k := .i64) (k' := .i64) (xs := x0) (i := x5) (by kernel_rfl) h3 h4) ?_
  refine W.adv 3 ?_
  obtain ⟨h5, H⟩ := H
  refine W.opS (OpIs.ixI (k := .i64) (k' := .i64) (xs := x1) (i := x5) (by kernel_rfl) h3 h5) ?_
  refine W.adv 4 ?_
  rcases H with ⟨h6, H⟩ | ⟨h6, H⟩
  ·refine W.cond true (w := (decide ((x0.getD (x5).toNat 0) < (x1.getD (x5).toNat 0)))) (by kernel_rfl) (decide_eq_true h6) ?_
   refine W.adv 12 ?_
   exact W.fin (x := .ret) (by kernel_rfl) (Ans.of (d := (.int .i64 (-1))) (d' := (.int .i64 (-1))) (e' := (.int .i64 (-1))) (by kernel_rfl) (by kernel_rfl) (by kernel_rfl) (by rw [H]))
  ·refine W.cond false (w := (decide ((x0.getD (x5).toNat 0) < (x1.getD (x5).toNat 0)))) (by kernel_rfl) (decide_eq_false h6) ?_
   refine W.adv 6 ?_
   refine W.opS (OpIs.ixI (k := .i64) (k' := .i64) (xs := x0) (i := x5) (by kernel_rfl) h3 h4) ?_
   refine W.adv 3 ?_
   refine W.opS (OpIs.ixI (k := .i64) (k' := .i64) (xs := x1) (i := x5) (by kernel_rfl) h3 h5) ?_
   refine W.adv 4 ?_
   rcases H with ⟨h7, H⟩ | ⟨h7, H⟩
   ·refine W.cond true (w := (decide ((x1.getD (x5).toNat 0) < (x0.getD (x5).toNat 0)))) (by kernel_rfl) (decide_eq_true h7) ?_
    refine W.adv 11 ?_
    exact W.fin (x := .ret) (by kernel_rfl) (Ans.of (d := (.int .i64 1)) (d' := (.int .i64 1)) (e' := (.int .i64 1)) (by kernel_rfl) (by kernel_rfl) (by kernel_rfl) (by rw [H]))
   ·refine W.cond false (w := (decide ((x1.getD (x5).toNat 0) < (x0.getD (x5).toNat 0)))) (by kernel_rfl) (decide_eq_false h7) ?_
    refine W.adv 9 ?_
    exact W.to_loop (P := ref02_Cmp_l0_s x0 x1 (wi (x5 - 1))) (H ) (by kernel_rfl)
 ·refine W.cond false (w := (decide (0 ≤ x5))) (by kernel_rfl) (decide_eq_false h3) ?_
  refine W.adv 11 ?_
  exact W.fin (x := .ret) (by kernel_rfl) (Ans.of (d := (.int .i64 0)) (d' := (.int .i64 0)) (e' := (.int .i64 0)) (by kernel_rfl) (by kernel_rfl) (by kernel_rfl) (by rw [H]))
theorem ref02_Cmp_go {a0 : List Int} {a1 : List Int} {z : Int} (H : (((a0.length : Int) = (a1.length : Int) ∧ (ref02_Cmp_l0 a0 a1 (wi ((a0.length : Int) - 1)) z)) ∨ (¬ (a0.length : Int) = (a1.length : Int) ∧ (((a0.length : Int) < (a1.length : Int) ∧ (z = (-1))) ∨ (¬ (a0.length : Int) < (a1.length : Int) ∧ (z = 1)))))) : ref02_Cmp_R a0 a1 z := by
 refine W.ic (zs := [.ints .i64 a0, .ints .i64 a1]) Tryz.func76 (by kernel_rfl) (by kernel_rfl) (by kernel_rfl) (by kernel_rfl) ?_
 refine W.adv 15 ?_
 rcases H with ⟨h1, H⟩ | ⟨h1, H⟩
 ·refine W.cond false (w := (!(decide ((a0.length : Int) = (a1.length : Int))))) (by kernel_rfl) (congrArg (fun b => !b) (decide_eq_true h1)) ?_
  refine W.adv 12 ?_
  exact W.to_loop (P := ref02_Cmp_l0_s a0 a1 (wi ((a0.length : Int) - 1))) (H ) (by kernel_rfl)
 ·refine W.cond true (w := (!(decide ((a0.length : Int) = (a1.length : Int))))) (by kernel_rfl) (congrArg (fun b => !b) (decide_eq_false h1)) ?_
  refine W.adv 10 ?_
  rcases H with ⟨h2, H⟩ | ⟨h2, H⟩
  ·refine W.cond true (w := (decide ((a0.length : Int) < (a1.length : Int)))) (by kernel_rfl) (decide_eq_true h2) ?_
   refine W.adv 8 ?_
   exact W.fin (x := .ret) (by kernel_rfl) (Ans.of (d := (.int .i64 (-1))) (d' := (.int .i64 (-1))) (e' := (.int .i64 (-1))) (by kernel_rfl) (by kernel_rfl) (by kernel_rfl) (by rw [H]))
  ·refine W.cond false (w := (decide ((a0.length : Int) < (a1.length : Int)))) (by kernel_rfl) (decide_eq_false h2) ?_
   refine W.adv 9 ?_
   exact W.fin (x := .ret) (by kernel_rfl) (Ans.of (d := (.int .i64 1)) (d' := (.int .i64 1)) (e' := (.int .i64 1)) (by kernel_rfl) (by kernel_rfl) (by kernel_rfl) (by rw [H]))
noncomputable def ref02_Sub_l0_s (x0 : List Int) (x1 : List Int) (x6 : Int) (x7 : Int) (j : Nat → D) (jb : Nat → Blk) (vs : Nat → Nat) : Cf := cfAt Tryz.f77 [1, 1, 0, 1, 0] ⟨[.ints .i64 x0, .ints .i64 x1, j 2, j 3, j 4, .nilS, .int .i64 x6, .int .i64 x7, j 8, j 9, j 10, j 11, j 12, j 13, j 14, j 15, j 16, j 17, j 18, j 19, j 20, j 21, j 22, j 23, j 24, j 25, j 26, j 27, j 28, j 29, j 30, j 31, j 32, j 33, j 34, j 35, j 36, j 37, j 38, j 39, j 40, j 41], [jb 0, jb 1, jb 2, jb 3, jb 4, jb 5, jb 6, jb 7, jb 8, jb 9, jb 10, jb 11, jb 12, jb 13, jb 14, jb 15, jb 16, jb 17, jb 18, jb 19, jb 20, jb 21, jb 22, jb 23, jb 24, jb 25, jb 26, jb 27, jb 28, jb 29, jb 30, jb 31, jb 32, jb 33, jb 34, jb 35, jb 36, jb 37, jb 38, jb 39, jb 40, jb 41]⟩
def ref02_Sub_l0 (x0 : List Int) (x1 : List Int) (x6 : Int) (x7 : Int) (z : List Int) : Prop := ∀ j jb vs, W C F 77 0 (ref02_Sub_l0_s x0 x1 x6 x7  j jb vs) (Ans C Tryz.f77 (.ints .i64 z))
noncomputable def ref02_Sub_l1_s (x0 : List Int) (x1 : List Int) (x6 : Int) (x7 : Int) (r39 : List Int) (n39 : Nat) (j : Nat → D) (jb : Nat → Blk) (vs : Nat → Nat) : Cf := cfAt Tryz.f77 [1, 1, 0, 1, 0] ⟨[.ints .i64 x0, .ints .i64 x1, j 2, j 3, j 4, (.sref 39 ((vs 39) + 1) 1 0 n39), .int .i64 x6, .int .i64 x7, j 8, j 9, j 10, j 11, j 12, j 13, j 14, j 15, j 16, j 17, j 18, j 19, j 20, j 21, j 22, j 23, j 24, j 25, j 26, j 27, j 28, j 29, j 30, j 31, j 32, j 33, j 34, j 35, j 36, j 37, j 38, j 39, j 40, j 41], [jb 0, jb 1, jb 2, jb 3, jb 4, jb 5, jb 6, jb 7, jb 8, jb 9, jb 10, jb 11, jb 12, jb 13, jb 14, jb 15, jb 16, jb 17, jb 18, jb 19, jb 20, jb 21, jb 22, jb 23, jb 24, jb 25, jb 26, jb 27, jb 28, jb 29, jb 30, jb 31, jb 32, jb 33, jb 34, jb 35, jb 36, jb 37, jb 38, ⟨((vs 39) + 1), false, .ints .i64 r39⟩, jb 40, jb 41]⟩
def ref02_Sub_l1 (x0 : List Int) (x1 : List Int) (x6 : Int) (x7 : Int) (r39 : List Int) (z : List Int) : Prop := ∀ n39, n39 = r39.length → ∀ j jb vs, W C F 77 0 (ref02_Sub_l1_s x0 x1 x6 x7 r39 n39 j jb vs) (Ans C Tryz.f77 (.ints .i64 z))
theorem ref02_Sub_l0_go {x0 : List Int} {x1 : List Int} {x6 : Int} {x7 : Int} {z : List Int} (H : ((x7 < (x0.length : Int) ∧ (0 ≤ x7 ∧ ((x7 < (x1.length : Int) ∧ (((wi ((wi ((x0.getD (x7).toNat 0) - x6)) - (x1.getD (x7).toNat 0))) < 0 ∧ (∃ t5, t5 = (wi ((wi ((wi ((x0.getD (x7).toNat 0) - x6)) - (x1.getD (x7).toNat 0))) + 10000)) ∧ ((1 + 192) * (8 + 1) ≤ 70368744177664 ∧ (∃ y7, y7 = [t5] ∧ (ref02_Sub_l1 x0 x1 1 (wi (x7 + 1)) y7 z))))) ∨ (¬ (wi ((wi ((x0.getD (x7).toNat 0) - x6)) - (x1.getD (x7).toNat 0))) < 0 ∧ ((1 + 192) * (8 + 1) ≤ 70368744177664 ∧ (∃ y11, y11 = [(wi ((wi ((x0.getD (x7).toNat 0) - x6)) - (x1.getD (x7).toNat 0)))] ∧ (ref02_Sub_l1 x0 x1 0 (wi (x7 + 1)) y11 z)))))) ∨ (¬ x7 < (x1.length : Int) ∧ (((wi ((x0.getD (x7).toNat 0) - x6)) < 0 ∧ ((1 + 192) * (8 + 1) ≤ 70368744177664 ∧ (∃ y16, y16 = [(wi ((wi ((x0.getD (x7).toNat 0) - x6)) + 10000))] ∧ (ref02_Sub_l1 x0 x1 1 (wi (x7 + 1)) y16 z)))) ∨ (¬ (wi ((x0.getD (x7).toNat 0) - x6)) < 0 ∧ ((1 + 192) * (8 + 1) ≤ 70368744177664 ∧ (∃ y20, y20 = [(wi ((x0.getD (x7).toNat 0) - x6))] ∧ (ref02_Sub_l1 x0 x1 0 (wi (x7 + 1)) y20 z))))))))) ∨ (¬ x7 < (x0.length : Int) ∧ (∃ c24 : List Int, (ref02_Trim_R [] c24 ∧ (z = c24)))))) : ref02_Sub_l0 x0 x1 x6 x7 z := by
 intro j jb vs
 refine W.adv 1 ?_
 refine W.adv 9 ?_
 rcases H with ⟨h1, H⟩ | ⟨h1, H⟩
 ·refine W.cond true (w := (decide (x7 < (x0.length : Int)))) (by kernel_rfl) (decide_eq_true h1) ?_
  refine W.adv 8 ?_
  obtain ⟨h2, H⟩ := H
  refine W.opS (OpIs.ixI (k := .i64) (k' := .i64) (xs := x0) (i := x7) (by kernel_rfl) h2 h1) ?_
  refine W.adv 15 ?_
  rcases H with ⟨h3, H⟩ | ⟨h3, H⟩
  ·refine W.cond true (w := (decide (x7 < (x1.length : Int)))) (by kernel_rfl) (decide_eq_true h3) ?_
   refine W.adv 4 ?_
   refine W.opS (OpIs.ixI (k := .i64) (k' := .i64) (xs := x1) (i := x7) (by kernel_rfl) h2 h3) ?_
   refine W.adv 17 ?_
   rcases H with ⟨h4, H⟩ | ⟨h4, H⟩
   ·refine W.cond true (w := (decide ((wi ((wi ((x0.getD (x7).toNat 0) - x6)) - (x1.getD (x7).toNat 0))) < 0))) (by kernel_rfl) (decide_eq_true h4) ?_
    refine W.adv 2 ?_
    obtain ⟨t5, ht6, H⟩ := H
    refine W.opS (OpIs.bnN (k := .i64) (op := .add) (x := (.int .i64 (wi ((wi ((x0.getD (x7).toNat 0) - x6)) - (x1.getD (x7).toNat 0))))) (y := (.int .i64 10000)) (by kernel_rfl) ht6 (by kernel_rfl)) ?_
    refine W.adv 8 ?_
    obtain ⟨h10, H⟩ := H
    obtain ⟨y7, hy8, H⟩ := H
    have ln9 : 1 = y7.length := by rw [hy8] <;> rfl
    refine W.opH (OpIs.apNil (y := (.lit (.ints .i64 [t5]))) (B := none) (n := 8) (d := 39) (v := (jb 39).ver) (k := .i64) (ys := [t5]) (by kernel_rfl) (by kernel_rfl) hy8 h10) ?_
    refine W.adv 10 ?_
    exact W.to_loop (P := ref02_Sub_l1_s x0 x1 1 (wi (x7 + 1)) y7 1) (H _ ln9) (by kernel_rfl)
   ·refine W.cond false (w := (decide ((wi ((wi ((x0.getD (x7).toNat 0) - x6)) - (x1.getD (x7).toNat 0))) < 0))) (by kernel_rfl) (decide_eq_false h4) ?_
    refine W.adv 6 ?_
    obtain ⟨h14, H⟩ := H
    obtain ⟨y11, hy12, H⟩ := H
    have ln13 : 1 = y11.length := by rw [hy12] <;> rfl
    refine W.opH (OpIs.apNil (y := (.lit (.ints .i64 [(wi ((wi ((x0.getD (x7).toNat 0) - x6)) - (x1.getD (x7).toNat 0)))]))) (B := none) (n := 8) (d := 39) (v := (jb 39).ver) (k := .i64) (ys := [(wi ((wi ((x0.getD (x7).toNat 0) - x6)) - (x1.getD (x7).toNat 0)))]) (by kernel_rfl) (by kernel_rfl) hy12 h14) ?_
    refine W.adv 10 ?_
    exact W.to_loop (P := ref02_Sub_l1_s x0 x1 0 (wi (x7 + 1)) y11 1) (H _ ln13) (by kernel_rfl)
  ·refine W.cond false (w := (decide (x7 < (x1.length : Int)))) (by kernel_rfl) (decide_eq_false h3) ?_
   refine W.adv 14 ?_
   rcases H with ⟨h15, H⟩ | ⟨h15, H⟩
   ·refine W.cond true (w := (decide ((wi ((x0.getD (x7).toNat 0) - x6)) < 0))) (by kernel_rfl) (decide_eq_true h15) ?_
    refine W.adv 11 ?_
    obtain ⟨h19, H⟩ := H
    obtain ⟨y16, hy17, H⟩ := H
    have ln18 : 1 = y16.length := by rw [hy17] <;> rfl
    refine W.opH (OpIs.apNil (y := (.lit (.ints .i64 [(wi ((wi ((x0.getD (x7).toNat 0) - x6)) + 10000))]))) (B := none) (n := 8) (d := 39) (v := (jb 39).ver) (k := .i64) (ys := [(wi ((wi ((x0.getD (x7).toNat 0) - x6)) + 10000))]) (by kernel_rfl) (by kernel_rfl) hy17 h19) ?_
    refine W.adv 10 ?_
    exact W.to_loop (P := ref02_Sub_l1_s x0 x1 1 (wi (x7 + 1)) y16 1) (H _ ln18) (by kernel_rfl)
   ·refine W.cond false (w := (decide ((wi ((x0.getD (x7).toNat 0) - x6)) < 0))) (by kernel_rfl) (decide_eq_false h15) ?_
    refine W.adv 6 ?_
    obtain ⟨h23, H⟩ := H
    obtain ⟨y20, hy21, H⟩ := H
    have ln22 : 1 = y20.length := by rw [hy21] <;> rfl
    refine W.opH (OpIs.apNil (y := (.lit (.ints .i64 [(wi ((x0.getD (x7).toNat 0) - x6))]))) (B := none) (n := 8) (d := 39) (v := (jb 39).ver) (k := .i64) (ys := [(wi ((x0.getD (x7).toNat 0) - x6))]) (by kernel_rfl) (by kernel_rfl) hy21 h23) ?_
    refine W.adv 10 ?_
    exact W.to_loop (P := ref02_Sub_l1_s x0 x1 0 (wi (x7 + 1)) y20 1) (H _ ln22) (by kernel_rfl)
 ·refine W.cond false (w := (decide (x7 < (x0.length : Int)))) (by kernel_rfl) (decide_eq_false h1) ?_
  refine W.adv 8 ?_
  obtain ⟨c24, hc25, H⟩ := H
  refine W.callR (g := 75) (ds := [.nilS]) (es := [.nilS]) (r := (.ints .i64 c24)) (by kernel_rfl) (by kernel_rfl) (Ic.args hc25 (by kernel_rfl)) (by kernel_rfl) ?_
  refine W.adv 4 ?_
  exact W.fin (x := .ret) (by kernel_rfl) (Ans.of (d := (.ints .i64 c24)) (d' := (.ints .i64 c24)) (e' := (.ints .i64 c24)) (by kernel_rfl) (by kernel_rfl) (by kernel_rfl) (by rw [H]))
theorem ref02_Sub_l1_go {x0 : List Int} {x1 : List Int} {x6 : Int} {x7 : Int} {r39 : List Int} {z : List Int} (H : ((x7 < (x0.length : Int) ∧ (0 ≤ x7 ∧ ((x7 < (x1.length : Int) ∧ (((wi ((wi ((x0.getD (x7).toNat 0) - x6)) - (x1.getD (x7).toNat 0))) < 0 ∧ (∃ t30, t30 = (wi ((wi ((wi ((x0.getD (x7).toNat 0) - x6)) - (x1.getD (x7).toNat 0))) + 10000)) ∧ ((r39.length + 1 + 192) * (8 + 1) ≤ 70368744177664 ∧ (∃ y32, y32 = r39 ++ [t30] ∧ (ref02_Sub_l1 x0 x1 1 (wi (x7 + 1)) y32 z))))) ∨ (¬ (wi ((wi ((x0.getD (x7).toNat 0) - x6)) - (x1.getD (x7).toNat 0))) < 0 ∧ ((r39.length + 1 + 192) * (8 + 1) ≤ 70368744177664 ∧ (∃ y36, y36 = r39 ++ [(wi ((wi ((x0.getD (x7).toNat 0) - x6)) - (x1.getD (x7).toNat 0)))] ∧ (ref02_Sub_l1 x0 x1 0 (wi (x7 + 1)) y36 z)))))) ∨ (¬ x7 < (x1.length : Int) ∧ (((wi ((x0.getD (x7).toNat 0) - x6)) < 0 ∧ ((r39.length + 1 + 192) * (8 + 1) ≤ 70368744177664 ∧ (∃ y41, y41 = r39 ++ [(wi ((wi ((x0.getD (x7).toNat 0) - x6)) + 10000))] ∧ (ref02_Sub_l1 x0 x1 1 (wi (x7 + 1)) y41 z)))) ∨ (¬ (wi ((x0.getD (x7).toNat 0) - x6)) < 0 ∧ ((r39.length + 1 + 192) * (8 + 1) ≤ 70368744177664 ∧ (∃ y45, y45 = r39 ++ [(wi ((x0.getD (x7).toNat 0) - x6))] ∧ (ref02_Sub_l1 x0 x1 0 (wi (x7 + 1)) y45 z))))))))) ∨ (¬ x7 < (x0.length : Int) ∧ (∃ c49 : List Int, (ref02_Trim_R r39 c49 ∧ (z = c49)))))) : ref02_Sub_l1 x0 x1 x6 x7 r39 z := by
 intro n39 ln_39 j jb vs
 refine W.adv 1 ?_
 refine W.adv 9 ?_
 rcases H with ⟨h26, H⟩ | ⟨h26, H⟩
 ·refine W.cond true (w := (decide (x7 < (x0.length : Int)))) (by kernel_rfl) (decide_eq_true h26) ?_
  refine W.adv 8 ?_
  obtain ⟨h27, H⟩ := H
  refine W.opS (OpIs.ixI (k := .i64) (k' := .i64) (xs := x0) (i := x7) (by kernel_rfl) h27 h26) ?_
  refine W.adv 15 ?_
  rcases H with ⟨h28, H⟩ | ⟨h28, H⟩
  ·refine W.cond true (w := (decide (x7 < (x1.length : Int)))) (by kernel_rfl) (decide_eq_true h28) ?_
   refine W.adv 4 ?_
   refine W.opS (OpIs.ixI (k := .i64) (k' := .i64) (xs := x1) (i := x7) (by kernel_rfl) h27 h28) ?_
   refine W.adv 17 ?_
   rcases H with ⟨h29, H⟩ | ⟨h29, H⟩
   ·refine W.cond true (w := (decide ((wi ((wi ((x0.getD (x7).toNat 0) - x6)) - (x1.getD (x7).toNat 0))) < 0))) (by kernel_rfl) (decide_eq_true h29) ?_
    refine W.adv 2 ?_
    obtain ⟨t30, ht31, H⟩ := H
    refine W.opS (OpIs.bnN (k := .i64) (op := .add) (x := (.int .i64 (wi ((wi ((x0.getD (x7).toNat 0) - x6)) - (x1.getD (x7).toNat 0))))) (y := (.int .i64 10000)) (by kernel_rfl) ht31 (by kernel_rfl)) ?_
    refine W.adv 8 ?_
    obtain ⟨h35, H⟩ := H
    obtain ⟨y32, hy33, H⟩ := H
    have ln34 : (r39.length + 1) = y32.length := by rw [hy33, List.length_append] <;> rfl
    refine W.opK (OpIs.apRow (y := (.lit (.ints .i64 [t30]))) (n := 8) (d := 39) (dv := ((vs 39) + 1)) (b := 39) (v := ((vs 39) + 1)) (w := ((vs 39) + 1)) (len := n39) (k := .i64) (xs := r39) (ys := [t30]) (by kernel_rfl) (by kernel_rfl) hy33 rfl ln_39 h35) ?_
    refine W.adv 10 ?_
    exact W.to_loop (P := ref02_Sub_l1_s x0 x1 1 (wi (x7 + 1)) y32 (r39.length + 1)) (H _ ln34) (by kernel_rfl)
   ·refine W.cond false (w := (decide ((wi ((wi ((x0.getD (x7).toNat 0) - x6)) - (x1.getD (x7).toNat 0))) < 0))) (by kernel_rfl) (decide_eq_false h29) ?_
    refine W.adv 6 ?_
    obtain ⟨h39, H⟩ := H
    obtain ⟨y36, hy37, H⟩ := H
    have ln38 : (r39.length + 1) = y36.length := by rw [hy37, List.length_append] <;> rfl
    refine W.opK (OpIs.apRow (y := (.lit (.ints .i64 [(wi ((wi ((x0.getD (x7).toNat 0) - x6)) - (x1.getD (x7).toNat 0)))]))) (n := 8) (d := 39) (dv := ((vs 39) + 1)) (b := 39) (v := ((vs 39) + 1)) (w := ((vs 39) + 1)) (len := n39) (k := .i64) (xs := r39) (ys := [(wi ((wi ((x0.getD (x7).toNat 0) - x6)) - (x1.getD (x7).toNat 0)))]) (by kernel_rfl) (by kernel_rfl) hy37 rfl ln_39 h39) ?_
    refine W.adv 10 ?_
    exact W.to_loop (P := ref02_Sub_l1_s x0 x1 0 (wi (x7 + 1)) y36 (r39.length + 1)) (H _ ln38) (by kernel_rfl)
  ·refine W.cond false (w := (decide (x7 < (x1.length : Int)))) (by kernel_rfl) (decide_eq_false h28) ?_
   refine W.adv 14 ?_
   rcases H with ⟨h40, H⟩ | ⟨h40, H⟩
   ·refine W.cond true (w := (decide ((wi ((x0.getD (x7).toNat 0) - x6)) < 0))) (by kernel_rfl) (decide_eq_true h40) ?_
    refine W.adv 11 ?_
    obtain ⟨h44, H⟩ := H
    obtain ⟨y41, hy42, H⟩ := H
    have ln43 : (r39.length + 1) = y41.length := by rw [hy42, List.length_append] <;> rfl
    refine W.opK (OpIs.apRow (y := (.lit (.ints .i64 [(wi ((wi ((x0.getD (x7).toNat 0) - x6)) + 10000))]))) (n := 8) (d := 39) (dv := ((vs 39) + 1)) (b := 39) (v := ((vs 39) + 1)) (w := ((vs 39) + 1)) (len := n39) (k := .i64) (xs := r39) (ys := [(wi ((wi ((x0.getD (x7).toNat 0) - x6)) + 10000))]) (by kernel_rfl) (by kernel_rfl) hy42 rfl ln_39 h44) ?_
    refine W.adv 10 ?_
    exact W.to_loop (P := ref02_Sub_l1_s x0 x1 1 (wi (x7 + 1)) y41 (r39.length + 1)) (H _ ln43) (by kernel_rfl)
   ·refine W.cond false (w := (decide ((wi ((x0.getD (x7).toNat 0) - x6)) < 0))) (by kernel_rfl) (decide_eq_false h40) ?_
    refine W.adv 6 ?_
    obtain ⟨h48, H⟩ := H
    obtain ⟨y45, hy46, H⟩ := H
    have ln47 : (r39.length + 1) = y45.length := by rw [hy46, List.length_append] <;> rfl
    refine W.opK (OpIs.apRow (y := (.lit (.ints .i64 [(wi ((x0.getD (x7).toNat 0) - x6))]))) (n := 8) (d := 39) (dv := ((vs 39) + 1)) (b := 39) (v := ((vs 39) + 1)) (w := ((vs 39) + 1)) (len := n39) (k := .i64) (xs := r39) (ys := [(wi ((x0.getD (x7).toNat 0) - x6))]) (by kernel_rfl) (by kernel_rfl) hy46 rfl ln_39 h48) ?_
    refine W.adv 10 ?_
    exact W.to_loop (P := ref02_Sub_l1_s x0 x1 0 (wi (x7 + 1)) y45 (r39.length + 1)) (H _ ln47) (by kernel_rfl)
 ·refine W.cond false (w := (decide (x7 < (x0.length : Int)))) (by kernel_rfl) (decide_eq_false h26) ?_
  refine W.adv 8 ?_
  obtain ⟨c49, hc50, H⟩ := H
  refine W.callR (g := 75) (ds := [(.sref 39 ((vs 39) + 1) 1 0 n39)]) (es := [.ints .i64 r39]) (r := (.ints .i64 c49)) (by kernel_rfl) (rf_cons (rf_full (b := 39) (v := ((vs 39) + 1)) (w := ((vs 39) + 1)) (fz := false) (k := .i64) (xs := r39) (by kernel_rfl) rfl ln_39) rf_nil) (Ic.args hc50 (by kernel_rfl)) (by kernel_rfl) ?_
  refine W.adv 4 ?_
  exact W.fin (x := .ret) (by kernel_rfl) (Ans.of (d := (.ints .i64 c49)) (d' := (.ints .i64 c49)) (e' := (.ints .i64 c49)) (by kernel_rfl) (by kernel_rfl) (by kernel_rfl) (by rw [H]))
theorem ref02_Sub_go {a0 : List Int} {a1 : List Int} {z : List Int} (H : (ref02_Sub_l0 a0 a1 0 0 z)) : ref02_Sub_R a0 a1 z := by
 refine W.ic (zs := [.ints .i64 a0, .ints .i64 a1]) Tryz.func77 (by kernel_rfl) (by kernel_rfl) (by kernel_rfl) (by kernel_rfl) ?_
 refine W.adv 19 ?_
 exact W.to_loop (P := ref02_Sub_l0_s a0 a1 0 0) (H ) (by kernel_rfl)
end Go.Proofs.YtfijdkdpcjfiaaaGreatA
