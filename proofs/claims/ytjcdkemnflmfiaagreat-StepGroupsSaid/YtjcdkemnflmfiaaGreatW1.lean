/- Walks through the functions: what makes each relation true. -/
import Derived.Test.YtjcdkemnflmfiaaGreatW0
set_option linter.unusedVariables false
set_option maxRecDepth 100000
namespace Go.Proofs.YtjcdkemnflmfiaaGreatA
open Go Go.Proofs
noncomputable def nat_Cmp_l0_s (x0 : List Int) (x1 : List Int) (x5 : Int) (j : Nat → D) (jb : Nat → Blk) (vs : Nat → Nat) : Cf := cfAt Tryz.f101 [1, 1, 0, 1, 0] ⟨[.ints .u64 x0, .ints .u64 x1, j 2, j 3, j 4, .int .i64 x5, j 6, j 7, j 8, j 9, j 10, j 11, j 12, j 13, j 14, j 15, j 16, j 17, j 18, j 19, j 20, j 21, j 22, j 23, j 24, j 25, j 26, j 27, j 28, j 29, j 30, j 31, j 32, j 33, j 34, j 35, j 36, j 37, j 38, j 39, j 40, j 41, j 42, j 43, j 44], [jb 0, jb 1, jb 2, jb 3, jb 4, jb 5, jb 6, jb 7, jb 8, jb 9, jb 10, jb 11, jb 12, jb 13, jb 14, jb 15, jb 16, jb 17, jb 18, jb 19, jb 20, jb 21, jb 22, jb 23, jb 24, jb 25, jb 26, jb 27, jb 28, jb 29, jb 30, jb 31, jb 32, jb 33, jb 34, jb 35, jb 36, jb 37, jb 38, jb 39, jb 40, jb 41, jb 42, jb 43, jb 44]⟩
def nat_Cmp_l0 (x0 : List Int) (x1 : List Int) (x5 : Int) (z : Int) : Prop := ∀ j jb vs, W C F 101 0 (nat_Cmp_l0_s x0 x1 x5  j jb vs) (Ans C Tryz.f101 (.int .i64 z))
theorem nat_Cmp_l0_go {x0 : List Int} {x1 : List Int} {x5 : Int} {z : Int} (H : ((0 ≤ x5 ∧ (x5 < (x0.length : Int) ∧ (x5 < (x1.length : Int) ∧ (((x0.getD (x5).toNat 0) < (x1.getD (x5).toNat 0) ∧ (z = (-1))) ∨ (¬ (x0.getD (x5).toNat 0) < (x1.getD (x5).toNat 0) ∧ (((x1.getD (x5).toNat 0) < (x0.getD (x5).toNat 0) ∧ (z = 1)) ∨ (¬ (x1.getD (x5).toNat 0) < (x0.getD (x5).toNat 0) ∧ (nat_Cmp_l0 x0 x1 (wi (x5 - 1)) z)))))))) ∨ (¬ 0 ≤ x5 ∧ (z = 0)))) : nat_Cmp_l0 x0 x1 x5 z := by
 intro j jb vs
 refine W.adv 1 ?_
 refine W.adv 7 ?_
 rcases H with ⟨h3, H⟩ | ⟨h3, H⟩
 ·refine W.cond true (w := (decide (0 ≤ x5))) (by kernel_rfl) (decide_eq_true h3) ?_
  refine W.adv 9 ?_
  obtain ⟨h4, H⟩ := H
  refine W.opS (OpIs.ixI (k := .u64) (k' := .i64) (xs := x0) (i := x5) (by kernel_rfl) h3 h4) ?_
  refine W.adv 3 ?_
  obtain ⟨h5, H⟩ := H
  refine W.opS (OpIs.ixI (k := .u64) (k' := .i64) (xs := x1) (i := x5) (by kernel_rfl) h3 h5) ?_
  refine W.adv 5 ?_
  rcases H with ⟨h6, H⟩ | ⟨h6, H⟩
  ·refine W.cond true (w := (decide ((x0.getD (x5).toNat 0) < (x1.getD (x5).toNat 0)))) (by kernel_rfl) (decide_eq_true h6) ?_
   refine W.adv 12 ?_
   exact W.fin (x := .ret) (by kernel_rfl) (Ans.of (d := (.int .i64 (-1))) (d' := (.int .i64 (-1))) (e' := (.int .i64 (-1))) (by kernel_rfl) (by kernel_rfl) (by kernel_rfl) (by rw [H]))
  ·refine W.cond false (w := (decide ((x0.getD (x5).toNat 0) < (x1.getD (x5).toNat 0)))) (by kernel_rfl) (decide_eq_false h6) ?_
   refine W.adv 4 ?_
   refine W.opS (OpIs.ixI (k := .u64) (k' := .i64) (xs := x0) (i := x5) (by kernel_rfl) h3 h4) ?_
   refine W.adv 3 ?_
   refine W.opS (OpIs.ixI (k := .u64) (k' := .i64) (xs := x1) (i := x5) (by kernel_rfl) h3 h5) ?_
   refine W.adv 5 ?_
   rcases H with ⟨h7, H⟩ | ⟨h7, H⟩
   ·refine W.cond true (w := (decide ((x1.getD (x5).toNat 0) < (x0.getD (x5).toNat 0)))) (by kernel_rfl) (decide_eq_true h7) ?_
    refine W.adv 12 ?_
    exact W.fin (x := .ret) (by kernel_rfl) (Ans.of (d := (.int .i64 1)) (d' := (.int .i64 1)) (e' := (.int .i64 1)) (by kernel_rfl) (by kernel_rfl) (by kernel_rfl) (by rw [H]))
   ·refine W.cond false (w := (decide ((x1.getD (x5).toNat 0) < (x0.getD (x5).toNat 0)))) (by kernel_rfl) (decide_eq_false h7) ?_
    refine W.adv 10 ?_
    exact W.to_loop (P := nat_Cmp_l0_s x0 x1 (wi (x5 - 1))) (H ) (by kernel_rfl)
 ·refine W.cond false (w := (decide (0 ≤ x5))) (by kernel_rfl) (decide_eq_false h3) ?_
  refine W.adv 11 ?_
  exact W.fin (x := .ret) (by kernel_rfl) (Ans.of (d := (.int .i64 0)) (d' := (.int .i64 0)) (e' := (.int .i64 0)) (by kernel_rfl) (by kernel_rfl) (by kernel_rfl) (by rw [H]))
theorem nat_Cmp_go {a0 : List Int} {a1 : List Int} {z : Int} (H : (((a0.length : Int) < (a1.length : Int) ∧ (z = (-1))) ∨ (¬ (a0.length : Int) < (a1.length : Int) ∧ (((a1.length : Int) < (a0.length : Int) ∧ (z = 1)) ∨ (¬ (a1.length : Int) < (a0.length : Int) ∧ (nat_Cmp_l0 a0 a1 (wi ((a0.length : Int) - 1)) z)))))) : nat_Cmp_R a0 a1 z := by
 refine W.ic (zs := [.ints .u64 a0, .ints .u64 a1]) Tryz.func101 (by kernel_rfl) (by kernel_rfl) (by kernel_rfl) (by kernel_rfl) ?_
 refine W.adv 17 ?_
 rcases H with ⟨h1, H⟩ | ⟨h1, H⟩
 ·refine W.cond true (w := (decide ((a0.length : Int) < (a1.length : Int)))) (by kernel_rfl) (decide_eq_true h1) ?_
  refine W.adv 8 ?_
  exact W.fin (x := .ret) (by kernel_rfl) (Ans.of (d := (.int .i64 (-1))) (d' := (.int .i64 (-1))) (e' := (.int .i64 (-1))) (by kernel_rfl) (by kernel_rfl) (by kernel_rfl) (by rw [H]))
 ·refine W.cond false (w := (decide ((a0.length : Int) < (a1.length : Int)))) (by kernel_rfl) (decide_eq_false h1) ?_
  refine W.adv 10 ?_
  rcases H with ⟨h2, H⟩ | ⟨h2, H⟩
  ·refine W.cond true (w := (decide ((a1.length : Int) < (a0.length : Int)))) (by kernel_rfl) (decide_eq_true h2) ?_
   refine W.adv 8 ?_
   exact W.fin (x := .ret) (by kernel_rfl) (Ans.of (d := (.int .i64 1)) (d' := (.int .i64 1)) (e' := (.int .i64 1)) (by kernel_rfl) (by kernel_rfl) (by kernel_rfl) (by rw [H]))
  ·refine W.cond false (w := (decide ((a1.length : Int) < (a0.length : Int)))) (by kernel_rfl) (decide_eq_false h2) ?_
   refine W.adv 13 ?_
   exact W.to_loop (P := nat_Cmp_l0_s a0 a1 (wi ((a0.length : Int) - 1))) (H ) (by kernel_rfl)
noncomputable def nat_Add_l0_s (x0 : List Int) (x1 : List Int) (x5 : Int) (x7 : Int) (x17 : Int) (x18 : Int) (r16 : List Int) (n16 : Nat) (j : Nat → D) (jb : Nat → Blk) (vs : Nat → Nat) : Cf := cfAt Tryz.f149 [1, 1, 1, 1, 0, 1, 0] ⟨[.ints .u64 x0, .ints .u64 x1, j 2, j 3, j 4, .int .i64 x5, .sref 16 1 1 0 n16, .int .u64 x7, j 8, j 9, j 10, j 11, j 12, j 13, j 14, j 15, j 16, .int .i64 x17, .int .i64 x18, j 19, j 20, j 21, j 22, j 23, j 24, j 25, j 26, j 27, j 28, j 29, j 30, j 31, j 32, j 33, j 34, j 35, j 36, j 37, j 38, j 39, j 40, j 41], [jb 0, jb 1, jb 2, jb 3, jb 4, jb 5, jb 6, jb 7, jb 8, jb 9, jb 10, jb 11, jb 12, jb 13, jb 14, jb 15, ⟨1, false, .ints .u64 r16⟩, jb 17, jb 18, jb 19, jb 20, jb 21, jb 22, jb 23, jb 24, jb 25, jb 26, jb 27, jb 28, jb 29, jb 30, jb 31, jb 32, jb 33, jb 34, jb 35, jb 36, jb 37, jb 38, jb 39, jb 40, jb 41]⟩
def nat_Add_l0 (x0 : List Int) (x1 : List Int) (x5 : Int) (x7 : Int) (x17 : Int) (x18 : Int) (r16 : List Int) (z : List Int) : Prop := ∀ n16, n16 = r16.length → ∀ j jb vs, W C F 149 0 (nat_Add_l0_s x0 x1 x5 x7 x17 x18 r16 n16 j jb vs) (Ans C Tryz.f149 (.ints .u64 z))
theorem nat_Add_l0_go {x0 : List Int} {x1 : List Int} {x5 : Int} {x7 : Int} {x17 : Int} {x18 : Int} {r16 : List Int} {z : List Int} (H : ((x18 < x17 ∧ (∃ c7 : Int, (nat_at_R x0 x18 c7 ∧ (∃ c9 : Int, (nat_at_R x1 x18 c9 ∧ (∃ c11t0 : Int, (∃ c11t1 : Int, (limb_Add_R c7 c9 x7 c11t0 c11t1 ∧ (0 ≤ x18 ∧ (x18 < (r16.length : Int) ∧ (∃ y15, y15 = r16.set (x18).toNat c11t0 ∧ (nat_Add_l0 x0 x1 x5 c11t1 x17 (wi (x18 + 1)) y15 z)))))))))))) ∨ (¬ x18 < x17 ∧ (0 ≤ x5 ∧ (x5 < (r16.length : Int) ∧ (∃ y20, y20 = r16.set (x5).toNat x7 ∧ (∃ c23 : List Int, (nat_trim_R y20 c23 ∧ (z = c23))))))))) : nat_Add_l0 x0 x1 x5 x7 x17 x18 r16 z := by
 intro n16 ln_16 j jb vs
 refine W.adv 1 ?_
 refine W.adv 6 ?_
 rcases H with ⟨h6, H⟩ | ⟨h6, H⟩
 ·refine W.cond true (w := (decide (x18 < x17))) (by kernel_rfl) (decide_eq_true h6) ?_
  refine W.adv 15 ?_
  obtain ⟨c7, hc8, H⟩ := H
  refine W.callR (g := 182) (ds := [.ints .u64 x0, .int .i64 x18]) (es := [.ints .u64 x0, .int .i64 x18]) (r := (.int .u64 c7)) (by kernel_rfl) (by kernel_rfl) (Ic.args hc8 (by kernel_rfl)) (by kernel_rfl) ?_
  refine W.adv 2 ?_
  obtain ⟨c9, hc10, H⟩ := H
  refine W.callR (g := 182) (ds := [.ints .u64 x1, .int .i64 x18]) (es := [.ints .u64 x1, .int .i64 x18]) (r := (.int .u64 c9)) (by kernel_rfl) (by kernel_rfl) (Ic.args hc10 (by kernel_rfl)) (by kernel_rfl) ?_
  refine W.adv 1 ?_
  obtain ⟨c11t0, c11t1, hc12, H⟩ := H
  refine W.callR (g := 181) (ds := [.int .u64 c7, .int .u64 c9, .int .u64 x7]) (es := [.int .u64 c7, .int .u64 c9, .int .u64 x7]) (r := (.tuple [.int .u64 c11t0, .int .u64 c11t1])) (by kernel_rfl) (by kernel_rfl) (Ic.args hc12 (by kernel_rfl)) (by kernel_rfl) ?_
  refine W.adv 3 ?_
  obtain ⟨h13, h14, H⟩ := H
  refine W.opS (OpIs.ixR (k' := .i64) (b := 16) (v := 1) (sz := 1) (len := n16) (i := x18) (by kernel_rfl) h13 (by rw [ln_16]; exact h14)) ?_
  obtain ⟨y15, hy16, H⟩ := H
  have ln17 : n16 = y15.length := by rw [hy16, List.length_set]; exact ln_16
  refine W.opH (OpIs.stN (b := 16) (v := 1) (i := (x18).toNat) (w := 1) (k := .u64) (xs := r16) (n := c11t0) (by kernel_rfl) hy16 rfl (by omega)) ?_
  refine W.adv 9 ?_
  exact W.to_loop (P := nat_Add_l0_s x0 x1 x5 c11t1 x17 (wi (x18 + 1)) y15 n16) (H _ ln17) (by kernel_rfl)
 ·refine W.cond false (w := (decide (x18 < x17))) (by kernel_rfl) (decide_eq_false h6) ?_
  refine W.adv 10 ?_
  obtain ⟨h18, h19, H⟩ := H
  refine W.opS (OpIs.ixR (k' := .i64) (b := 16) (v := 1) (sz := 1) (len := n16) (i := x5) (by kernel_rfl) h18 (by rw [ln_16]; exact h19)) ?_
  obtain ⟨y20, hy21, H⟩ := H
  have ln22 : n16 = y20.length := by rw [hy21, List.length_set]; exact ln_16
  refine W.opH (OpIs.stN (b := 16) (v := 1) (i := (x5).toNat) (w := 1) (k := .u64) (xs := r16) (n := x7) (by kernel_rfl) hy21 rfl (by omega)) ?_
  refine W.adv 5 ?_
  obtain ⟨c23, hc24, H⟩ := H
  refine W.callR (g := 183) (ds := [.sref 16 1 1 0 n16]) (es := [.ints .u64 y20]) (r := (.ints .u64 c23)) (by kernel_rfl) (rf_cons (rf_full (b := 16) (v := 1) (w := 1) (fz := false) (k := .u64) (xs := y20) (by kernel_rfl) rfl ln22) rf_nil) (Ic.args hc24 (by kernel_rfl)) (by kernel_rfl) ?_
  refine W.adv 4 ?_
  exact W.fin (x := .ret) (by kernel_rfl) (Ans.of (d := (.ints .u64 c23)) (d' := (.ints .u64 c23)) (e' := (.ints .u64 c23)) (by kernel_rfl) (by kernel_rfl) (by kernel_rfl) (by rw [H]))
theorem nat_Add_go {a0 : List Int} {a1 : List Int} {z : List Int} (H : (0 ≤ (wi ((mx (a0.length : Int) (a1.length : Int)) + 1)) ∧ (8 * (wi ((mx (a0.length : Int) (a1.length : Int)) + 1)) ≤ 140737488351232 ∧ (∃ y1, y1 = List.replicate (wi ((mx (a0.length : Int) (a1.length : Int)) + 1)).toNat 0 ∧ (nat_Add_l0 a0 a1 (mx (a0.length : Int) (a1.length : Int)) 0 (mx (a0.length : Int) (a1.length : Int)) 0 y1 z))))) : nat_Add_R a0 a1 z := by
 refine W.ic (zs := [.ints .u64 a0, .ints .u64 a1]) Tryz.func149 (by kernel_rfl) (by kernel_rfl) (by kernel_rfl) (by kernel_rfl) ?_
 refine W.adv 19 ?_
 obtain ⟨h4, h5, H⟩ := H
 obtain ⟨y1, hy2, H⟩ := H
 have ln3 : (wi ((mx (a0.length : Int) (a1.length : Int)) + 1)).toNat = y1.length := by rw [hy2, List.length_replicate]
 refine W.opH (OpIs.msN (k1 := .i64) (k2 := .i64) (k := .u64) (n := (wi ((mx (a0.length : Int) (a1.length : Int)) + 1))) (m := (wi ((mx (a0.length : Int) (a1.length : Int)) + 1))) (y := 8) (b := 16) (v := 0) (by kernel_rfl) hy2 h4 (Int.le_refl _) h5 (by omega)) ?_
 refine W.adv 16 ?_
 exact W.to_loop (P := nat_Add_l0_s a0 a1 (mx (a0.length : Int) (a1.length : Int)) 0 (mx (a0.length : Int) (a1.length : Int)) 0 y1 ((wi ((mx (a0.length : Int) (a1.length : Int)) + 1)).toNat)) (H _ ln3) (by kernel_rfl)
theorem nat_Of_go {a0 : Int} {z : List Int} (H : (∃ c1 : List Int, (nat_trim_R [(a0.tmod 4294967296), (a0 / 2 ^ 32)] c1 ∧ (z = c1)))) : nat_Of_R a0 z := by
 refine W.ic (zs := [.int .u64 a0]) Tryz.func150 (by kernel_rfl) (by kernel_rfl) (by kernel_rfl) (by kernel_rfl) ?_
 refine W.adv 12 ?_
 obtain ⟨c1, hc2, H⟩ := H
 refine W.callR (g := 183) (ds := [(.lit (.ints .u64 [(a0.tmod 4294967296), (a0 / 2 ^ 32)]))]) (es := [(.ints .u64 [(a0.tmod 4294967296), (a0 / 2 ^ 32)])]) (r := (.ints .u64 c1)) (by kernel_rfl) (by kernel_rfl) (Ic.args hc2 (by kernel_rfl)) (by kernel_rfl) ?_
 refine W.adv 4 ?_
 exact W.fin (x := .ret) (by kernel_rfl) (Ans.of (d := (.ints .u64 c1)) (d' := (.ints .u64 c1)) (e' := (.ints .u64 c1)) (by kernel_rfl) (by kernel_rfl) (by kernel_rfl) (by rw [H]))
noncomputable def nat_Sub_l0_s (x0 : List Int) (x1 : List Int) (x7 : Int) (x17 : Int) (x18 : Int) (r15 : List Int) (n15 : Nat) (j : Nat → D) (jb : Nat → Blk) (vs : Nat → Nat) : Cf := cfAt Tryz.f158 [1, 1, 1, 1, 0, 1, 0] ⟨[.ints .u64 x0, .ints .u64 x1, j 2, j 3, j 4, j 5, .sref 15 1 1 0 n15, .int .u64 x7, j 8, j 9, j 10, j 11, j 12, j 13, j 14, j 15, j 16, .int .i64 x17, .int .i64 x18, j 19, j 20, j 21, j 22, j 23, j 24, j 25, j 26, j 27, j 28, j 29, j 30, j 31, j 32, j 33, j 34, j 35, j 36, j 37, j 38], [jb 0, jb 1, jb 2, jb 3, jb 4, jb 5, jb 6, jb 7, jb 8, jb 9, jb 10, jb 11, jb 12, jb 13, jb 14, ⟨1, false, .ints .u64 r15⟩, jb 16, jb 17, jb 18, jb 19, jb 20, jb 21, jb 22, jb 23, jb 24, jb 25, jb 26, jb 27, jb 28, jb 29, jb 30, jb 31, jb 32, jb 33, jb 34, jb 35, jb 36, jb 37, jb 38]⟩
def nat_Sub_l0 (x0 : List Int) (x1 : List Int) (x7 : Int) (x17 : Int) (x18 : Int) (r15 : List Int) (zt0 : List Int) (zt1 : Int) : Prop := ∀ n15, n15 = r15.length → ∀ j jb vs, W C F 158 0 (nat_Sub_l0_s x0 x1 x7 x17 x18 r15 n15 j jb vs) (Ans C Tryz.f158 (.tuple [.ints .u64 zt0, .int .i64 zt1]))
theorem nat_Sub_l0_go {x0 : List Int} {x1 : List Int} {x7 : Int} {x17 : Int} {x18 : Int} {r15 : List Int} {zt0 : List Int} {zt1 : Int} (H : ((x18 < x17 ∧ (0 ≤ x18 ∧ (x18 < (x0.length : Int) ∧ (∃ c12 : Int, (nat_at_R x1 x18 c12 ∧ (∃ c14t0 : Int, (∃ c14t1 : Int, (limb_Sub_R (x0.getD (x18).toNat 0) c12 x7 c14t0 c14t1 ∧ (x18 < (r15.length : Int) ∧ (∃ y17, y17 = r15.set (x18).toNat c14t0 ∧ (nat_Sub_l0 x0 x1 c14t1 x17 (wi (x18 + 1)) y17 zt0 zt1))))))))))) ∨ (¬ x18 < x17 ∧ (∃ c20 : List Int, (nat_trim_R r15 c20 ∧ (zt0 = c20 ∧ zt1 = 0)))))) : nat_Sub_l0 x0 x1 x7 x17 x18 r15 zt0 zt1 := by
 intro n15 ln_15 j jb vs
 refine W.adv 1 ?_
 refine W.adv 6 ?_
 rcases H with ⟨h9, H⟩ | ⟨h9, H⟩
 ·refine W.cond true (w := (decide (x18 < x17))) (by kernel_rfl) (decide_eq_true h9) ?_
  refine W.adv 15 ?_
  obtain ⟨h10, h11, H⟩ := H
  refine W.opS (OpIs.ixI (k := .u64) (k' := .i64) (xs := x0) (i := x18) (by kernel_rfl) h10 h11) ?_
  refine W.adv 3 ?_
  obtain ⟨c12, hc13, H⟩ := H
  refine W.callR (g := 182) (ds := [.ints .u64 x1, .int .i64 x18]) (es := [.ints .u64 x1, .int .i64 x18]) (r := (.int .u64 c12)) (by kernel_rfl) (by kernel_rfl) (Ic.args hc13 (by kernel_rfl)) (by kernel_rfl) ?_
  refine W.adv 1 ?_
  obtain ⟨c14t0, c14t1, hc15, H⟩ := H
  refine W.callR (g := 186) (ds := [(.int .u64 (x0.getD (x18).toNat 0)), .int .u64 c12, .int .u64 x7]) (es := [(.int .u64 (x0.getD (x18).toNat 0)), .int .u64 c12, .int .u64 x7]) (r := (.tuple [.int .u64 c14t0, .int .u64 c14t1])) (by kernel_rfl) (by kernel_rfl) (Ic.args hc15 (by kernel_rfl)) (by kernel_rfl) ?_
  refine W.adv 3 ?_
  obtain ⟨h16, H⟩ := H
  refine W.opS (OpIs.ixR (k' := .i64) (b := 15) (v := 1) (sz := 1) (len := n15) (i := x18) (by kernel_rfl) h10 (by rw [ln_15]; exact h16)) ?_
  obtain ⟨y17, hy18, H⟩ := H
  have ln19 : n15 = y17.length := by rw [hy18, List.length_set]; exact ln_15
  refine W.opH (OpIs.stN (b := 15) (v := 1) (i := (x18).toNat) (w := 1) (k := .u64) (xs := r15) (n := c14t0) (by kernel_rfl) hy18 rfl (by omega)) ?_
  refine W.adv 9 ?_
  exact W.to_loop (P := nat_Sub_l0_s x0 x1 c14t1 x17 (wi (x18 + 1)) y17 n15) (H _ ln19) (by kernel_rfl)
 ·refine W.cond false (w := (decide (x18 < x17))) (by kernel_rfl) (decide_eq_false h9) ?_
  refine W.adv 8 ?_
  obtain ⟨c20, hc21, H⟩ := H
  refine W.callR (g := 183) (ds := [.sref 15 1 1 0 n15]) (es := [.ints .u64 r15]) (r := (.ints .u64 c20)) (by kernel_rfl) (rf_cons (rf_full (b := 15) (v := 1) (w := 1) (fz := false) (k := .u64) (xs := r15) (by kernel_rfl) rfl ln_15) rf_nil) (Ic.args hc21 (by kernel_rfl)) (by kernel_rfl) ?_
  refine W.adv 5 ?_
  exact W.fin (x := .ret) (by kernel_rfl) (Ans.of (d := (.tuple [.ints .u64 c20, .int .i64 0])) (d' := (.tuple [.ints .u64 c20, .int .i64 0])) (e' := (.tuple [.ints .u64 c20, .int .i64 0])) (by kernel_rfl) (by kernel_rfl) (by kernel_rfl) (by rw [H.1, H.2]))
theorem nat_Sub_go {a0 : List Int} {a1 : List Int} {zt0 : List Int} {zt1 : Int} (H : (∃ c1 : Int, (nat_Cmp_R a0 a1 c1 ∧ ((c1 < 0 ∧ (zt0 = [] ∧ zt1 = 6)) ∨ (¬ c1 < 0 ∧ (0 ≤ (a0.length : Int) ∧ (8 * (a0.length : Int) ≤ 140737488351232 ∧ (∃ y4, y4 = List.replicate (a0.length : Int).toNat 0 ∧ (nat_Sub_l0 a0 a1 0 (y4.length : Int) 0 y4 zt0 zt1))))))))) : nat_Sub_R a0 a1 zt0 zt1 := by
 refine W.ic (zs := [.ints .u64 a0, .ints .u64 a1]) Tryz.func158 (by kernel_rfl) (by kernel_rfl) (by kernel_rfl) (by kernel_rfl) ?_
 refine W.adv 11 ?_
 obtain ⟨c1, hc2, H⟩ := H
 refine W.callR (g := 101) (ds := [.ints .u64 a0, .ints .u64 a1]) (es := [.ints .u64 a0, .ints .u64 a1]) (r := (.int .i64 c1)) (by kernel_rfl) (by kernel_rfl) (Ic.args hc2 (by kernel_rfl)) (by kernel_rfl) ?_
 refine W.adv 3 ?_
 rcases H with ⟨h3, H⟩ | ⟨h3, H⟩
 ·refine W.cond true (w := (decide (c1 < 0))) (by kernel_rfl) (decide_eq_true h3) ?_
  refine W.adv 8 ?_
  exact W.fin (x := .ret) (by kernel_rfl) (Ans.of (d := (.tuple [.nilS, .int .i64 6])) (d' := (.tuple [.nilS, .int .i64 6])) (e' := (.tuple [.ints .u64 [], .int .i64 6])) (by kernel_rfl) (by kernel_rfl) (by kernel_rfl) (by rw [H.1, H.2]))
 ·refine W.cond false (w := (decide (c1 < 0))) (by kernel_rfl) (decide_eq_false h3) ?_
  refine W.adv 6 ?_
  obtain ⟨h7, h8, H⟩ := H
  obtain ⟨y4, hy5, H⟩ := H
  have ln6 : (a0.length : Int).toNat = y4.length := by rw [hy5, List.length_replicate]
  refine W.opH (OpIs.msN (k1 := .i64) (k2 := .i64) (k := .u64) (n := (a0.length : Int)) (m := (a0.length : Int)) (y := 8) (b := 15) (v := 0) (by kernel_rfl) hy5 h7 (Int.le_refl _) h8 (by omega)) ?_
  refine W.adv 12 ?_
  refine W.opS (OpIs.ln (n := (a0.length : Int).toNat) (m := y4.length) (by kernel_rfl) ln6) ?_
  refine W.adv 4 ?_
  exact W.to_loop (P := nat_Sub_l0_s a0 a1 0 (y4.length : Int) 0 y4 ((a0.length : Int).toNat)) (H _ ln6) (by kernel_rfl)
noncomputable def nat_Make_l0_s (x10 : List Int) (x11 : Int) (x12 : Int) (r9 : List Int) (n9 : Nat) (j : Nat → D) (jb : Nat → Blk) (vs : Nat → Nat) : Cf := cfAt Tryz.f180 [1, 1, 0, 1, 0] ⟨[j 0, j 1, j 2, j 3, .sref 9 1 1 0 n9, j 5, j 6, j 7, j 8, j 9, .ints .u64 x10, .int .i64 x11, .int .i64 x12, j 13, j 14, j 15, j 16, j 17, j 18, j 19, j 20, j 21, j 22, j 23, j 24], [jb 0, jb 1, jb 2, jb 3, jb 4, jb 5, jb 6, jb 7, jb 8, ⟨1, false, .ints .u64 r9⟩, jb 10, jb 11, jb 12, jb 13, jb 14, jb 15, jb 16, jb 17, jb 18, jb 19, jb 20, jb 21, jb 22, jb 23, jb 24]⟩
def nat_Make_l0 (x10 : List Int) (x11 : Int) (x12 : Int) (r9 : List Int) (zt0 : List Int) (zt1 : Int) : Prop := ∀ n9, n9 = r9.length → ∀ j jb vs, W C F 180 0 (nat_Make_l0_s x10 x11 x12 r9 n9 j jb vs) (Ans C Tryz.f180 (.tuple [.ints .u64 zt0, .int .i64 zt1]))
noncomputable def nat_Make_l1_s (x10 : List Int) (x11 : Int) (x12 : Int) (r21 : List Int) (n21 : Nat) (j : Nat → D) (jb : Nat → Blk) (vs : Nat → Nat) : Cf := cfAt Tryz.f180 [1, 1, 0, 1, 0] ⟨[j 0, j 1, j 2, j 3, (.sref 21 ((vs 21) + 1) 1 0 n21), j 5, j 6, j 7, j 8, j 9, .ints .u64 x10, .int .i64 x11, .int .i64 x12, j 13, j 14, j 15, j 16, j 17, j 18, j 19, j 20, j 21, j 22, j 23, j 24], [jb 0, jb 1, jb 2, jb 3, jb 4, jb 5, jb 6, jb 7, jb 8, jb 9, jb 10, jb 11, jb 12, jb 13, jb 14, jb 15, jb 16, jb 17, jb 18, jb 19, jb 20, ⟨((vs 21) + 1), false, .ints .u64 r21⟩, jb 22, jb 23, jb 24]⟩
def nat_Make_l1 (x10 : List Int) (x11 : Int) (x12 : Int) (r21 : List Int) (zt0 : List Int) (zt1 : Int) : Prop := ∀ n21, n21 = r21.length → ∀ j jb vs, W C F 180 0 (nat_Make_l1_s x10 x11 x12 r21 n21 j jb vs) (Ans C Tryz.f180 (.tuple [.ints .u64 zt0, .int .i64 zt1]))
theorem nat_Make_l0_go {x10 : List Int} {x11 : Int} {x12 : Int} {r9 : List Int} {zt0 : List Int} {zt1 : Int} (H : ((x12 < x11 ∧ (0 ≤ x12 ∧ (x12 < (x10.length : Int) ∧ ((4294967296 ≤ (x10.getD (x12).toNat 0) ∧ (zt0 = [] ∧ zt1 = 2)) ∨ (¬ 4294967296 ≤ (x10.getD (x12).toNat 0) ∧ ((r9.length + 1 + 192) * (8 + 1) ≤ 70368744177664 ∧ (∃ y10, y10 = r9 ++ [(x10.getD (x12).toNat 0)] ∧ (nat_Make_l1 x10 x11 (wi (x12 + 1)) y10 zt0 zt1)))))))) ∨ (¬ x12 < x11 ∧ (∃ c14 : List Int, (nat_trim_R r9 c14 ∧ (zt0 = c14 ∧ zt1 = 0)))))) : nat_Make_l0 x10 x11 x12 r9 zt0 zt1 := by
 intro n9 ln_9 j jb vs
 refine W.adv 1 ?_
 refine W.adv 6 ?_
 rcases H with ⟨h6, H⟩ | ⟨h6, H⟩
 ·refine W.cond true (w := (decide (x12 < x11))) (by kernel_rfl) (decide_eq_true h6) ?_
  refine W.adv 6 ?_
  obtain ⟨h7, h8, H⟩ := H
  refine W.opS (OpIs.ixI (k := .u64) (k' := .i64) (xs := x10) (i := x12) (by kernel_rfl) h7 h8) ?_
  refine W.adv 11 ?_
  rcases H with ⟨h9, H⟩ | ⟨h9, H⟩
  ·refine W.cond true (w := (decide (4294967296 ≤ (x10.getD (x12).toNat 0)))) (by kernel_rfl) (decide_eq_true h9) ?_
   refine W.adv 13 ?_
   exact W.fin (x := .ret) (by kernel_rfl) (Ans.of (d := (.tuple [.nilS, .int .i64 2])) (d' := (.tuple [.nilS, .int .i64 2])) (e' := (.tuple [.ints .u64 [], .int .i64 2])) (by kernel_rfl) (by kernel_rfl) (by kernel_rfl) (by rw [H.1, H.2]))
  ·refine W.cond false (w := (decide (4294967296 ≤ (x10.getD (x12).toNat 0)))) (by kernel_rfl) (decide_eq_false h9) ?_
   refine W.adv 6 ?_
   obtain ⟨h13, H⟩ := H
   obtain ⟨y10, hy11, H⟩ := H
   have ln12 : (r9.length + 1) = y10.length := by rw [hy11, List.length_append] <;> rfl
   refine W.opK (OpIs.apRow (y := (.lit (.ints .u64 [(x10.getD (x12).toNat 0)]))) (n := 8) (d := 21) (dv := (jb 21).ver) (b := 9) (v := 1) (w := 1) (len := n9) (k := .u64) (xs := r9) (ys := [(x10.getD (x12).toNat 0)]) (by kernel_rfl) (by kernel_rfl) hy11 rfl ln_9 h13) ?_
   refine W.adv 9 ?_
   exact W.to_loop (P := nat_Make_l1_s x10 x11 (wi (x12 + 1)) y10 (r9.length + 1)) (H _ ln12) (by kernel_rfl)
 ·refine W.cond false (w := (decide (x12 < x11))) (by kernel_rfl) (decide_eq_false h6) ?_
  refine W.adv 8 ?_
  obtain ⟨c14, hc15, H⟩ := H
  refine W.callR (g := 183) (ds := [.sref 9 1 1 0 n9]) (es := [.ints .u64 r9]) (r := (.ints .u64 c14)) (by kernel_rfl) (rf_cons (rf_full (b := 9) (v := 1) (w := 1) (fz := false) (k := .u64) (xs := r9) (by kernel_rfl) rfl ln_9) rf_nil) (Ic.args hc15 (by kernel_rfl)) (by kernel_rfl) ?_
  refine W.adv 5 ?_
  exact W.fin (x := .ret) (by kernel_rfl) (Ans.of (d := (.tuple [.ints .u64 c14, .int .i64 0])) (d' := (.tuple [.ints .u64 c14, .int .i64 0])) (e' := (.tuple [.ints .u64 c14, .int .i64 0])) (by kernel_rfl) (by kernel_rfl) (by kernel_rfl) (by rw [H.1, H.2]))
theorem nat_Make_l1_go {x10 : List Int} {x11 : Int} {x12 : Int} {r21 : List Int} {zt0 : List Int} {zt1 : Int} (H : ((x12 < x11 ∧ (0 ≤ x12 ∧ (x12 < (x10.length : Int) ∧ ((4294967296 ≤ (x10.getD (x12).toNat 0) ∧ (zt0 = [] ∧ zt1 = 2)) ∨ (¬ 4294967296 ≤ (x10.getD (x12).toNat 0) ∧ ((r21.length + 1 + 192) * (8 + 1) ≤ 70368744177664 ∧ (∃ y20, y20 = r21 ++ [(x10.getD (x12).toNat 0)] ∧ (nat_Make_l1 x10 x11 (wi (x12 + 1)) y20 zt0 zt1)))))))) ∨ (¬ x12 < x11 ∧ (∃ c24 : List Int, (nat_trim_R r21 c24 ∧ (zt0 = c24 ∧ zt1 = 0)))))) : nat_Make_l1 x10 x11 x12 r21 zt0 zt1 := by
 intro n21 ln_21 j jb vs
 refine W.adv 1 ?_
 refine W.adv 6 ?_
 rcases H with ⟨h16, H⟩ | ⟨h16, H⟩
 ·refine W.cond true (w := (decide (x12 < x11))) (by kernel_rfl) (decide_eq_true h16) ?_
  refine W.adv 6 ?_
  obtain ⟨h17, h18, H⟩ := H
  refine W.opS (OpIs.ixI (k := .u64) (k' := .i64) (xs := x10) (i := x12) (by kernel_rfl) h17 h18) ?_
  refine W.adv 11 ?_
  rcases H with ⟨h19, H⟩ | ⟨h19, H⟩
  ·refine W.cond true (w := (decide (4294967296 ≤ (x10.getD (x12).toNat 0)))) (by kernel_rfl) (decide_eq_true h19) ?_
   refine W.adv 13 ?_
   exact W.fin (x := .ret) (by kernel_rfl) (Ans.of (d := (.tuple [.nilS, .int .i64 2])) (d' := (.tuple [.nilS, .int .i64 2])) (e' := (.tuple [.ints .u64 [], .int .i64 2])) (by kernel_rfl) (by kernel_rfl) (by kernel_rfl) (by rw [H.1, H.2]))
  ·refine W.cond false (w := (decide (4294967296 ≤ (x10.getD (x12).toNat 0)))) (by kernel_rfl) (decide_eq_false h19) ?_
   refine W.adv 6 ?_
   obtain ⟨h23, H⟩ := H
   obtain ⟨y20, hy21, H⟩ := H
   have ln22 : (r21.length + 1) = y20.length := by rw [hy21, List.length_append] <;> rfl
   refine W.opK (OpIs.apRow (y := (.lit (.ints .u64 [(x10.getD (x12).toNat 0)]))) (n := 8) (d := 21) (dv := ((vs 21) + 1)) (b := 21) (v := ((vs 21) + 1)) (w := ((vs 21) + 1)) (len := n21) (k := .u64) (xs := r21) (ys := [(x10.getD (x12).toNat 0)]) (by kernel_rfl) (by kernel_rfl) hy21 rfl ln_21 h23) ?_
   refine W.adv 9 ?_
   exact W.to_loop (P := nat_Make_l1_s x10 x11 (wi (x12 + 1)) y20 (r21.length + 1)) (H _ ln22) (by kernel_rfl)
 ·refine W.cond false (w := (decide (x12 < x11))) (by kernel_rfl) (decide_eq_false h16) ?_
  refine W.adv 8 ?_
  obtain ⟨c24, hc25, H⟩ := H
  refine W.callR (g := 183) (ds := [(.sref 21 ((vs 21) + 1) 1 0 n21)]) (es := [.ints .u64 r21]) (r := (.ints .u64 c24)) (by kernel_rfl) (rf_cons (rf_full (b := 21) (v := ((vs 21) + 1)) (w := ((vs 21) + 1)) (fz := false) (k := .u64) (xs := r21) (by kernel_rfl) rfl ln_21) rf_nil) (Ic.args hc25 (by kernel_rfl)) (by kernel_rfl) ?_
  refine W.adv 5 ?_
  exact W.fin (x := .ret) (by kernel_rfl) (Ans.of (d := (.tuple [.ints .u64 c24, .int .i64 0])) (d' := (.tuple [.ints .u64 c24, .int .i64 0])) (e' := (.tuple [.ints .u64 c24, .int .i64 0])) (by kernel_rfl) (by kernel_rfl) (by kernel_rfl) (by rw [H.1, H.2]))
theorem nat_Make_go {a0 : List Int} {zt0 : List Int} {zt1 : Int} (H : (0 ≤ (a0.length : Int) ∧ (8 * (a0.length : Int) ≤ 140737488351232 ∧ (∃ y1, y1 = List.replicate 0 0 ∧ (nat_Make_l0 a0 (a0.length : Int) 0 y1 zt0 zt1))))) : nat_Make_R a0 zt0 zt1 := by
 refine W.ic (zs := [.ints .u64 a0]) Tryz.func180 (by kernel_rfl) (by kernel_rfl) (by kernel_rfl) (by kernel_rfl) ?_
 refine W.adv 10 ?_
 obtain ⟨h4, h5, H⟩ := H
 obtain ⟨y1, hy2, H⟩ := H
 have ln3 : 0 = y1.length := by rw [hy2, List.length_replicate]
 refine W.opH (OpIs.msN (k1 := .i64) (k2 := .i64) (k := .u64) (n := 0) (m := (a0.length : Int)) (y := 8) (b := 9) (v := 0) (by kernel_rfl) hy2 (by decide) h4 h5 (by omega)) ?_
 refine W.adv 12 ?_
 exact W.to_loop (P := nat_Make_l0_s a0 (a0.length : Int) 0 y1 0) (H _ ln3) (by kernel_rfl)
theorem limb_Add_go {a0 : Int} {a1 : Int} {a2 : Int} {zt0 : Int} {zt1 : Int} (H : (∃ t1, t1 = (wu ((wu ((bits .and .u64 a0 4294967295) + (bits .and .u64 a1 4294967295))) + (bits .and .u64 a2 4294967295))) ∧ (zt0 = (bits .and .u64 t1 4294967295) ∧ zt1 = (t1 / 2 ^ 32)))) : limb_Add_R a0 a1 a2 zt0 zt1 := by
 refine W.ic (zs := [.int .u64 a0, .int .u64 a1, .int .u64 a2]) Tryz.func181 (by kernel_rfl) (by kernel_rfl) (by kernel_rfl) (by kernel_rfl) ?_
 refine W.adv 15 ?_
 obtain ⟨t1, ht2, H⟩ := H
 refine W.opS (OpIs.bnN (k := .u64) (op := .add) (x := (.int .u64 (wu ((bits .and .u64 a0 4294967295) + (bits .and .u64 a1 4294967295))))) (y := (.int .u64 (bits .and .u64 a2 4294967295))) (by kernel_rfl) ht2 (by kernel_rfl)) ?_
 refine W.adv 14 ?_
 exact W.fin (x := .ret) (by kernel_rfl) (Ans.of (d := (.tuple [(.int .u64 (bits .and .u64 t1 4294967295)), (.int .u64 (t1 / 2 ^ 32))])) (d' := (.tuple [(.int .u64 (bits .and .u64 t1 4294967295)), (.int .u64 (t1 / 2 ^ 32))])) (e' := (.tuple [(.int .u64 (bits .and .u64 t1 4294967295)), (.int .u64 (t1 / 2 ^ 32))])) (by kernel_rfl) (by kernel_rfl) (by kernel_rfl) (by rw [H.1, H.2]))
theorem nat_at_go {a0 : List Int} {a1 : Int} {z : Int} (H : (((a0.length : Int) ≤ a1 ∧ (z = 0)) ∨ (¬ (a0.length : Int) ≤ a1 ∧ (0 ≤ a1 ∧ (a1 < (a0.length : Int) ∧ (z = (a0.getD (a1).toNat 0))))))) : nat_at_R a0 a1 z := by
 refine W.ic (zs := [.ints .u64 a0, .int .i64 a1]) Tryz.func182 (by kernel_rfl) (by kernel_rfl) (by kernel_rfl) (by kernel_rfl) ?_
 refine W.adv 14 ?_
 rcases H with ⟨h1, H⟩ | ⟨h1, H⟩
 ·refine W.cond true (w := (decide ((a0.length : Int) ≤ a1))) (by kernel_rfl) (decide_eq_true h1) ?_
  refine W.adv 7 ?_
  exact W.fin (x := .ret) (by kernel_rfl) (Ans.of (d := (.int .u64 0)) (d' := (.int .u64 0)) (e' := (.int .u64 0)) (by kernel_rfl) (by kernel_rfl) (by kernel_rfl) (by rw [H]))
 ·refine W.cond false (w := (decide ((a0.length : Int) ≤ a1))) (by kernel_rfl) (decide_eq_false h1) ?_
  refine W.adv 6 ?_
  obtain ⟨h2, h3, H⟩ := H
  refine W.opS (OpIs.ixI (k := .u64) (k' := .i64) (xs := a0) (i := a1) (by kernel_rfl) h2 h3) ?_
  refine W.adv 5 ?_
  exact W.fin (x := .ret) (by kernel_rfl) (Ans.of (d := (.int .u64 (a0.getD (a1).toNat 0))) (d' := (.int .u64 (a0.getD (a1).toNat 0))) (e' := (.int .u64 (a0.getD (a1).toNat 0))) (by kernel_rfl) (by kernel_rfl) (by kernel_rfl) (by rw [H]))
noncomputable def nat_trim_l0_s (x0 : List Int) (x3 : Int) (j : Nat → D) (jb : Nat → Blk) (vs : Nat → Nat) : Cf := cfAt Tryz.f183 [1, 1, 0, 0] ⟨[.ints .u64 x0, j 1, j 2, .int .i64 x3, j 4, j 5, j 6, j 7, j 8, j 9, j 10, j 11, j 12, j 13, j 14, j 15, j 16, j 17, j 18, j 19, j 20], [jb 0, jb 1, jb 2, jb 3, jb 4, jb 5, jb 6, jb 7, jb 8, jb 9, jb 10, jb 11, jb 12, jb 13, jb 14, jb 15, jb 16, jb 17, jb 18, jb 19, jb 20]⟩
def nat_trim_l0 (x0 : List Int) (x3 : Int) (z : List Int) : Prop := ∀ j jb vs, W C F 183 0 (nat_trim_l0_s x0 x3  j jb vs) (Ans C Tryz.f183 (.ints .u64 z))
theorem nat_trim_l0_go {x0 : List Int} {x3 : Int} {z : List Int} (H : ((0 < x3 ∧ (0 ≤ (wi (x3 - 1)) ∧ ((wi (x3 - 1)) < (x0.length : Int) ∧ (((x0.getD (wi (x3 - 1)).toNat 0) = 0 ∧ (nat_trim_l0 x0 (wi (x3 - 1)) z)) ∨ (¬ (x0.getD (wi (x3 - 1)).toNat 0) = 0 ∧ (0 ≤ x3 ∧ (x3 ≤ (x0.length : Int) ∧ (z = (x0.take (x3).toNat))))))))) ∨ (¬ 0 < x3 ∧ (0 ≤ x3 ∧ (x3 ≤ (x0.length : Int) ∧ (z = (x0.take (x3).toNat))))))) : nat_trim_l0 x0 x3 z := by
 intro j jb vs
 refine W.adv 1 ?_
 refine W.adv 6 ?_
 rcases H with ⟨h1, H⟩ | ⟨h1, H⟩
 ·refine W.guard true (w := ((decide (0 < x3)) == true)) (by kernel_rfl) (congrArg (fun b => b == true) (decide_eq_true h1)) ?_
  refine W.adv 1 ?_
  refine W.guard true (w := ((decide (0 < x3)) == true)) (by kernel_rfl) (congrArg (fun b => b == true) (decide_eq_true h1)) ?_
  refine W.adv 1 ?_
  refine W.guard true (w := ((decide (0 < x3)) == true)) (by kernel_rfl) (congrArg (fun b => b == true) (decide_eq_true h1)) ?_
  refine W.adv 1 ?_
  refine W.guard true (w := ((decide (0 < x3)) == true)) (by kernel_rfl) (congrArg (fun b => b == true) (decide_eq_true h1)) ?_
  obtain ⟨h2, h3, H⟩ := H
  refine W.opS (OpIs.ixI (k := .u64) (k' := .i64) (xs := x0) (i := (wi (x3 - 1))) (by kernel_rfl) h2 h3) ?_
  refine W.guard true (w := ((decide (0 < x3)) == true)) (by kernel_rfl) (congrArg (fun b => b == true) (decide_eq_true h1)) ?_
  refine W.adv 1 ?_
  refine W.guard true (w := ((decide (0 < x3)) == true)) (by kernel_rfl) (congrArg (fun b => b == true) (decide_eq_true h1)) ?_
  refine W.adv 1 ?_
  refine W.opS (OpIs.pk true (t := (decide (0 < x3))) (x := (.bool (decide ((x0.getD (wi (x3 - 1)).toNat 0) = 0)))) (y := (.bool false)) (by kernel_rfl) (decide_eq_true h1)) ?_
  refine W.adv 2 ?_
  rcases H with ⟨h4, H⟩ | ⟨h4, H⟩
  ·refine W.cond true (w := (decide ((x0.getD (wi (x3 - 1)).toNat 0) = 0))) (by kernel_rfl) (decide_eq_true h4) ?_
   refine W.adv 10 ?_
   exact W.to_loop (P := nat_trim_l0_s x0 (wi (x3 - 1))) (H ) (by kernel_rfl)
  ·refine W.cond false (w := (decide ((x0.getD (wi (x3 - 1)).toNat 0) = 0))) (by kernel_rfl) (decide_eq_false h4) ?_
   refine W.adv 9 ?_
   obtain ⟨h5, h6, H⟩ := H
   refine W.opS (OpIs.slI_hi (k := .u64) (k' := .i64) (xs := x0) (i := x3) (by kernel_rfl) h5 h6) ?_
   refine W.adv 4 ?_
   exact W.fin (x := .ret) (by kernel_rfl) (Ans.of (d := (.ints .u64 (x0.take (x3).toNat))) (d' := (.ints .u64 (x0.take (x3).toNat))) (e' := (.ints .u64 (x0.take (x3).toNat))) (by kernel_rfl) (by kernel_rfl) (by kernel_rfl) (by rw [H]))
 ·refine W.guard false (w := ((decide (0 < x3)) == true)) (by kernel_rfl) (congrArg (fun b => b == true) (decide_eq_false h1)) ?_
  refine W.guard false (w := ((decide (0 < x3)) == true)) (by kernel_rfl) (congrArg (fun b => b == true) (decide_eq_false h1)) ?_
  refine W.guard false (w := ((decide (0 < x3)) == true)) (by kernel_rfl) (congrArg (fun b => b == true) (decide_eq_false h1)) ?_
  refine W.guard false (w := ((decide (0 < x3)) == true)) (by kernel_rfl) (congrArg (fun b => b == true) (decide_eq_false h1)) ?_
  refine W.guard false (w := ((decide (0 < x3)) == true)) (by kernel_rfl) (congrArg (fun b => b == true) (decide_eq_false h1)) ?_
  refine W.guard false (w := ((decide (0 < x3)) == true)) (by kernel_rfl) (congrArg (fun b => b == true) (decide_eq_false h1)) ?_
  refine W.opS (OpIs.pk false (t := (decide (0 < x3))) (x := (.tuple [])) (y := (.bool false)) (by kernel_rfl) (decide_eq_false h1)) ?_
  refine W.adv 12 ?_
  obtain ⟨h7, h8, H⟩ := H
  refine W.opS (OpIs.slI_hi (k := .u64) (k' := .i64) (xs := x0) (i := x3) (by kernel_rfl) h7 h8) ?_
  refine W.adv 4 ?_
  exact W.fin (x := .ret) (by kernel_rfl) (Ans.of (d := (.ints .u64 (x0.take (x3).toNat))) (d' := (.ints .u64 (x0.take (x3).toNat))) (e' := (.ints .u64 (x0.take (x3).toNat))) (by kernel_rfl) (by kernel_rfl) (by kernel_rfl) (by rw [H]))
theorem nat_trim_go {a0 : List Int} {z : List Int} (H : (nat_trim_l0 a0 (a0.length : Int) z)) : nat_trim_R a0 z := by
 refine W.ic (zs := [.ints .u64 a0]) Tryz.func183 (by kernel_rfl) (by kernel_rfl) (by kernel_rfl) (by kernel_rfl) ?_
 refine W.adv 14 ?_
 exact W.to_loop (P := nat_trim_l0_s a0 (a0.length : Int)) (H ) (by kernel_rfl)
theorem limb_Sub_go {a0 : Int} {a1 : Int} {a2 : Int} {zt0 : Int} {zt1 : Int} (H : (((bits .and .u64 a0 4294967295) < (wu ((bits .and .u64 a1 4294967295) + (bits .and .u64 a2 4294967295))) ∧ (∃ t2, t2 = (wu ((wu ((bits .and .u64 a1 4294967295) + (bits .and .u64 a2 4294967295))) - (bits .and .u64 a0 4294967295))) ∧ (∃ t4, t4 = (wu ((bits .and .u64 a0 4294967295) + (wu (((wu (t2 + 4294967295)) / 2 ^ 32) * 2 ^ 32)))) ∧ (∃ t6, t6 = (wu (t4 - (wu ((bits .and .u64 a1 4294967295) + (bits .and .u64 a2 4294967295))))) ∧ (zt0 = t6 ∧ zt1 = ((wu (t2 + 4294967295)) / 2 ^ 32)))))) ∨ (¬ (bits .and .u64 a0 4294967295) < (wu ((bits .and .u64 a1 4294967295) + (bits .and .u64 a2 4294967295))) ∧ (∃ t8, t8 = (wu ((wu ((bits .and .u64 a0 4294967295) + 0)) - (wu ((bits .and .u64 a1 4294967295) + (bits .and .u64 a2 4294967295))))) ∧ (zt0 = t8 ∧ zt1 = 0))))) : limb_Sub_R a0 a1 a2 zt0 zt1 := by
 refine W.ic (zs := [.int .u64 a0, .int .u64 a1, .int .u64 a2]) Tryz.func186 (by kernel_rfl) (by kernel_rfl) (by kernel_rfl) (by kernel_rfl) ?_
 refine W.adv 32 ?_
 rcases H with ⟨h1, H⟩ | ⟨h1, H⟩
 ·refine W.cond true (w := (decide ((bits .and .u64 a0 4294967295) < (wu ((bits .and .u64 a1 4294967295) + (bits .and .u64 a2 4294967295)))))) (by kernel_rfl) (decide_eq_true h1) ?_
  refine W.adv 3 ?_
  obtain ⟨t2, ht3, H⟩ := H
  refine W.opS (OpIs.bnN (k := .u64) (op := .sub) (x := (.int .u64 (wu ((bits .and .u64 a1 4294967295) + (bits .and .u64 a2 4294967295))))) (y := (.int .u64 (bits .and .u64 a0 4294967295))) (by kernel_rfl) ht3 (by kernel_rfl)) ?_
  refine W.adv 10 ?_
  obtain ⟨t4, ht5, H⟩ := H
  refine W.opS (OpIs.bnN (k := .u64) (op := .add) (x := (.int .u64 (bits .and .u64 a0 4294967295))) (y := (.int .u64 (wu (((wu (t2 + 4294967295)) / 2 ^ 32) * 2 ^ 32)))) (by kernel_rfl) ht5 (by kernel_rfl)) ?_
  refine W.adv 1 ?_
  obtain ⟨t6, ht7, H⟩ := H
  refine W.opS (OpIs.bnN (k := .u64) (op := .sub) (x := (.int .u64 t4)) (y := (.int .u64 (wu ((bits .and .u64 a1 4294967295) + (bits .and .u64 a2 4294967295))))) (by kernel_rfl) ht7 (by kernel_rfl)) ?_
  refine W.adv 6 ?_
  exact W.fin (x := .ret) (by kernel_rfl) (Ans.of (d := (.tuple [.int .u64 t6, (.int .u64 ((wu (t2 + 4294967295)) / 2 ^ 32))])) (d' := (.tuple [.int .u64 t6, (.int .u64 ((wu (t2 + 4294967295)) / 2 ^ 32))])) (e' := (.tuple [.int .u64 t6, (.int .u64 ((wu (t2 + 4294967295)) / 2 ^ 32))])) (by kernel_rfl) (by kernel_rfl) (by kernel_rfl) (by rw [H.1, H.2]))
 ·refine W.cond false (w := (decide ((bits .and .u64 a0 4294967295) < (wu ((bits .and .u64 a1 4294967295) + (bits .and .u64 a2 4294967295)))))) (by kernel_rfl) (decide_eq_false h1) ?_
  refine W.adv 9 ?_
  obtain ⟨t8, ht9, H⟩ := H
  refine W.opS (OpIs.bnN (k := .u64) (op := .sub) (x := (.int .u64 (wu ((bits .and .u64 a0 4294967295) + 0)))) (y := (.int .u64 (wu ((bits .and .u64 a1 4294967295) + (bits .and .u64 a2 4294967295))))) (by kernel_rfl) ht9 (by kernel_rfl)) ?_
  refine W.adv 6 ?_
  exact W.fin (x := .ret) (by kernel_rfl) (Ans.of (d := (.tuple [.int .u64 t8, .int .u64 0])) (d' := (.tuple [.int .u64 t8, .int .u64 0])) (e' := (.tuple [.int .u64 t8, .int .u64 0])) (by kernel_rfl) (by kernel_rfl) (by kernel_rfl) (by rw [H.1, H.2]))
noncomputable def nat_Sum_l0_s (x6 : List (List Int)) (x7 : Int) (x8 : Int) (j : Nat → D) (jb : Nat → Blk) (vs : Nat → Nat) : Cf := cfAt Tryz.f203 [1, 1, 0, 1, 0] ⟨[j 0, j 1, j 2, .nilS, j 4, j 5, (.list 1 (x6.map (D.ints .u64))), .int .i64 x7, .int .i64 x8, j 9, j 10, j 11, j 12, j 13, j 14, j 15, j 16], [jb 0, jb 1, jb 2, jb 3, jb 4, jb 5, jb 6, jb 7, jb 8, jb 9, jb 10, jb 11, jb 12, jb 13, jb 14, jb 15, jb 16]⟩
def nat_Sum_l0 (x6 : List (List Int)) (x7 : Int) (x8 : Int) (z : List Int) : Prop := ∀ j jb vs, W C F 203 0 (nat_Sum_l0_s x6 x7 x8  j jb vs) (Ans C Tryz.f203 (.ints .u64 z))
noncomputable def nat_Sum_l1_s (x3 : List Int) (x6 : List (List Int)) (x7 : Int) (x8 : Int) (j : Nat → D) (jb : Nat → Blk) (vs : Nat → Nat) : Cf := cfAt Tryz.f203 [1, 1, 0, 1, 0] ⟨[j 0, j 1, j 2, .ints .u64 x3, j 4, j 5, (.list 1 (x6.map (D.ints .u64))), .int .i64 x7, .int .i64 x8, j 9, j 10, j 11, j 12, j 13, j 14, j 15, j 16], [jb 0, jb 1, jb 2, jb 3, jb 4, jb 5, jb 6, jb 7, jb 8, jb 9, jb 10, jb 11, jb 12, jb 13, jb 14, jb 15, jb 16]⟩
def nat_Sum_l1 (x3 : List Int) (x6 : List (List Int)) (x7 : Int) (x8 : Int) (z : List Int) : Prop := ∀ j jb vs, W C F 203 0 (nat_Sum_l1_s x3 x6 x7 x8  j jb vs) (Ans C Tryz.f203 (.ints .u64 z))
theorem nat_Sum_l0_go {x6 : List (List Int)} {x7 : Int} {x8 : Int} {z : List Int} (H : ((x8 < x7 ∧ (0 ≤ x8 ∧ (x8 < (x6.length : Int) ∧ (∃ c4 : List Int, (nat_Add_R [] (x6.getD (x8).toNat []) c4 ∧ (nat_Sum_l1 c4 x6 x7 (wi (x8 + 1)) z)))))) ∨ (¬ x8 < x7 ∧ (z = [])))) : nat_Sum_l0 x6 x7 x8 z := by
 intro j jb vs
 refine W.adv 1 ?_
 refine W.adv 6 ?_
 rcases H with ⟨h1, H⟩ | ⟨h1, H⟩
 ·refine W.cond true (w := (decide (x8 < x7))) (by kernel_rfl) (decide_eq_true h1) ?_
  refine W.adv 6 ?_
  obtain ⟨h2, h3, H⟩ := H
  refine W.opS (OpIs.ixLL (k := .u64) (k' := .i64) (L := x6) (i := x8) (by kernel_rfl) h2 h3) ?_
  refine W.adv 7 ?_
  obtain ⟨c4, hc5, H⟩ := H
  refine W.callR (g := 149) (ds := [.nilS, (.ints .u64 (x6.getD (x8).toNat []))]) (es := [.nilS, (.ints .u64 (x6.getD (x8).toNat []))]) (r := (.ints .u64 c4)) (by kernel_rfl) (by kernel_rfl) (Ic.args hc5 (by kernel_rfl)) (by kernel_rfl) ?_
  refine W.adv 9 ?_
  exact W.to_loop (P := nat_Sum_l1_s c4 x6 x7 (wi (x8 + 1))) (H ) (by kernel_rfl)
 ·refine W.cond false (w := (decide (x8 < x7))) (by kernel_rfl) (decide_eq_false h1) ?_
  refine W.adv 12 ?_
  exact W.fin (x := .ret) (by kernel_rfl) (Ans.of (d := .nilS) (d' := .nilS) (e' := (.ints .u64 [])) (by kernel_rfl) (by kernel_rfl) (by kernel_rfl) (by rw [H]))
theorem nat_Sum_l1_go {x3 : List Int} {x6 : List (List Int)} {x7 : Int} {x8 : Int} {z : List Int} (H : ((x8 < x7 ∧ (0 ≤ x8 ∧ (x8 < (x6.length : Int) ∧ (∃ c9 : List Int, (nat_Add_R x3 (x6.getD (x8).toNat []) c9 ∧ (nat_Sum_l1 c9 x6 x7 (wi (x8 + 1)) z)))))) ∨ (¬ x8 < x7 ∧ (z = x3)))) : nat_Sum_l1 x3 x6 x7 x8 z := by
 intro j jb vs
 refine W.adv 1 ?_
 refine W.adv 6 ?_
 rcases H with ⟨h6, H⟩ | ⟨h6, H⟩
 ·refine W.cond true (w := (decide (x8 < x7))) (by kernel_rfl) (decide_eq_true h6) ?_
  refine W.adv 6 ?_
  obtain ⟨h7, h8, H⟩ := H
  refine W.opS (OpIs.ixLL (k := .u64) (k' := .i64) (L := x6) (i := x8) (by kernel_rfl) h7 h8) ?_
  refine W.adv 7 ?_
  obtain ⟨c9, hc10, H⟩ := H
  refine W.callR (g := 149) (ds := [.ints .u64 x3, (.ints .u64 (x6.getD (x8).toNat []))]) (es := [.ints .u64 x3, (.ints .u64 (x6.getD (x8).toNat []))]) (r := (.ints .u64 c9)) (by kernel_rfl) (by kernel_rfl) (Ic.args hc10 (by kernel_rfl)) (by kernel_rfl) ?_
  refine W.adv 9 ?_
  exact W.to_loop (P := nat_Sum_l1_s c9 x6 x7 (wi (x8 + 1))) (H ) (by kernel_rfl)
 ·refine W.cond false (w := (decide (x8 < x7))) (by kernel_rfl) (decide_eq_false h6) ?_
  refine W.adv 12 ?_
  exact W.fin (x := .ret) (by kernel_rfl) (Ans.of (d := (.ints .u64 x3)) (d' := (.ints .u64 x3)) (e' := (.ints .u64 x3)) (by kernel_rfl) (by kernel_rfl) (by kernel_rfl) (by rw [H]))
theorem nat_Sum_go {a0 : List (List Int)} {z : List Int} (H : (nat_Sum_l0 a0 (a0.length : Int) 0 z)) : nat_Sum_R a0 z := by
 refine W.ic (zs := [(.list 1 (a0.map (D.ints .u64)))]) Tryz.func203 (by kernel_rfl) (by kernel_rfl) (by kernel_rfl) (by kernel_rfl) ?_
 refine W.adv 14 ?_
 refine W.opS (OpIs.ln (n := (a0.map (D.ints .u64)).length) (m := a0.length) (by kernel_rfl) (by rw [List.length_map])) ?_
 refine W.adv 4 ?_
 exact W.to_loop (P := nat_Sum_l0_s a0 (a0.length : Int) 0) (H ) (by kernel_rfl)
noncomputable def nat_May_l0_s (x0 : List Int) (x5 : List Int) (x6 : Int) (x7 : Int) (j : Nat → D) (jb : Nat → Blk) (vs : Nat → Nat) : Cf := cfAt Tryz.f209 [1, 0, 1, 0] ⟨[.ints .u64 x0, j 1, j 2, j 3, j 4, .ints .u64 x5, .int .i64 x6, .int .i64 x7, j 8, j 9, j 10, j 11, j 12, j 13, j 14, j 15, j 16, j 17, j 18, j 19, j 20, j 21, j 22, j 23, j 24, j 25], [jb 0, jb 1, jb 2, jb 3, jb 4, jb 5, jb 6, jb 7, jb 8, jb 9, jb 10, jb 11, jb 12, jb 13, jb 14, jb 15, jb 16, jb 17, jb 18, jb 19, jb 20, jb 21, jb 22, jb 23, jb 24, jb 25]⟩
def nat_May_l0 (x0 : List Int) (x5 : List Int) (x6 : Int) (x7 : Int) (z : Bool) : Prop := ∀ j jb vs, W C F 209 0 (nat_May_l0_s x0 x5 x6 x7  j jb vs) (Ans C Tryz.f209 (.bool z))
theorem nat_May_l0_go {x0 : List Int} {x5 : List Int} {x6 : Int} {x7 : Int} {z : Bool} (H : ((x7 < x6 ∧ (0 ≤ x7 ∧ (x7 < (x5.length : Int) ∧ ((4294967296 ≤ (x5.getD (x7).toNat 0) ∧ (z = false)) ∨ (¬ 4294967296 ≤ (x5.getD (x7).toNat 0) ∧ (nat_May_l0 x0 x5 x6 (wi (x7 + 1)) z)))))) ∨ (¬ x7 < x6 ∧ (((x0.length : Int) = 0 ∧ (z = true)) ∨ (¬ (x0.length : Int) = 0 ∧ (0 ≤ (wi ((x0.length : Int) - 1)) ∧ ((wi ((x0.length : Int) - 1)) < (x0.length : Int) ∧ (z = (!(decide ((x0.getD (wi ((x0.length : Int) - 1)).toNat 0) = 0))))))))))) : nat_May_l0 x0 x5 x6 x7 z := by
 intro j jb vs
 refine W.adv 1 ?_
 refine W.adv 6 ?_
 rcases H with ⟨h1, H⟩ | ⟨h1, H⟩
 ·refine W.cond true (w := (decide (x7 < x6))) (by kernel_rfl) (decide_eq_true h1) ?_
  refine W.adv 6 ?_
  obtain ⟨h2, h3, H⟩ := H
  refine W.opS (OpIs.ixI (k := .u64) (k' := .i64) (xs := x5) (i := x7) (by kernel_rfl) h2 h3) ?_
  refine W.adv 10 ?_
  rcases H with ⟨h4, H⟩ | ⟨h4, H⟩
  ·refine W.cond true (w := (decide (4294967296 ≤ (x5.getD (x7).toNat 0)))) (by kernel_rfl) (decide_eq_true h4) ?_
   refine W.adv 11 ?_
   exact W.fin (x := .ret) (by kernel_rfl) (Ans.of (d := (.bool false)) (d' := (.bool false)) (e' := (.bool false)) (by kernel_rfl) (by kernel_rfl) (by kernel_rfl) (by rw [H]))
  ·refine W.cond false (w := (decide (4294967296 ≤ (x5.getD (x7).toNat 0)))) (by kernel_rfl) (decide_eq_false h4) ?_
   refine W.adv 8 ?_
   exact W.to_loop (P := nat_May_l0_s x0 x5 x6 (wi (x7 + 1))) (H ) (by kernel_rfl)
 ·refine W.cond false (w := (decide (x7 < x6))) (by kernel_rfl) (decide_eq_false h1) ?_
  refine W.adv 11 ?_
  rcases H with ⟨h5, H⟩ | ⟨h5, H⟩
  ·refine W.guard false (w := ((decide ((x0.length : Int) = 0)) == false)) (by kernel_rfl) (congrArg (fun b => b == false) (decide_eq_true h5)) ?_
   refine W.guard false (w := ((decide ((x0.length : Int) = 0)) == false)) (by kernel_rfl) (congrArg (fun b => b == false) (decide_eq_true h5)) ?_
   refine W.guard false (w := ((decide ((x0.length : Int) = 0)) == false)) (by kernel_rfl) (congrArg (fun b => b == false) (decide_eq_true h5)) ?_
   refine W.guard false (w := ((decide ((x0.length : Int) = 0)) == false)) (by kernel_rfl) (congrArg (fun b => b == false) (decide_eq_true h5)) ?_
   refine W.guard false (w := ((decide ((x0.length : Int) = 0)) == false)) (by kernel_rfl) (congrArg (fun b => b == false) (decide_eq_true h5)) ?_
   refine W.guard false (w := ((decide ((x0.length : Int) = 0)) == false)) (by kernel_rfl) (congrArg (fun b => b == false) (decide_eq_true h5)) ?_
   refine W.guard false (w := ((decide ((x0.length : Int) = 0)) == false)) (by kernel_rfl) (congrArg (fun b => b == false) (decide_eq_true h5)) ?_
   refine W.opS (OpIs.pk true (t := (decide ((x0.length : Int) = 0))) (x := (.bool true)) (y := (.tuple [])) (by kernel_rfl) (decide_eq_true h5)) ?_
   refine W.adv 4 ?_
   exact W.fin (x := .ret) (by kernel_rfl) (Ans.of (d := (.bool true)) (d' := (.bool true)) (e' := (.bool true)) (by kernel_rfl) (by kernel_rfl) (by kernel_rfl) (by rw [H]))
  ·refine W.guard true (w := ((decide ((x0.length : Int) = 0)) == false)) (by kernel_rfl) (congrArg (fun b => b == false) (decide_eq_false h5)) ?_
   refine W.adv 1 ?_
   refine W.guard true (w := ((decide ((x0.length : Int) = 0)) == false)) (by kernel_rfl) (congrArg (fun b => b == false) (decide_eq_false h5)) ?_
   refine W.adv 1 ?_
   refine W.guard true (w := ((decide ((x0.length : Int) = 0)) == false)) (by kernel_rfl) (congrArg (fun b => b == false) (decide_eq_false h5)) ?_
   refine W.adv 1 ?_
   refine W.guard true (w := ((decide ((x0.length : Int) = 0)) == false)) (by kernel_rfl) (congrArg (fun b => b == false) (decide_eq_false h5)) ?_
   refine W.adv 1 ?_
   refine W.guard true (w := ((decide ((x0.length : Int) = 0)) == false)) (by kernel_rfl) (congrArg (fun b => b == false) (decide_eq_false h5)) ?_
   obtain ⟨h6, h7, H⟩ := H
   refine W.opS (OpIs.ixI (k := .u64) (k' := .i64) (xs := x0) (i := (wi ((x0.length : Int) - 1))) (by kernel_rfl) h6 h7) ?_
   refine W.guard true (w := ((decide ((x0.length : Int) = 0)) == false)) (by kernel_rfl) (congrArg (fun b => b == false) (decide_eq_false h5)) ?_
   refine W.adv 1 ?_
   refine W.guard true (w := ((decide ((x0.length : Int) = 0)) == false)) (by kernel_rfl) (congrArg (fun b => b == false) (decide_eq_false h5)) ?_
   refine W.adv 1 ?_
   refine W.opS (OpIs.pk false (t := (decide ((x0.length : Int) = 0))) (x := (.bool true)) (y := (.bool (!(decide ((x0.getD (wi ((x0.length : Int) - 1)).toNat 0) = 0))))) (by kernel_rfl) (decide_eq_false h5)) ?_
   refine W.adv 4 ?_
   exact W.fin (x := .ret) (by kernel_rfl) (Ans.of (d := (.bool (!(decide ((x0.getD (wi ((x0.length : Int) - 1)).toNat 0) = 0))))) (d' := (.bool (!(decide ((x0.getD (wi ((x0.length : Int) - 1)).toNat 0) = 0))))) (e' := (.bool (!(decide ((x0.getD (wi ((x0.length : Int) - 1)).toNat 0) = 0))))) (by kernel_rfl) (by kernel_rfl) (by kernel_rfl) (by rw [H]))
theorem nat_May_go {a0 : List Int} {z : Bool} (H : (nat_May_l0 a0 a0 (a0.length : Int) 0 z)) : nat_May_R a0 z := by
 refine W.ic (zs := [.ints .u64 a0]) Tryz.func209 (by kernel_rfl) (by kernel_rfl) (by kernel_rfl) (by kernel_rfl) ?_
 refine W.adv 14 ?_
 exact W.to_loop (P := nat_May_l0_s a0 a0 (a0.length : Int) 0) (H ) (by kernel_rfl)
theorem limb_Mul_go {a0 : Int} {a1 : Int} {a2 : Int} {a3 : Int} {zt0 : Int} {zt1 : Int} (H : (∃ t1, t1 = (wu ((wu ((bits .and .u64 a0 4294967295) * (bits .and .u64 a1 4294967295))) + (bits .and .u64 a2 4294967295))) ∧ (zt0 = (bits .and .u64 (wu (t1 + (bits .and .u64 a3 4294967295))) 4294967295) ∧ zt1 = ((wu (t1 + (bits .and .u64 a3 4294967295))) / 2 ^ 32)))) : limb_Mul_R a0 a1 a2 a3 zt0 zt1 := by
 refine W.ic (zs := [.int .u64 a0, .int .u64 a1, .int .u64 a2, .int .u64 a3]) Tryz.func214 (by kernel_rfl) (by kernel_rfl) (by kernel_rfl) (by kernel_rfl) ?_
 refine W.adv 15 ?_
 obtain ⟨t1, ht2, H⟩ := H
 refine W.opS (OpIs.bnN (k := .u64) (op := .add) (x := (.int .u64 (wu ((bits .and .u64 a0 4294967295) * (bits .and .u64 a1 4294967295))))) (y := (.int .u64 (bits .and .u64 a2 4294967295))) (by kernel_rfl) ht2 (by kernel_rfl)) ?_
 refine W.adv 17 ?_
 exact W.fin (x := .ret) (by kernel_rfl) (Ans.of (d := (.tuple [(.int .u64 (bits .and .u64 (wu (t1 + (bits .and .u64 a3 4294967295))) 4294967295)), (.int .u64 ((wu (t1 + (bits .and .u64 a3 4294967295))) / 2 ^ 32))])) (d' := (.tuple [(.int .u64 (bits .and .u64 (wu (t1 + (bits .and .u64 a3 4294967295))) 4294967295)), (.int .u64 ((wu (t1 + (bits .and .u64 a3 4294967295))) / 2 ^ 32))])) (e' := (.tuple [(.int .u64 (bits .and .u64 (wu (t1 + (bits .and .u64 a3 4294967295))) 4294967295)), (.int .u64 ((wu (t1 + (bits .and .u64 a3 4294967295))) / 2 ^ 32))])) (by kernel_rfl) (by kernel_rfl) (by kernel_rfl) (by rw [H.1, H.2]))
theorem limb_Div_go {a0 : Int} {a1 : Int} {a2 : Int} {zt0 : Int} {zt1 : Int} {zt2 : Int} (H : (((bits .and .u64 a2 4294967295) = 0 ∧ (zt0 = 0 ∧ zt1 = 0 ∧ zt2 = 3)) ∨ (¬ (bits .and .u64 a2 4294967295) = 0 ∧ (((bits .and .u64 a2 4294967295) ≤ (bits .and .u64 a0 4294967295) ∧ (zt0 = 0 ∧ zt1 = 0 ∧ zt2 = 2)) ∨ (¬ (bits .and .u64 a2 4294967295) ≤ (bits .and .u64 a0 4294967295) ∧ (∃ t3, t3 = (bits .or .u64 (wu ((bits .and .u64 a0 4294967295) * 2 ^ 32)) (bits .and .u64 a1 4294967295)) ∧ ((bits .and .u64 a2 4294967295) ≠ 0 ∧ (zt0 = (wu (t3.tdiv (bits .and .u64 a2 4294967295))) ∧ zt1 = (t3.tmod (bits .and .u64 a2 4294967295)) ∧ zt2 = 0)))))))) : limb_Div_R a0 a1 a2 zt0 zt1 zt2 := by
 refine W.ic (zs := [.int .u64 a0, .int .u64 a1, .int .u64 a2]) Tryz.func217 (by kernel_rfl) (by kernel_rfl) (by kernel_rfl) (by kernel_rfl) ?_
 refine W.adv 29 ?_
 rcases H with ⟨h1, H⟩ | ⟨h1, H⟩
 ·refine W.cond true (w := (decide ((bits .and .u64 a2 4294967295) = 0))) (by kernel_rfl) (decide_eq_true h1) ?_
  refine W.adv 10 ?_
  exact W.fin (x := .ret) (by kernel_rfl) (Ans.of (d := (.tuple [.int .u64 0, .int .u64 0, .int .i64 3])) (d' := (.tuple [.int .u64 0, .int .u64 0, .int .i64 3])) (e' := (.tuple [.int .u64 0, .int .u64 0, .int .i64 3])) (by kernel_rfl) (by kernel_rfl) (by kernel_rfl) (by rw [H.1, H.2.1, H.2.2]))
 ·refine W.cond false (w := (decide ((bits .and .u64 a2 4294967295) = 0))) (by kernel_rfl) (decide_eq_false h1) ?_
  refine W.adv 8 ?_
  rcases H with ⟨h2, H⟩ | ⟨h2, H⟩
  ·refine W.cond true (w := (decide ((bits .and .u64 a2 4294967295) ≤ (bits .and .u64 a0 4294967295)))) (by kernel_rfl) (decide_eq_true h2) ?_
   refine W.adv 10 ?_
   exact W.fin (x := .ret) (by kernel_rfl) (Ans.of (d := (.tuple [.int .u64 0, .int .u64 0, .int .i64 2])) (d' := (.tuple [.int .u64 0, .int .u64 0, .int .i64 2])) (e' := (.tuple [.int .u64 0, .int .u64 0, .int .i64 2])) (by kernel_rfl) (by kernel_rfl) (by kernel_rfl) (by rw [H.1, H.2.1, H.2.2]))
  ·refine W.cond false (w := (decide ((bits .and .u64 a2 4294967295) ≤ (bits .and .u64 a0 4294967295)))) (by kernel_rfl) (decide_eq_false h2) ?_
   refine W.adv 8 ?_
   obtain ⟨t3, ht4, H⟩ := H
   refine W.opS (OpIs.bnN (k := .u64) (op := .or) (x := (.int .u64 (wu ((bits .and .u64 a0 4294967295) * 2 ^ 32)))) (y := (.int .u64 (bits .and .u64 a1 4294967295))) (by kernel_rfl) ht4 (by kernel_rfl)) ?_
   refine W.adv 7 ?_
   obtain ⟨h5, H⟩ := H
   refine W.opS (OpIs.bn (op := .quo) (x := (.int .u64 t3)) (y := (.int .u64 (bits .and .u64 a2 4294967295))) (by kernel_rfl) (quoD h5)) ?_
   refine W.adv 2 ?_
   refine W.opS (OpIs.bn (op := .rem) (x := (.int .u64 t3)) (y := (.int .u64 (bits .and .u64 a2 4294967295))) (by kernel_rfl) (remD h5)) ?_
   refine W.adv 6 ?_
   exact W.fin (x := .ret) (by kernel_rfl) (Ans.of (d := (.tuple [(.int .u64 (wu (t3.tdiv (bits .and .u64 a2 4294967295)))), (.int .u64 (t3.tmod (bits .and .u64 a2 4294967295))), .int .i64 0])) (d' := (.tuple [(.int .u64 (wu (t3.tdiv (bits .and .u64 a2 4294967295)))), (.int .u64 (t3.tmod (bits .and .u64 a2 4294967295))), .int .i64 0])) (e' := (.tuple [(.int .u64 (wu (t3.tdiv (bits .and .u64 a2 4294967295)))), (.int .u64 (t3.tmod (bits .and .u64 a2 4294967295))), .int .i64 0])) (by kernel_rfl) (by kernel_rfl) (by kernel_rfl) (by rw [H.1, H.2.1, H.2.2]))
noncomputable def limb_Bits_l0_s (x0 : Int) (x3 : Int) (x5 : Int) (j : Nat → D) (jb : Nat → Blk) (vs : Nat → Nat) : Cf := cfAt Tryz.f218 [1, 1, 0, 1, 0] ⟨[.int .u64 x0, j 1, j 2, .int .i64 x3, j 4, .int .i64 x5, j 6, j 7, j 8, j 9, j 10, j 11, j 12, j 13, j 14, j 15, j 16], [jb 0, jb 1, jb 2, jb 3, jb 4, jb 5, jb 6, jb 7, jb 8, jb 9, jb 10, jb 11, jb 12, jb 13, jb 14, jb 15, jb 16]⟩
def limb_Bits_l0 (x0 : Int) (x3 : Int) (x5 : Int) (z : Int) : Prop := ∀ j jb vs, W C F 218 0 (limb_Bits_l0_s x0 x3 x5  j jb vs) (Ans C Tryz.f218 (.int .i64 z))
theorem limb_Bits_l0_go {x0 : Int} {x3 : Int} {x5 : Int} {z : Int} (H : ((x5 < 32 ∧ (0 ≤ x5 ∧ (((bits .and .u64 (x0 / 2 ^ (min (x5).toNat 64)) 1) = 1 ∧ (limb_Bits_l0 x0 (wi (x5 + 1)) (wi (x5 + 1)) z)) ∨ (¬ (bits .and .u64 (x0 / 2 ^ (min (x5).toNat 64)) 1) = 1 ∧ (limb_Bits_l0 x0 x3 (wi (x5 + 1)) z))))) ∨ (¬ x5 < 32 ∧ (z = x3)))) : limb_Bits_l0 x0 x3 x5 z := by
 intro j jb vs
 refine W.adv 1 ?_
 refine W.adv 6 ?_
 rcases H with ⟨h1, H⟩ | ⟨h1, H⟩
 ·refine W.cond true (w := (decide (x5 < 32))) (by kernel_rfl) (decide_eq_true h1) ?_
  refine W.adv 14 ?_
  obtain ⟨h2, H⟩ := H
  refine W.opS (OpIs.bn (op := .shr) (x := (.int .u64 x0)) (y := (.int .i64 x5)) (by kernel_rfl) (shrD h2)) ?_
  refine W.adv 4 ?_
  rcases H with ⟨h3, H⟩ | ⟨h3, H⟩
  ·refine W.cond true (w := (decide ((bits .and .u64 (x0 / 2 ^ (min (x5).toNat 64)) 1) = 1))) (by kernel_rfl) (decide_eq_true h3) ?_
   refine W.adv 12 ?_
   exact W.to_loop (P := limb_Bits_l0_s x0 (wi (x5 + 1)) (wi (x5 + 1))) (H ) (by kernel_rfl)
  ·refine W.cond false (w := (decide ((bits .and .u64 (x0 / 2 ^ (min (x5).toNat 64)) 1) = 1))) (by kernel_rfl) (decide_eq_false h3) ?_
   refine W.adv 8 ?_
   exact W.to_loop (P := limb_Bits_l0_s x0 x3 (wi (x5 + 1))) (H ) (by kernel_rfl)
 ·refine W.cond false (w := (decide (x5 < 32))) (by kernel_rfl) (decide_eq_false h1) ?_
  refine W.adv 12 ?_
  exact W.fin (x := .ret) (by kernel_rfl) (Ans.of (d := (.int .i64 x3)) (d' := (.int .i64 x3)) (e' := (.int .i64 x3)) (by kernel_rfl) (by kernel_rfl) (by kernel_rfl) (by rw [H]))
theorem limb_Bits_go {a0 : Int} {z : Int} (H : (limb_Bits_l0 a0 0 0 z)) : limb_Bits_R a0 z := by
 refine W.ic (zs := [.int .u64 a0]) Tryz.func218 (by kernel_rfl) (by kernel_rfl) (by kernel_rfl) (by kernel_rfl) ?_
 refine W.adv 17 ?_
 exact W.to_loop (P := limb_Bits_l0_s a0 0 0) (H ) (by kernel_rfl)
noncomputable def nat_Shl_l0_s (x1 : Int) (x28 : List Int) (x29 : Int) (x30 : Int) (r27 : List Int) (n27 : Nat) (j : Nat → D) (jb : Nat → Blk) (vs : Nat → Nat) : Cf := cfAt Tryz.f219 [1, 1, 1, 0, 1, 0] ⟨[j 0, .int .i64 x1, j 2, j 3, j 4, j 5, j 6, .sref 27 1 1 0 n27, j 8, j 9, j 10, j 11, j 12, j 13, j 14, j 15, j 16, j 17, j 18, j 19, j 20, j 21, j 22, j 23, j 24, j 25, j 26, j 27, .ints .u64 x28, .int .i64 x29, .int .i64 x30, j 31, j 32, j 33, j 34, j 35, j 36, j 37, j 38, j 39, j 40, j 41, j 42, j 43, j 44, j 45, j 46, j 47, j 48, j 49, j 50, j 51, j 52, j 53, j 54, j 55, j 56, j 57, j 58, j 59], [jb 0, jb 1, jb 2, jb 3, jb 4, jb 5, jb 6, jb 7, jb 8, jb 9, jb 10, jb 11, jb 12, jb 13, jb 14, jb 15, jb 16, jb 17, jb 18, jb 19, jb 20, jb 21, jb 22, jb 23, jb 24, jb 25, jb 26, ⟨1, false, .ints .u64 r27⟩, jb 28, jb 29, jb 30, jb 31, jb 32, jb 33, jb 34, jb 35, jb 36, jb 37, jb 38, jb 39, jb 40, jb 41, jb 42, jb 43, jb 44, jb 45, jb 46, jb 47, jb 48, jb 49, jb 50, jb 51, jb 52, jb 53, jb 54, jb 55, jb 56, jb 57, jb 58, jb 59]⟩
def nat_Shl_l0 (x1 : Int) (x28 : List Int) (x29 : Int) (x30 : Int) (r27 : List Int) (zt0 : List Int) (zt1 : Int) : Prop := ∀ n27, n27 = r27.length → ∀ j jb vs, W C F 219 0 (nat_Shl_l0_s x1 x28 x29 x30 r27 n27 j jb vs) (Ans C Tryz.f219 (.tuple [.ints .u64 zt0, .int .i64 zt1]))
theorem nat_Shl_l0_go {x1 : Int} {x28 : List Int} {x29 : Int} {x30 : Int} {r27 : List Int} {zt0 : List Int} {zt1 : Int} (H : ((x30 < x29 ∧ (0 ≤ x30 ∧ (x30 < (x28.length : Int) ∧ (0 ≤ (x1.tmod 32) ∧ (0 ≤ (wi (x30 + (wi (x1.tdiv 32)))) ∧ ((wi (x30 + (wi (x1.tdiv 32)))) < (r27.length : Int) ∧ (∃ t16, t16 = ((wu ((x28.getD (x30).toNat 0) * 2 ^ (min (x1.tmod 32).toNat 64))).tmod 4294967296) ∧ (∃ y18, y18 = r27.set (wi (x30 + (wi (x1.tdiv 32)))).toNat (bits .or .u64 (r27.getD (wi (x30 + (wi (x1.tdiv 32)))).toNat 0) t16) ∧ (∃ t21, t21 = ((wu ((x28.getD (x30).toNat 0) * 2 ^ (min (x1.tmod 32).toNat 64))) / 2 ^ 32) ∧ (0 ≤ (wi ((wi (x30 + (wi (x1.tdiv 32)))) + 1)) ∧ ((wi ((wi (x30 + (wi (x1.tdiv 32)))) + 1)) < (y18.length : Int) ∧ (∃ y25, y25 = y18.set (wi ((wi (x30 + (wi (x1.tdiv 32)))) + 1)).toNat t21 ∧ (nat_Shl_l0 x1 x28 x29 (wi (x30 + 1)) y25 zt0 zt1))))))))))))) ∨ (¬ x30 < x29 ∧ (∃ c28 : List Int, (nat_trim_R r27 c28 ∧ (zt0 = c28 ∧ zt1 = 0)))))) : nat_Shl_l0 x1 x28 x29 x30 r27 zt0 zt1 := by
 intro n27 ln_27 j jb vs
 refine W.adv 1 ?_
 refine W.adv 6 ?_
 rcases H with ⟨h10, H⟩ | ⟨h10, H⟩
 ·refine W.cond true (w := (decide (x30 < x29))) (by kernel_rfl) (decide_eq_true h10) ?_
  refine W.adv 7 ?_
  obtain ⟨h11, h12, H⟩ := H
  refine W.opS (OpIs.ixI (k := .u64) (k' := .i64) (xs := x28) (i := x30) (by kernel_rfl) h11 h12) ?_
  refine W.adv 19 ?_
  obtain ⟨h13, H⟩ := H
  refine W.opS (OpIs.bn (op := .shl) (x := (.int .u64 (x28.getD (x30).toNat 0))) (y := (.int .i64 (x1.tmod 32))) (by kernel_rfl) (shlD h13)) ?_
  refine W.adv 7 ?_
  obtain ⟨h14, h15, H⟩ := H
  refine W.opS (OpIs.ixR (k' := .i64) (b := 27) (v := 1) (sz := 1) (len := n27) (i := (wi (x30 + (wi (x1.tdiv 32))))) (by kernel_rfl) h14 (by rw [ln_27]; exact h15)) ?_
  refine W.opS (OpIs.ldI (b := 27) (v := 1) (i := (wi (x30 + (wi (x1.tdiv 32)))).toNat) (w := 1) (fz := false) (k := .u64) (xs := r27) (by kernel_rfl) rfl (by omega)) ?_
  refine W.adv 1 ?_
  obtain ⟨t16, ht17, H⟩ := H
  refine W.opS (OpIs.bnN (k := .u64) (op := .rem) (x := (.int .u64 (wu ((x28.getD (x30).toNat 0) * 2 ^ (min (x1.tmod 32).toNat 64))))) (y := (.int .u64 4294967296)) (by kernel_rfl) ht17 (by kernel_rfl)) ?_
  refine W.adv 1 ?_
  refine W.opS (OpIs.ixR (k' := .i64) (b := 27) (v := 1) (sz := 1) (len := n27) (i := (wi (x30 + (wi (x1.tdiv 32))))) (by kernel_rfl) h14 (by rw [ln_27]; exact h15)) ?_
  obtain ⟨y18, hy19, H⟩ := H
  have ln20 : n27 = y18.length := by rw [hy19, List.length_set]; exact ln_27
  refine W.opH (OpIs.stN (b := 27) (v := 1) (i := (wi (x30 + (wi (x1.tdiv 32)))).toNat) (w := 1) (k := .u64) (xs := r27) (n := (bits .or .u64 (r27.getD (wi (x30 + (wi (x1.tdiv 32)))).toNat 0) t16)) (by kernel_rfl) hy19 rfl (by omega)) ?_
  refine W.adv 7 ?_
  obtain ⟨t21, ht22, H⟩ := H
  refine W.opS (OpIs.bnN (k := .u64) (op := .shr) (x := (.int .u64 (wu ((x28.getD (x30).toNat 0) * 2 ^ (min (x1.tmod 32).toNat 64))))) (y := (.int .u64 32)) (by kernel_rfl) ht22 (by kernel_rfl)) ?_
  obtain ⟨h23, h24, H⟩ := H
  refine W.opS (OpIs.ixR (k' := .i64) (b := 27) (v := 1) (sz := 1) (len := n27) (i := (wi ((wi (x30 + (wi (x1.tdiv 32)))) + 1))) (by kernel_rfl) h23 (by rw [ln20]; exact h24)) ?_
  obtain ⟨y25, hy26, H⟩ := H
  have ln27 : n27 = y25.length := by rw [hy26, List.length_set]; exact ln20
  refine W.opH (OpIs.stN (b := 27) (v := 1) (i := (wi ((wi (x30 + (wi (x1.tdiv 32)))) + 1)).toNat) (w := 1) (k := .u64) (xs := y18) (n := t21) (by kernel_rfl) hy26 rfl (by omega)) ?_
  refine W.adv 8 ?_
  exact W.to_loop (P := nat_Shl_l0_s x1 x28 x29 (wi (x30 + 1)) y25 n27) (H _ ln27) (by kernel_rfl)
 ·refine W.cond false (w := (decide (x30 < x29))) (by kernel_rfl) (decide_eq_false h10) ?_
  refine W.adv 8 ?_
  obtain ⟨c28, hc29, H⟩ := H
  refine W.callR (g := 183) (ds := [.sref 27 1 1 0 n27]) (es := [.ints .u64 r27]) (r := (.ints .u64 c28)) (by kernel_rfl) (rf_cons (rf_full (b := 27) (v := 1) (w := 1) (fz := false) (k := .u64) (xs := r27) (by kernel_rfl) rfl ln_27) rf_nil) (Ic.args hc29 (by kernel_rfl)) (by kernel_rfl) ?_
  refine W.adv 5 ?_
  exact W.fin (x := .ret) (by kernel_rfl) (Ans.of (d := (.tuple [.ints .u64 c28, .int .i64 0])) (d' := (.tuple [.ints .u64 c28, .int .i64 0])) (e' := (.tuple [.ints .u64 c28, .int .i64 0])) (by kernel_rfl) (by kernel_rfl) (by kernel_rfl) (by rw [H.1, H.2]))
theorem nat_Shl_go {a0 : List Int} {a1 : Int} {zt0 : List Int} {zt1 : Int} (H : (∃ c1 : Int, (nat_shift_R a1 c1 ∧ ((c1 = 0 ∧ (((a0.length : Int) = 0 ∧ (zt0 = [] ∧ zt1 = c1)) ∨ (¬ (a0.length : Int) = 0 ∧ (0 ≤ (wi ((wi ((a0.length : Int) + (wi (a1.tdiv 32)))) + 1)) ∧ (8 * (wi ((wi ((a0.length : Int) + (wi (a1.tdiv 32)))) + 1)) ≤ 140737488351232 ∧ (∃ y5, y5 = List.replicate (wi ((wi ((a0.length : Int) + (wi (a1.tdiv 32)))) + 1)).toNat 0 ∧ (nat_Shl_l0 a1 a0 (a0.length : Int) 0 y5 zt0 zt1))))))) ∨ (¬ c1 = 0 ∧ (zt0 = [] ∧ zt1 = c1)))))) : nat_Shl_R a0 a1 zt0 zt1 := by
 refine W.ic (zs := [.ints .u64 a0, .int .i64 a1]) Tryz.func219 (by kernel_rfl) (by kernel_rfl) (by kernel_rfl) (by kernel_rfl) ?_
 refine W.adv 10 ?_
 obtain ⟨c1, hc2, H⟩ := H
 refine W.callR (g := 224) (ds := [.int .i64 a1]) (es := [.int .i64 a1]) (r := (.int .i64 c1)) (by kernel_rfl) (by kernel_rfl) (Ic.args hc2 (by kernel_rfl)) (by kernel_rfl) ?_
 refine W.adv 8 ?_
 rcases H with ⟨h3, H⟩ | ⟨h3, H⟩
 ·refine W.guard true (w := ((!(decide (c1 = 0))) == false)) (by kernel_rfl) (congrArg (fun b => b == false) (congrArg (fun b => !b) (decide_eq_true h3))) ?_
  refine W.adv 1 ?_
  refine W.guard true (w := ((!(decide (c1 = 0))) == false)) (by kernel_rfl) (congrArg (fun b => b == false) (congrArg (fun b => !b) (decide_eq_true h3))) ?_
  refine W.adv 1 ?_
  refine W.guard true (w := ((!(decide (c1 = 0))) == false)) (by kernel_rfl) (congrArg (fun b => b == false) (congrArg (fun b => !b) (decide_eq_true h3))) ?_
  refine W.adv 1 ?_
  refine W.opS (OpIs.pk false (t := (!(decide (c1 = 0)))) (x := (.bool true)) (y := (.bool (decide ((a0.length : Int) = 0)))) (by kernel_rfl) (congrArg (fun b => !b) (decide_eq_true h3))) ?_
  refine W.adv 2 ?_
  rcases H with ⟨h4, H⟩ | ⟨h4, H⟩
  ·refine W.cond true (w := (decide ((a0.length : Int) = 0))) (by kernel_rfl) (decide_eq_true h4) ?_
   refine W.adv 9 ?_
   exact W.fin (x := .ret) (by kernel_rfl) (Ans.of (d := (.tuple [.nilS, .int .i64 c1])) (d' := (.tuple [.nilS, .int .i64 c1])) (e' := (.tuple [.ints .u64 [], .int .i64 c1])) (by kernel_rfl) (by kernel_rfl) (by kernel_rfl) (by rw [H.1, H.2]))
  ·refine W.cond false (w := (decide ((a0.length : Int) = 0))) (by kernel_rfl) (decide_eq_false h4) ?_
   refine W.adv 10 ?_
   obtain ⟨h8, h9, H⟩ := H
   obtain ⟨y5, hy6, H⟩ := H
   have ln7 : (wi ((wi ((a0.length : Int) + (wi (a1.tdiv 32)))) + 1)).toNat = y5.length := by rw [hy6, List.length_replicate]
   refine W.opH (OpIs.msN (k1 := .i64) (k2 := .i64) (k := .u64) (n := (wi ((wi ((a0.length : Int) + (wi (a1.tdiv 32)))) + 1))) (m := (wi ((wi ((a0.length : Int) + (wi (a1.tdiv 32)))) + 1))) (y := 8) (b := 27) (v := 0) (by kernel_rfl) hy6 h8 (Int.le_refl _) h9 (by omega)) ?_
   refine W.adv 12 ?_
   exact W.to_loop (P := nat_Shl_l0_s a1 a0 (a0.length : Int) 0 y5 ((wi ((wi ((a0.length : Int) + (wi (a1.tdiv 32)))) + 1)).toNat)) (H _ ln7) (by kernel_rfl)
 ·refine W.guard false (w := ((!(decide (c1 = 0))) == false)) (by kernel_rfl) (congrArg (fun b => b == false) (congrArg (fun b => !b) (decide_eq_false h3))) ?_
  refine W.guard false (w := ((!(decide (c1 = 0))) == false)) (by kernel_rfl) (congrArg (fun b => b == false) (congrArg (fun b => !b) (decide_eq_false h3))) ?_
  refine W.guard false (w := ((!(decide (c1 = 0))) == false)) (by kernel_rfl) (congrArg (fun b => b == false) (congrArg (fun b => !b) (decide_eq_false h3))) ?_
  refine W.opS (OpIs.pk true (t := (!(decide (c1 = 0)))) (x := (.bool true)) (y := (.tuple [])) (by kernel_rfl) (congrArg (fun b => !b) (decide_eq_false h3))) ?_
  refine W.adv 12 ?_
  exact W.fin (x := .ret) (by kernel_rfl) (Ans.of (d := (.tuple [.nilS, .int .i64 c1])) (d' := (.tuple [.nilS, .int .i64 c1])) (e' := (.tuple [.ints .u64 [], .int .i64 c1])) (by kernel_rfl) (by kernel_rfl) (by kernel_rfl) (by rw [H.1, H.2]))
noncomputable def nat_Shr_l0_s (x0 : List Int) (x1 : Int) (x29 : Int) (x30 : Int) (r27 : List Int) (n27 : Nat) (j : Nat → D) (jb : Nat → Blk) (vs : Nat → Nat) : Cf := cfAt Tryz.f223 [1, 1, 1, 0, 1, 0] ⟨[.ints .u64 x0, .int .i64 x1, j 2, j 3, j 4, j 5, j 6, .sref 27 1 1 0 n27, j 8, j 9, j 10, j 11, j 12, j 13, j 14, j 15, j 16, j 17, j 18, j 19, j 20, j 21, j 22, j 23, j 24, j 25, j 26, j 27, j 28, .int .i64 x29, .int .i64 x30, j 31, j 32, j 33, j 34, j 35, j 36, j 37, j 38, j 39, j 40, j 41, j 42, j 43, j 44, j 45, j 46, j 47, j 48, j 49, j 50, j 51, j 52, j 53, j 54, j 55, j 56], [jb 0, jb 1, jb 2, jb 3, jb 4, jb 5, jb 6, jb 7, jb 8, jb 9, jb 10, jb 11, jb 12, jb 13, jb 14, jb 15, jb 16, jb 17, jb 18, jb 19, jb 20, jb 21, jb 22, jb 23, jb 24, jb 25, jb 26, ⟨1, false, .ints .u64 r27⟩, jb 28, jb 29, jb 30, jb 31, jb 32, jb 33, jb 34, jb 35, jb 36, jb 37, jb 38, jb 39, jb 40, jb 41, jb 42, jb 43, jb 44, jb 45, jb 46, jb 47, jb 48, jb 49, jb 50, jb 51, jb 52, jb 53, jb 54, jb 55, jb 56]⟩
def nat_Shr_l0 (x0 : List Int) (x1 : Int) (x29 : Int) (x30 : Int) (r27 : List Int) (zt0 : List Int) (zt1 : Int) : Prop := ∀ n27, n27 = r27.length → ∀ j jb vs, W C F 223 0 (nat_Shr_l0_s x0 x1 x29 x30 r27 n27 j jb vs) (Ans C Tryz.f223 (.tuple [.ints .u64 zt0, .int .i64 zt1]))
theorem nat_Shr_l0_go {x0 : List Int} {x1 : Int} {x29 : Int} {x30 : Int} {r27 : List Int} {zt0 : List Int} {zt1 : Int} (H : ((x30 < x29 ∧ (0 ≤ (wi (x30 + (wi (x1.tdiv 32)))) ∧ ((wi (x30 + (wi (x1.tdiv 32)))) < (x0.length : Int) ∧ (∃ c13 : Int, (nat_at_R x0 (wi ((wi (x30 + (wi (x1.tdiv 32)))) + 1)) c13 ∧ (∃ t15, t15 = (bits .or .u64 (x0.getD (wi (x30 + (wi (x1.tdiv 32)))).toNat 0) (wu (c13 * 2 ^ 32))) ∧ (0 ≤ (x1.tmod 32) ∧ (0 ≤ x30 ∧ (x30 < (r27.length : Int) ∧ (∃ y20, y20 = r27.set (x30).toNat ((t15 / 2 ^ (min (x1.tmod 32).toNat 64)).tmod 4294967296) ∧ (nat_Shr_l0 x0 x1 x29 (wi (x30 + 1)) y20 zt0 zt1))))))))))) ∨ (¬ x30 < x29 ∧ (∃ c23 : List Int, (nat_trim_R r27 c23 ∧ (zt0 = c23 ∧ zt1 = 0)))))) : nat_Shr_l0 x0 x1 x29 x30 r27 zt0 zt1 := by
 intro n27 ln_27 j jb vs
 refine W.adv 1 ?_
 refine W.adv 6 ?_
 rcases H with ⟨h10, H⟩ | ⟨h10, H⟩
 ·refine W.cond true (w := (decide (x30 < x29))) (by kernel_rfl) (decide_eq_true h10) ?_
  refine W.adv 24 ?_
  obtain ⟨h11, h12, H⟩ := H
  refine W.opS (OpIs.ixI (k := .u64) (k' := .i64) (xs := x0) (i := (wi (x30 + (wi (x1.tdiv 32))))) (by kernel_rfl) h11 h12) ?_
  refine W.adv 4 ?_
  obtain ⟨c13, hc14, H⟩ := H
  refine W.callR (g := 182) (ds := [.ints .u64 x0, (.int .i64 (wi ((wi (x30 + (wi (x1.tdiv 32)))) + 1)))]) (es := [.ints .u64 x0, (.int .i64 (wi ((wi (x30 + (wi (x1.tdiv 32)))) + 1)))]) (r := (.int .u64 c13)) (by kernel_rfl) (by kernel_rfl) (Ic.args hc14 (by kernel_rfl)) (by kernel_rfl) ?_
  refine W.adv 1 ?_
  obtain ⟨t15, ht16, H⟩ := H
  refine W.opS (OpIs.bnN (k := .u64) (op := .or) (x := (.int .u64 (x0.getD (wi (x30 + (wi (x1.tdiv 32)))).toNat 0))) (y := (.int .u64 (wu (c13 * 2 ^ 32)))) (by kernel_rfl) ht16 (by kernel_rfl)) ?_
  refine W.adv 2 ?_
  obtain ⟨h17, H⟩ := H
  refine W.opS (OpIs.bn (op := .shr) (x := (.int .u64 t15)) (y := (.int .i64 (x1.tmod 32))) (by kernel_rfl) (shrD h17)) ?_
  refine W.adv 1 ?_
  obtain ⟨h18, h19, H⟩ := H
  refine W.opS (OpIs.ixR (k' := .i64) (b := 27) (v := 1) (sz := 1) (len := n27) (i := x30) (by kernel_rfl) h18 (by rw [ln_27]; exact h19)) ?_
  obtain ⟨y20, hy21, H⟩ := H
  have ln22 : n27 = y20.length := by rw [hy21, List.length_set]; exact ln_27
  refine W.opH (OpIs.stN (b := 27) (v := 1) (i := (x30).toNat) (w := 1) (k := .u64) (xs := r27) (n := ((t15 / 2 ^ (min (x1.tmod 32).toNat 64)).tmod 4294967296)) (by kernel_rfl) hy21 rfl (by omega)) ?_
  refine W.adv 8 ?_
  exact W.to_loop (P := nat_Shr_l0_s x0 x1 x29 (wi (x30 + 1)) y20 n27) (H _ ln22) (by kernel_rfl)
 ·refine W.cond false (w := (decide (x30 < x29))) (by kernel_rfl) (decide_eq_false h10) ?_
  refine W.adv 8 ?_
  obtain ⟨c23, hc24, H⟩ := H
  refine W.callR (g := 183) (ds := [.sref 27 1 1 0 n27]) (es := [.ints .u64 r27]) (r := (.ints .u64 c23)) (by kernel_rfl) (rf_cons (rf_full (b := 27) (v := 1) (w := 1) (fz := false) (k := .u64) (xs := r27) (by kernel_rfl) rfl ln_27) rf_nil) (Ic.args hc24 (by kernel_rfl)) (by kernel_rfl) ?_
  refine W.adv 5 ?_
  exact W.fin (x := .ret) (by kernel_rfl) (Ans.of (d := (.tuple [.ints .u64 c23, .int .i64 0])) (d' := (.tuple [.ints .u64 c23, .int .i64 0])) (e' := (.tuple [.ints .u64 c23, .int .i64 0])) (by kernel_rfl) (by kernel_rfl) (by kernel_rfl) (by rw [H.1, H.2]))
theorem nat_Shr_go {a0 : List Int} {a1 : Int} {zt0 : List Int} {zt1 : Int} (H : (∃ c1 : Int, (nat_shift_R a1 c1 ∧ ((c1 = 0 ∧ (((a0.length : Int) ≤ (wi (a1.tdiv 32)) ∧ (zt0 = [] ∧ zt1 = c1)) ∨ (¬ (a0.length : Int) ≤ (wi (a1.tdiv 32)) ∧ (0 ≤ (wi ((a0.length : Int) - (wi (a1.tdiv 32)))) ∧ (8 * (wi ((a0.length : Int) - (wi (a1.tdiv 32)))) ≤ 140737488351232 ∧ (∃ y5, y5 = List.replicate (wi ((a0.length : Int) - (wi (a1.tdiv 32)))).toNat 0 ∧ (nat_Shr_l0 a0 a1 (y5.length : Int) 0 y5 zt0 zt1))))))) ∨ (¬ c1 = 0 ∧ (zt0 = [] ∧ zt1 = c1)))))) : nat_Shr_R a0 a1 zt0 zt1 := by
 refine W.ic (zs := [.ints .u64 a0, .int .i64 a1]) Tryz.func223 (by kernel_rfl) (by kernel_rfl) (by kernel_rfl) (by kernel_rfl) ?_
 refine W.adv 10 ?_
 obtain ⟨c1, hc2, H⟩ := H
 refine W.callR (g := 224) (ds := [.int .i64 a1]) (es := [.int .i64 a1]) (r := (.int .i64 c1)) (by kernel_rfl) (by kernel_rfl) (Ic.args hc2 (by kernel_rfl)) (by kernel_rfl) ?_
 refine W.adv 8 ?_
 rcases H with ⟨h3, H⟩ | ⟨h3, H⟩
 ·refine W.guard true (w := ((!(decide (c1 = 0))) == false)) (by kernel_rfl) (congrArg (fun b => b == false) (congrArg (fun b => !b) (decide_eq_true h3))) ?_
  refine W.adv 1 ?_
  refine W.guard true (w := ((!(decide (c1 = 0))) == false)) (by kernel_rfl) (congrArg (fun b => b == false) (congrArg (fun b => !b) (decide_eq_true h3))) ?_
  refine W.adv 1 ?_
  refine W.guard true (w := ((!(decide (c1 = 0))) == false)) (by kernel_rfl) (congrArg (fun b => b == false) (congrArg (fun b => !b) (decide_eq_true h3))) ?_
  refine W.adv 1 ?_
  refine W.guard true (w := ((!(decide (c1 = 0))) == false)) (by kernel_rfl) (congrArg (fun b => b == false) (congrArg (fun b => !b) (decide_eq_true h3))) ?_
  refine W.adv 1 ?_
  refine W.guard true (w := ((!(decide (c1 = 0))) == false)) (by kernel_rfl) (congrArg (fun b => b == false) (congrArg (fun b => !b) (decide_eq_true h3))) ?_
  refine W.adv 1 ?_
  refine W.opS (OpIs.pk false (t := (!(decide (c1 = 0)))) (x := (.bool true)) (y := (.bool (decide ((a0.length : Int) ≤ (wi (a1.tdiv 32)))))) (by kernel_rfl) (congrArg (fun b => !b) (decide_eq_true h3))) ?_
  refine W.adv 2 ?_
  rcases H with ⟨h4, H⟩ | ⟨h4, H⟩
  ·refine W.cond true (w := (decide ((a0.length : Int) ≤ (wi (a1.tdiv 32))))) (by kernel_rfl) (decide_eq_true h4) ?_
   refine W.adv 9 ?_
   exact W.fin (x := .ret) (by kernel_rfl) (Ans.of (d := (.tuple [.nilS, .int .i64 c1])) (d' := (.tuple [.nilS, .int .i64 c1])) (e' := (.tuple [.ints .u64 [], .int .i64 c1])) (by kernel_rfl) (by kernel_rfl) (by kernel_rfl) (by rw [H.1, H.2]))
  ·refine W.cond false (w := (decide ((a0.length : Int) ≤ (wi (a1.tdiv 32))))) (by kernel_rfl) (decide_eq_false h4) ?_
   refine W.adv 9 ?_
   obtain ⟨h8, h9, H⟩ := H
   obtain ⟨y5, hy6, H⟩ := H
   have ln7 : (wi ((a0.length : Int) - (wi (a1.tdiv 32)))).toNat = y5.length := by rw [hy6, List.length_replicate]
   refine W.opH (OpIs.msN (k1 := .i64) (k2 := .i64) (k := .u64) (n := (wi ((a0.length : Int) - (wi (a1.tdiv 32))))) (m := (wi ((a0.length : Int) - (wi (a1.tdiv 32))))) (y := 8) (b := 27) (v := 0) (by kernel_rfl) hy6 h8 (Int.le_refl _) h9 (by omega)) ?_
   refine W.adv 7 ?_
   refine W.opS (OpIs.ln (n := (wi ((a0.length : Int) - (wi (a1.tdiv 32)))).toNat) (m := y5.length) (by kernel_rfl) ln7) ?_
   refine W.adv 4 ?_
   exact W.to_loop (P := nat_Shr_l0_s a0 a1 (y5.length : Int) 0 y5 ((wi ((a0.length : Int) - (wi (a1.tdiv 32)))).toNat)) (H _ ln7) (by kernel_rfl)
 ·refine W.guard false (w := ((!(decide (c1 = 0))) == false)) (by kernel_rfl) (congrArg (fun b => b == false) (congrArg (fun b => !b) (decide_eq_false h3))) ?_
  refine W.guard false (w := ((!(decide (c1 = 0))) == false)) (by kernel_rfl) (congrArg (fun b => b == false) (congrArg (fun b => !b) (decide_eq_false h3))) ?_
  refine W.guard false (w := ((!(decide (c1 = 0))) == false)) (by kernel_rfl) (congrArg (fun b => b == false) (congrArg (fun b => !b) (decide_eq_false h3))) ?_
  refine W.guard false (w := ((!(decide (c1 = 0))) == false)) (by kernel_rfl) (congrArg (fun b => b == false) (congrArg (fun b => !b) (decide_eq_false h3))) ?_
  refine W.guard false (w := ((!(decide (c1 = 0))) == false)) (by kernel_rfl) (congrArg (fun b => b == false) (congrArg (fun b => !b) (decide_eq_false h3))) ?_
  refine W.opS (OpIs.pk true (t := (!(decide (c1 = 0)))) (x := (.bool true)) (y := (.tuple [])) (by kernel_rfl) (congrArg (fun b => !b) (decide_eq_false h3))) ?_
  refine W.adv 12 ?_
  exact W.fin (x := .ret) (by kernel_rfl) (Ans.of (d := (.tuple [.nilS, .int .i64 c1])) (d' := (.tuple [.nilS, .int .i64 c1])) (e' := (.tuple [.ints .u64 [], .int .i64 c1])) (by kernel_rfl) (by kernel_rfl) (by kernel_rfl) (by rw [H.1, H.2]))
theorem nat_shift_go {a0 : Int} {z : Int} (H : ((a0 < 0 ∧ (z = 2)) ∨ (¬ a0 < 0 ∧ ((100000 < a0 ∧ (z = 2)) ∨ (¬ 100000 < a0 ∧ (z = 0)))))) : nat_shift_R a0 z := by
 refine W.ic (zs := [.int .i64 a0]) Tryz.func224 (by kernel_rfl) (by kernel_rfl) (by kernel_rfl) (by kernel_rfl) ?_
 refine W.adv 11 ?_
 rcases H with ⟨h1, H⟩ | ⟨h1, H⟩
 ·refine W.guard false (w := ((decide (a0 < 0)) == false)) (by kernel_rfl) (congrArg (fun b => b == false) (decide_eq_true h1)) ?_
  refine W.guard false (w := ((decide (a0 < 0)) == false)) (by kernel_rfl) (congrArg (fun b => b == false) (decide_eq_true h1)) ?_
  refine W.opS (OpIs.pk true (t := (decide (a0 < 0))) (x := (.bool true)) (y := (.tuple [])) (by kernel_rfl) (decide_eq_true h1)) ?_
  refine W.adv 10 ?_
  exact W.fin (x := .ret) (by kernel_rfl) (Ans.of (d := (.int .i64 2)) (d' := (.int .i64 2)) (e' := (.int .i64 2)) (by kernel_rfl) (by kernel_rfl) (by kernel_rfl) (by rw [H]))
 ·refine W.guard true (w := ((decide (a0 < 0)) == false)) (by kernel_rfl) (congrArg (fun b => b == false) (decide_eq_false h1)) ?_
  refine W.adv 1 ?_
  refine W.guard true (w := ((decide (a0 < 0)) == false)) (by kernel_rfl) (congrArg (fun b => b == false) (decide_eq_false h1)) ?_
  refine W.adv 1 ?_
  refine W.opS (OpIs.pk false (t := (decide (a0 < 0))) (x := (.bool true)) (y := (.bool (decide (100000 < a0)))) (by kernel_rfl) (decide_eq_false h1)) ?_
  refine W.adv 2 ?_
  rcases H with ⟨h2, H⟩ | ⟨h2, H⟩
  ·refine W.cond true (w := (decide (100000 < a0))) (by kernel_rfl) (decide_eq_true h2) ?_
   refine W.adv 7 ?_
   exact W.fin (x := .ret) (by kernel_rfl) (Ans.of (d := (.int .i64 2)) (d' := (.int .i64 2)) (e' := (.int .i64 2)) (by kernel_rfl) (by kernel_rfl) (by kernel_rfl) (by rw [H]))
  ·refine W.cond false (w := (decide (100000 < a0))) (by kernel_rfl) (decide_eq_false h2) ?_
   refine W.adv 8 ?_
   exact W.fin (x := .ret) (by kernel_rfl) (Ans.of (d := (.int .i64 0)) (d' := (.int .i64 0)) (e' := (.int .i64 0)) (by kernel_rfl) (by kernel_rfl) (by kernel_rfl) (by rw [H]))
end Go.Proofs.YtjcdkemnflmfiaaGreatA
