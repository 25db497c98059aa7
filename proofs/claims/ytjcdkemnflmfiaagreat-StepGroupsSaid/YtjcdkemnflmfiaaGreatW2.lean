/- Walks through the functions: what makes each relation true. -/
import Derived.Test.YtjcdkemnflmfiaaGreatW0
set_option linter.unusedVariables false
set_option maxRecDepth 100000
namespace Go.Proofs.YtjcdkemnflmfiaaGreatA
open Go Go.Proofs
theorem mul_Mul_go {a0 : List Int} {a1 : List Int} {z : List Int} (H : (∃ c1 : List Int, (mul_Short_R a0 a1 c1 ∧ (z = c1)))) : mul_Mul_R a0 a1 z := by
 refine W.ic (zs := [.ints .u64 a0, .ints .u64 a1]) Tryz.func159 (by kernel_rfl) (by kernel_rfl) (by kernel_rfl) (by kernel_rfl) ?_
 refine W.adv 9 ?_
 obtain ⟨c1, hc2, H⟩ := H
 refine W.callR (g := 187) (ds := [.ints .u64 a0, .ints .u64 a1]) (es := [.ints .u64 a0, .ints .u64 a1]) (r := (.ints .u64 c1)) (by kernel_rfl) (by kernel_rfl) (Ic.args hc2 (by kernel_rfl)) (by kernel_rfl) ?_
 refine W.adv 4 ?_
 exact W.fin (x := .ret) (by kernel_rfl) (Ans.of (d := (.ints .u64 c1)) (d' := (.ints .u64 c1)) (e' := (.ints .u64 c1)) (by kernel_rfl) (by kernel_rfl) (by kernel_rfl) (by rw [H]))
theorem mul_Short_go {a0 : List Int} {a1 : List Int} {z : List Int} (H : (((mn (a0.length : Int) (a1.length : Int)) < 4 ∧ (∃ c2 : List Int, (mul_Long_R a0 a1 c2 ∧ (z = c2)))) ∨ (¬ (mn (a0.length : Int) (a1.length : Int)) < 4 ∧ (∃ c4t0 : List Int, (∃ c4t1 : List Int, (mul_cut_R a0 (wi ((wi ((mx (a0.length : Int) (a1.length : Int)) + 1)).tdiv 2)) c4t0 c4t1 ∧ (∃ c6t0 : List Int, (∃ c6t1 : List Int, (mul_cut_R a1 (wi ((wi ((mx (a0.length : Int) (a1.length : Int)) + 1)).tdiv 2)) c6t0 c6t1 ∧ (∃ c8 : List Int, (mul_Short_R c4t0 c6t0 c8 ∧ (∃ c10 : List Int, (mul_Short_R c4t1 c6t1 c10 ∧ (∃ c12 : List Int, (nat_Add_R c4t0 c4t1 c12 ∧ (∃ c14 : List Int, (nat_Add_R c6t0 c6t1 c14 ∧ (∃ c16 : List Int, (mul_Short_R c12 c14 c16 ∧ (∃ c18t0 : List Int, (∃ c18t1 : Int, (nat_Sub_R c16 c8 c18t0 c18t1 ∧ (∃ c20t0 : List Int, (∃ c20t1 : Int, (nat_Sub_R c18t0 c10 c20t0 c20t1 ∧ (∃ c22 : List Int, (mul_up_R c20t0 (wi ((wi ((mx (a0.length : Int) (a1.length : Int)) + 1)).tdiv 2)) c22 ∧ (∃ t24, t24 = (wi (2 * (wi ((wi ((mx (a0.length : Int) (a1.length : Int)) + 1)).tdiv 2)))) ∧ (∃ c26 : List Int, (mul_up_R c10 t24 c26 ∧ (∃ c28 : List Int, (nat_Sum_R [c8, c22, c26] c28 ∧ (z = c28))))))))))))))))))))))))))))))))) : mul_Short_R a0 a1 z := by
 refine W.ic (zs := [.ints .u64 a0, .ints .u64 a1]) Tryz.func187 (by kernel_rfl) (by kernel_rfl) (by kernel_rfl) (by kernel_rfl) ?_
 refine W.adv 16 ?_
 rcases H with ⟨h1, H⟩ | ⟨h1, H⟩
 ·refine W.cond true (w := (decide ((mn (a0.length : Int) (a1.length : Int)) < 4))) (by kernel_rfl) (decide_eq_true h1) ?_
  refine W.adv 4 ?_
  obtain ⟨c2, hc3, H⟩ := H
  refine W.callR (g := 201) (ds := [.ints .u64 a0, .ints .u64 a1]) (es := [.ints .u64 a0, .ints .u64 a1]) (r := (.ints .u64 c2)) (by kernel_rfl) (by kernel_rfl) (Ic.args hc3 (by kernel_rfl)) (by kernel_rfl) ?_
  refine W.adv 5 ?_
  exact W.fin (x := .ret) (by kernel_rfl) (Ans.of (d := (.ints .u64 c2)) (d' := (.ints .u64 c2)) (e' := (.ints .u64 c2)) (by kernel_rfl) (by kernel_rfl) (by kernel_rfl) (by rw [H]))
 ·refine W.cond false (w := (decide ((mn (a0.length : Int) (a1.length : Int)) < 4))) (by kernel_rfl) (decide_eq_false h1) ?_
  refine W.adv 18 ?_
  obtain ⟨c4t0, c4t1, hc5, H⟩ := H
  refine W.callR (g := 202) (ds := [.ints .u64 a0, (.int .i64 (wi ((wi ((mx (a0.length : Int) (a1.length : Int)) + 1)).tdiv 2)))]) (es := [.ints .u64 a0, (.int .i64 (wi ((wi ((mx (a0.length : Int) (a1.length : Int)) + 1)).tdiv 2)))]) (r := (.tuple [.ints .u64 c4t0, .ints .u64 c4t1])) (by kernel_rfl) (by kernel_rfl) (Ic.args hc5 (by kernel_rfl)) (by kernel_rfl) ?_
  refine W.adv 11 ?_
  obtain ⟨c6t0, c6t1, hc7, H⟩ := H
  refine W.callR (g := 202) (ds := [.ints .u64 a1, (.int .i64 (wi ((wi ((mx (a0.length : Int) (a1.length : Int)) + 1)).tdiv 2)))]) (es := [.ints .u64 a1, (.int .i64 (wi ((wi ((mx (a0.length : Int) (a1.length : Int)) + 1)).tdiv 2)))]) (r := (.tuple [.ints .u64 c6t0, .ints .u64 c6t1])) (by kernel_rfl) (by kernel_rfl) (Ic.args hc7 (by kernel_rfl)) (by kernel_rfl) ?_
  refine W.adv 11 ?_
  obtain ⟨c8, hc9, H⟩ := H
  refine W.callR (g := 187) (ds := [.ints .u64 c4t0, .ints .u64 c6t0]) (es := [.ints .u64 c4t0, .ints .u64 c6t0]) (r := (.ints .u64 c8)) (by kernel_rfl) (by kernel_rfl) (Ic.args hc9 (by kernel_rfl)) (by kernel_rfl) ?_
  refine W.adv 2 ?_
  obtain ⟨c10, hc11, H⟩ := H
  refine W.callR (g := 187) (ds := [.ints .u64 c4t1, .ints .u64 c6t1]) (es := [.ints .u64 c4t1, .ints .u64 c6t1]) (r := (.ints .u64 c10)) (by kernel_rfl) (by kernel_rfl) (Ic.args hc11 (by kernel_rfl)) (by kernel_rfl) ?_
  refine W.adv 8 ?_
  obtain ⟨c12, hc13, H⟩ := H
  refine W.callR (g := 149) (ds := [.ints .u64 c4t0, .ints .u64 c4t1]) (es := [.ints .u64 c4t0, .ints .u64 c4t1]) (r := (.ints .u64 c12)) (by kernel_rfl) (by kernel_rfl) (Ic.args hc13 (by kernel_rfl)) (by kernel_rfl) ?_
  refine W.adv 2 ?_
  obtain ⟨c14, hc15, H⟩ := H
  refine W.callR (g := 149) (ds := [.ints .u64 c6t0, .ints .u64 c6t1]) (es := [.ints .u64 c6t0, .ints .u64 c6t1]) (r := (.ints .u64 c14)) (by kernel_rfl) (by kernel_rfl) (Ic.args hc15 (by kernel_rfl)) (by kernel_rfl) ?_
  obtain ⟨c16, hc17, H⟩ := H
  refine W.callR (g := 187) (ds := [.ints .u64 c12, .ints .u64 c14]) (es := [.ints .u64 c12, .ints .u64 c14]) (r := (.ints .u64 c16)) (by kernel_rfl) (by kernel_rfl) (Ic.args hc17 (by kernel_rfl)) (by kernel_rfl) ?_
  refine W.adv 7 ?_
  obtain ⟨c18t0, c18t1, hc19, H⟩ := H
  refine W.callR (g := 158) (ds := [.ints .u64 c16, .ints .u64 c8]) (es := [.ints .u64 c16, .ints .u64 c8]) (r := (.tuple [.ints .u64 c18t0, .int .i64 c18t1])) (by kernel_rfl) (by kernel_rfl) (Ic.args hc19 (by kernel_rfl)) (by kernel_rfl) ?_
  refine W.adv 10 ?_
  obtain ⟨c20t0, c20t1, hc21, H⟩ := H
  refine W.callR (g := 158) (ds := [.ints .u64 c18t0, .ints .u64 c10]) (es := [.ints .u64 c18t0, .ints .u64 c10]) (r := (.tuple [.ints .u64 c20t0, .int .i64 c20t1])) (by kernel_rfl) (by kernel_rfl) (Ic.args hc21 (by kernel_rfl)) (by kernel_rfl) ?_
  refine W.adv 11 ?_
  obtain ⟨c22, hc23, H⟩ := H
  refine W.callR (g := 204) (ds := [.ints .u64 c20t0, (.int .i64 (wi ((wi ((mx (a0.length : Int) (a1.length : Int)) + 1)).tdiv 2)))]) (es := [.ints .u64 c20t0, (.int .i64 (wi ((wi ((mx (a0.length : Int) (a1.length : Int)) + 1)).tdiv 2)))]) (r := (.ints .u64 c22)) (by kernel_rfl) (by kernel_rfl) (Ic.args hc23 (by kernel_rfl)) (by kernel_rfl) ?_
  refine W.adv 2 ?_
  obtain ⟨t24, ht25, H⟩ := H
  refine W.opS (OpIs.bnN (k := .i64) (op := .mul) (x := (.int .i64 2)) (y := (.int .i64 (wi ((wi ((mx (a0.length : Int) (a1.length : Int)) + 1)).tdiv 2)))) (by kernel_rfl) ht25 (by kernel_rfl)) ?_
  obtain ⟨c26, hc27, H⟩ := H
  refine W.callR (g := 204) (ds := [.ints .u64 c10, .int .i64 t24]) (es := [.ints .u64 c10, .int .i64 t24]) (r := (.ints .u64 c26)) (by kernel_rfl) (by kernel_rfl) (Ic.args hc27 (by kernel_rfl)) (by kernel_rfl) ?_
  refine W.adv 1 ?_
  obtain ⟨c28, hc29, H⟩ := H
  refine W.callR (g := 203) (ds := [(.lit (.list 1 [.ints .u64 c8, .ints .u64 c22, .ints .u64 c26]))]) (es := [(.list 1 [.ints .u64 c8, .ints .u64 c22, .ints .u64 c26])]) (r := (.ints .u64 c28)) (by kernel_rfl) (by kernel_rfl) (Ic.args hc29 (by kernel_rfl)) (by kernel_rfl) ?_
  refine W.adv 4 ?_
  exact W.fin (x := .ret) (by kernel_rfl) (Ans.of (d := (.ints .u64 c28)) (d' := (.ints .u64 c28)) (e' := (.ints .u64 c28)) (by kernel_rfl) (by kernel_rfl) (by kernel_rfl) (by rw [H]))
noncomputable def mul_Long_l0_s (x1 : List Int) (x17 : List Int) (x18 : Int) (x19 : Int) (r16 : List Int) (n16 : Nat) (j : Nat → D) (jb : Nat → Blk) (vs : Nat → Nat) : Cf := cfAt Tryz.f201 [1, 1, 0, 1, 0] ⟨[j 0, .ints .u64 x1, j 2, j 3, j 4, .sref 16 1 1 0 n16, j 6, j 7, j 8, j 9, j 10, j 11, j 12, j 13, j 14, j 15, j 16, .ints .u64 x17, .int .i64 x18, .int .i64 x19, j 20, j 21, j 22, j 23, j 24, j 25, j 26, j 27, j 28, j 29, j 30, j 31, j 32, j 33, j 34, j 35, j 36, j 37, j 38, j 39, j 40, j 41, j 42, j 43, j 44, j 45, j 46, j 47, j 48, j 49, j 50, j 51, j 52, j 53, j 54, j 55, j 56, j 57, j 58, j 59], [jb 0, jb 1, jb 2, jb 3, jb 4, jb 5, jb 6, jb 7, jb 8, jb 9, jb 10, jb 11, jb 12, jb 13, jb 14, jb 15, ⟨1, false, .ints .u64 r16⟩, jb 17, jb 18, jb 19, jb 20, jb 21, jb 22, jb 23, jb 24, jb 25, jb 26, jb 27, jb 28, jb 29, jb 30, jb 31, jb 32, jb 33, jb 34, jb 35, jb 36, jb 37, jb 38, jb 39, jb 40, jb 41, jb 42, jb 43, jb 44, jb 45, jb 46, jb 47, jb 48, jb 49, jb 50, jb 51, jb 52, jb 53, jb 54, jb 55, jb 56, jb 57, jb 58, jb 59]⟩
def mul_Long_l0 (x1 : List Int) (x17 : List Int) (x18 : Int) (x19 : Int) (r16 : List Int) (z : List Int) : Prop := ∀ n16, n16 = r16.length → ∀ j jb vs, W C F 201 0 (mul_Long_l0_s x1 x17 x18 x19 r16 n16 j jb vs) (Ans C Tryz.f201 (.ints .u64 z))
noncomputable def mul_Long_l1_s (x1 : List Int) (x6 : Int) (x7 : Int) (x8 : Int) (x17 : List Int) (x18 : Int) (x19 : Int) (x24 : List Int) (x25 : Int) (x26 : Int) (r16 : List Int) (n16 : Nat) (j : Nat → D) (jb : Nat → Blk) (vs : Nat → Nat) : Cf := cfAt Tryz.f201 [1, 1, 0, 1, 0, 0, 1, 1, 0, 0, 1, 1, 0, 1, 0] ⟨[j 0, .ints .u64 x1, j 2, j 3, j 4, .sref 16 1 1 0 n16, .int .i64 x6, .int .u64 x7, .int .u64 x8, j 9, j 10, j 11, j 12, j 13, j 14, j 15, j 16, .ints .u64 x17, .int .i64 x18, .int .i64 x19, j 20, j 21, j 22, j 23, .ints .u64 x24, .int .i64 x25, .int .i64 x26, j 27, j 28, j 29, j 30, j 31, j 32, j 33, j 34, j 35, j 36, j 37, j 38, j 39, j 40, j 41, j 42, j 43, j 44, j 45, j 46, j 47, j 48, j 49, j 50, j 51, j 52, j 53, j 54, j 55, j 56, j 57, j 58, j 59], [jb 0, jb 1, jb 2, jb 3, jb 4, jb 5, jb 6, jb 7, jb 8, jb 9, jb 10, jb 11, jb 12, jb 13, jb 14, jb 15, ⟨1, false, .ints .u64 r16⟩, jb 17, jb 18, jb 19, jb 20, jb 21, jb 22, jb 23, jb 24, jb 25, jb 26, jb 27, jb 28, jb 29, jb 30, jb 31, jb 32, jb 33, jb 34, jb 35, jb 36, jb 37, jb 38, jb 39, jb 40, jb 41, jb 42, jb 43, jb 44, jb 45, jb 46, jb 47, jb 48, jb 49, jb 50, jb 51, jb 52, jb 53, jb 54, jb 55, jb 56, jb 57, jb 58, jb 59]⟩
def mul_Long_l1 (x1 : List Int) (x6 : Int) (x7 : Int) (x8 : Int) (x17 : List Int) (x18 : Int) (x19 : Int) (x24 : List Int) (x25 : Int) (x26 : Int) (r16 : List Int) (z : List Int) : Prop := ∀ n16, n16 = r16.length → ∀ j jb vs, W C F 201 0 (mul_Long_l1_s x1 x6 x7 x8 x17 x18 x19 x24 x25 x26 r16 n16 j jb vs) (Ans C Tryz.f201 (.ints .u64 z))
theorem mul_Long_l0_go {x1 : List Int} {x17 : List Int} {x18 : Int} {x19 : Int} {r16 : List Int} {z : List Int} (H : ((x19 < x18 ∧ (0 ≤ x19 ∧ (x19 < (x17.length : Int) ∧ (mul_Long_l1 x1 x19 (x17.getD (x19).toNat 0) 0 x17 x18 x19 x1 (x1.length : Int) 0 r16 z)))) ∨ (¬ x19 < x18 ∧ (∃ c9 : List Int, (mul_made_R r16 c9 ∧ (z = c9)))))) : mul_Long_l0 x1 x17 x18 x19 r16 z := by
 intro n16 ln_16 j jb vs
 refine W.adv 1 ?_
 refine W.adv 6 ?_
 rcases H with ⟨h6, H⟩ | ⟨h6, H⟩
 ·refine W.cond true (w := (decide (x19 < x18))) (by kernel_rfl) (decide_eq_true h6) ?_
  refine W.adv 7 ?_
  obtain ⟨h7, h8, H⟩ := H
  refine W.opS (OpIs.ixI (k := .u64) (k' := .i64) (xs := x17) (i := x19) (by kernel_rfl) h7 h8) ?_
  refine W.adv 19 ?_
  exact W.to_loop (P := mul_Long_l1_s x1 x19 (x17.getD (x19).toNat 0) 0 x17 x18 x19 x1 (x1.length : Int) 0 r16 n16) (H _ ln_16) (by kernel_rfl)
 ·refine W.cond false (w := (decide (x19 < x18))) (by kernel_rfl) (decide_eq_false h6) ?_
  refine W.adv 8 ?_
  obtain ⟨c9, hc10, H⟩ := H
  refine W.callR (g := 215) (ds := [.sref 16 1 1 0 n16]) (es := [.ints .u64 r16]) (r := (.ints .u64 c9)) (by kernel_rfl) (rf_cons (rf_full (b := 16) (v := 1) (w := 1) (fz := false) (k := .u64) (xs := r16) (by kernel_rfl) rfl ln_16) rf_nil) (Ic.args hc10 (by kernel_rfl)) (by kernel_rfl) ?_
  refine W.adv 4 ?_
  exact W.fin (x := .ret) (by kernel_rfl) (Ans.of (d := (.ints .u64 c9)) (d' := (.ints .u64 c9)) (e' := (.ints .u64 c9)) (by kernel_rfl) (by kernel_rfl) (by kernel_rfl) (by rw [H]))
theorem mul_Long_l1_go {x1 : List Int} {x6 : Int} {x7 : Int} {x8 : Int} {x17 : List Int} {x18 : Int} {x19 : Int} {x24 : List Int} {x25 : Int} {x26 : Int} {r16 : List Int} {z : List Int} (H : ((x26 < x25 ∧ (0 ≤ x26 ∧ (x26 < (x24.length : Int) ∧ (0 ≤ (wi (x6 + x26)) ∧ ((wi (x6 + x26)) < (r16.length : Int) ∧ (∃ c16t0 : Int, (∃ c16t1 : Int, (limb_Mul_R x7 (x24.getD (x26).toNat 0) (r16.getD (wi (x6 + x26)).toNat 0) x8 c16t0 c16t1 ∧ (∃ y18, y18 = r16.set (wi (x6 + x26)).toNat c16t0 ∧ (mul_Long_l1 x1 x6 x7 c16t1 x17 x18 x19 x24 x25 (wi (x26 + 1)) y18 z)))))))))) ∨ (¬ x26 < x25 ∧ (0 ≤ (wi (x6 + (x1.length : Int))) ∧ ((wi (x6 + (x1.length : Int))) < (r16.length : Int) ∧ (∃ y23, y23 = r16.set (wi (x6 + (x1.length : Int))).toNat x8 ∧ (mul_Long_l0 x1 x17 x18 (wi (x19 + 1)) y23 z))))))) : mul_Long_l1 x1 x6 x7 x8 x17 x18 x19 x24 x25 x26 r16 z := by
 intro n16 ln_16 j jb vs
 refine W.adv 1 ?_
 refine W.adv 6 ?_
 rcases H with ⟨h11, H⟩ | ⟨h11, H⟩
 ·refine W.cond true (w := (decide (x26 < x25))) (by kernel_rfl) (decide_eq_true h11) ?_
  refine W.adv 7 ?_
  obtain ⟨h12, h13, H⟩ := H
  refine W.opS (OpIs.ixI (k := .u64) (k' := .i64) (xs := x24) (i := x26) (by kernel_rfl) h12 h13) ?_
  refine W.adv 16 ?_
  obtain ⟨h14, h15, H⟩ := H
  refine W.opS (OpIs.ixR (k' := .i64) (b := 16) (v := 1) (sz := 1) (len := n16) (i := (wi (x6 + x26))) (by kernel_rfl) h14 (by rw [ln_16]; exact h15)) ?_
  refine W.opS (OpIs.ldI (b := 16) (v := 1) (i := (wi (x6 + x26)).toNat) (w := 1) (fz := false) (k := .u64) (xs := r16) (by kernel_rfl) rfl (by omega)) ?_
  refine W.adv 1 ?_
  obtain ⟨c16t0, c16t1, hc17, H⟩ := H
  refine W.callR (g := 214) (ds := [.int .u64 x7, (.int .u64 (x24.getD (x26).toNat 0)), (.int .u64 (r16.getD (wi (x6 + x26)).toNat 0)), .int .u64 x8]) (es := [.int .u64 x7, (.int .u64 (x24.getD (x26).toNat 0)), (.int .u64 (r16.getD (wi (x6 + x26)).toNat 0)), .int .u64 x8]) (r := (.tuple [.int .u64 c16t0, .int .u64 c16t1])) (by kernel_rfl) (by kernel_rfl) (Ic.args hc17 (by kernel_rfl)) (by kernel_rfl) ?_
  refine W.adv 3 ?_
  refine W.opS (OpIs.ixR (k' := .i64) (b := 16) (v := 1) (sz := 1) (len := n16) (i := (wi (x6 + x26))) (by kernel_rfl) h14 (by rw [ln_16]; exact h15)) ?_
  obtain ⟨y18, hy19, H⟩ := H
  have ln20 : n16 = y18.length := by rw [hy19, List.length_set]; exact ln_16
  refine W.opH (OpIs.stN (b := 16) (v := 1) (i := (wi (x6 + x26)).toNat) (w := 1) (k := .u64) (xs := r16) (n := c16t0) (by kernel_rfl) hy19 rfl (by omega)) ?_
  refine W.adv 9 ?_
  exact W.to_loop (P := mul_Long_l1_s x1 x6 x7 c16t1 x17 x18 x19 x24 x25 (wi (x26 + 1)) y18 n16) (H _ ln20) (by kernel_rfl)
 ·refine W.cond false (w := (decide (x26 < x25))) (by kernel_rfl) (decide_eq_false h11) ?_
  refine W.adv 12 ?_
  obtain ⟨h21, h22, H⟩ := H
  refine W.opS (OpIs.ixR (k' := .i64) (b := 16) (v := 1) (sz := 1) (len := n16) (i := (wi (x6 + (x1.length : Int)))) (by kernel_rfl) h21 (by rw [ln_16]; exact h22)) ?_
  obtain ⟨y23, hy24, H⟩ := H
  have ln25 : n16 = y23.length := by rw [hy24, List.length_set]; exact ln_16
  refine W.opH (OpIs.stN (b := 16) (v := 1) (i := (wi (x6 + (x1.length : Int))).toNat) (w := 1) (k := .u64) (xs := r16) (n := x8) (by kernel_rfl) hy24 rfl (by omega)) ?_
  refine W.adv 8 ?_
  exact W.to_loop (P := mul_Long_l0_s x1 x17 x18 (wi (x19 + 1)) y23 n16) (H _ ln25) (by kernel_rfl)
theorem mul_Long_go {a0 : List Int} {a1 : List Int} {z : List Int} (H : (0 ≤ (wi ((a0.length : Int) + (a1.length : Int))) ∧ (8 * (wi ((a0.length : Int) + (a1.length : Int))) ≤ 140737488351232 ∧ (∃ y1, y1 = List.replicate (wi ((a0.length : Int) + (a1.length : Int))).toNat 0 ∧ (mul_Long_l0 a1 a0 (a0.length : Int) 0 y1 z))))) : mul_Long_R a0 a1 z := by
 refine W.ic (zs := [.ints .u64 a0, .ints .u64 a1]) Tryz.func201 (by kernel_rfl) (by kernel_rfl) (by kernel_rfl) (by kernel_rfl) ?_
 refine W.adv 12 ?_
 obtain ⟨h4, h5, H⟩ := H
 obtain ⟨y1, hy2, H⟩ := H
 have ln3 : (wi ((a0.length : Int) + (a1.length : Int))).toNat = y1.length := by rw [hy2, List.length_replicate]
 refine W.opH (OpIs.msN (k1 := .i64) (k2 := .i64) (k := .u64) (n := (wi ((a0.length : Int) + (a1.length : Int)))) (m := (wi ((a0.length : Int) + (a1.length : Int)))) (y := 8) (b := 16) (v := 0) (by kernel_rfl) hy2 h4 (Int.le_refl _) h5 (by omega)) ?_
 refine W.adv 12 ?_
 exact W.to_loop (P := mul_Long_l0_s a1 a0 (a0.length : Int) 0 y1 ((wi ((a0.length : Int) + (a1.length : Int))).toNat)) (H _ ln3) (by kernel_rfl)
theorem mul_cut_go {a0 : List Int} {a1 : Int} {zt0 : List Int} {zt1 : List Int} (H : (0 ≤ (mn a1 (a0.length : Int)) ∧ ((mn a1 (a0.length : Int)) ≤ (a0.length : Int) ∧ (∃ c3 : List Int, (mul_made_R (a0.take (mn a1 (a0.length : Int)).toNat) c3 ∧ (∃ c5 : List Int, (mul_made_R (a0.drop (mn a1 (a0.length : Int)).toNat) c5 ∧ (zt0 = c3 ∧ zt1 = c5)))))))) : mul_cut_R a0 a1 zt0 zt1 := by
 refine W.ic (zs := [.ints .u64 a0, .int .i64 a1]) Tryz.func202 (by kernel_rfl) (by kernel_rfl) (by kernel_rfl) (by kernel_rfl) ?_
 refine W.adv 19 ?_
 obtain ⟨h1, h2, H⟩ := H
 refine W.opS (OpIs.slI_hi (k := .u64) (k' := .i64) (xs := a0) (i := (mn a1 (a0.length : Int))) (by kernel_rfl) h1 h2) ?_
 obtain ⟨c3, hc4, H⟩ := H
 refine W.callR (g := 215) (ds := [(.ints .u64 (a0.take (mn a1 (a0.length : Int)).toNat))]) (es := [(.ints .u64 (a0.take (mn a1 (a0.length : Int)).toNat))]) (r := (.ints .u64 c3)) (by kernel_rfl) (by kernel_rfl) (Ic.args hc4 (by kernel_rfl)) (by kernel_rfl) ?_
 refine W.adv 2 ?_
 refine W.opS (OpIs.slI_lo (k := .u64) (k' := .i64) (xs := a0) (i := (mn a1 (a0.length : Int))) (by kernel_rfl) h1 h2) ?_
 obtain ⟨c5, hc6, H⟩ := H
 refine W.callR (g := 215) (ds := [(.ints .u64 (a0.drop (mn a1 (a0.length : Int)).toNat))]) (es := [(.ints .u64 (a0.drop (mn a1 (a0.length : Int)).toNat))]) (r := (.ints .u64 c5)) (by kernel_rfl) (by kernel_rfl) (Ic.args hc6 (by kernel_rfl)) (by kernel_rfl) ?_
 refine W.adv 5 ?_
 exact W.fin (x := .ret) (by kernel_rfl) (Ans.of (d := (.tuple [.ints .u64 c3, .ints .u64 c5])) (d' := (.tuple [.ints .u64 c3, .ints .u64 c5])) (e' := (.tuple [.ints .u64 c3, .ints .u64 c5])) (by kernel_rfl) (by kernel_rfl) (by kernel_rfl) (by rw [H.1, H.2]))
theorem mul_up_go {a0 : List Int} {a1 : Int} {z : List Int} (H : (0 ≤ (wi (a1 + (a0.length : Int))) ∧ (8 * (wi (a1 + (a0.length : Int))) ≤ 140737488351232 ∧ (∃ y1, y1 = List.replicate (wi (a1 + (a0.length : Int))).toNat 0 ∧ (0 ≤ a1 ∧ (a1 ≤ (y1.length : Int) ∧ (∃ y8, y8 = y1.take (a1).toNat ++ (a0.take (min a0.length (y1.length - (a1).toNat)) ++ y1.drop ((a1).toNat + min a0.length (y1.length - (a1).toNat))) ∧ (∃ c11 : List Int, (mul_made_R y8 c11 ∧ (z = c11)))))))))) : mul_up_R a0 a1 z := by
 refine W.ic (zs := [.ints .u64 a0, .int .i64 a1]) Tryz.func204 (by kernel_rfl) (by kernel_rfl) (by kernel_rfl) (by kernel_rfl) ?_
 refine W.adv 11 ?_
 obtain ⟨h4, h5, H⟩ := H
 obtain ⟨y1, hy2, H⟩ := H
 have ln3 : (wi (a1 + (a0.length : Int))).toNat = y1.length := by rw [hy2, List.length_replicate]
 refine W.opH (OpIs.msN (k1 := .i64) (k2 := .i64) (k := .u64) (n := (wi (a1 + (a0.length : Int)))) (m := (wi (a1 + (a0.length : Int)))) (y := 8) (b := 10) (v := 0) (by kernel_rfl) hy2 h4 (Int.le_refl _) h5 (by omega)) ?_
 refine W.adv 7 ?_
 obtain ⟨h6, h7, H⟩ := H
 refine W.opS (OpIs.slR (k' := .i64) (b := 10) (v := 1) (sz := 1) (len := (wi (a1 + (a0.length : Int))).toNat) (m := y1.length) (i := a1) (by kernel_rfl) ln3 h6 h7) ?_
 refine W.adv 1 ?_
 obtain ⟨y8, hy9, H⟩ := H
 have ln10 : (wi (a1 + (a0.length : Int))).toNat = y8.length := by rw [hy9, List.length_append, List.length_append, List.length_take, List.length_take, List.length_drop]; omega
 refine W.opH (OpIs.cp (zs := y8) (y := (.ints .u64 a0)) (b := 10) (v := 1) (w := 1) (off := (a1).toNat) (len := (y1.length - (a1).toNat)) (k := .u64) (xs := y1) (ys := a0) (by kernel_rfl) (by kernel_rfl) rfl (by omega) hy9) ?_
 refine W.adv 5 ?_
 obtain ⟨c11, hc12, H⟩ := H
 refine W.callR (g := 215) (ds := [(.sref 10 1 1 0 (wi (a1 + (a0.length : Int))).toNat)]) (es := [.ints .u64 y8]) (r := (.ints .u64 c11)) (by kernel_rfl) (rf_cons (rf_full (b := 10) (v := 1) (w := 1) (fz := false) (k := .u64) (xs := y8) (by kernel_rfl) rfl ln10) rf_nil) (Ic.args hc12 (by kernel_rfl)) (by kernel_rfl) ?_
 refine W.adv 4 ?_
 exact W.fin (x := .ret) (by kernel_rfl) (Ans.of (d := (.ints .u64 c11)) (d' := (.ints .u64 c11)) (e' := (.ints .u64 c11)) (by kernel_rfl) (by kernel_rfl) (by kernel_rfl) (by rw [H]))
theorem mul_made_go {a0 : List Int} {z : List Int} (H : (∃ c1t0 : List Int, (∃ c1t1 : Int, (nat_Make_R a0 c1t0 c1t1 ∧ (z = c1t0))))) : mul_made_R a0 z := by
 refine W.ic (zs := [.ints .u64 a0]) Tryz.func215 (by kernel_rfl) (by kernel_rfl) (by kernel_rfl) (by kernel_rfl) ?_
 refine W.adv 8 ?_
 obtain ⟨c1t0, c1t1, hc2, H⟩ := H
 refine W.callR (g := 180) (ds := [.ints .u64 a0]) (es := [.ints .u64 a0]) (r := (.tuple [.ints .u64 c1t0, .int .i64 c1t1])) (by kernel_rfl) (by kernel_rfl) (Ic.args hc2 (by kernel_rfl)) (by kernel_rfl) ?_
 refine W.adv 14 ?_
 exact W.fin (x := .ret) (by kernel_rfl) (Ans.of (d := (.ints .u64 c1t0)) (d' := (.ints .u64 c1t0)) (e' := (.ints .u64 c1t0)) (by kernel_rfl) (by kernel_rfl) (by kernel_rfl) (by rw [H]))
end Go.Proofs.YtjcdkemnflmfiaaGreatA
