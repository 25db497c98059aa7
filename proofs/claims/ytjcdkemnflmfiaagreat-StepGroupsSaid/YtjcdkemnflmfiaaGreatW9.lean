/- Walks through the functions: what makes each relation true. -/
import Derived.Test.YtjcdkemnflmfiaaGreatW0
set_option linter.unusedVariables false
set_option maxRecDepth 100000
namespace Go.Proofs.YtjcdkemnflmfiaaGreatA
open Go Go.Proofs
noncomputable def slices_IndexFunc_____api_Hop___api_Hop__v0_l0_s (x0 : List T71) (x1_c0_0_f0_0 : List T_string) (x1_c0_0_f0_1 : Int) (x7 : Int) (x8 : Int) (j : Nat → D) (jb : Nat → Blk) (vs : Nat → Nat) : Cf := cfAt Tryz.f60 [1, 0, 1, 0] ⟨[(.list 1 (x0.map E71)), (.fn 61 [] [(.ptr [(.fn 20 [(.agg [(.list 1 (x1_c0_0_f0_0.map E_string)), .int .u64 x1_c0_0_f0_1])] [])])]), j 2, j 3, j 4, j 5, j 6, .int .i64 x7, .int .i64 x8, j 9, j 10, j 11, j 12, j 13, j 14, j 15, j 16, j 17, j 18], [jb 0, jb 1, jb 2, jb 3, jb 4, jb 5, jb 6, jb 7, jb 8, jb 9, jb 10, jb 11, jb 12, jb 13, jb 14, jb 15, jb 16, jb 17, jb 18]⟩
def slices_IndexFunc_____api_Hop___api_Hop__v0_l0 (x0 : List T71) (x1_c0_0_f0_0 : List T_string) (x1_c0_0_f0_1 : Int) (x7 : Int) (x8 : Int) (z : Int) : Prop := ∀ j jb vs, W C F 60 0 (slices_IndexFunc_____api_Hop___api_Hop__v0_l0_s x0 x1_c0_0_f0_0 x1_c0_0_f0_1 x7 x8  j jb vs) (Ans C Tryz.f60 (.int .i64 z))
theorem slices_IndexFunc_____api_Hop___api_Hop__v0_l0_go {x0 : List T71} {x1_c0_0_f0_0 : List T_string} {x1_c0_0_f0_1 : Int} {x7 : Int} {x8 : Int} {z : Int} (H : ((x8 < x7 ∧ (0 ≤ x8 ∧ (x8 < (x0.length : Int) ∧ (∃ c4 : Bool, (step_Group_1_v0_R (x0.getD (x8).toNat []) x1_c0_0_f0_0 x1_c0_0_f0_1 c4 ∧ ((c4 = true ∧ (z = x8)) ∨ (¬ c4 = true ∧ (slices_IndexFunc_____api_Hop___api_Hop__v0_l0 x0 x1_c0_0_f0_0 x1_c0_0_f0_1 x7 (wi (x8 + 1)) z)))))))) ∨ (¬ x8 < x7 ∧ (z = (-1))))) : slices_IndexFunc_____api_Hop___api_Hop__v0_l0 x0 x1_c0_0_f0_0 x1_c0_0_f0_1 x7 x8 z := by
 intro j jb vs
 refine W.adv 1 ?_
 refine W.adv 6 ?_
 rcases H with ⟨h1, H⟩ | ⟨h1, H⟩
 ·refine W.cond true (w := (decide (x8 < x7))) (by kernel_rfl) (decide_eq_true h1) ?_
  refine W.adv 15 ?_
  obtain ⟨h2, h3, H⟩ := H
  refine W.opS (OpIs.ixE (enc := E71) (n := 1) (k' := .i64) (L := x0) (i := x8) (d0 := []) (x := (x0.getD (x8).toNat [])) (by kernel_rfl) h2 h3 rfl) ?_
  refine W.adv 1 ?_
  obtain ⟨c4, hc5, H⟩ := H
  refine W.callN (g := 61) (ds := [(.list 2 ((x0.getD (x8).toNat []).map E_api_Hop)), (.ptr [(.fn 20 [(.agg [(.list 1 (x1_c0_0_f0_0.map E_string)), .int .u64 x1_c0_0_f0_1])] [])])]) (es := [(.list 2 ((x0.getD (x8).toNat []).map E_api_Hop)), (.ptr [(.fn 20 [(.agg [(.list 1 (x1_c0_0_f0_0.map E_string)), .int .u64 x1_c0_0_f0_1])] [])])]) (r := (.bool c4)) (by kernel_rfl) (by kernel_rfl) (by kernel_rfl) (Ic.args hc5 (by kernel_rfl)) ?_
  refine W.adv 2 ?_
  rcases H with ⟨h6, H⟩ | ⟨h6, H⟩
  ·refine W.cond true (w := c4) (by kernel_rfl) h6 ?_
   refine W.adv 12 ?_
   exact W.fin (x := .ret) (by kernel_rfl) (Ans.of (d := (.int .i64 x8)) (d' := (.int .i64 x8)) (e' := (.int .i64 x8)) (by kernel_rfl) (by kernel_rfl) (by kernel_rfl) (by rw [H]))
  ·refine W.cond false (w := c4) (by kernel_rfl) (bfalse h6) ?_
   refine W.adv 8 ?_
   exact W.to_loop (P := slices_IndexFunc_____api_Hop___api_Hop__v0_l0_s x0 x1_c0_0_f0_0 x1_c0_0_f0_1 x7 (wi (x8 + 1))) (H ) (by kernel_rfl)
 ·refine W.cond false (w := (decide (x8 < x7))) (by kernel_rfl) (decide_eq_false h1) ?_
  refine W.adv 11 ?_
  exact W.fin (x := .ret) (by kernel_rfl) (Ans.of (d := (.int .i64 (-1))) (d' := (.int .i64 (-1))) (e' := (.int .i64 (-1))) (by kernel_rfl) (by kernel_rfl) (by kernel_rfl) (by rw [H]))
theorem slices_IndexFunc_____api_Hop___api_Hop__v0_go {a0 : List T71} {a1_c0_0_f0_0 : List T_string} {a1_c0_0_f0_1 : Int} {z : Int} (H : (slices_IndexFunc_____api_Hop___api_Hop__v0_l0 a0 a1_c0_0_f0_0 a1_c0_0_f0_1 (a0.length : Int) 0 z)) : slices_IndexFunc_____api_Hop___api_Hop__v0_R a0 a1_c0_0_f0_0 a1_c0_0_f0_1 z := by
 refine W.ic (zs := [(.list 1 (a0.map E71)), (.fn 61 [] [(.ptr [(.fn 20 [(.agg [(.list 1 (a1_c0_0_f0_0.map E_string)), .int .u64 a1_c0_0_f0_1])] [])])])]) Tryz.func60 (by kernel_rfl) (by kernel_rfl) (by kernel_rfl) (by kernel_rfl) ?_
 refine W.adv 9 ?_
 refine W.opS (OpIs.ln (n := (a0.map E71).length) (m := a0.length) (by kernel_rfl) (by rw [List.length_map])) ?_
 refine W.adv 4 ?_
 exact W.to_loop (P := slices_IndexFunc_____api_Hop___api_Hop__v0_l0_s a0 a1_c0_0_f0_0 a1_c0_0_f0_1 (a0.length : Int) 0) (H ) (by kernel_rfl)
theorem slices_ContainsFunc___api_Hop_api_Hop__v0_go {a0 : List T_api_Hop} {a1_c0_0_f0_0 : List T_string} {a1_c0_0_f0_1 : Int} {z : Bool} (H : (∃ c1 : Int, (slices_IndexFunc___api_Hop_api_Hop__v0_R a0 a1_c0_0_f0_0 a1_c0_0_f0_1 c1 ∧ (z = (decide (0 ≤ c1)))))) : slices_ContainsFunc___api_Hop_api_Hop__v0_R a0 a1_c0_0_f0_0 a1_c0_0_f0_1 z := by
 refine W.ic (zs := [(.list 2 (a0.map E_api_Hop)), (.fn 63 [] [(.ptr [(.fn 20 [(.agg [(.list 1 (a1_c0_0_f0_0.map E_string)), .int .u64 a1_c0_0_f0_1])] [])])])]) Tryz.func62 (by kernel_rfl) (by kernel_rfl) (by kernel_rfl) (by kernel_rfl) ?_
 refine W.adv 9 ?_
 obtain ⟨c1, hc2, H⟩ := H
 refine W.callN (g := 122) (ds := [(.list 2 (a0.map E_api_Hop)), (.fn 63 [] [(.ptr [(.fn 20 [(.agg [(.list 1 (a1_c0_0_f0_0.map E_string)), .int .u64 a1_c0_0_f0_1])] [])])])]) (es := [(.list 2 (a0.map E_api_Hop)), (.fn 63 [] [(.ptr [(.fn 20 [(.agg [(.list 1 (a1_c0_0_f0_0.map E_string)), .int .u64 a1_c0_0_f0_1])] [])])])]) (r := (.int .i64 c1)) (by kernel_rfl) (by kernel_rfl) (by kernel_rfl) (Ic.args hc2 (by kernel_rfl)) ?_
 refine W.adv 5 ?_
 exact W.fin (x := .ret) (by kernel_rfl) (Ans.of (d := (.bool (decide (0 ≤ c1)))) (d' := (.bool (decide (0 ≤ c1)))) (e' := (.bool (decide (0 ≤ c1)))) (by kernel_rfl) (by kernel_rfl) (by kernel_rfl) (by rw [H]))
noncomputable def slices_IndexFunc___api_Hop_api_Hop__v0_l0_s (x0 : List T_api_Hop) (x1_c0_0_f0_0 : List T_string) (x1_c0_0_f0_1 : Int) (x7 : Int) (x8 : Int) (j : Nat → D) (jb : Nat → Blk) (vs : Nat → Nat) : Cf := cfAt Tryz.f122 [1, 0, 1, 0] ⟨[(.list 2 (x0.map E_api_Hop)), (.fn 63 [] [(.ptr [(.fn 20 [(.agg [(.list 1 (x1_c0_0_f0_0.map E_string)), .int .u64 x1_c0_0_f0_1])] [])])]), j 2, j 3, j 4, j 5, j 6, .int .i64 x7, .int .i64 x8, j 9, j 10, j 11, j 12, j 13, j 14, j 15, j 16, j 17, j 18], [jb 0, jb 1, jb 2, jb 3, jb 4, jb 5, jb 6, jb 7, jb 8, jb 9, jb 10, jb 11, jb 12, jb 13, jb 14, jb 15, jb 16, jb 17, jb 18]⟩
def slices_IndexFunc___api_Hop_api_Hop__v0_l0 (x0 : List T_api_Hop) (x1_c0_0_f0_0 : List T_string) (x1_c0_0_f0_1 : Int) (x7 : Int) (x8 : Int) (z : Int) : Prop := ∀ j jb vs, W C F 122 0 (slices_IndexFunc___api_Hop_api_Hop__v0_l0_s x0 x1_c0_0_f0_0 x1_c0_0_f0_1 x7 x8  j jb vs) (Ans C Tryz.f122 (.int .i64 z))
theorem slices_IndexFunc___api_Hop_api_Hop__v0_l0_go {x0 : List T_api_Hop} {x1_c0_0_f0_0 : List T_string} {x1_c0_0_f0_1 : Int} {x7 : Int} {x8 : Int} {z : Int} (H : ((x8 < x7 ∧ (0 ≤ x8 ∧ (x8 < (x0.length : Int) ∧ (∃ e4 : ByteArray, (∃ e5 : Int, (x0.getD (x8).toNat (ByteArray.empty, 0) = (e4, e5) ∧ (∃ c7 : Bool, (step_Group_1_1_v0_R e4 e5 x1_c0_0_f0_0 x1_c0_0_f0_1 c7 ∧ ((c7 = true ∧ (z = x8)) ∨ (¬ c7 = true ∧ (slices_IndexFunc___api_Hop_api_Hop__v0_l0 x0 x1_c0_0_f0_0 x1_c0_0_f0_1 x7 (wi (x8 + 1)) z))))))))))) ∨ (¬ x8 < x7 ∧ (z = (-1))))) : slices_IndexFunc___api_Hop_api_Hop__v0_l0 x0 x1_c0_0_f0_0 x1_c0_0_f0_1 x7 x8 z := by
 intro j jb vs
 refine W.adv 1 ?_
 refine W.adv 6 ?_
 rcases H with ⟨h1, H⟩ | ⟨h1, H⟩
 ·refine W.cond true (w := (decide (x8 < x7))) (by kernel_rfl) (decide_eq_true h1) ?_
  refine W.adv 15 ?_
  obtain ⟨h2, h3, H⟩ := H
  obtain ⟨e4, e5, he6, H⟩ := H
  refine W.opS (OpIs.ixE (enc := E_api_Hop) (n := 2) (k' := .i64) (L := x0) (i := x8) (d0 := (ByteArray.empty, 0)) (x := (e4, e5)) (by kernel_rfl) h2 h3 he6) ?_
  refine W.adv 1 ?_
  obtain ⟨c7, hc8, H⟩ := H
  refine W.callN (g := 63) (ds := [(.agg [.str e4, .int .i64 e5]), (.ptr [(.fn 20 [(.agg [(.list 1 (x1_c0_0_f0_0.map E_string)), .int .u64 x1_c0_0_f0_1])] [])])]) (es := [(.agg [.str e4, .int .i64 e5]), (.ptr [(.fn 20 [(.agg [(.list 1 (x1_c0_0_f0_0.map E_string)), .int .u64 x1_c0_0_f0_1])] [])])]) (r := (.bool c7)) (by kernel_rfl) (by kernel_rfl) (by kernel_rfl) (Ic.args hc8 (by kernel_rfl)) ?_
  refine W.adv 2 ?_
  rcases H with ⟨h9, H⟩ | ⟨h9, H⟩
  ·refine W.cond true (w := c7) (by kernel_rfl) h9 ?_
   refine W.adv 12 ?_
   exact W.fin (x := .ret) (by kernel_rfl) (Ans.of (d := (.int .i64 x8)) (d' := (.int .i64 x8)) (e' := (.int .i64 x8)) (by kernel_rfl) (by kernel_rfl) (by kernel_rfl) (by rw [H]))
  ·refine W.cond false (w := c7) (by kernel_rfl) (bfalse h9) ?_
   refine W.adv 8 ?_
   exact W.to_loop (P := slices_IndexFunc___api_Hop_api_Hop__v0_l0_s x0 x1_c0_0_f0_0 x1_c0_0_f0_1 x7 (wi (x8 + 1))) (H ) (by kernel_rfl)
 ·refine W.cond false (w := (decide (x8 < x7))) (by kernel_rfl) (decide_eq_false h1) ?_
  refine W.adv 11 ?_
  exact W.fin (x := .ret) (by kernel_rfl) (Ans.of (d := (.int .i64 (-1))) (d' := (.int .i64 (-1))) (e' := (.int .i64 (-1))) (by kernel_rfl) (by kernel_rfl) (by kernel_rfl) (by rw [H]))
theorem slices_IndexFunc___api_Hop_api_Hop__v0_go {a0 : List T_api_Hop} {a1_c0_0_f0_0 : List T_string} {a1_c0_0_f0_1 : Int} {z : Int} (H : (slices_IndexFunc___api_Hop_api_Hop__v0_l0 a0 a1_c0_0_f0_0 a1_c0_0_f0_1 (a0.length : Int) 0 z)) : slices_IndexFunc___api_Hop_api_Hop__v0_R a0 a1_c0_0_f0_0 a1_c0_0_f0_1 z := by
 refine W.ic (zs := [(.list 2 (a0.map E_api_Hop)), (.fn 63 [] [(.ptr [(.fn 20 [(.agg [(.list 1 (a1_c0_0_f0_0.map E_string)), .int .u64 a1_c0_0_f0_1])] [])])])]) Tryz.func122 (by kernel_rfl) (by kernel_rfl) (by kernel_rfl) (by kernel_rfl) ?_
 refine W.adv 9 ?_
 refine W.opS (OpIs.ln (n := (a0.map E_api_Hop).length) (m := a0.length) (by kernel_rfl) (by rw [List.length_map])) ?_
 refine W.adv 4 ?_
 exact W.to_loop (P := slices_IndexFunc___api_Hop_api_Hop__v0_l0_s a0 a1_c0_0_f0_0 a1_c0_0_f0_1 (a0.length : Int) 0) (H ) (by kernel_rfl)
end Go.Proofs.YtjcdkemnflmfiaaGreatA
