/- Walks through the functions: what makes each relation true. -/
import Derived.Test.YtfijdkdpcjfiaaaGreatW0
set_option linter.unusedVariables false
set_option maxRecDepth 100000
namespace Go.Proofs.YtfijdkdpcjfiaaaGreatA
open Go Go.Proofs
end Go.Proofs.YtfijdkdpcjfiaaaGreatA
namespace Go.Proofs.YtfijdkdpcjfiaaaGreatA
open Go Go.Proofs
end Go.Proofs.YtfijdkdpcjfiaaaGreatA
namespace Go.Proofs.YtfijdkdpcjfiaaaGreatA
open Go Go.Proofs
end Go.Proofs.YtfijdkdpcjfiaaaGreatA
namespace Go.Proofs.YtfijdkdpcjfiaaaGreatA
open Go Go.Proofs
end Go.Proofs.YtfijdkdpcjfiaaaGreatA
namespace Go.Proofs.YtfijdkdpcjfiaaaGreatA
open Go Go.Proofs
theorem lean_Alike_1_go {a0 : List T_api_Hop} {a1 : List T_api_Hop} {z : Bool} (H : (∃ c1 : Bool, (slices_Equal___api_Hop_api_Hop__R a0 a1 c1 ∧ (z = c1)))) : lean_Alike_1_R a0 a1 z := by
 refine W.ic (zs := [(.list 2 (a0.map E_api_Hop)), (.list 2 (a1.map E_api_Hop))]) Tryz.func21 (by kernel_rfl) (by kernel_rfl) (by kernel_rfl) (by kernel_rfl) ?_
 refine W.adv 9 ?_
 obtain ⟨c1, hc2, H⟩ := H
 refine W.callR (g := 22) (ds := [(.list 2 (a0.map E_api_Hop)), (.list 2 (a1.map E_api_Hop))]) (es := [(.list 2 (a0.map E_api_Hop)), (.list 2 (a1.map E_api_Hop))]) (r := (.bool c1)) (by kernel_rfl) (by kernel_rfl) (Ic.args hc2 (by kernel_rfl)) (by kernel_rfl) ?_
 refine W.adv 4 ?_
 exact W.fin (x := .ret) (by kernel_rfl) (Ans.of (d := (.bool c1)) (d' := (.bool c1)) (e' := (.bool c1)) (by kernel_rfl) (by kernel_rfl) (by kernel_rfl) (by rw [H]))
end Go.Proofs.YtfijdkdpcjfiaaaGreatA
namespace Go.Proofs.YtfijdkdpcjfiaaaGreatA
open Go Go.Proofs
theorem addr_Mask_go {a0 : Int} {z : Int} (H : (0 ≤ (wi (32 - (mn (mx a0 0) 32))) ∧ (z = (IntKind.wrap .u32 ((wu (4294967295 * 2 ^ (min (wi (32 - (mn (mx a0 0) 32))).toNat 64)))))))) : addr_Mask_R a0 z := by
 refine W.ic (zs := [.int .i64 a0]) Tryz.func26 (by kernel_rfl) (by kernel_rfl) (by kernel_rfl) (by kernel_rfl) ?_
 refine W.adv 17 ?_
 obtain ⟨h1, H⟩ := H
 refine W.opS (OpIs.bn (op := .shl) (x := (.int .u64 4294967295)) (y := (.int .i64 (wi (32 - (mn (mx a0 0) 32))))) (by kernel_rfl) (shlD h1)) ?_
 refine W.adv 5 ?_
 exact W.fin (x := .ret) (by kernel_rfl) (Ans.of (d := (.int .u32 (IntKind.wrap .u32 ((wu (4294967295 * 2 ^ (min (wi (32 - (mn (mx a0 0) 32))).toNat 64))))))) (d' := (.int .u32 (IntKind.wrap .u32 ((wu (4294967295 * 2 ^ (min (wi (32 - (mn (mx a0 0) 32))).toNat 64))))))) (e' := (.int .u32 (IntKind.wrap .u32 ((wu (4294967295 * 2 ^ (min (wi (32 - (mn (mx a0 0) 32))).toNat 64))))))) (by kernel_rfl) (by kernel_rfl) (by kernel_rfl) (by rw [H]))
end Go.Proofs.YtfijdkdpcjfiaaaGreatA
namespace Go.Proofs.YtfijdkdpcjfiaaaGreatA
open Go Go.Proofs
noncomputable def ref18_Size_l0_s (x3 : Int) (x4 : Int) (j : Nat → D) (jb : Nat → Blk) (vs : Nat → Nat) : Cf := cfAt Tryz.f19 [1, 1, 0, 1, 0] ⟨[j 0, j 1, j 2, .int .u64 x3, .int .i64 x4, j 5, j 6, j 7, j 8, j 9, j 10, j 11, j 12], [jb 0, jb 1, jb 2, jb 3, jb 4, jb 5, jb 6, jb 7, jb 8, jb 9, jb 10, jb 11, jb 12]⟩
def ref18_Size_l0 (x3 : Int) (x4 : Int) (z : Int) : Prop := ∀ j jb vs, W C F 19 0 (ref18_Size_l0_s x3 x4  j jb vs) (Ans C Tryz.f19 (.int .u64 z))
theorem ref18_Size_l0_go {x3 : Int} {x4 : Int} {z : Int} (H : ((x4 < 32 ∧ (ref18_Size_l0 (wu (2 * x3)) (wi (x4 + 1)) z)) ∨ (¬ x4 < 32 ∧ (z = x3)))) : ref18_Size_l0 x3 x4 z := by
 intro j jb vs
 refine W.adv 1 ?_
 refine W.adv 7 ?_
 rcases H with ⟨h1, H⟩ | ⟨h1, H⟩
 ·refine W.cond true (w := (decide (x4 < 32))) (by kernel_rfl) (decide_eq_true h1) ?_
  refine W.adv 17 ?_
  exact W.to_loop (P := ref18_Size_l0_s (wu (2 * x3)) (wi (x4 + 1))) (H ) (by kernel_rfl)
 ·refine W.cond false (w := (decide (x4 < 32))) (by kernel_rfl) (decide_eq_false h1) ?_
  refine W.adv 12 ?_
  exact W.fin (x := .ret) (by kernel_rfl) (Ans.of (d := (.int .u64 x3)) (d' := (.int .u64 x3)) (e' := (.int .u64 x3)) (by kernel_rfl) (by kernel_rfl) (by kernel_rfl) (by rw [H]))
theorem ref18_Size_go {a0 : Int} {z : Int} (H : (ref18_Size_l0 1 a0 z)) : ref18_Size_R a0 z := by
 refine W.ic (zs := [.int .i64 a0]) Tryz.func19 (by kernel_rfl) (by kernel_rfl) (by kernel_rfl) (by kernel_rfl) ?_
 refine W.adv 18 ?_
 exact W.to_loop (P := ref18_Size_l0_s 1 a0) (H ) (by kernel_rfl)
end Go.Proofs.YtfijdkdpcjfiaaaGreatA
namespace Go.Proofs.YtfijdkdpcjfiaaaGreatA
open Go Go.Proofs
theorem addr_Has_go {a0_0 : Int} {a0_1 : Int} {a1 : Int} {z : Bool} (H : (∃ c1 : Bool, (addr_May_R a0_0 a0_1 c1 ∧ ((c1 = true ∧ (∃ c4 : Int, (addr_Mask_R a0_1 c4 ∧ (z = (decide ((bits .and .u32 a1 c4) = a0_0)))))) ∨ (¬ c1 = true ∧ (z = false)))))) : addr_Has_R a0_0 a0_1 a1 z := by
 refine W.ic (zs := [(.agg [.int .u32 a0_0, .int .i64 a0_1]), .int .u32 a1]) Tryz.func25 (by kernel_rfl) (by kernel_rfl) (by kernel_rfl) (by kernel_rfl) ?_
 refine W.adv 9 ?_
 obtain ⟨c1, hc2, H⟩ := H
 refine W.callR (g := 18) (ds := [(.agg [.int .u32 a0_0, .int .i64 a0_1])]) (es := [(.agg [.int .u32 a0_0, .int .i64 a0_1])]) (r := (.bool c1)) (by kernel_rfl) (by kernel_rfl) (Ic.args hc2 (by kernel_rfl)) (by kernel_rfl) ?_
 refine W.adv 1 ?_
 rcases H with ⟨h3, H⟩ | ⟨h3, H⟩
 ·refine W.guard true (w := (c1 == true)) (by kernel_rfl) (congrArg (fun b => b == true) h3) ?_
  refine W.adv 1 ?_
  refine W.guard true (w := (c1 == true)) (by kernel_rfl) (congrArg (fun b => b == true) h3) ?_
  refine W.adv 1 ?_
  refine W.guard true (w := (c1 == true)) (by kernel_rfl) (congrArg (fun b => b == true) h3) ?_
  refine W.adv 1 ?_
  refine W.guard true (w := (c1 == true)) (by kernel_rfl) (congrArg (fun b => b == true) h3) ?_
  obtain ⟨c4, hc5, H⟩ := H
  refine W.callR (g := 26) (ds := [.int .i64 a0_1]) (es := [.int .i64 a0_1]) (r := (.int .u32 c4)) (by kernel_rfl) (by kernel_rfl) (Ic.args hc5 (by kernel_rfl)) (by kernel_rfl) ?_
  refine W.guard true (w := (c1 == true)) (by kernel_rfl) (congrArg (fun b => b == true) h3) ?_
  refine W.adv 1 ?_
  refine W.guard true (w := (c1 == true)) (by kernel_rfl) (congrArg (fun b => b == true) h3) ?_
  refine W.adv 1 ?_
  refine W.guard true (w := (c1 == true)) (by kernel_rfl) (congrArg (fun b => b == true) h3) ?_
  refine W.adv 1 ?_
  refine W.guard true (w := (c1 == true)) (by kernel_rfl) (congrArg (fun b => b == true) h3) ?_
  refine W.adv 1 ?_
  refine W.opS (OpIs.pk true (t := c1) (x := (.bool (decide ((bits .and .u32 a1 c4) = a0_0)))) (y := (.bool false)) (by kernel_rfl) h3) ?_
  refine W.adv 4 ?_
  exact W.fin (x := .ret) (by kernel_rfl) (Ans.of (d := (.bool (decide ((bits .and .u32 a1 c4) = a0_0)))) (d' := (.bool (decide ((bits .and .u32 a1 c4) = a0_0)))) (e' := (.bool (decide ((bits .and .u32 a1 c4) = a0_0)))) (by kernel_rfl) (by kernel_rfl) (by kernel_rfl) (by rw [H]))
 ·refine W.guard false (w := (c1 == true)) (by kernel_rfl) (congrArg (fun b => b == true) (bfalse h3)) ?_
  refine W.guard false (w := (c1 == true)) (by kernel_rfl) (congrArg (fun b => b == true) (bfalse h3)) ?_
  refine W.guard false (w := (c1 == true)) (by kernel_rfl) (congrArg (fun b => b == true) (bfalse h3)) ?_
  refine W.guard false (w := (c1 == true)) (by kernel_rfl) (congrArg (fun b => b == true) (bfalse h3)) ?_
  refine W.guard false (w := (c1 == true)) (by kernel_rfl) (congrArg (fun b => b == true) (bfalse h3)) ?_
  refine W.guard false (w := (c1 == true)) (by kernel_rfl) (congrArg (fun b => b == true) (bfalse h3)) ?_
  refine W.guard false (w := (c1 == true)) (by kernel_rfl) (congrArg (fun b => b == true) (bfalse h3)) ?_
  refine W.guard false (w := (c1 == true)) (by kernel_rfl) (congrArg (fun b => b == true) (bfalse h3)) ?_
  refine W.opS (OpIs.pk false (t := c1) (x := (.tuple [])) (y := (.bool false)) (by kernel_rfl) (bfalse h3)) ?_
  refine W.adv 4 ?_
  exact W.fin (x := .ret) (by kernel_rfl) (Ans.of (d := (.bool false)) (d' := (.bool false)) (e' := (.bool false)) (by kernel_rfl) (by kernel_rfl) (by kernel_rfl) (by rw [H]))
end Go.Proofs.YtfijdkdpcjfiaaaGreatA
namespace Go.Proofs.YtfijdkdpcjfiaaaGreatA
open Go Go.Proofs
theorem addr_Within_go {a0_0 : Int} {a0_1 : Int} {a1_0 : Int} {a1_1 : Int} {z : Bool} (H : (∃ c1 : Bool, (addr_May_R a0_0 a0_1 c1 ∧ ((c1 = true ∧ ((a1_1 ≤ a0_1 ∧ (∃ c5 : Bool, (addr_Has_R a1_0 a1_1 a0_0 c5 ∧ (z = c5)))) ∨ (¬ a1_1 ≤ a0_1 ∧ (z = false)))) ∨ (¬ c1 = true ∧ (z = false)))))) : addr_Within_R a0_0 a0_1 a1_0 a1_1 z := by
 refine W.ic (zs := [(.agg [.int .u32 a0_0, .int .i64 a0_1]), (.agg [.int .u32 a1_0, .int .i64 a1_1])]) Tryz.func15 (by kernel_rfl) (by kernel_rfl) (by kernel_rfl) (by kernel_rfl) ?_
 refine W.adv 10 ?_
 obtain ⟨c1, hc2, H⟩ := H
 refine W.callR (g := 18) (ds := [(.agg [.int .u32 a0_0, .int .i64 a0_1])]) (es := [(.agg [.int .u32 a0_0, .int .i64 a0_1])]) (r := (.bool c1)) (by kernel_rfl) (by kernel_rfl) (Ic.args hc2 (by kernel_rfl)) (by kernel_rfl) ?_
 refine W.adv 1 ?_
 rcases H with ⟨h3, H⟩ | ⟨h3, H⟩
 ·refine W.guard true (w := (c1 == true)) (by kernel_rfl) (congrArg (fun b => b == true) h3) ?_
  refine W.adv 1 ?_
  refine W.guard true (w := (c1 == true)) (by kernel_rfl) (congrArg (fun b => b == true) h3) ?_
  refine W.adv 1 ?_
  refine W.guard true (w := (c1 == true)) (by kernel_rfl) (congrArg (fun b => b == true) h3) ?_
  refine W.adv 1 ?_
  refine W.guard true (w := (c1 == true)) (by kernel_rfl) (congrArg (fun b => b == true) h3) ?_
  refine W.adv 1 ?_
  refine W.guard true (w := (c1 == true)) (by kernel_rfl) (congrArg (fun b => b == true) h3) ?_
  refine W.adv 1 ?_
  refine W.opS (OpIs.pk true (t := c1) (x := (.bool (decide (a1_1 ≤ a0_1)))) (y := (.bool false)) (by kernel_rfl) h3) ?_
  refine W.adv 1 ?_
  rcases H with ⟨h4, H⟩ | ⟨h4, H⟩
  ·refine W.guard true (w := ((decide (a1_1 ≤ a0_1)) == true)) (by kernel_rfl) (congrArg (fun b => b == true) (decide_eq_true h4)) ?_
   refine W.adv 1 ?_
   refine W.guard true (w := ((decide (a1_1 ≤ a0_1)) == true)) (by kernel_rfl) (congrArg (fun b => b == true) (decide_eq_true h4)) ?_
   refine W.adv 1 ?_
   refine W.guard true (w := ((decide (a1_1 ≤ a0_1)) == true)) (by kernel_rfl) (congrArg (fun b => b == true) (decide_eq_true h4)) ?_
   refine W.adv 1 ?_
   refine W.guard true (w := ((decide (a1_1 ≤ a0_1)) == true)) (by kernel_rfl) (congrArg (fun b => b == true) (decide_eq_true h4)) ?_
   obtain ⟨c5, hc6, H⟩ := H
   refine W.callR (g := 25) (ds := [(.agg [.int .u32 a1_0, .int .i64 a1_1]), .int .u32 a0_0]) (es := [(.agg [.int .u32 a1_0, .int .i64 a1_1]), .int .u32 a0_0]) (r := (.bool c5)) (by kernel_rfl) (by kernel_rfl) (Ic.args hc6 (by kernel_rfl)) (by kernel_rfl) ?_
   refine W.opS (OpIs.pk true (t := (decide (a1_1 ≤ a0_1))) (x := (.bool c5)) (y := (.bool false)) (by kernel_rfl) (decide_eq_true h4)) ?_
   refine W.adv 4 ?_
   exact W.fin (x := .ret) (by kernel_rfl) (Ans.of (d := (.bool c5)) (d' := (.bool c5)) (e' := (.bool c5)) (by kernel_rfl) (by kernel_rfl) (by kernel_rfl) (by rw [H]))
  ·refine W.guard false (w := ((decide (a1_1 ≤ a0_1)) == true)) (by kernel_rfl) (congrArg (fun b => b == true) (decide_eq_false h4)) ?_
   refine W.guard false (w := ((decide (a1_1 ≤ a0_1)) == true)) (by kernel_rfl) (congrArg (fun b => b == true) (decide_eq_false h4)) ?_
   refine W.guard false (w := ((decide (a1_1 ≤ a0_1)) == true)) (by kernel_rfl) (congrArg (fun b => b == true) (decide_eq_false h4)) ?_
   refine W.guard false (w := ((decide (a1_1 ≤ a0_1)) == true)) (by kernel_rfl) (congrArg (fun b => b == true) (decide_eq_false h4)) ?_
   refine W.opS (OpIs.pk false (t := (decide (a1_1 ≤ a0_1))) (x := (.tuple [])) (y := (.bool false)) (by kernel_rfl) (decide_eq_false h4)) ?_
   refine W.adv 4 ?_
   exact W.fin (x := .ret) (by kernel_rfl) (Ans.of (d := (.bool false)) (d' := (.bool false)) (e' := (.bool false)) (by kernel_rfl) (by kernel_rfl) (by kernel_rfl) (by rw [H]))
 ·refine W.guard false (w := (c1 == true)) (by kernel_rfl) (congrArg (fun b => b == true) (bfalse h3)) ?_
  refine W.guard false (w := (c1 == true)) (by kernel_rfl) (congrArg (fun b => b == true) (bfalse h3)) ?_
  refine W.guard false (w := (c1 == true)) (by kernel_rfl) (congrArg (fun b => b == true) (bfalse h3)) ?_
  refine W.guard false (w := (c1 == true)) (by kernel_rfl) (congrArg (fun b => b == true) (bfalse h3)) ?_
  refine W.guard false (w := (c1 == true)) (by kernel_rfl) (congrArg (fun b => b == true) (bfalse h3)) ?_
  refine W.opS (OpIs.pk false (t := c1) (x := (.tuple [])) (y := (.bool false)) (by kernel_rfl) (bfalse h3)) ?_
  refine W.adv 10 ?_
  exact W.fin (x := .ret) (by kernel_rfl) (Ans.of (d := (.bool false)) (d' := (.bool false)) (e' := (.bool false)) (by kernel_rfl) (by kernel_rfl) (by kernel_rfl) (by rw [H]))
end Go.Proofs.YtfijdkdpcjfiaaaGreatA
namespace Go.Proofs.YtfijdkdpcjfiaaaGreatA
open Go Go.Proofs
theorem lean_Half_go {a0_0 : Int} {a0_1 : Int} {zt0_0 : Int} {zt0_1 : Int} {zt1_0 : Int} {zt1_1 : Int} {zt2 : Bool} (H : (∃ c1 : Bool, (addr_May_R a0_0 a0_1 c1 ∧ ((c1 = true ∧ ((a0_1 = 0 ∧ (zt0_0 = 0 ∧ zt0_1 = 0 ∧ zt1_0 = 0 ∧ zt1_1 = 0 ∧ zt2 = false)) ∨ (¬ a0_1 = 0 ∧ (0 ≤ (wi (32 - a0_1)) ∧ (∃ t6, t6 = (bits .xor .u32 a0_0 (IntKind.wrap .u32 (1 * 2 ^ (min (wi (32 - a0_1)).toNat 32)))) ∧ (∃ t8, t8 = (bits .andNot .u32 a0_0 (IntKind.wrap .u32 (1 * 2 ^ (min (wi (32 - a0_1)).toNat 32)))) ∧ (zt0_0 = t6 ∧ zt0_1 = a0_1 ∧ zt1_0 = t8 ∧ zt1_1 = (wi (a0_1 - 1)) ∧ zt2 = true))))))) ∨ (¬ c1 = true ∧ (zt0_0 = 0 ∧ zt0_1 = 0 ∧ zt1_0 = 0 ∧ zt1_1 = 0 ∧ zt2 = false)))))) : lean_Half_R a0_0 a0_1 zt0_0 zt0_1 zt1_0 zt1_1 zt2 := by
 refine W.ic (zs := [(.agg [.int .u32 a0_0, .int .i64 a0_1])]) Tryz.func8 (by kernel_rfl) (by kernel_rfl) (by kernel_rfl) (by kernel_rfl) ?_
 refine W.adv 12 ?_
 obtain ⟨c1, hc2, H⟩ := H
 refine W.callR (g := 18) (ds := [(.agg [.int .u32 a0_0, .int .i64 a0_1])]) (es := [(.agg [.int .u32 a0_0, .int .i64 a0_1])]) (r := (.bool c1)) (by kernel_rfl) (by kernel_rfl) (Ic.args hc2 (by kernel_rfl)) (by kernel_rfl) ?_
 refine W.adv 2 ?_
 rcases H with ⟨h3, H⟩ | ⟨h3, H⟩
 ·refine W.guard true (w := ((!c1) == false)) (by kernel_rfl) (congrArg (fun b => b == false) (congrArg (fun b => !b) h3)) ?_
  refine W.adv 1 ?_
  refine W.guard true (w := ((!c1) == false)) (by kernel_rfl) (congrArg (fun b => b == false) (congrArg (fun b => !b) h3)) ?_
  refine W.adv 1 ?_
  refine W.guard true (w := ((!c1) == false)) (by kernel_rfl) (congrArg (fun b => b == false) (congrArg (fun b => !b) h3)) ?_
  refine W.adv 1 ?_
  refine W.opS (OpIs.pk false (t := (!c1)) (x := (.bool true)) (y := (.bool (decide (a0_1 = 0)))) (by kernel_rfl) (congrArg (fun b => !b) h3)) ?_
  refine W.adv 2 ?_
  rcases H with ⟨h4, H⟩ | ⟨h4, H⟩
  ·refine W.cond true (w := (decide (a0_1 = 0))) (by kernel_rfl) (decide_eq_true h4) ?_
   refine W.adv 11 ?_
   exact W.fin (x := .ret) (by kernel_rfl) (Ans.of (d := (.tuple [(.agg [.int .u32 0, .int .i64 0]), (.agg [.int .u32 0, .int .i64 0]), .bool false])) (d' := (.tuple [(.agg [.int .u32 0, .int .i64 0]), (.agg [.int .u32 0, .int .i64 0]), .bool false])) (e' := (.tuple [(.agg [.int .u32 0, .int .i64 0]), (.agg [.int .u32 0, .int .i64 0]), .bool false])) (by kernel_rfl) (by kernel_rfl) (by kernel_rfl) (by rw [H.1, H.2.1, H.2.2.1, H.2.2.2.1, H.2.2.2.2]))
  ·refine W.cond false (w := (decide (a0_1 = 0))) (by kernel_rfl) (decide_eq_false h4) ?_
   refine W.adv 7 ?_
   obtain ⟨h5, H⟩ := H
   refine W.opS (OpIs.bn (op := .shl) (x := (.int .u32 1)) (y := (.int .i64 (wi (32 - a0_1)))) (by kernel_rfl) (shlD h5)) ?_
   refine W.adv 8 ?_
   obtain ⟨t6, ht7, H⟩ := H
   refine W.opS (OpIs.bnN (k := .u32) (op := .xor) (x := (.int .u32 a0_0)) (y := (.int .u32 (IntKind.wrap .u32 (1 * 2 ^ (min (wi (32 - a0_1)).toNat 32))))) (by kernel_rfl) ht7 (by kernel_rfl)) ?_
   refine W.adv 13 ?_
   obtain ⟨t8, ht9, H⟩ := H
   refine W.opS (OpIs.bnN (k := .u32) (op := .andNot) (x := (.int .u32 a0_0)) (y := (.int .u32 (IntKind.wrap .u32 (1 * 2 ^ (min (wi (32 - a0_1)).toNat 32))))) (by kernel_rfl) ht9 (by kernel_rfl)) ?_
   refine W.adv 10 ?_
   exact W.fin (x := .ret) (by kernel_rfl) (Ans.of (d := (.tuple [(.agg [.int .u32 t6, .int .i64 a0_1]), (.agg [.int .u32 t8, (.int .i64 (wi (a0_1 - 1)))]), .bool true])) (d' := (.tuple [(.agg [.int .u32 t6, .int .i64 a0_1]), (.agg [.int .u32 t8, (.int .i64 (wi (a0_1 - 1)))]), .bool true])) (e' := (.tuple [(.agg [.int .u32 t6, .int .i64 a0_1]), (.agg [.int .u32 t8, (.int .i64 (wi (a0_1 - 1)))]), .bool true])) (by kernel_rfl) (by kernel_rfl) (by kernel_rfl) (by rw [H.1, H.2.1, H.2.2.1, H.2.2.2.1, H.2.2.2.2]))
 ·refine W.guard false (w := ((!c1) == false)) (by kernel_rfl) (congrArg (fun b => b == false) (congrArg (fun b => !b) (bfalse h3))) ?_
  refine W.guard false (w := ((!c1) == false)) (by kernel_rfl) (congrArg (fun b => b == false) (congrArg (fun b => !b) (bfalse h3))) ?_
  refine W.guard false (w := ((!c1) == false)) (by kernel_rfl) (congrArg (fun b => b == false) (congrArg (fun b => !b) (bfalse h3))) ?_
  refine W.opS (OpIs.pk true (t := (!c1)) (x := (.bool true)) (y := (.tuple [])) (by kernel_rfl) (congrArg (fun b => !b) (bfalse h3))) ?_
  refine W.adv 14 ?_
  exact W.fin (x := .ret) (by kernel_rfl) (Ans.of (d := (.tuple [(.agg [.int .u32 0, .int .i64 0]), (.agg [.int .u32 0, .int .i64 0]), .bool false])) (d' := (.tuple [(.agg [.int .u32 0, .int .i64 0]), (.agg [.int .u32 0, .int .i64 0]), .bool false])) (e' := (.tuple [(.agg [.int .u32 0, .int .i64 0]), (.agg [.int .u32 0, .int .i64 0]), .bool false])) (by kernel_rfl) (by kernel_rfl) (by kernel_rfl) (by rw [H.1, H.2.1, H.2.2.1, H.2.2.2.1, H.2.2.2.2]))
end Go.Proofs.YtfijdkdpcjfiaaaGreatA
namespace Go.Proofs.YtfijdkdpcjfiaaaGreatA
open Go Go.Proofs
theorem addr_May_go {a0_0 : Int} {a0_1 : Int} {z : Bool} (H : ((0 ≤ a0_1 ∧ ((a0_1 ≤ 32 ∧ (∃ c3 : Int, (addr_Mask_R a0_1 c3 ∧ (z = (decide ((bits .andNot .u32 a0_0 c3) = 0)))))) ∨ (¬ a0_1 ≤ 32 ∧ (z = false)))) ∨ (¬ 0 ≤ a0_1 ∧ (z = false)))) : addr_May_R a0_0 a0_1 z := by
 refine W.ic (zs := [(.agg [.int .u32 a0_0, .int .i64 a0_1])]) Tryz.func18 (by kernel_rfl) (by kernel_rfl) (by kernel_rfl) (by kernel_rfl) ?_
 refine W.adv 12 ?_
 rcases H with ⟨h1, H⟩ | ⟨h1, H⟩
 ·refine W.guard true (w := ((decide (0 ≤ a0_1)) == true)) (by kernel_rfl) (congrArg (fun b => b == true) (decide_eq_true h1)) ?_
  refine W.adv 1 ?_
  refine W.guard true (w := ((decide (0 ≤ a0_1)) == true)) (by kernel_rfl) (congrArg (fun b => b == true) (decide_eq_true h1)) ?_
  refine W.adv 1 ?_
  refine W.guard true (w := ((decide (0 ≤ a0_1)) == true)) (by kernel_rfl) (congrArg (fun b => b == true) (decide_eq_true h1)) ?_
  refine W.adv 1 ?_
  refine W.opS (OpIs.pk true (t := (decide (0 ≤ a0_1))) (x := (.bool (decide (a0_1 ≤ 32)))) (y := (.bool false)) (by kernel_rfl) (decide_eq_true h1)) ?_
  refine W.adv 1 ?_
  rcases H with ⟨h2, H⟩ | ⟨h2, H⟩
  ·refine W.guard true (w := ((decide (a0_1 ≤ 32)) == true)) (by kernel_rfl) (congrArg (fun b => b == true) (decide_eq_true h2)) ?_
   refine W.adv 1 ?_
   refine W.guard true (w := ((decide (a0_1 ≤ 32)) == true)) (by kernel_rfl) (congrArg (fun b => b == true) (decide_eq_true h2)) ?_
   refine W.adv 1 ?_
   refine W.guard true (w := ((decide (a0_1 ≤ 32)) == true)) (by kernel_rfl) (congrArg (fun b => b == true) (decide_eq_true h2)) ?_
   refine W.adv 1 ?_
   refine W.guard true (w := ((decide (a0_1 ≤ 32)) == true)) (by kernel_rfl) (congrArg (fun b => b == true) (decide_eq_true h2)) ?_
   refine W.adv 1 ?_
   refine W.guard true (w := ((decide (a0_1 ≤ 32)) == true)) (by kernel_rfl) (congrArg (fun b => b == true) (decide_eq_true h2)) ?_
   obtain ⟨c3, hc4, H⟩ := H
   refine W.callR (g := 26) (ds := [.int .i64 a0_1]) (es := [.int .i64 a0_1]) (r := (.int .u32 c3)) (by kernel_rfl) (by kernel_rfl) (Ic.args hc4 (by kernel_rfl)) (by kernel_rfl) ?_
   refine W.guard true (w := ((decide (a0_1 ≤ 32)) == true)) (by kernel_rfl) (congrArg (fun b => b == true) (decide_eq_true h2)) ?_
   refine W.adv 1 ?_
   refine W.guard true (w := ((decide (a0_1 ≤ 32)) == true)) (by kernel_rfl) (congrArg (fun b => b == true) (decide_eq_true h2)) ?_
   refine W.adv 1 ?_
   refine W.opS (OpIs.pk true (t := (decide (a0_1 ≤ 32))) (x := (.bool (decide ((bits .andNot .u32 a0_0 c3) = 0)))) (y := (.bool false)) (by kernel_rfl) (decide_eq_true h2)) ?_
   refine W.adv 4 ?_
   exact W.fin (x := .ret) (by kernel_rfl) (Ans.of (d := (.bool (decide ((bits .andNot .u32 a0_0 c3) = 0)))) (d' := (.bool (decide ((bits .andNot .u32 a0_0 c3) = 0)))) (e' := (.bool (decide ((bits .andNot .u32 a0_0 c3) = 0)))) (by kernel_rfl) (by kernel_rfl) (by kernel_rfl) (by rw [H]))
  ·refine W.guard false (w := ((decide (a0_1 ≤ 32)) == true)) (by kernel_rfl) (congrArg (fun b => b == true) (decide_eq_false h2)) ?_
   refine W.guard false (w := ((decide (a0_1 ≤ 32)) == true)) (by kernel_rfl) (congrArg (fun b => b == true) (decide_eq_false h2)) ?_
   refine W.guard false (w := ((decide (a0_1 ≤ 32)) == true)) (by kernel_rfl) (congrArg (fun b => b == true) (decide_eq_false h2)) ?_
   refine W.guard false (w := ((decide (a0_1 ≤ 32)) == true)) (by kernel_rfl) (congrArg (fun b => b == true) (decide_eq_false h2)) ?_
   refine W.guard false (w := ((decide (a0_1 ≤ 32)) == true)) (by kernel_rfl) (congrArg (fun b => b == true) (decide_eq_false h2)) ?_
   refine W.guard false (w := ((decide (a0_1 ≤ 32)) == true)) (by kernel_rfl) (congrArg (fun b => b == true) (decide_eq_false h2)) ?_
   refine W.guard false (w := ((decide (a0_1 ≤ 32)) == true)) (by kernel_rfl) (congrArg (fun b => b == true) (decide_eq_false h2)) ?_
   refine W.opS (OpIs.pk false (t := (decide (a0_1 ≤ 32))) (x := (.tuple [])) (y := (.bool false)) (by kernel_rfl) (decide_eq_false h2)) ?_
   refine W.adv 4 ?_
   exact W.fin (x := .ret) (by kernel_rfl) (Ans.of (d := (.bool false)) (d' := (.bool false)) (e' := (.bool false)) (by kernel_rfl) (by kernel_rfl) (by kernel_rfl) (by rw [H]))
 ·refine W.guard false (w := ((decide (0 ≤ a0_1)) == true)) (by kernel_rfl) (congrArg (fun b => b == true) (decide_eq_false h1)) ?_
  refine W.guard false (w := ((decide (0 ≤ a0_1)) == true)) (by kernel_rfl) (congrArg (fun b => b == true) (decide_eq_false h1)) ?_
  refine W.guard false (w := ((decide (0 ≤ a0_1)) == true)) (by kernel_rfl) (congrArg (fun b => b == true) (decide_eq_false h1)) ?_
  refine W.opS (OpIs.pk false (t := (decide (0 ≤ a0_1))) (x := (.tuple [])) (y := (.bool false)) (by kernel_rfl) (decide_eq_false h1)) ?_
  refine W.adv 13 ?_
  exact W.fin (x := .ret) (by kernel_rfl) (Ans.of (d := (.bool false)) (d' := (.bool false)) (e' := (.bool false)) (by kernel_rfl) (by kernel_rfl) (by kernel_rfl) (by rw [H]))
end Go.Proofs.YtfijdkdpcjfiaaaGreatA
namespace Go.Proofs.YtfijdkdpcjfiaaaGreatA
open Go Go.Proofs
theorem ref18_May_go {a0_0 : Int} {a0_1 : Int} {z : Bool} (H : ((0 ≤ a0_1 ∧ ((a0_1 ≤ 32 ∧ (∃ c3 : Int, (ref18_Size_R a0_1 c3 ∧ (c3 ≠ 0 ∧ (z = (decide (((wu (a0_0)).tmod c3) = 0))))))) ∨ (¬ a0_1 ≤ 32 ∧ (z = false)))) ∨ (¬ 0 ≤ a0_1 ∧ (z = false)))) : ref18_May_R a0_0 a0_1 z := by
 refine W.ic (zs := [(.agg [.int .u32 a0_0, .int .i64 a0_1])]) Tryz.func16 (by kernel_rfl) (by kernel_rfl) (by kernel_rfl) (by kernel_rfl) ?_
 refine W.adv 12 ?_
 rcases H with ⟨h1, H⟩ | ⟨h1, H⟩
 ·refine W.guard true (w := ((decide (0 ≤ a0_1)) == true)) (by kernel_rfl) (congrArg (fun b => b == true) (decide_eq_true h1)) ?_
  refine W.adv 1 ?_
  refine W.guard true (w := ((decide (0 ≤ a0_1)) == true)) (by kernel_rfl) (congrArg (fun b => b == true) (decide_eq_true h1)) ?_
  refine W.adv 1 ?_
  refine W.guard true (w := ((decide (0 ≤ a0_1)) == true)) (by kernel_rfl) (congrArg (fun b => b == true) (decide_eq_true h1)) ?_
  refine W.adv 1 ?_
  refine W.opS (OpIs.pk true (t := (decide (0 ≤ a0_1))) (x := (.bool (decide (a0_1 ≤ 32)))) (y := (.bool false)) (by kernel_rfl) (decide_eq_true h1)) ?_
  refine W.adv 1 ?_
  rcases H with ⟨h2, H⟩ | ⟨h2, H⟩
  ·refine W.guard true (w := ((decide (a0_1 ≤ 32)) == true)) (by kernel_rfl) (congrArg (fun b => b == true) (decide_eq_true h2)) ?_
   refine W.adv 1 ?_
   refine W.guard true (w := ((decide (a0_1 ≤ 32)) == true)) (by kernel_rfl) (congrArg (fun b => b == true) (decide_eq_true h2)) ?_
   refine W.adv 1 ?_
   refine W.guard true (w := ((decide (a0_1 ≤ 32)) == true)) (by kernel_rfl) (congrArg (fun b => b == true) (decide_eq_true h2)) ?_
   refine W.adv 1 ?_
   refine W.guard true (w := ((decide (a0_1 ≤ 32)) == true)) (by kernel_rfl) (congrArg (fun b => b == true) (decide_eq_true h2)) ?_
   refine W.adv 1 ?_
   refine W.guard true (w := ((decide (a0_1 ≤ 32)) == true)) (by kernel_rfl) (congrArg (fun b => b == true) (decide_eq_true h2)) ?_
   refine W.adv 1 ?_
   refine W.guard true (w := ((decide (a0_1 ≤ 32)) == true)) (by kernel_rfl) (congrArg (fun b => b == true) (decide_eq_true h2)) ?_
   obtain ⟨c3, hc4, H⟩ := H
   refine W.callR (g := 19) (ds := [.int .i64 a0_1]) (es := [.int .i64 a0_1]) (r := (.int .u64 c3)) (by kernel_rfl) (by kernel_rfl) (Ic.args hc4 (by kernel_rfl)) (by kernel_rfl) ?_
   refine W.guard true (w := ((decide (a0_1 ≤ 32)) == true)) (by kernel_rfl) (congrArg (fun b => b == true) (decide_eq_true h2)) ?_
   obtain ⟨h5, H⟩ := H
   refine W.opS (OpIs.bn (op := .rem) (x := (.int .u64 (wu (a0_0)))) (y := (.int .u64 c3)) (by kernel_rfl) (remD h5)) ?_
   refine W.guard true (w := ((decide (a0_1 ≤ 32)) == true)) (by kernel_rfl) (congrArg (fun b => b == true) (decide_eq_true h2)) ?_
   refine W.adv 1 ?_
   refine W.opS (OpIs.pk true (t := (decide (a0_1 ≤ 32))) (x := (.bool (decide (((wu (a0_0)).tmod c3) = 0)))) (y := (.bool false)) (by kernel_rfl) (decide_eq_true h2)) ?_
   refine W.adv 4 ?_
   exact W.fin (x := .ret) (by kernel_rfl) (Ans.of (d := (.bool (decide (((wu (a0_0)).tmod c3) = 0)))) (d' := (.bool (decide (((wu (a0_0)).tmod c3) = 0)))) (e' := (.bool (decide (((wu (a0_0)).tmod c3) = 0)))) (by kernel_rfl) (by kernel_rfl) (by kernel_rfl) (by rw [H]))
  ·refine W.guard false (w := ((decide (a0_1 ≤ 32)) == true)) (by kernel_rfl) (congrArg (fun b => b == true) (decide_eq_false h2)) ?_
   refine W.guard false (w := ((decide (a0_1 ≤ 32)) == true)) (by kernel_rfl) (congrArg (fun b => b == true) (decide_eq_false h2)) ?_
   refine W.guard false (w := ((decide (a0_1 ≤ 32)) == true)) (by kernel_rfl) (congrArg (fun b => b == true) (decide_eq_false h2)) ?_
   refine W.guard false (w := ((decide (a0_1 ≤ 32)) == true)) (by kernel_rfl) (congrArg (fun b => b == true) (decide_eq_false h2)) ?_
   refine W.guard false (w := ((decide (a0_1 ≤ 32)) == true)) (by kernel_rfl) (congrArg (fun b => b == true) (decide_eq_false h2)) ?_
   refine W.guard false (w := ((decide (a0_1 ≤ 32)) == true)) (by kernel_rfl) (congrArg (fun b => b == true) (decide_eq_false h2)) ?_
   refine W.guard false (w := ((decide (a0_1 ≤ 32)) == true)) (by kernel_rfl) (congrArg (fun b => b == true) (decide_eq_false h2)) ?_
   refine W.guard false (w := ((decide (a0_1 ≤ 32)) == true)) (by kernel_rfl) (congrArg (fun b => b == true) (decide_eq_false h2)) ?_
   refine W.opS (OpIs.pk false (t := (decide (a0_1 ≤ 32))) (x := (.tuple [])) (y := (.bool false)) (by kernel_rfl) (decide_eq_false h2)) ?_
   refine W.adv 4 ?_
   exact W.fin (x := .ret) (by kernel_rfl) (Ans.of (d := (.bool false)) (d' := (.bool false)) (e' := (.bool false)) (by kernel_rfl) (by kernel_rfl) (by kernel_rfl) (by rw [H]))
 ·refine W.guard false (w := ((decide (0 ≤ a0_1)) == true)) (by kernel_rfl) (congrArg (fun b => b == true) (decide_eq_false h1)) ?_
  refine W.guard false (w := ((decide (0 ≤ a0_1)) == true)) (by kernel_rfl) (congrArg (fun b => b == true) (decide_eq_false h1)) ?_
  refine W.guard false (w := ((decide (0 ≤ a0_1)) == true)) (by kernel_rfl) (congrArg (fun b => b == true) (decide_eq_false h1)) ?_
  refine W.opS (OpIs.pk false (t := (decide (0 ≤ a0_1))) (x := (.tuple [])) (y := (.bool false)) (by kernel_rfl) (decide_eq_false h1)) ?_
  refine W.adv 14 ?_
  exact W.fin (x := .ret) (by kernel_rfl) (Ans.of (d := (.bool false)) (d' := (.bool false)) (e' := (.bool false)) (by kernel_rfl) (by kernel_rfl) (by kernel_rfl) (by rw [H]))
end Go.Proofs.YtfijdkdpcjfiaaaGreatA
namespace Go.Proofs.YtfijdkdpcjfiaaaGreatA
open Go Go.Proofs
theorem ref18_Has_go {a0_0 : Int} {a0_1 : Int} {a1 : Int} {z : Bool} (H : (∃ c1 : Bool, (ref18_May_R a0_0 a0_1 c1 ∧ ((c1 = true ∧ ((a0_0 ≤ a1 ∧ (∃ c5 : Int, (ref18_Size_R a0_1 c5 ∧ (z = (decide ((wu ((IntKind.wrap .u32 (a1 - a0_0)))) < c5)))))) ∨ (¬ a0_0 ≤ a1 ∧ (z = false)))) ∨ (¬ c1 = true ∧ (z = false)))))) : ref18_Has_R a0_0 a0_1 a1 z := by
 refine W.ic (zs := [(.agg [.int .u32 a0_0, .int .i64 a0_1]), .int .u32 a1]) Tryz.func17 (by kernel_rfl) (by kernel_rfl) (by kernel_rfl) (by kernel_rfl) ?_
 refine W.adv 9 ?_
 obtain ⟨c1, hc2, H⟩ := H
 refine W.callR (g := 16) (ds := [(.agg [.int .u32 a0_0, .int .i64 a0_1])]) (es := [(.agg [.int .u32 a0_0, .int .i64 a0_1])]) (r := (.bool c1)) (by kernel_rfl) (by kernel_rfl) (Ic.args hc2 (by kernel_rfl)) (by kernel_rfl) ?_
 refine W.adv 1 ?_
 rcases H with ⟨h3, H⟩ | ⟨h3, H⟩
 ·refine W.guard true (w := (c1 == true)) (by kernel_rfl) (congrArg (fun b => b == true) h3) ?_
  refine W.adv 1 ?_
  refine W.guard true (w := (c1 == true)) (by kernel_rfl) (congrArg (fun b => b == true) h3) ?_
  refine W.adv 1 ?_
  refine W.guard true (w := (c1 == true)) (by kernel_rfl) (congrArg (fun b => b == true) h3) ?_
  refine W.adv 1 ?_
  refine W.guard true (w := (c1 == true)) (by kernel_rfl) (congrArg (fun b => b == true) h3) ?_
  refine W.adv 1 ?_
  refine W.opS (OpIs.pk true (t := c1) (x := (.bool (decide (a0_0 ≤ a1)))) (y := (.bool false)) (by kernel_rfl) h3) ?_
  refine W.adv 1 ?_
  rcases H with ⟨h4, H⟩ | ⟨h4, H⟩
  ·refine W.guard true (w := ((decide (a0_0 ≤ a1)) == true)) (by kernel_rfl) (congrArg (fun b => b == true) (decide_eq_true h4)) ?_
   refine W.adv 1 ?_
   refine W.guard true (w := ((decide (a0_0 ≤ a1)) == true)) (by kernel_rfl) (congrArg (fun b => b == true) (decide_eq_true h4)) ?_
   refine W.adv 1 ?_
   refine W.guard true (w := ((decide (a0_0 ≤ a1)) == true)) (by kernel_rfl) (congrArg (fun b => b == true) (decide_eq_true h4)) ?_
   refine W.adv 1 ?_
   refine W.guard true (w := ((decide (a0_0 ≤ a1)) == true)) (by kernel_rfl) (congrArg (fun b => b == true) (decide_eq_true h4)) ?_
   refine W.adv 1 ?_
   refine W.guard true (w := ((decide (a0_0 ≤ a1)) == true)) (by kernel_rfl) (congrArg (fun b => b == true) (decide_eq_true h4)) ?_
   refine W.adv 1 ?_
   refine W.guard true (w := ((decide (a0_0 ≤ a1)) == true)) (by kernel_rfl) (congrArg (fun b => b == true) (decide_eq_true h4)) ?_
   refine W.adv 1 ?_
   refine W.guard true (w := ((decide (a0_0 ≤ a1)) == true)) (by kernel_rfl) (congrArg (fun b => b == true) (decide_eq_true h4)) ?_
   refine W.adv 1 ?_
   refine W.guard true (w := ((decide (a0_0 ≤ a1)) == true)) (by kernel_rfl) (congrArg (fun b => b == true) (decide_eq_true h4)) ?_
   obtain ⟨c5, hc6, H⟩ := H
   refine W.callR (g := 19) (ds := [.int .i64 a0_1]) (es := [.int .i64 a0_1]) (r := (.int .u64 c5)) (by kernel_rfl) (by kernel_rfl) (Ic.args hc6 (by kernel_rfl)) (by kernel_rfl) ?_
   refine W.guard true (w := ((decide (a0_0 ≤ a1)) == true)) (by kernel_rfl) (congrArg (fun b => b == true) (decide_eq_true h4)) ?_
   refine W.adv 1 ?_
   refine W.opS (OpIs.pk true (t := (decide (a0_0 ≤ a1))) (x := (.bool (decide ((wu ((IntKind.wrap .u32 (a1 - a0_0)))) < c5)))) (y := (.bool false)) (by kernel_rfl) (decide_eq_true h4)) ?_
   refine W.adv 4 ?_
   exact W.fin (x := .ret) (by kernel_rfl) (Ans.of (d := (.bool (decide ((wu ((IntKind.wrap .u32 (a1 - a0_0)))) < c5)))) (d' := (.bool (decide ((wu ((IntKind.wrap .u32 (a1 - a0_0)))) < c5)))) (e' := (.bool (decide ((wu ((IntKind.wrap .u32 (a1 - a0_0)))) < c5)))) (by kernel_rfl) (by kernel_rfl) (by kernel_rfl) (by rw [H]))
  ·refine W.guard false (w := ((decide (a0_0 ≤ a1)) == true)) (by kernel_rfl) (congrArg (fun b => b == true) (decide_eq_false h4)) ?_
   refine W.guard false (w := ((decide (a0_0 ≤ a1)) == true)) (by kernel_rfl) (congrArg (fun b => b == true) (decide_eq_false h4)) ?_
   refine W.guard false (w := ((decide (a0_0 ≤ a1)) == true)) (by kernel_rfl) (congrArg (fun b => b == true) (decide_eq_false h4)) ?_
   refine W.guard false (w := ((decide (a0_0 ≤ a1)) == true)) (by kernel_rfl) (congrArg (fun b => b == true) (decide_eq_false h4)) ?_
   refine W.guard false (w := ((decide (a0_0 ≤ a1)) == true)) (by kernel_rfl) (congrArg (fun b => b == true) (decide_eq_false h4)) ?_
   refine W.guard false (w := ((decide (a0_0 ≤ a1)) == true)) (by kernel_rfl) (congrArg (fun b => b == true) (decide_eq_false h4)) ?_
   refine W.guard false (w := ((decide (a0_0 ≤ a1)) == true)) (by kernel_rfl) (congrArg (fun b => b == true) (decide_eq_false h4)) ?_
   refine W.guard false (w := ((decide (a0_0 ≤ a1)) == true)) (by kernel_rfl) (congrArg (fun b => b == true) (decide_eq_false h4)) ?_
   refine W.guard false (w := ((decide (a0_0 ≤ a1)) == true)) (by kernel_rfl) (congrArg (fun b => b == true) (decide_eq_false h4)) ?_
   refine W.opS (OpIs.pk false (t := (decide (a0_0 ≤ a1))) (x := (.tuple [])) (y := (.bool false)) (by kernel_rfl) (decide_eq_false h4)) ?_
   refine W.adv 4 ?_
   exact W.fin (x := .ret) (by kernel_rfl) (Ans.of (d := (.bool false)) (d' := (.bool false)) (e' := (.bool false)) (by kernel_rfl) (by kernel_rfl) (by kernel_rfl) (by rw [H]))
 ·refine W.guard false (w := (c1 == true)) (by kernel_rfl) (congrArg (fun b => b == true) (bfalse h3)) ?_
  refine W.guard false (w := (c1 == true)) (by kernel_rfl) (congrArg (fun b => b == true) (bfalse h3)) ?_
  refine W.guard false (w := (c1 == true)) (by kernel_rfl) (congrArg (fun b => b == true) (bfalse h3)) ?_
  refine W.guard false (w := (c1 == true)) (by kernel_rfl) (congrArg (fun b => b == true) (bfalse h3)) ?_
  refine W.opS (OpIs.pk false (t := c1) (x := (.tuple [])) (y := (.bool false)) (by kernel_rfl) (bfalse h3)) ?_
  refine W.adv 15 ?_
  exact W.fin (x := .ret) (by kernel_rfl) (Ans.of (d := (.bool false)) (d' := (.bool false)) (e' := (.bool false)) (by kernel_rfl) (by kernel_rfl) (by kernel_rfl) (by rw [H]))
end Go.Proofs.YtfijdkdpcjfiaaaGreatA
namespace Go.Proofs.YtfijdkdpcjfiaaaGreatA
open Go Go.Proofs
theorem ref07_Of_go {a0_0 : Bool} {a0_1 : List Int} {z_0 : Bool} {z_1 : List Int} (H : (∃ c1 : List Int, (ref02_Of_R a0_1 c1 ∧ (∃ c3_0 : Bool, (∃ c3_1 : List Int, (ref07_made_R a0_0 c1 c3_0 c3_1 ∧ (z_0 = c3_0 ∧ z_1 = c3_1))))))) : ref07_Of_R a0_0 a0_1 z_0 z_1 := by
 refine W.ic (zs := [(.agg [.bool a0_0, .ints .u64 a0_1])]) Tryz.func34 (by kernel_rfl) (by kernel_rfl) (by kernel_rfl) (by kernel_rfl) ?_
 refine W.adv 12 ?_
 obtain ⟨c1, hc2, H⟩ := H
 refine W.callR (g := 36) (ds := [.ints .u64 a0_1]) (es := [.ints .u64 a0_1]) (r := (.ints .i64 c1)) (by kernel_rfl) (by kernel_rfl) (Ic.args hc2 (by kernel_rfl)) (by kernel_rfl) ?_
 obtain ⟨c3_0, c3_1, hc4, H⟩ := H
 refine W.callR (g := 51) (ds := [.bool a0_0, .ints .i64 c1]) (es := [.bool a0_0, .ints .i64 c1]) (r := (.agg [.bool c3_0, .ints .i64 c3_1])) (by kernel_rfl) (by kernel_rfl) (Ic.args hc4 (by kernel_rfl)) (by kernel_rfl) ?_
 refine W.adv 4 ?_
 exact W.fin (x := .ret) (by kernel_rfl) (Ans.of (d := (.agg [.bool c3_0, .ints .i64 c3_1])) (d' := (.agg [.bool c3_0, .ints .i64 c3_1])) (e' := (.agg [.bool c3_0, .ints .i64 c3_1])) (by kernel_rfl) (by kernel_rfl) (by kernel_rfl) (by rw [H.1, H.2]))
theorem ref07_Clean_go {a0_0 : Bool} {a0_1 : List Int} {a1 : Int} {z_0 : Bool} {z_1 : List Int} (H : (∃ c1 : List Int, (ref02_Clean_R a0_1 a1 c1 ∧ ((a0_0 = true ∧ (z_0 = (decide (0 < (c1.length : Int))) ∧ z_1 = c1)) ∨ (¬ a0_0 = true ∧ (z_0 = false ∧ z_1 = c1)))))) : ref07_Clean_R a0_0 a0_1 a1 z_0 z_1 := by
 refine W.ic (zs := [(.agg [.bool a0_0, .ints .u64 a0_1]), .int .i64 a1]) Tryz.func35 (by kernel_rfl) (by kernel_rfl) (by kernel_rfl) (by kernel_rfl) ?_
 refine W.adv 11 ?_
 obtain ⟨c1, hc2, H⟩ := H
 refine W.callR (g := 31) (ds := [.ints .u64 a0_1, .int .i64 a1]) (es := [.ints .u64 a0_1, .int .i64 a1]) (r := (.ints .u64 c1)) (by kernel_rfl) (by kernel_rfl) (Ic.args hc2 (by kernel_rfl)) (by kernel_rfl) ?_
 refine W.adv 8 ?_
 rcases H with ⟨h3, H⟩ | ⟨h3, H⟩
 ·refine W.guard true (w := (a0_0 == true)) (by kernel_rfl) (congrArg (fun b => b == true) h3) ?_
  refine W.adv 1 ?_
  refine W.guard true (w := (a0_0 == true)) (by kernel_rfl) (congrArg (fun b => b == true) h3) ?_
  refine W.adv 1 ?_
  refine W.guard true (w := (a0_0 == true)) (by kernel_rfl) (congrArg (fun b => b == true) h3) ?_
  refine W.adv 1 ?_
  refine W.opS (OpIs.pk true (t := a0_0) (x := (.bool (decide (0 < (c1.length : Int))))) (y := (.bool false)) (by kernel_rfl) h3) ?_
  refine W.adv 6 ?_
  exact W.fin (x := .ret) (by kernel_rfl) (Ans.of (d := (.agg [(.bool (decide (0 < (c1.length : Int)))), .ints .u64 c1])) (d' := (.agg [(.bool (decide (0 < (c1.length : Int)))), .ints .u64 c1])) (e' := (.agg [(.bool (decide (0 < (c1.length : Int)))), .ints .u64 c1])) (by kernel_rfl) (by kernel_rfl) (by kernel_rfl) (by rw [H.1, H.2]))
 ·refine W.guard false (w := (a0_0 == true)) (by kernel_rfl) (congrArg (fun b => b == true) (bfalse h3)) ?_
  refine W.guard false (w := (a0_0 == true)) (by kernel_rfl) (congrArg (fun b => b == true) (bfalse h3)) ?_
  refine W.guard false (w := (a0_0 == true)) (by kernel_rfl) (congrArg (fun b => b == true) (bfalse h3)) ?_
  refine W.opS (OpIs.pk false (t := a0_0) (x := (.tuple [])) (y := (.bool false)) (by kernel_rfl) (bfalse h3)) ?_
  refine W.adv 6 ?_
  exact W.fin (x := .ret) (by kernel_rfl) (Ans.of (d := (.agg [.bool false, .ints .u64 c1])) (d' := (.agg [.bool false, .ints .u64 c1])) (e' := (.agg [.bool false, .ints .u64 c1])) (by kernel_rfl) (by kernel_rfl) (by kernel_rfl) (by rw [H.1, H.2]))
theorem ref07_Back_go {a0_0 : Bool} {a0_1 : List Int} {z_0 : Bool} {z_1 : List Int} (H : (∃ c1 : List Int, (ref02_Back_R a0_1 c1 ∧ (z_0 = a0_0 ∧ z_1 = c1)))) : ref07_Back_R a0_0 a0_1 z_0 z_1 := by
 refine W.ic (zs := [(.agg [.bool a0_0, .ints .i64 a0_1])]) Tryz.func47 (by kernel_rfl) (by kernel_rfl) (by kernel_rfl) (by kernel_rfl) ?_
 refine W.adv 12 ?_
 obtain ⟨c1, hc2, H⟩ := H
 refine W.callR (g := 48) (ds := [.ints .i64 a0_1]) (es := [.ints .i64 a0_1]) (r := (.ints .u64 c1)) (by kernel_rfl) (by kernel_rfl) (Ic.args hc2 (by kernel_rfl)) (by kernel_rfl) ?_
 refine W.adv 5 ?_
 exact W.fin (x := .ret) (by kernel_rfl) (Ans.of (d := (.agg [.bool a0_0, .ints .u64 c1])) (d' := (.agg [.bool a0_0, .ints .u64 c1])) (e' := (.agg [.bool a0_0, .ints .u64 c1])) (by kernel_rfl) (by kernel_rfl) (by kernel_rfl) (by rw [H.1, H.2]))
theorem ref07_made_go {a0 : Bool} {a1 : List Int} {z_0 : Bool} {z_1 : List Int} (H : ((a0 = true ∧ (z_0 = (decide (0 < (a1.length : Int))) ∧ z_1 = a1)) ∨ (¬ a0 = true ∧ (z_0 = false ∧ z_1 = a1)))) : ref07_made_R a0 a1 z_0 z_1 := by
 refine W.ic (zs := [.bool a0, .ints .i64 a1]) Tryz.func51 (by kernel_rfl) (by kernel_rfl) (by kernel_rfl) (by kernel_rfl) ?_
 refine W.adv 9 ?_
 rcases H with ⟨h1, H⟩ | ⟨h1, H⟩
 ·refine W.guard true (w := (a0 == true)) (by kernel_rfl) (congrArg (fun b => b == true) h1) ?_
  refine W.adv 1 ?_
  refine W.guard true (w := (a0 == true)) (by kernel_rfl) (congrArg (fun b => b == true) h1) ?_
  refine W.adv 1 ?_
  refine W.guard true (w := (a0 == true)) (by kernel_rfl) (congrArg (fun b => b == true) h1) ?_
  refine W.adv 1 ?_
  refine W.opS (OpIs.pk true (t := a0) (x := (.bool (decide (0 < (a1.length : Int))))) (y := (.bool false)) (by kernel_rfl) h1) ?_
  refine W.adv 6 ?_
  exact W.fin (x := .ret) (by kernel_rfl) (Ans.of (d := (.agg [(.bool (decide (0 < (a1.length : Int)))), .ints .i64 a1])) (d' := (.agg [(.bool (decide (0 < (a1.length : Int)))), .ints .i64 a1])) (e' := (.agg [(.bool (decide (0 < (a1.length : Int)))), .ints .i64 a1])) (by kernel_rfl) (by kernel_rfl) (by kernel_rfl) (by rw [H.1, H.2]))
 ·refine W.guard false (w := (a0 == true)) (by kernel_rfl) (congrArg (fun b => b == true) (bfalse h1)) ?_
  refine W.guard false (w := (a0 == true)) (by kernel_rfl) (congrArg (fun b => b == true) (bfalse h1)) ?_
  refine W.guard false (w := (a0 == true)) (by kernel_rfl) (congrArg (fun b => b == true) (bfalse h1)) ?_
  refine W.opS (OpIs.pk false (t := a0) (x := (.tuple [])) (y := (.bool false)) (by kernel_rfl) (bfalse h1)) ?_
  refine W.adv 6 ?_
  exact W.fin (x := .ret) (by kernel_rfl) (Ans.of (d := (.agg [.bool false, .ints .i64 a1])) (d' := (.agg [.bool false, .ints .i64 a1])) (e' := (.agg [.bool false, .ints .i64 a1])) (by kernel_rfl) (by kernel_rfl) (by kernel_rfl) (by rw [H.1, H.2]))
end Go.Proofs.YtfijdkdpcjfiaaaGreatA
namespace Go.Proofs.YtfijdkdpcjfiaaaGreatA
open Go Go.Proofs
theorem ref45_Half_go {a0_0 : Int} {a0_1 : Int} {zt0_0 : Int} {zt0_1 : Int} {zt1_0 : Int} {zt1_1 : Int} {zt2 : Bool} (H : (∃ c1 : Bool, (ref18_May_R a0_0 a0_1 c1 ∧ ((c1 = true ∧ ((a0_1 = 0 ∧ (zt0_0 = 0 ∧ zt0_1 = 0 ∧ zt1_0 = 0 ∧ zt1_1 = 0 ∧ zt2 = false)) ∨ (¬ a0_1 = 0 ∧ (∃ c5 : Int, (ref18_Size_R a0_1 c5 ∧ ((IntKind.wrap .u32 (c5)) ≠ 0 ∧ (∃ t8, t8 = (IntKind.wrap .u32 (((IntKind.wrap .u32 (a0_0.tdiv (IntKind.wrap .u32 (c5)))).tmod 2) * (IntKind.wrap .u32 (c5)))) ∧ ((a0_0 = (IntKind.wrap .u32 (a0_0 - t8)) ∧ (zt0_0 = (IntKind.wrap .u32 (a0_0 + (IntKind.wrap .u32 (c5)))) ∧ zt0_1 = a0_1 ∧ zt1_0 = (IntKind.wrap .u32 (a0_0 - t8)) ∧ zt1_1 = (wi (a0_1 - 1)) ∧ zt2 = true)) ∨ (¬ a0_0 = (IntKind.wrap .u32 (a0_0 - t8)) ∧ (zt0_0 = (IntKind.wrap .u32 (a0_0 - t8)) ∧ zt0_1 = a0_1 ∧ zt1_0 = (IntKind.wrap .u32 (a0_0 - t8)) ∧ zt1_1 = (wi (a0_1 - 1)) ∧ zt2 = true)))))))))) ∨ (¬ c1 = true ∧ (zt0_0 = 0 ∧ zt0_1 = 0 ∧ zt1_0 = 0 ∧ zt1_1 = 0 ∧ zt2 = false)))))) : ref45_Half_R a0_0 a0_1 zt0_0 zt0_1 zt1_0 zt1_1 zt2 := by
 refine W.ic (zs := [(.agg [.int .u32 a0_0, .int .i64 a0_1])]) Tryz.func9 (by kernel_rfl) (by kernel_rfl) (by kernel_rfl) (by kernel_rfl) ?_
 refine W.adv 12 ?_
 obtain ⟨c1, hc2, H⟩ := H
 refine W.callR (g := 16) (ds := [(.agg [.int .u32 a0_0, .int .i64 a0_1])]) (es := [(.agg [.int .u32 a0_0, .int .i64 a0_1])]) (r := (.bool c1)) (by kernel_rfl) (by kernel_rfl) (Ic.args hc2 (by kernel_rfl)) (by kernel_rfl) ?_
 refine W.adv 2 ?_
 rcases H with ⟨h3, H⟩ | ⟨h3, H⟩
 ·refine W.guard true (w := ((!c1) == false)) (by kernel_rfl) (congrArg (fun b => b == false) (congrArg (fun b => !b) h3)) ?_
  refine W.adv 1 ?_
  refine W.guard true (w := ((!c1) == false)) (by kernel_rfl) (congrArg (fun b => b == false) (congrArg (fun b => !b) h3)) ?_
  refine W.adv 1 ?_
  refine W.guard true (w := ((!c1) == false)) (by kernel_rfl) (congrArg (fun b => b == false) (congrArg (fun b => !b) h3)) ?_
  refine W.adv 1 ?_
  refine W.opS (OpIs.pk false (t := (!c1)) (x := (.bool true)) (y := (.bool (decide (a0_1 = 0)))) (by kernel_rfl) (congrArg (fun b => !b) h3)) ?_
  refine W.adv 2 ?_
  rcases H with ⟨h4, H⟩ | ⟨h4, H⟩
  ·refine W.cond true (w := (decide (a0_1 = 0))) (by kernel_rfl) (decide_eq_true h4) ?_
   refine W.adv 11 ?_
   exact W.fin (x := .ret) (by kernel_rfl) (Ans.of (d := (.tuple [(.agg [.int .u32 0, .int .i64 0]), (.agg [.int .u32 0, .int .i64 0]), .bool false])) (d' := (.tuple [(.agg [.int .u32 0, .int .i64 0]), (.agg [.int .u32 0, .int .i64 0]), .bool false])) (e' := (.tuple [(.agg [.int .u32 0, .int .i64 0]), (.agg [.int .u32 0, .int .i64 0]), .bool false])) (by kernel_rfl) (by kernel_rfl) (by kernel_rfl) (by rw [H.1, H.2.1, H.2.2.1, H.2.2.2.1, H.2.2.2.2]))
  ·refine W.cond false (w := (decide (a0_1 = 0))) (by kernel_rfl) (decide_eq_false h4) ?_
   refine W.adv 6 ?_
   obtain ⟨c5, hc6, H⟩ := H
   refine W.callR (g := 19) (ds := [.int .i64 a0_1]) (es := [.int .i64 a0_1]) (r := (.int .u64 c5)) (by kernel_rfl) (by kernel_rfl) (Ic.args hc6 (by kernel_rfl)) (by kernel_rfl) ?_
   refine W.adv 12 ?_
   refine W.cond false (w := (decide (a0_1 = 0))) (by kernel_rfl) (decide_eq_false h4) ?_
   refine W.adv 9 ?_
   obtain ⟨h7, H⟩ := H
   refine W.opS (OpIs.bn (op := .quo) (x := (.int .u32 a0_0)) (y := (.int .u32 (IntKind.wrap .u32 (c5)))) (by kernel_rfl) (quoD h7)) ?_
   refine W.adv 2 ?_
   obtain ⟨t8, ht9, H⟩ := H
   refine W.opS (OpIs.bnN (k := .u32) (op := .mul) (x := (.int .u32 ((IntKind.wrap .u32 (a0_0.tdiv (IntKind.wrap .u32 (c5)))).tmod 2))) (y := (.int .u32 (IntKind.wrap .u32 (c5)))) (by kernel_rfl) ht9 (by kernel_rfl)) ?_
   refine W.adv 19 ?_
   rcases H with ⟨h10, H⟩ | ⟨h10, H⟩
   ·refine W.cond true (w := (decide (a0_0 = (IntKind.wrap .u32 (a0_0 - t8))))) (by kernel_rfl) (decide_eq_true h10) ?_
    refine W.adv 17 ?_
    exact W.fin (x := .ret) (by kernel_rfl) (Ans.of (d := (.tuple [(.agg [(.int .u32 (IntKind.wrap .u32 (a0_0 + (IntKind.wrap .u32 (c5))))), .int .i64 a0_1]), (.agg [(.int .u32 (IntKind.wrap .u32 (a0_0 - t8))), (.int .i64 (wi (a0_1 - 1)))]), .bool true])) (d' := (.tuple [(.agg [(.int .u32 (IntKind.wrap .u32 (a0_0 + (IntKind.wrap .u32 (c5))))), .int .i64 a0_1]), (.agg [(.int .u32 (IntKind.wrap .u32 (a0_0 - t8))), (.int .i64 (wi (a0_1 - 1)))]), .bool true])) (e' := (.tuple [(.agg [(.int .u32 (IntKind.wrap .u32 (a0_0 + (IntKind.wrap .u32 (c5))))), .int .i64 a0_1]), (.agg [(.int .u32 (IntKind.wrap .u32 (a0_0 - t8))), (.int .i64 (wi (a0_1 - 1)))]), .bool true])) (by kernel_rfl) (by kernel_rfl) (by kernel_rfl) (by rw [H.1, H.2.1, H.2.2.1, H.2.2.2.1, H.2.2.2.2]))
   ·refine W.cond false (w := (decide (a0_0 = (IntKind.wrap .u32 (a0_0 - t8))))) (by kernel_rfl) (decide_eq_false h10) ?_
    refine W.adv 16 ?_
    exact W.fin (x := .ret) (by kernel_rfl) (Ans.of (d := (.tuple [(.agg [(.int .u32 (IntKind.wrap .u32 (a0_0 - t8))), .int .i64 a0_1]), (.agg [(.int .u32 (IntKind.wrap .u32 (a0_0 - t8))), (.int .i64 (wi (a0_1 - 1)))]), .bool true])) (d' := (.tuple [(.agg [(.int .u32 (IntKind.wrap .u32 (a0_0 - t8))), .int .i64 a0_1]), (.agg [(.int .u32 (IntKind.wrap .u32 (a0_0 - t8))), (.int .i64 (wi (a0_1 - 1)))]), .bool true])) (e' := (.tuple [(.agg [(.int .u32 (IntKind.wrap .u32 (a0_0 - t8))), .int .i64 a0_1]), (.agg [(.int .u32 (IntKind.wrap .u32 (a0_0 - t8))), (.int .i64 (wi (a0_1 - 1)))]), .bool true])) (by kernel_rfl) (by kernel_rfl) (by kernel_rfl) (by rw [H.1, H.2.1, H.2.2.1, H.2.2.2.1, H.2.2.2.2]))
 ·refine W.guard false (w := ((!c1) == false)) (by kernel_rfl) (congrArg (fun b => b == false) (congrArg (fun b => !b) (bfalse h3))) ?_
  refine W.guard false (w := ((!c1) == false)) (by kernel_rfl) (congrArg (fun b => b == false) (congrArg (fun b => !b) (bfalse h3))) ?_
  refine W.guard false (w := ((!c1) == false)) (by kernel_rfl) (congrArg (fun b => b == false) (congrArg (fun b => !b) (bfalse h3))) ?_
  refine W.opS (OpIs.pk true (t := (!c1)) (x := (.bool true)) (y := (.tuple [])) (by kernel_rfl) (congrArg (fun b => !b) (bfalse h3))) ?_
  refine W.adv 14 ?_
  exact W.fin (x := .ret) (by kernel_rfl) (Ans.of (d := (.tuple [(.agg [.int .u32 0, .int .i64 0]), (.agg [.int .u32 0, .int .i64 0]), .bool false])) (d' := (.tuple [(.agg [.int .u32 0, .int .i64 0]), (.agg [.int .u32 0, .int .i64 0]), .bool false])) (e' := (.tuple [(.agg [.int .u32 0, .int .i64 0]), (.agg [.int .u32 0, .int .i64 0]), .bool false])) (by kernel_rfl) (by kernel_rfl) (by kernel_rfl) (by rw [H.1, H.2.1, H.2.2.1, H.2.2.2.1, H.2.2.2.2]))
end Go.Proofs.YtfijdkdpcjfiaaaGreatA
namespace Go.Proofs.YtfijdkdpcjfiaaaGreatA
open Go Go.Proofs
theorem lean_Alike_go {a0_0 : ByteArray} {a0_1 : Int} {a0_2 : Int} {a0_3 : Bool} {a0_4 : List T46} {a1_0 : ByteArray} {a1_1 : Int} {a1_2 : Int} {a1_3 : Bool} {a1_4 : List T46} {z : Bool} (H : ((a0_3 = true ∧ ((a1_3 = true ∧ (∃ c3 : Bool, (slices_EqualFunc_____api_Hop_____api_Hop___api_Hop___api_Hop__v0_R a0_4 a1_4 c3 ∧ (z = c3)))) ∨ (¬ a1_3 = true ∧ (z = false)))) ∨ (¬ a0_3 = true ∧ ((a1_3 = true ∧ (z = false)) ∨ (¬ a1_3 = true ∧ (∃ c6 : Bool, (slices_EqualFunc_____api_Hop_____api_Hop___api_Hop___api_Hop__v0_R a0_4 a1_4 c6 ∧ (z = c6)))))))) : lean_Alike_R a0_0 a0_1 a0_2 a0_3 a0_4 a1_0 a1_1 a1_2 a1_3 a1_4 z := by
 refine W.ic (zs := [(.agg [.str a0_0, .int .u32 a0_1, .int .i64 a0_2, .bool a0_3, (.list 1 (a0_4.map E46))]), (.agg [.str a1_0, .int .u32 a1_1, .int .i64 a1_2, .bool a1_3, (.list 1 (a1_4.map E46))])]) Tryz.func10 (by kernel_rfl) (by kernel_rfl) (by kernel_rfl) (by kernel_rfl) ?_
 refine W.adv 15 ?_
 rcases H with ⟨h1, H⟩ | ⟨h1, H⟩
 ·rcases H with ⟨h2, H⟩ | ⟨h2, H⟩
  ·refine W.guard true (w := ((a0_3 == a1_3) == true)) (by kernel_rfl) (congrArg (fun b => b == true) (congr (congrArg (fun x y => x == y) h1) h2)) ?_
   refine W.adv 1 ?_
   refine W.guard true (w := ((a0_3 == a1_3) == true)) (by kernel_rfl) (congrArg (fun b => b == true) (congr (congrArg (fun x y => x == y) h1) h2)) ?_
   refine W.adv 1 ?_
   refine W.guard true (w := ((a0_3 == a1_3) == true)) (by kernel_rfl) (congrArg (fun b => b == true) (congr (congrArg (fun x y => x == y) h1) h2)) ?_
   refine W.adv 1 ?_
   refine W.guard true (w := ((a0_3 == a1_3) == true)) (by kernel_rfl) (congrArg (fun b => b == true) (congr (congrArg (fun x y => x == y) h1) h2)) ?_
   refine W.adv 1 ?_
   refine W.guard true (w := ((a0_3 == a1_3) == true)) (by kernel_rfl) (congrArg (fun b => b == true) (congr (congrArg (fun x y => x == y) h1) h2)) ?_
   obtain ⟨c3, hc4, H⟩ := H
   refine W.callR (g := 20) (ds := [(.list 1 (a0_4.map E46)), (.list 1 (a1_4.map E46)), .fn 21 [] []]) (es := [(.list 1 (a0_4.map E46)), (.list 1 (a1_4.map E46)), .fn 21 [] []]) (r := (.bool c3)) (by kernel_rfl) (by kernel_rfl) (Ic.args hc4 (by kernel_rfl)) (by kernel_rfl) ?_
   refine W.opS (OpIs.pk true (t := (a0_3 == a1_3)) (x := (.bool c3)) (y := (.bool false)) (by kernel_rfl) (congr (congrArg (fun x y => x == y) h1) h2)) ?_
   refine W.adv 4 ?_
   exact W.fin (x := .ret) (by kernel_rfl) (Ans.of (d := (.bool c3)) (d' := (.bool c3)) (e' := (.bool c3)) (by kernel_rfl) (by kernel_rfl) (by kernel_rfl) (by rw [H]))
  ·refine W.guard false (w := ((a0_3 == a1_3) == true)) (by kernel_rfl) (congrArg (fun b => b == true) (congr (congrArg (fun x y => x == y) h1) (bfalse h2))) ?_
   refine W.guard false (w := ((a0_3 == a1_3) == true)) (by kernel_rfl) (congrArg (fun b => b == true) (congr (congrArg (fun x y => x == y) h1) (bfalse h2))) ?_
   refine W.guard false (w := ((a0_3 == a1_3) == true)) (by kernel_rfl) (congrArg (fun b => b == true) (congr (congrArg (fun x y => x == y) h1) (bfalse h2))) ?_
   refine W.guard false (w := ((a0_3 == a1_3) == true)) (by kernel_rfl) (congrArg (fun b => b == true) (congr (congrArg (fun x y => x == y) h1) (bfalse h2))) ?_
   refine W.guard false (w := ((a0_3 == a1_3) == true)) (by kernel_rfl) (congrArg (fun b => b == true) (congr (congrArg (fun x y => x == y) h1) (bfalse h2))) ?_
   refine W.opS (OpIs.pk false (t := (a0_3 == a1_3)) (x := (.tuple [])) (y := (.bool false)) (by kernel_rfl) (congr (congrArg (fun x y => x == y) h1) (bfalse h2))) ?_
   refine W.adv 4 ?_
   exact W.fin (x := .ret) (by kernel_rfl) (Ans.of (d := (.bool false)) (d' := (.bool false)) (e' := (.bool false)) (by kernel_rfl) (by kernel_rfl) (by kernel_rfl) (by rw [H]))
 ·rcases H with ⟨h5, H⟩ | ⟨h5, H⟩
  ·refine W.guard false (w := ((a0_3 == a1_3) == true)) (by kernel_rfl) (congrArg (fun b => b == true) (congr (congrArg (fun x y => x == y) (bfalse h1)) h5)) ?_
   refine W.guard false (w := ((a0_3 == a1_3) == true)) (by kernel_rfl) (congrArg (fun b => b == true) (congr (congrArg (fun x y => x == y) (bfalse h1)) h5)) ?_
   refine W.guard false (w := ((a0_3 == a1_3) == true)) (by kernel_rfl) (congrArg (fun b => b == true) (congr (congrArg (fun x y => x == y) (bfalse h1)) h5)) ?_
   refine W.guard false (w := ((a0_3 == a1_3) == true)) (by kernel_rfl) (congrArg (fun b => b == true) (congr (congrArg (fun x y => x == y) (bfalse h1)) h5)) ?_
   refine W.guard false (w := ((a0_3 == a1_3) == true)) (by kernel_rfl) (congrArg (fun b => b == true) (congr (congrArg (fun x y => x == y) (bfalse h1)) h5)) ?_
   refine W.opS (OpIs.pk false (t := (a0_3 == a1_3)) (x := (.tuple [])) (y := (.bool false)) (by kernel_rfl) (congr (congrArg (fun x y => x == y) (bfalse h1)) h5)) ?_
   refine W.adv 4 ?_
   exact W.fin (x := .ret) (by kernel_rfl) (Ans.of (d := (.bool false)) (d' := (.bool false)) (e' := (.bool false)) (by kernel_rfl) (by kernel_rfl) (by kernel_rfl) (by rw [H]))
  ·refine W.guard true (w := ((a0_3 == a1_3) == true)) (by kernel_rfl) (congrArg (fun b => b == true) (congr (congrArg (fun x y => x == y) (bfalse h1)) (bfalse h5))) ?_
   refine W.adv 1 ?_
   refine W.guard true (w := ((a0_3 == a1_3) == true)) (by kernel_rfl) (congrArg (fun b => b == true) (congr (congrArg (fun x y => x == y) (bfalse h1)) (bfalse h5))) ?_
   refine W.adv 1 ?_
   refine W.guard true (w := ((a0_3 == a1_3) == true)) (by kernel_rfl) (congrArg (fun b => b == true) (congr (congrArg (fun x y => x == y) (bfalse h1)) (bfalse h5))) ?_
   refine W.adv 1 ?_
   refine W.guard true (w := ((a0_3 == a1_3) == true)) (by kernel_rfl) (congrArg (fun b => b == true) (congr (congrArg (fun x y => x == y) (bfalse h1)) (bfalse h5))) ?_
   refine W.adv 1 ?_
   refine W.guard true (w := ((a0_3 == a1_3) == true)) (by kernel_rfl) (congrArg (fun b => b == true) (congr (congrArg (fun x y => x == y) (bfalse h1)) (bfalse h5))) ?_
   obtain ⟨c6, hc7, H⟩ := H
   refine W.callR (g := 20) (ds := [(.list 1 (a0_4.map E46)), (.list 1 (a1_4.map E46)), .fn 21 [] []]) (es := [(.list 1 (a0_4.map E46)), (.list 1 (a1_4.map E46)), .fn 21 [] []]) (r := (.bool c6)) (by kernel_rfl) (by kernel_rfl) (Ic.args hc7 (by kernel_rfl)) (by kernel_rfl) ?_
   refine W.opS (OpIs.pk true (t := (a0_3 == a1_3)) (x := (.bool c6)) (y := (.bool false)) (by kernel_rfl) (congr (congrArg (fun x y => x == y) (bfalse h1)) (bfalse h5))) ?_
   refine W.adv 4 ?_
   exact W.fin (x := .ret) (by kernel_rfl) (Ans.of (d := (.bool c6)) (d' := (.bool c6)) (e' := (.bool c6)) (by kernel_rfl) (by kernel_rfl) (by kernel_rfl) (by rw [H]))
end Go.Proofs.YtfijdkdpcjfiaaaGreatA
namespace Go.Proofs.YtfijdkdpcjfiaaaGreatA
open Go Go.Proofs
theorem ref08_Clean_go {a0_0 : Bool} {a0_1 : List Int} {a0_2 : List Int} {a1 : Int} {z_0 : Bool} {z_1 : List Int} {z_2 : List Int} (H : (∃ c1 : List Int, (ref02_Clean_R a0_2 a1 c1 ∧ (((c1.length : Int) = 0 ∧ (∃ c4_0 : Bool, (∃ c4_1 : List Int, (ref07_Clean_R a0_0 a0_1 a1 c4_0 c4_1 ∧ (∃ c6_0 : Bool, (∃ c6_1 : List Int, (ref07_Of_R c4_0 c4_1 c6_0 c6_1 ∧ (∃ c8 : List Int, (ref02_Of_R [1] c8 ∧ (∃ c10_0 : Bool, (∃ c10_1 : List Int, (∃ c10_2 : List Int, (ref08_Low_R c6_0 c6_1 c8 c10_0 c10_1 c10_2 ∧ (∃ c12_0 : Bool, (∃ c12_1 : List Int, (∃ c12_2 : List Int, (ref08_Back_R c10_0 c10_1 c10_2 c12_0 c12_1 c12_2 ∧ (z_0 = c12_0 ∧ z_1 = c12_1 ∧ z_2 = c12_2)))))))))))))))))) ∨ (¬ (c1.length : Int) = 0 ∧ (∃ c14_0 : Bool, (∃ c14_1 : List Int, (ref07_Clean_R a0_0 a0_1 a1 c14_0 c14_1 ∧ (∃ c16_0 : Bool, (∃ c16_1 : List Int, (ref07_Of_R c14_0 c14_1 c16_0 c16_1 ∧ (∃ c18 : List Int, (ref02_Of_R c1 c18 ∧ (∃ c20_0 : Bool, (∃ c20_1 : List Int, (∃ c20_2 : List Int, (ref08_Low_R c16_0 c16_1 c18 c20_0 c20_1 c20_2 ∧ (∃ c22_0 : Bool, (∃ c22_1 : List Int, (∃ c22_2 : List Int, (ref08_Back_R c20_0 c20_1 c20_2 c22_0 c22_1 c22_2 ∧ (z_0 = c22_0 ∧ z_1 = c22_1 ∧ z_2 = c22_2)))))))))))))))))))))) : ref08_Clean_R a0_0 a0_1 a0_2 a1 z_0 z_1 z_2 := by
 refine W.ic (zs := [(.agg [.bool a0_0, .ints .u64 a0_1, .ints .u64 a0_2]), .int .i64 a1]) Tryz.func24 (by kernel_rfl) (by kernel_rfl) (by kernel_rfl) (by kernel_rfl) ?_
 refine W.adv 11 ?_
 obtain ⟨c1, hc2, H⟩ := H
 refine W.callR (g := 31) (ds := [.ints .u64 a0_2, .int .i64 a1]) (es := [.ints .u64 a0_2, .int .i64 a1]) (r := (.ints .u64 c1)) (by kernel_rfl) (by kernel_rfl) (Ic.args hc2 (by kernel_rfl)) (by kernel_rfl) ?_
 refine W.adv 11 ?_
 rcases H with ⟨h3, H⟩ | ⟨h3, H⟩
 ·refine W.cond true (w := (decide ((c1.length : Int) = 0))) (by kernel_rfl) (decide_eq_true h3) ?_
  refine W.adv 10 ?_
  obtain ⟨c4_0, c4_1, hc5, H⟩ := H
  refine W.callR (g := 35) (ds := [(.agg [.bool a0_0, .ints .u64 a0_1]), .int .i64 a1]) (es := [(.agg [.bool a0_0, .ints .u64 a0_1]), .int .i64 a1]) (r := (.agg [.bool c4_0, .ints .u64 c4_1])) (by kernel_rfl) (by kernel_rfl) (Ic.args hc5 (by kernel_rfl)) (by kernel_rfl) ?_
  obtain ⟨c6_0, c6_1, hc7, H⟩ := H
  refine W.callR (g := 34) (ds := [(.agg [.bool c4_0, .ints .u64 c4_1])]) (es := [(.agg [.bool c4_0, .ints .u64 c4_1])]) (r := (.agg [.bool c6_0, .ints .i64 c6_1])) (by kernel_rfl) (by kernel_rfl) (Ic.args hc7 (by kernel_rfl)) (by kernel_rfl) ?_
  refine W.adv 1 ?_
  obtain ⟨c8, hc9, H⟩ := H
  refine W.callR (g := 36) (ds := [(.lit (.ints .u64 [1]))]) (es := [.ints .u64 [1]]) (r := (.ints .i64 c8)) (by kernel_rfl) (by kernel_rfl) (Ic.args hc9 (by kernel_rfl)) (by kernel_rfl) ?_
  obtain ⟨c10_0, c10_1, c10_2, hc11, H⟩ := H
  refine W.callR (g := 33) (ds := [(.agg [.bool c6_0, .ints .i64 c6_1]), .ints .i64 c8]) (es := [(.agg [.bool c6_0, .ints .i64 c6_1]), .ints .i64 c8]) (r := (.agg [.bool c10_0, .ints .i64 c10_1, .ints .i64 c10_2])) (by kernel_rfl) (by kernel_rfl) (Ic.args hc11 (by kernel_rfl)) (by kernel_rfl) ?_
  obtain ⟨c12_0, c12_1, c12_2, hc13, H⟩ := H
  refine W.callR (g := 32) (ds := [(.agg [.bool c10_0, .ints .i64 c10_1, .ints .i64 c10_2])]) (es := [(.agg [.bool c10_0, .ints .i64 c10_1, .ints .i64 c10_2])]) (r := (.agg [.bool c12_0, .ints .u64 c12_1, .ints .u64 c12_2])) (by kernel_rfl) (by kernel_rfl) (Ic.args hc13 (by kernel_rfl)) (by kernel_rfl) ?_
  refine W.adv 4 ?_
  exact W.fin (x := .ret) (by kernel_rfl) (Ans.of (d := (.agg [.bool c12_0, .ints .u64 c12_1, .ints .u64 c12_2])) (d' := (.agg [.bool c12_0, .ints .u64 c12_1, .ints .u64 c12_2])) (e' := (.agg [.bool c12_0, .ints .u64 c12_1, .ints .u64 c12_2])) (by kernel_rfl) (by kernel_rfl) (by kernel_rfl) (by rw [H.1, H.2.1, H.2.2]))
 ·refine W.cond false (w := (decide ((c1.length : Int) = 0))) (by kernel_rfl) (decide_eq_false h3) ?_
  refine W.adv 7 ?_
  obtain ⟨c14_0, c14_1, hc15, H⟩ := H
  refine W.callR (g := 35) (ds := [(.agg [.bool a0_0, .ints .u64 a0_1]), .int .i64 a1]) (es := [(.agg [.bool a0_0, .ints .u64 a0_1]), .int .i64 a1]) (r := (.agg [.bool c14_0, .ints .u64 c14_1])) (by kernel_rfl) (by kernel_rfl) (Ic.args hc15 (by kernel_rfl)) (by kernel_rfl) ?_
  obtain ⟨c16_0, c16_1, hc17, H⟩ := H
  refine W.callR (g := 34) (ds := [(.agg [.bool c14_0, .ints .u64 c14_1])]) (es := [(.agg [.bool c14_0, .ints .u64 c14_1])]) (r := (.agg [.bool c16_0, .ints .i64 c16_1])) (by kernel_rfl) (by kernel_rfl) (Ic.args hc17 (by kernel_rfl)) (by kernel_rfl) ?_
  refine W.adv 1 ?_
  obtain ⟨c18, hc19, H⟩ := H
  refine W.callR (g := 36) (ds := [.ints .u64 c1]) (es := [.ints .u64 c1]) (r := (.ints .i64 c18)) (by kernel_rfl) (by kernel_rfl) (Ic.args hc19 (by kernel_rfl)) (by kernel_rfl) ?_
  obtain ⟨c20_0, c20_1, c20_2, hc21, H⟩ := H
  refine W.callR (g := 33) (ds := [(.agg [.bool c16_0, .ints .i64 c16_1]), .ints .i64 c18]) (es := [(.agg [.bool c16_0, .ints .i64 c16_1]), .ints .i64 c18]) (r := (.agg [.bool c20_0, .ints .i64 c20_1, .ints .i64 c20_2])) (by kernel_rfl) (by kernel_rfl) (Ic.args hc21 (by kernel_rfl)) (by kernel_rfl) ?_
  obtain ⟨c22_0, c22_1, c22_2, hc23, H⟩ := H
  refine W.callR (g := 32) (ds := [(.agg [.bool c20_0, .ints .i64 c20_1, .ints .i64 c20_2])]) (es := [(.agg [.bool c20_0, .ints .i64 c20_1, .ints .i64 c20_2])]) (r := (.agg [.bool c22_0, .ints .u64 c22_1, .ints .u64 c22_2])) (by kernel_rfl) (by kernel_rfl) (Ic.args hc23 (by kernel_rfl)) (by kernel_rfl) ?_
  refine W.adv 4 ?_
  exact W.fin (x := .ret) (by kernel_rfl) (Ans.of (d := (.agg [.bool c22_0, .ints .u64 c22_1, .ints .u64 c22_2])) (d' := (.agg [.bool c22_0, .ints .u64 c22_1, .ints .u64 c22_2])) (e' := (.agg [.bool c22_0, .ints .u64 c22_1, .ints .u64 c22_2])) (by kernel_rfl) (by kernel_rfl) (by kernel_rfl) (by rw [H.1, H.2.1, H.2.2]))
theorem ref08_Back_go {a0_0 : Bool} {a0_1 : List Int} {a0_2 : List Int} {z_0 : Bool} {z_1 : List Int} {z_2 : List Int} (H : (∃ c1_0 : Bool, (∃ c1_1 : List Int, (ref07_Back_R a0_0 a0_1 c1_0 c1_1 ∧ (∃ c3 : List Int, (ref02_Back_R a0_2 c3 ∧ (z_0 = c1_0 ∧ z_1 = c1_1 ∧ z_2 = c3))))))) : ref08_Back_R a0_0 a0_1 a0_2 z_0 z_1 z_2 := by
 refine W.ic (zs := [(.agg [.bool a0_0, .ints .i64 a0_1, .ints .i64 a0_2])]) Tryz.func32 (by kernel_rfl) (by kernel_rfl) (by kernel_rfl) (by kernel_rfl) ?_
 refine W.adv 10 ?_
 obtain ⟨c1_0, c1_1, hc2, H⟩ := H
 refine W.callR (g := 47) (ds := [(.agg [.bool a0_0, .ints .i64 a0_1])]) (es := [(.agg [.bool a0_0, .ints .i64 a0_1])]) (r := (.agg [.bool c1_0, .ints .u64 c1_1])) (by kernel_rfl) (by kernel_rfl) (Ic.args hc2 (by kernel_rfl)) (by kernel_rfl) ?_
 refine W.adv 2 ?_
 obtain ⟨c3, hc4, H⟩ := H
 refine W.callR (g := 48) (ds := [.ints .i64 a0_2]) (es := [.ints .i64 a0_2]) (r := (.ints .u64 c3)) (by kernel_rfl) (by kernel_rfl) (Ic.args hc4 (by kernel_rfl)) (by kernel_rfl) ?_
 refine W.adv 5 ?_
 exact W.fin (x := .ret) (by kernel_rfl) (Ans.of (d := (.agg [.bool c1_0, .ints .u64 c1_1, .ints .u64 c3])) (d' := (.agg [.bool c1_0, .ints .u64 c1_1, .ints .u64 c3])) (e' := (.agg [.bool c1_0, .ints .u64 c1_1, .ints .u64 c3])) (by kernel_rfl) (by kernel_rfl) (by kernel_rfl) (by rw [H.1, H.2.1, H.2.2]))
theorem ref08_Low_go {a0_0 : Bool} {a0_1 : List Int} {a1 : List Int} {z_0 : Bool} {z_1 : List Int} {z_2 : List Int} (H : (∃ c1 : List Int, (ref02_Gcd_R a0_1 a1 c1 ∧ (∃ c3t0 : List Int, (∃ c3t1 : List Int, (ref02_Div_R a0_1 c1 c3t0 c3t1 ∧ (∃ c5t0 : List Int, (∃ c5t1 : List Int, (ref02_Div_R a1 c1 c5t0 c5t1 ∧ ((a0_0 = true ∧ (z_0 = (decide (0 < (c3t0.length : Int))) ∧ z_1 = c3t0 ∧ z_2 = c5t0)) ∨ (¬ a0_0 = true ∧ (z_0 = false ∧ z_1 = c3t0 ∧ z_2 = c5t0)))))))))))) : ref08_Low_R a0_0 a0_1 a1 z_0 z_1 z_2 := by
 refine W.ic (zs := [(.agg [.bool a0_0, .ints .i64 a0_1]), .ints .i64 a1]) Tryz.func33 (by kernel_rfl) (by kernel_rfl) (by kernel_rfl) (by kernel_rfl) ?_
 refine W.adv 11 ?_
 obtain ⟨c1, hc2, H⟩ := H
 refine W.callR (g := 49) (ds := [.ints .i64 a0_1, .ints .i64 a1]) (es := [.ints .i64 a0_1, .ints .i64 a1]) (r := (.ints .i64 c1)) (by kernel_rfl) (by kernel_rfl) (Ic.args hc2 (by kernel_rfl)) (by kernel_rfl) ?_
 refine W.adv 8 ?_
 obtain ⟨c3t0, c3t1, hc4, H⟩ := H
 refine W.callR (g := 50) (ds := [.ints .i64 a0_1, .ints .i64 c1]) (es := [.ints .i64 a0_1, .ints .i64 c1]) (r := (.tuple [.ints .i64 c3t0, .ints .i64 c3t1])) (by kernel_rfl) (by kernel_rfl) (Ic.args hc4 (by kernel_rfl)) (by kernel_rfl) ?_
 refine W.adv 11 ?_
 obtain ⟨c5t0, c5t1, hc6, H⟩ := H
 refine W.callR (g := 50) (ds := [.ints .i64 a1, .ints .i64 c1]) (es := [.ints .i64 a1, .ints .i64 c1]) (r := (.tuple [.ints .i64 c5t0, .ints .i64 c5t1])) (by kernel_rfl) (by kernel_rfl) (Ic.args hc6 (by kernel_rfl)) (by kernel_rfl) ?_
 refine W.adv 12 ?_
 rcases H with ⟨h7, H⟩ | ⟨h7, H⟩
 ·refine W.guard true (w := (a0_0 == true)) (by kernel_rfl) (congrArg (fun b => b == true) h7) ?_
  refine W.adv 1 ?_
  refine W.guard true (w := (a0_0 == true)) (by kernel_rfl) (congrArg (fun b => b == true) h7) ?_
  refine W.adv 1 ?_
  refine W.guard true (w := (a0_0 == true)) (by kernel_rfl) (congrArg (fun b => b == true) h7) ?_
  refine W.adv 1 ?_
  refine W.opS (OpIs.pk true (t := a0_0) (x := (.bool (decide (0 < (c3t0.length : Int))))) (y := (.bool false)) (by kernel_rfl) h7) ?_
  refine W.adv 8 ?_
  exact W.fin (x := .ret) (by kernel_rfl) (Ans.of (d := (.agg [(.bool (decide (0 < (c3t0.length : Int)))), .ints .i64 c3t0, .ints .i64 c5t0])) (d' := (.agg [(.bool (decide (0 < (c3t0.length : Int)))), .ints .i64 c3t0, .ints .i64 c5t0])) (e' := (.agg [(.bool (decide (0 < (c3t0.length : Int)))), .ints .i64 c3t0, .ints .i64 c5t0])) (by kernel_rfl) (by kernel_rfl) (by kernel_rfl) (by rw [H.1, H.2.1, H.2.2]))
 ·refine W.guard false (w := (a0_0 == true)) (by kernel_rfl) (congrArg (fun b => b == true) (bfalse h7)) ?_
  refine W.guard false (w := (a0_0 == true)) (by kernel_rfl) (congrArg (fun b => b == true) (bfalse h7)) ?_
  refine W.guard false (w := (a0_0 == true)) (by kernel_rfl) (congrArg (fun b => b == true) (bfalse h7)) ?_
  refine W.opS (OpIs.pk false (t := a0_0) (x := (.tuple [])) (y := (.bool false)) (by kernel_rfl) (bfalse h7)) ?_
  refine W.adv 8 ?_
  exact W.fin (x := .ret) (by kernel_rfl) (Ans.of (d := (.agg [.bool false, .ints .i64 c3t0, .ints .i64 c5t0])) (d' := (.agg [.bool false, .ints .i64 c3t0, .ints .i64 c5t0])) (e' := (.agg [.bool false, .ints .i64 c3t0, .ints .i64 c5t0])) (by kernel_rfl) (by kernel_rfl) (by kernel_rfl) (by rw [H.1, H.2.1, H.2.2]))
end Go.Proofs.YtfijdkdpcjfiaaaGreatA
namespace Go.Proofs.YtfijdkdpcjfiaaaGreatA
open Go Go.Proofs
noncomputable def slices_Equal___api_Hop_api_Hop__l0_s (x0 : List T_api_Hop) (x1 : List T_api_Hop) (x12 : Int) (x13 : Int) (j : Nat → D) (jb : Nat → Blk) (vs : Nat → Nat) : Cf := cfAt Tryz.f22 [1, 1, 0, 1, 0] ⟨[(.list 2 (x0.map E_api_Hop)), (.list 2 (x1.map E_api_Hop)), j 2, j 3, j 4, j 5, j 6, j 7, j 8, j 9, j 10, j 11, .int .i64 x12, .int .i64 x13, j 14, j 15, j 16, j 17, j 18, j 19, j 20, j 21, j 22, j 23, j 24, j 25], [jb 0, jb 1, jb 2, jb 3, jb 4, jb 5, jb 6, jb 7, jb 8, jb 9, jb 10, jb 11, jb 12, jb 13, jb 14, jb 15, jb 16, jb 17, jb 18, jb 19, jb 20, jb 21, jb 22, jb 23, jb 24, jb 25]⟩
def slices_Equal___api_Hop_api_Hop__l0 (x0 : List T_api_Hop) (x1 : List T_api_Hop) (x12 : Int) (x13 : Int) (z : Bool) : Prop := ∀ j jb vs, W C F 22 0 (slices_Equal___api_Hop_api_Hop__l0_s x0 x1 x12 x13  j jb vs) (Ans C Tryz.f22 (.bool z))
theorem slices_Equal___api_Hop_api_Hop__l0_go {x0 : List T_api_Hop} {x1 : List T_api_Hop} {x12 : Int} {x13 : Int} {z : Bool} (H : ((x13 < x12 ∧ (0 ≤ x13 ∧ (x13 < (x0.length : Int) ∧ (∃ e5 : ByteArray, (∃ e6 : Int, (x0.getD (x13).toNat (ByteArray.empty, 0) = (e5, e6) ∧ (x13 < (x1.length : Int) ∧ (∃ e9 : ByteArray, (∃ e10 : Int, (x1.getD (x13).toNat (ByteArray.empty, 0) = (e9, e10) ∧ ((e5 = e9 ∧ ((e6 = e10 ∧ (slices_Equal___api_Hop_api_Hop__l0 x0 x1 x12 (wi (x13 + 1)) z)) ∨ (¬ e6 = e10 ∧ (z = false)))) ∨ (¬ e5 = e9 ∧ (z = false))))))))))))) ∨ (¬ x13 < x12 ∧ (z = true)))) : slices_Equal___api_Hop_api_Hop__l0 x0 x1 x12 x13 z := by
 intro j jb vs
 refine W.adv 1 ?_
 refine W.adv 6 ?_
 rcases H with ⟨h2, H⟩ | ⟨h2, H⟩
 ·refine W.cond true (w := (decide (x13 < x12))) (by kernel_rfl) (decide_eq_true h2) ?_
  refine W.adv 14 ?_
  obtain ⟨h3, h4, H⟩ := H
  obtain ⟨e5, e6, he7, H⟩ := H
  refine W.opS (OpIs.ixE (enc := E_api_Hop) (n := 2) (k' := .i64) (L := x0) (i := x13) (d0 := (ByteArray.empty, 0)) (x := (e5, e6)) (by kernel_rfl) h3 h4 he7) ?_
  refine W.adv 3 ?_
  obtain ⟨h8, H⟩ := H
  obtain ⟨e9, e10, he11, H⟩ := H
  refine W.opS (OpIs.ixE (enc := E_api_Hop) (n := 2) (k' := .i64) (L := x1) (i := x13) (d0 := (ByteArray.empty, 0)) (x := (e9, e10)) (by kernel_rfl) h3 h8 he11) ?_
  refine W.adv 1 ?_
  rcases H with ⟨h12, H⟩ | ⟨h12, H⟩
  ·rcases H with ⟨h13, H⟩ | ⟨h13, H⟩
   ·refine W.opS (OpIs.sq true (r := .bool false) (op := .neq) (t := 48) (xs := [.str e5, .int .i64 e6]) (ys := [.str e9, .int .i64 e10]) (by kernel_rfl) (by kernel_rfl) ((show eqV C.P 4 48 (.agg [.str e5, .int .i64 e6]) (.agg [.str e9, .int .i64 e10]) = (if (e5 == e9) = true then (if (e6 == e10) = true then some true else some false) else some false) from by kernel_rfl).trans (sq1 (beq_bt h12) (sq1 (beqT h13) rfl)))) ?_
    refine W.adv 11 ?_
    exact W.to_loop (P := slices_Equal___api_Hop_api_Hop__l0_s x0 x1 x12 (wi (x13 + 1))) (H ) (by kernel_rfl)
   ·refine W.opS (OpIs.sq false (r := .bool true) (op := .neq) (t := 48) (xs := [.str e5, .int .i64 e6]) (ys := [.str e9, .int .i64 e10]) (by kernel_rfl) (by kernel_rfl) ((show eqV C.P 4 48 (.agg [.str e5, .int .i64 e6]) (.agg [.str e9, .int .i64 e10]) = (if (e5 == e9) = true then (if (e6 == e10) = true then some true else some false) else some false) from by kernel_rfl).trans (sq1 (beq_bt h12) (sq0 (beqF h13))))) ?_
    refine W.adv 14 ?_
    exact W.fin (x := .ret) (by kernel_rfl) (Ans.of (d := (.bool false)) (d' := (.bool false)) (e' := (.bool false)) (by kernel_rfl) (by kernel_rfl) (by kernel_rfl) (by rw [H]))
  ·refine W.opS (OpIs.sq false (r := .bool true) (op := .neq) (t := 48) (xs := [.str e5, .int .i64 e6]) (ys := [.str e9, .int .i64 e10]) (by kernel_rfl) (by kernel_rfl) ((show eqV C.P 4 48 (.agg [.str e5, .int .i64 e6]) (.agg [.str e9, .int .i64 e10]) = (if (e5 == e9) = true then (if (e6 == e10) = true then some true else some false) else some false) from by kernel_rfl).trans (sq0 (beq_bf h12)))) ?_
   refine W.adv 14 ?_
   exact W.fin (x := .ret) (by kernel_rfl) (Ans.of (d := (.bool false)) (d' := (.bool false)) (e' := (.bool false)) (by kernel_rfl) (by kernel_rfl) (by kernel_rfl) (by rw [H]))
 ·refine W.cond false (w := (decide (x13 < x12))) (by kernel_rfl) (decide_eq_false h2) ?_
  refine W.adv 11 ?_
  exact W.fin (x := .ret) (by kernel_rfl) (Ans.of (d := (.bool true)) (d' := (.bool true)) (e' := (.bool true)) (by kernel_rfl) (by kernel_rfl) (by kernel_rfl) (by rw [H]))
theorem slices_Equal___api_Hop_api_Hop__go {a0 : List T_api_Hop} {a1 : List T_api_Hop} {z : Bool} (H : (((a0.length : Int) = (a1.length : Int) ∧ (slices_Equal___api_Hop_api_Hop__l0 a0 a1 (a0.length : Int) 0 z)) ∨ (¬ (a0.length : Int) = (a1.length : Int) ∧ (z = false)))) : slices_Equal___api_Hop_api_Hop__R a0 a1 z := by
 refine W.ic (zs := [(.list 2 (a0.map E_api_Hop)), (.list 2 (a1.map E_api_Hop))]) Tryz.func22 (by kernel_rfl) (by kernel_rfl) (by kernel_rfl) (by kernel_rfl) ?_
 refine W.adv 9 ?_
 refine W.opS (OpIs.ln (n := (a0.map E_api_Hop).length) (m := a0.length) (by kernel_rfl) (by rw [List.length_map])) ?_
 refine W.adv 1 ?_
 refine W.opS (OpIs.ln (n := (a1.map E_api_Hop).length) (m := a1.length) (by kernel_rfl) (by rw [List.length_map])) ?_
 refine W.adv 3 ?_
 rcases H with ⟨h1, H⟩ | ⟨h1, H⟩
 ·refine W.cond false (w := (!(decide ((a0.length : Int) = (a1.length : Int))))) (by kernel_rfl) (congrArg (fun b => !b) (decide_eq_true h1)) ?_
  refine W.adv 6 ?_
  refine W.opS (OpIs.ln (n := (a0.map E_api_Hop).length) (m := a0.length) (by kernel_rfl) (by rw [List.length_map])) ?_
  refine W.adv 4 ?_
  exact W.to_loop (P := slices_Equal___api_Hop_api_Hop__l0_s a0 a1 (a0.length : Int) 0) (H ) (by kernel_rfl)
 ·refine W.cond true (w := (!(decide ((a0.length : Int) = (a1.length : Int))))) (by kernel_rfl) (congrArg (fun b => !b) (decide_eq_false h1)) ?_
  refine W.adv 7 ?_
  exact W.fin (x := .ret) (by kernel_rfl) (Ans.of (d := (.bool false)) (d' := (.bool false)) (e' := (.bool false)) (by kernel_rfl) (by kernel_rfl) (by kernel_rfl) (by rw [H]))
noncomputable def slices_EqualFunc_____api_Hop_____api_Hop___api_Hop___api_Hop__v0_l0_s (x1 : List T46) (x15 : List T46) (x16 : Int) (x17 : Int) (j : Nat → D) (jb : Nat → Blk) (vs : Nat → Nat) : Cf := cfAt Tryz.f20 [1, 1, 0, 1, 0] ⟨[j 0, (.list 1 (x1.map E46)), .fn 21 [] [], j 3, j 4, j 5, j 6, j 7, j 8, j 9, j 10, j 11, j 12, j 13, j 14, (.list 1 (x15.map E46)), .int .i64 x16, .int .i64 x17, j 18, j 19, j 20, j 21, j 22, j 23, j 24, j 25, j 26, j 27, j 28, j 29, j 30, j 31], [jb 0, jb 1, jb 2, jb 3, jb 4, jb 5, jb 6, jb 7, jb 8, jb 9, jb 10, jb 11, jb 12, jb 13, jb 14, jb 15, jb 16, jb 17, jb 18, jb 19, jb 20, jb 21, jb 22, jb 23, jb 24, jb 25, jb 26, jb 27, jb 28, jb 29, jb 30, jb 31]⟩
def slices_EqualFunc_____api_Hop_____api_Hop___api_Hop___api_Hop__v0_l0 (x1 : List T46) (x15 : List T46) (x16 : Int) (x17 : Int) (z : Bool) : Prop := ∀ j jb vs, W C F 20 0 (slices_EqualFunc_____api_Hop_____api_Hop___api_Hop___api_Hop__v0_l0_s x1 x15 x16 x17  j jb vs) (Ans C Tryz.f20 (.bool z))
theorem slices_EqualFunc_____api_Hop_____api_Hop___api_Hop___api_Hop__v0_l0_go {x1 : List T46} {x15 : List T46} {x16 : Int} {x17 : Int} {z : Bool} (H : ((x17 < x16 ∧ (0 ≤ x17 ∧ (x17 < (x15.length : Int) ∧ (x17 < (x1.length : Int) ∧ (∃ c6 : Bool, (lean_Alike_1_R (x15.getD (x17).toNat []) (x1.getD (x17).toNat []) c6 ∧ ((c6 = true ∧ (slices_EqualFunc_____api_Hop_____api_Hop___api_Hop___api_Hop__v0_l0 x1 x15 x16 (wi (x17 + 1)) z)) ∨ (¬ c6 = true ∧ (z = false))))))))) ∨ (¬ x17 < x16 ∧ (z = true)))) : slices_EqualFunc_____api_Hop_____api_Hop___api_Hop___api_Hop__v0_l0 x1 x15 x16 x17 z := by
 intro j jb vs
 refine W.adv 1 ?_
 refine W.adv 6 ?_
 rcases H with ⟨h2, H⟩ | ⟨h2, H⟩
 ·refine W.cond true (w := (decide (x17 < x16))) (by kernel_rfl) (decide_eq_true h2) ?_
  refine W.adv 7 ?_
  obtain ⟨h3, h4, H⟩ := H
  refine W.opS (OpIs.ixE (enc := E46) (n := 1) (k' := .i64) (L := x15) (i := x17) (d0 := []) (x := (x15.getD (x17).toNat [])) (by kernel_rfl) h3 h4 rfl) ?_
  refine W.adv 9 ?_
  obtain ⟨h5, H⟩ := H
  refine W.opS (OpIs.ixE (enc := E46) (n := 1) (k' := .i64) (L := x1) (i := x17) (d0 := []) (x := (x1.getD (x17).toNat [])) (by kernel_rfl) h3 h5 rfl) ?_
  refine W.adv 9 ?_
  obtain ⟨c6, hc7, H⟩ := H
  refine W.callR (g := 21) (ds := [(.list 2 ((x15.getD (x17).toNat []).map E_api_Hop)), (.list 2 ((x1.getD (x17).toNat []).map E_api_Hop))]) (es := [(.list 2 ((x15.getD (x17).toNat []).map E_api_Hop)), (.list 2 ((x1.getD (x17).toNat []).map E_api_Hop))]) (r := (.bool c6)) (by kernel_rfl) (by kernel_rfl) (Ic.args hc7 (by kernel_rfl)) (by kernel_rfl) ?_
  refine W.adv 3 ?_
  rcases H with ⟨h8, H⟩ | ⟨h8, H⟩
  ·refine W.cond false (w := (!c6)) (by kernel_rfl) (congrArg (fun b => !b) h8) ?_
   refine W.adv 8 ?_
   exact W.to_loop (P := slices_EqualFunc_____api_Hop_____api_Hop___api_Hop___api_Hop__v0_l0_s x1 x15 x16 (wi (x17 + 1))) (H ) (by kernel_rfl)
  ·refine W.cond true (w := (!c6)) (by kernel_rfl) (congrArg (fun b => !b) (bfalse h8)) ?_
   refine W.adv 11 ?_
   exact W.fin (x := .ret) (by kernel_rfl) (Ans.of (d := (.bool false)) (d' := (.bool false)) (e' := (.bool false)) (by kernel_rfl) (by kernel_rfl) (by kernel_rfl) (by rw [H]))
 ·refine W.cond false (w := (decide (x17 < x16))) (by kernel_rfl) (decide_eq_false h2) ?_
  refine W.adv 11 ?_
  exact W.fin (x := .ret) (by kernel_rfl) (Ans.of (d := (.bool true)) (d' := (.bool true)) (e' := (.bool true)) (by kernel_rfl) (by kernel_rfl) (by kernel_rfl) (by rw [H]))
theorem slices_EqualFunc_____api_Hop_____api_Hop___api_Hop___api_Hop__v0_go {a0 : List T46} {a1 : List T46} {z : Bool} (H : (((a0.length : Int) = (a1.length : Int) ∧ (slices_EqualFunc_____api_Hop_____api_Hop___api_Hop___api_Hop__v0_l0 a1 a0 (a0.length : Int) 0 z)) ∨ (¬ (a0.length : Int) = (a1.length : Int) ∧ (z = false)))) : slices_EqualFunc_____api_Hop_____api_Hop___api_Hop___api_Hop__v0_R a0 a1 z := by
 refine W.ic (zs := [(.list 1 (a0.map E46)), (.list 1 (a1.map E46)), .fn 21 [] []]) Tryz.func20 (by kernel_rfl) (by kernel_rfl) (by kernel_rfl) (by kernel_rfl) ?_
 refine W.adv 9 ?_
 refine W.opS (OpIs.ln (n := (a0.map E46).length) (m := a0.length) (by kernel_rfl) (by rw [List.length_map])) ?_
 refine W.adv 1 ?_
 refine W.opS (OpIs.ln (n := (a1.map E46).length) (m := a1.length) (by kernel_rfl) (by rw [List.length_map])) ?_
 refine W.adv 3 ?_
 rcases H with ⟨h1, H⟩ | ⟨h1, H⟩
 ·refine W.cond false (w := (!(decide ((a0.length : Int) = (a1.length : Int))))) (by kernel_rfl) (congrArg (fun b => !b) (decide_eq_true h1)) ?_
  refine W.adv 6 ?_
  refine W.opS (OpIs.ln (n := (a0.map E46).length) (m := a0.length) (by kernel_rfl) (by rw [List.length_map])) ?_
  refine W.adv 4 ?_
  exact W.to_loop (P := slices_EqualFunc_____api_Hop_____api_Hop___api_Hop___api_Hop__v0_l0_s a1 a0 (a0.length : Int) 0) (H ) (by kernel_rfl)
 ·refine W.cond true (w := (!(decide ((a0.length : Int) = (a1.length : Int))))) (by kernel_rfl) (congrArg (fun b => !b) (decide_eq_false h1)) ?_
  refine W.adv 7 ?_
  exact W.fin (x := .ret) (by kernel_rfl) (Ans.of (d := (.bool false)) (d' := (.bool false)) (e' := (.bool false)) (by kernel_rfl) (by kernel_rfl) (by kernel_rfl) (by rw [H]))
end Go.Proofs.YtfijdkdpcjfiaaaGreatA
namespace Go.Proofs.YtfijdkdpcjfiaaaGreatA
open Go Go.Proofs
noncomputable def ref45_Alike_l0_s (x5 : Int) (r2_0_0 : ByteArray) (r2_0_1 : Int) (r2_0_2 : Int) (r2_0_3 : Bool) (r2_0_4 : List T46) (r3_0_0 : ByteArray) (r3_0_1 : Int) (r3_0_2 : Int) (r3_0_3 : Bool) (r3_0_4 : List T46) (j : Nat → D) (jb : Nat → Blk) (vs : Nat → Nat) : Cf := cfAt Tryz.f11 [1, 1, 0, 1, 0] ⟨[j 0, j 1, .pref 2 1 0 0, .pref 3 1 0 0, j 4, .int .i64 x5, j 6, j 7, j 8, j 9, j 10, j 11, j 12, j 13, j 14, j 15, j 16, j 17, j 18, j 19, j 20, j 21, j 22, j 23, j 24, j 25, j 26, j 27, j 28, j 29, j 30, j 31, j 32, j 33, j 34, j 35, j 36, j 37, j 38, j 39, j 40, j 41, j 42, j 43, j 44, j 45, j 46, j 47, j 48, j 49, j 50, j 51, j 52, j 53, j 54, j 55, j 56, j 57, j 58, j 59, j 60, j 61, j 62, j 63, j 64, j 65, j 66, j 67], [jb 0, jb 1, ⟨1, false, .rows 5 [(.agg [.str r2_0_0, .int .u32 r2_0_1, .int .i64 r2_0_2, .bool r2_0_3, (.list 1 (r2_0_4.map E46))])]⟩, ⟨1, false, .rows 5 [(.agg [.str r3_0_0, .int .u32 r3_0_1, .int .i64 r3_0_2, .bool r3_0_3, (.list 1 (r3_0_4.map E46))])]⟩, jb 4, jb 5, jb 6, jb 7, jb 8, jb 9, jb 10, jb 11, jb 12, jb 13, jb 14, jb 15, jb 16, jb 17, jb 18, jb 19, jb 20, jb 21, jb 22, jb 23, jb 24, jb 25, jb 26, jb 27, jb 28, jb 29, jb 30, jb 31, jb 32, jb 33, jb 34, jb 35, jb 36, jb 37, jb 38, jb 39, jb 40, jb 41, jb 42, jb 43, jb 44, jb 45, jb 46, jb 47, jb 48, jb 49, jb 50, jb 51, jb 52, jb 53, jb 54, jb 55, jb 56, jb 57, jb 58, jb 59, jb 60, jb 61, jb 62, jb 63, jb 64, jb 65, jb 66, jb 67]⟩
def ref45_Alike_l0 (x5 : Int) (r2_0_0 : ByteArray) (r2_0_1 : Int) (r2_0_2 : Int) (r2_0_3 : Bool) (r2_0_4 : List T46) (r3_0_0 : ByteArray) (r3_0_1 : Int) (r3_0_2 : Int) (r3_0_3 : Bool) (r3_0_4 : List T46) (z : Bool) : Prop := ∀ j jb vs, W C F 11 0 (ref45_Alike_l0_s x5 r2_0_0 r2_0_1 r2_0_2 r2_0_3 r2_0_4 r3_0_0 r3_0_1 r3_0_2 r3_0_3 r3_0_4  j jb vs) (Ans C Tryz.f11 (.bool z))
noncomputable def ref45_Alike_l1_s (x5 : Int) (x6 : Int) (r2_0_0 : ByteArray) (r2_0_1 : Int) (r2_0_2 : Int) (r2_0_3 : Bool) (r2_0_4 : List T46) (r3_0_0 : ByteArray) (r3_0_1 : Int) (r3_0_2 : Int) (r3_0_3 : Bool) (r3_0_4 : List T46) (j : Nat → D) (jb : Nat → Blk) (vs : Nat → Nat) : Cf := cfAt Tryz.f11 [1, 1, 0, 1, 0, 0, 1, 0, 0, 1, 1, 0] ⟨[j 0, j 1, .pref 2 1 0 0, .pref 3 1 0 0, j 4, .int .i64 x5, .int .i64 x6, j 7, j 8, j 9, j 10, j 11, j 12, j 13, j 14, j 15, j 16, j 17, j 18, j 19, j 20, j 21, j 22, j 23, j 24, j 25, j 26, j 27, j 28, j 29, j 30, j 31, j 32, j 33, j 34, j 35, j 36, j 37, j 38, j 39, j 40, j 41, j 42, j 43, j 44, j 45, j 46, j 47, j 48, j 49, j 50, j 51, j 52, j 53, j 54, j 55, j 56, j 57, j 58, j 59, j 60, j 61, j 62, j 63, j 64, j 65, j 66, j 67], [jb 0, jb 1, ⟨1, false, .rows 5 [(.agg [.str r2_0_0, .int .u32 r2_0_1, .int .i64 r2_0_2, .bool r2_0_3, (.list 1 (r2_0_4.map E46))])]⟩, ⟨1, false, .rows 5 [(.agg [.str r3_0_0, .int .u32 r3_0_1, .int .i64 r3_0_2, .bool r3_0_3, (.list 1 (r3_0_4.map E46))])]⟩, jb 4, jb 5, jb 6, jb 7, jb 8, jb 9, jb 10, jb 11, jb 12, jb 13, jb 14, jb 15, jb 16, jb 17, jb 18, jb 19, jb 20, jb 21, jb 22, jb 23, jb 24, jb 25, jb 26, jb 27, jb 28, jb 29, jb 30, jb 31, jb 32, jb 33, jb 34, jb 35, jb 36, jb 37, jb 38, jb 39, jb 40, jb 41, jb 42, jb 43, jb 44, jb 45, jb 46, jb 47, jb 48, jb 49, jb 50, jb 51, jb 52, jb 53, jb 54, jb 55, jb 56, jb 57, jb 58, jb 59, jb 60, jb 61, jb 62, jb 63, jb 64, jb 65, jb 66, jb 67]⟩
def ref45_Alike_l1 (x5 : Int) (x6 : Int) (r2_0_0 : ByteArray) (r2_0_1 : Int) (r2_0_2 : Int) (r2_0_3 : Bool) (r2_0_4 : List T46) (r3_0_0 : ByteArray) (r3_0_1 : Int) (r3_0_2 : Int) (r3_0_3 : Bool) (r3_0_4 : List T46) (z : Bool) : Prop := ∀ j jb vs, W C F 11 0 (ref45_Alike_l1_s x5 x6 r2_0_0 r2_0_1 r2_0_2 r2_0_3 r2_0_4 r3_0_0 r3_0_1 r3_0_2 r3_0_3 r3_0_4  j jb vs) (Ans C Tryz.f11 (.bool z))
theorem ref45_Alike_l0_go {x5 : Int} {r2_0_0 : ByteArray} {r2_0_1 : Int} {r2_0_2 : Int} {r2_0_3 : Bool} {r2_0_4 : List T46} {r3_0_0 : ByteArray} {r3_0_1 : Int} {r3_0_2 : Int} {r3_0_3 : Bool} {r3_0_4 : List T46} {z : Bool} (H : ((x5 < (r2_0_4.length : Int) ∧ (0 ≤ x5 ∧ (x5 < (r3_0_4.length : Int) ∧ ((((r2_0_4.getD (x5).toNat []).length : Int) = ((r3_0_4.getD (x5).toNat []).length : Int) ∧ (ref45_Alike_l1 x5 0 r2_0_0 r2_0_1 r2_0_2 r2_0_3 r2_0_4 r3_0_0 r3_0_1 r3_0_2 r3_0_3 r3_0_4 z)) ∨ (¬ ((r2_0_4.getD (x5).toNat []).length : Int) = ((r3_0_4.getD (x5).toNat []).length : Int) ∧ (z = false)))))) ∨ (¬ x5 < (r2_0_4.length : Int) ∧ (z = true)))) : ref45_Alike_l0 x5 r2_0_0 r2_0_1 r2_0_2 r2_0_3 r2_0_4 r3_0_0 r3_0_1 r3_0_2 r3_0_3 r3_0_4 z := by
 intro j jb vs
 refine W.adv 1 ?_
 refine W.adv 6 ?_
 refine W.opS (OpIs.ln (n := (r2_0_4.map E46).length) (m := r2_0_4.length) (by kernel_rfl) (by rw [List.length_map])) ?_
 refine W.adv 3 ?_
 rcases H with ⟨h6, H⟩ | ⟨h6, H⟩
 ·refine W.cond true (w := (decide (x5 < (r2_0_4.length : Int)))) (by kernel_rfl) (decide_eq_true h6) ?_
  refine W.adv 10 ?_
  obtain ⟨h7, H⟩ := H
  refine W.opS (OpIs.ixE (enc := E46) (n := 1) (k' := .i64) (L := r2_0_4) (i := x5) (d0 := []) (x := (r2_0_4.getD (x5).toNat [])) (by kernel_rfl) h7 h6 rfl) ?_
  refine W.adv 1 ?_
  refine W.opS (OpIs.ln (n := ((r2_0_4.getD (x5).toNat []).map E_api_Hop).length) (m := (r2_0_4.getD (x5).toNat []).length) (by kernel_rfl) (by rw [List.length_map])) ?_
  refine W.adv 3 ?_
  obtain ⟨h8, H⟩ := H
  refine W.opS (OpIs.ixE (enc := E46) (n := 1) (k' := .i64) (L := r3_0_4) (i := x5) (d0 := []) (x := (r3_0_4.getD (x5).toNat [])) (by kernel_rfl) h7 h8 rfl) ?_
  refine W.adv 1 ?_
  refine W.opS (OpIs.ln (n := ((r3_0_4.getD (x5).toNat []).map E_api_Hop).length) (m := (r3_0_4.getD (x5).toNat []).length) (by kernel_rfl) (by rw [List.length_map])) ?_
  refine W.adv 3 ?_
  rcases H with ⟨h9, H⟩ | ⟨h9, H⟩
  ·refine W.cond false (w := (!(decide (((r2_0_4.getD (x5).toNat []).length : Int) = ((r3_0_4.getD (x5).toNat []).length : Int))))) (by kernel_rfl) (congrArg (fun b => !b) (decide_eq_true h9)) ?_
   refine W.adv 8 ?_
   exact W.to_loop (P := ref45_Alike_l1_s x5 0 r2_0_0 r2_0_1 r2_0_2 r2_0_3 r2_0_4 r3_0_0 r3_0_1 r3_0_2 r3_0_3 r3_0_4) (H ) (by kernel_rfl)
  ·refine W.cond true (w := (!(decide (((r2_0_4.getD (x5).toNat []).length : Int) = ((r3_0_4.getD (x5).toNat []).length : Int))))) (by kernel_rfl) (congrArg (fun b => !b) (decide_eq_false h9)) ?_
   refine W.adv 12 ?_
   exact W.fin (x := .ret) (by kernel_rfl) (Ans.of (d := (.bool false)) (d' := (.bool false)) (e' := (.bool false)) (by kernel_rfl) (by kernel_rfl) (by kernel_rfl) (by rw [H]))
 ·refine W.cond false (w := (decide (x5 < (r2_0_4.length : Int)))) (by kernel_rfl) (decide_eq_false h6) ?_
  refine W.adv 11 ?_
  exact W.fin (x := .ret) (by kernel_rfl) (Ans.of (d := (.bool true)) (d' := (.bool true)) (e' := (.bool true)) (by kernel_rfl) (by kernel_rfl) (by kernel_rfl) (by rw [H]))
theorem ref45_Alike_l1_go {x5 : Int} {x6 : Int} {r2_0_0 : ByteArray} {r2_0_1 : Int} {r2_0_2 : Int} {r2_0_3 : Bool} {r2_0_4 : List T46} {r3_0_0 : ByteArray} {r3_0_1 : Int} {r3_0_2 : Int} {r3_0_3 : Bool} {r3_0_4 : List T46} {z : Bool} (H : (0 ≤ x5 ∧ (x5 < (r2_0_4.length : Int) ∧ ((x6 < ((r2_0_4.getD (x5).toNat []).length : Int) ∧ (0 ≤ x6 ∧ (∃ e14 : ByteArray, (∃ e15 : Int, ((r2_0_4.getD (x5).toNat []).getD (x6).toNat (ByteArray.empty, 0) = (e14, e15) ∧ (x5 < (r3_0_4.length : Int) ∧ (x6 < ((r3_0_4.getD (x5).toNat []).length : Int) ∧ (∃ e19 : ByteArray, (∃ e20 : Int, ((r3_0_4.getD (x5).toNat []).getD (x6).toNat (ByteArray.empty, 0) = (e19, e20) ∧ ((e14 = e19 ∧ ((e15 = e20 ∧ (ref45_Alike_l1 x5 (wi (x6 + 1)) r2_0_0 r2_0_1 r2_0_2 r2_0_3 r2_0_4 r3_0_0 r3_0_1 r3_0_2 r3_0_3 r3_0_4 z)) ∨ (¬ e15 = e20 ∧ (z = false)))) ∨ (¬ e14 = e19 ∧ (z = false))))))))))))) ∨ (¬ x6 < ((r2_0_4.getD (x5).toNat []).length : Int) ∧ (ref45_Alike_l0 (wi (x5 + 1)) r2_0_0 r2_0_1 r2_0_2 r2_0_3 r2_0_4 r3_0_0 r3_0_1 r3_0_2 r3_0_3 r3_0_4 z)))))) : ref45_Alike_l1 x5 x6 r2_0_0 r2_0_1 r2_0_2 r2_0_3 r2_0_4 r3_0_0 r3_0_1 r3_0_2 r3_0_3 r3_0_4 z := by
 intro j jb vs
 refine W.adv 1 ?_
 refine W.adv 7 ?_
 obtain ⟨h10, h11, H⟩ := H
 refine W.opS (OpIs.ixE (enc := E46) (n := 1) (k' := .i64) (L := r2_0_4) (i := x5) (d0 := []) (x := (r2_0_4.getD (x5).toNat [])) (by kernel_rfl) h10 h11 rfl) ?_
 refine W.adv 1 ?_
 refine W.opS (OpIs.ln (n := ((r2_0_4.getD (x5).toNat []).map E_api_Hop).length) (m := (r2_0_4.getD (x5).toNat []).length) (by kernel_rfl) (by rw [List.length_map])) ?_
 refine W.adv 3 ?_
 rcases H with ⟨h12, H⟩ | ⟨h12, H⟩
 ·refine W.cond true (w := (decide (x6 < ((r2_0_4.getD (x5).toNat []).length : Int)))) (by kernel_rfl) (decide_eq_true h12) ?_
  refine W.adv 9 ?_
  refine W.opS (OpIs.ixE (enc := E46) (n := 1) (k' := .i64) (L := r2_0_4) (i := x5) (d0 := []) (x := (r2_0_4.getD (x5).toNat [])) (by kernel_rfl) h10 h11 rfl) ?_
  refine W.adv 2 ?_
  obtain ⟨h13, H⟩ := H
  obtain ⟨e14, e15, he16, H⟩ := H
  refine W.opS (OpIs.ixE (enc := E_api_Hop) (n := 2) (k' := .i64) (L := (r2_0_4.getD (x5).toNat [])) (i := x6) (d0 := (ByteArray.empty, 0)) (x := (e14, e15)) (by kernel_rfl) h13 h12 he16) ?_
  refine W.adv 4 ?_
  obtain ⟨h17, H⟩ := H
  refine W.opS (OpIs.ixE (enc := E46) (n := 1) (k' := .i64) (L := r3_0_4) (i := x5) (d0 := []) (x := (r3_0_4.getD (x5).toNat [])) (by kernel_rfl) h10 h17 rfl) ?_
  refine W.adv 2 ?_
  obtain ⟨h18, H⟩ := H
  obtain ⟨e19, e20, he21, H⟩ := H
  refine W.opS (OpIs.ixE (enc := E_api_Hop) (n := 2) (k' := .i64) (L := (r3_0_4.getD (x5).toNat [])) (i := x6) (d0 := (ByteArray.empty, 0)) (x := (e19, e20)) (by kernel_rfl) h13 h18 he21) ?_
  refine W.adv 1 ?_
  rcases H with ⟨h22, H⟩ | ⟨h22, H⟩
  ·rcases H with ⟨h23, H⟩ | ⟨h23, H⟩
   ·refine W.opS (OpIs.sq true (r := .bool false) (op := .neq) (t := 48) (xs := [.str e14, .int .i64 e15]) (ys := [.str e19, .int .i64 e20]) (by kernel_rfl) (by kernel_rfl) ((show eqV C.P 4 48 (.agg [.str e14, .int .i64 e15]) (.agg [.str e19, .int .i64 e20]) = (if (e14 == e19) = true then (if (e15 == e20) = true then some true else some false) else some false) from by kernel_rfl).trans (sq1 (beq_bt h22) (sq1 (beqT h23) rfl)))) ?_
    refine W.adv 12 ?_
    exact W.to_loop (P := ref45_Alike_l1_s x5 (wi (x6 + 1)) r2_0_0 r2_0_1 r2_0_2 r2_0_3 r2_0_4 r3_0_0 r3_0_1 r3_0_2 r3_0_3 r3_0_4) (H ) (by kernel_rfl)
   ·refine W.opS (OpIs.sq false (r := .bool true) (op := .neq) (t := 48) (xs := [.str e14, .int .i64 e15]) (ys := [.str e19, .int .i64 e20]) (by kernel_rfl) (by kernel_rfl) ((show eqV C.P 4 48 (.agg [.str e14, .int .i64 e15]) (.agg [.str e19, .int .i64 e20]) = (if (e14 == e19) = true then (if (e15 == e20) = true then some true else some false) else some false) from by kernel_rfl).trans (sq1 (beq_bt h22) (sq0 (beqF h23))))) ?_
    refine W.adv 18 ?_
    exact W.fin (x := .ret) (by kernel_rfl) (Ans.of (d := (.bool false)) (d' := (.bool false)) (e' := (.bool false)) (by kernel_rfl) (by kernel_rfl) (by kernel_rfl) (by rw [H]))
  ·refine W.opS (OpIs.sq false (r := .bool true) (op := .neq) (t := 48) (xs := [.str e14, .int .i64 e15]) (ys := [.str e19, .int .i64 e20]) (by kernel_rfl) (by kernel_rfl) ((show eqV C.P 4 48 (.agg [.str e14, .int .i64 e15]) (.agg [.str e19, .int .i64 e20]) = (if (e14 == e19) = true then (if (e15 == e20) = true then some true else some false) else some false) from by kernel_rfl).trans (sq0 (beq_bf h22)))) ?_
   refine W.adv 18 ?_
   exact W.fin (x := .ret) (by kernel_rfl) (Ans.of (d := (.bool false)) (d' := (.bool false)) (e' := (.bool false)) (by kernel_rfl) (by kernel_rfl) (by kernel_rfl) (by rw [H]))
 ·refine W.cond false (w := (decide (x6 < ((r2_0_4.getD (x5).toNat []).length : Int)))) (by kernel_rfl) (decide_eq_false h12) ?_
  refine W.adv 12 ?_
  exact W.to_loop (P := ref45_Alike_l0_s (wi (x5 + 1)) r2_0_0 r2_0_1 r2_0_2 r2_0_3 r2_0_4 r3_0_0 r3_0_1 r3_0_2 r3_0_3 r3_0_4) (H ) (by kernel_rfl)
theorem ref45_Alike_go {a0_0 : ByteArray} {a0_1 : Int} {a0_2 : Int} {a0_3 : Bool} {a0_4 : List T46} {a1_0 : ByteArray} {a1_1 : Int} {a1_2 : Int} {a1_3 : Bool} {a1_4 : List T46} {z : Bool} (H : ((a0_3 = true ∧ ((a1_3 = true ∧ (((a0_4.length : Int) = (a1_4.length : Int) ∧ (ref45_Alike_l0 0 a0_0 a0_1 a0_2 a0_3 a0_4 a1_0 a1_1 a1_2 a1_3 a1_4 z)) ∨ (¬ (a0_4.length : Int) = (a1_4.length : Int) ∧ (z = false)))) ∨ (¬ a1_3 = true ∧ (z = false)))) ∨ (¬ a0_3 = true ∧ ((a1_3 = true ∧ (z = false)) ∨ (¬ a1_3 = true ∧ (((a0_4.length : Int) = (a1_4.length : Int) ∧ (ref45_Alike_l0 0 a0_0 a0_1 a0_2 a0_3 a0_4 a1_0 a1_1 a1_2 a1_3 a1_4 z)) ∨ (¬ (a0_4.length : Int) = (a1_4.length : Int) ∧ (z = false)))))))) : ref45_Alike_R a0_0 a0_1 a0_2 a0_3 a0_4 a1_0 a1_1 a1_2 a1_3 a1_4 z := by
 refine W.ic (zs := [(.agg [.str a0_0, .int .u32 a0_1, .int .i64 a0_2, .bool a0_3, (.list 1 (a0_4.map E46))]), (.agg [.str a1_0, .int .u32 a1_1, .int .i64 a1_2, .bool a1_3, (.list 1 (a1_4.map E46))])]) Tryz.func11 (by kernel_rfl) (by kernel_rfl) (by kernel_rfl) (by kernel_rfl) ?_
 refine W.adv 16 ?_
 rcases H with ⟨h1, H⟩ | ⟨h1, H⟩
 ·rcases H with ⟨h2, H⟩ | ⟨h2, H⟩
  ·refine W.guard true (w := ((!(a0_3 == a1_3)) == false)) (by kernel_rfl) (congrArg (fun b => b == false) (congrArg (fun b => !b) (congr (congrArg (fun x y => x == y) h1) h2))) ?_
   refine W.adv 1 ?_
   refine W.guard true (w := ((!(a0_3 == a1_3)) == false)) (by kernel_rfl) (congrArg (fun b => b == false) (congrArg (fun b => !b) (congr (congrArg (fun x y => x == y) h1) h2))) ?_
   refine W.adv 1 ?_
   refine W.guard true (w := ((!(a0_3 == a1_3)) == false)) (by kernel_rfl) (congrArg (fun b => b == false) (congrArg (fun b => !b) (congr (congrArg (fun x y => x == y) h1) h2))) ?_
   refine W.opS (OpIs.ln (n := (a0_4.map E46).length) (m := a0_4.length) (by kernel_rfl) (by rw [List.length_map])) ?_
   refine W.guard true (w := ((!(a0_3 == a1_3)) == false)) (by kernel_rfl) (congrArg (fun b => b == false) (congrArg (fun b => !b) (congr (congrArg (fun x y => x == y) h1) h2))) ?_
   refine W.adv 1 ?_
   refine W.guard true (w := ((!(a0_3 == a1_3)) == false)) (by kernel_rfl) (congrArg (fun b => b == false) (congrArg (fun b => !b) (congr (congrArg (fun x y => x == y) h1) h2))) ?_
   refine W.adv 1 ?_
   refine W.guard true (w := ((!(a0_3 == a1_3)) == false)) (by kernel_rfl) (congrArg (fun b => b == false) (congrArg (fun b => !b) (congr (congrArg (fun x y => x == y) h1) h2))) ?_
   refine W.opS (OpIs.ln (n := (a1_4.map E46).length) (m := a1_4.length) (by kernel_rfl) (by rw [List.length_map])) ?_
   refine W.guard true (w := ((!(a0_3 == a1_3)) == false)) (by kernel_rfl) (congrArg (fun b => b == false) (congrArg (fun b => !b) (congr (congrArg (fun x y => x == y) h1) h2))) ?_
   refine W.adv 1 ?_
   refine W.opS (OpIs.pk false (t := (!(a0_3 == a1_3))) (x := (.bool true)) (y := (.bool (!(decide ((a0_4.length : Int) = (a1_4.length : Int)))))) (by kernel_rfl) (congrArg (fun b => !b) (congr (congrArg (fun x y => x == y) h1) h2))) ?_
   refine W.adv 2 ?_
   rcases H with ⟨h3, H⟩ | ⟨h3, H⟩
   ·refine W.cond false (w := (!(decide ((a0_4.length : Int) = (a1_4.length : Int))))) (by kernel_rfl) (congrArg (fun b => !b) (decide_eq_true h3)) ?_
    refine W.adv 9 ?_
    exact W.to_loop (P := ref45_Alike_l0_s 0 a0_0 a0_1 a0_2 a0_3 a0_4 a1_0 a1_1 a1_2 a1_3 a1_4) (H ) (by kernel_rfl)
   ·refine W.cond true (w := (!(decide ((a0_4.length : Int) = (a1_4.length : Int))))) (by kernel_rfl) (congrArg (fun b => !b) (decide_eq_false h3)) ?_
    refine W.adv 7 ?_
    exact W.fin (x := .ret) (by kernel_rfl) (Ans.of (d := (.bool false)) (d' := (.bool false)) (e' := (.bool false)) (by kernel_rfl) (by kernel_rfl) (by kernel_rfl) (by rw [H]))
  ·refine W.guard false (w := ((!(a0_3 == a1_3)) == false)) (by kernel_rfl) (congrArg (fun b => b == false) (congrArg (fun b => !b) (congr (congrArg (fun x y => x == y) h1) (bfalse h2)))) ?_
   refine W.guard false (w := ((!(a0_3 == a1_3)) == false)) (by kernel_rfl) (congrArg (fun b => b == false) (congrArg (fun b => !b) (congr (congrArg (fun x y => x == y) h1) (bfalse h2)))) ?_
   refine W.guard false (w := ((!(a0_3 == a1_3)) == false)) (by kernel_rfl) (congrArg (fun b => b == false) (congrArg (fun b => !b) (congr (congrArg (fun x y => x == y) h1) (bfalse h2)))) ?_
   refine W.guard false (w := ((!(a0_3 == a1_3)) == false)) (by kernel_rfl) (congrArg (fun b => b == false) (congrArg (fun b => !b) (congr (congrArg (fun x y => x == y) h1) (bfalse h2)))) ?_
   refine W.guard false (w := ((!(a0_3 == a1_3)) == false)) (by kernel_rfl) (congrArg (fun b => b == false) (congrArg (fun b => !b) (congr (congrArg (fun x y => x == y) h1) (bfalse h2)))) ?_
   refine W.guard false (w := ((!(a0_3 == a1_3)) == false)) (by kernel_rfl) (congrArg (fun b => b == false) (congrArg (fun b => !b) (congr (congrArg (fun x y => x == y) h1) (bfalse h2)))) ?_
   refine W.guard false (w := ((!(a0_3 == a1_3)) == false)) (by kernel_rfl) (congrArg (fun b => b == false) (congrArg (fun b => !b) (congr (congrArg (fun x y => x == y) h1) (bfalse h2)))) ?_
   refine W.opS (OpIs.pk true (t := (!(a0_3 == a1_3))) (x := (.bool true)) (y := (.tuple [])) (by kernel_rfl) (congrArg (fun b => !b) (congr (congrArg (fun x y => x == y) h1) (bfalse h2)))) ?_
   refine W.adv 10 ?_
   exact W.fin (x := .ret) (by kernel_rfl) (Ans.of (d := (.bool false)) (d' := (.bool false)) (e' := (.bool false)) (by kernel_rfl) (by kernel_rfl) (by kernel_rfl) (by rw [H]))
 ·rcases H with ⟨h4, H⟩ | ⟨h4, H⟩
  ·refine W.guard false (w := ((!(a0_3 == a1_3)) == false)) (by kernel_rfl) (congrArg (fun b => b == false) (congrArg (fun b => !b) (congr (congrArg (fun x y => x == y) (bfalse h1)) h4))) ?_
   refine W.guard false (w := ((!(a0_3 == a1_3)) == false)) (by kernel_rfl) (congrArg (fun b => b == false) (congrArg (fun b => !b) (congr (congrArg (fun x y => x == y) (bfalse h1)) h4))) ?_
   refine W.guard false (w := ((!(a0_3 == a1_3)) == false)) (by kernel_rfl) (congrArg (fun b => b == false) (congrArg (fun b => !b) (congr (congrArg (fun x y => x == y) (bfalse h1)) h4))) ?_
   refine W.guard false (w := ((!(a0_3 == a1_3)) == false)) (by kernel_rfl) (congrArg (fun b => b == false) (congrArg (fun b => !b) (congr (congrArg (fun x y => x == y) (bfalse h1)) h4))) ?_
   refine W.guard false (w := ((!(a0_3 == a1_3)) == false)) (by kernel_rfl) (congrArg (fun b => b == false) (congrArg (fun b => !b) (congr (congrArg (fun x y => x == y) (bfalse h1)) h4))) ?_
   refine W.guard false (w := ((!(a0_3 == a1_3)) == false)) (by kernel_rfl) (congrArg (fun b => b == false) (congrArg (fun b => !b) (congr (congrArg (fun x y => x == y) (bfalse h1)) h4))) ?_
   refine W.guard false (w := ((!(a0_3 == a1_3)) == false)) (by kernel_rfl) (congrArg (fun b => b == false) (congrArg (fun b => !b) (congr (congrArg (fun x y => x == y) (bfalse h1)) h4))) ?_
   refine W.opS (OpIs.pk true (t := (!(a0_3 == a1_3))) (x := (.bool true)) (y := (.tuple [])) (by kernel_rfl) (congrArg (fun b => !b) (congr (congrArg (fun x y => x == y) (bfalse h1)) h4))) ?_
   refine W.adv 10 ?_
   exact W.fin (x := .ret) (by kernel_rfl) (Ans.of (d := (.bool false)) (d' := (.bool false)) (e' := (.bool false)) (by kernel_rfl) (by kernel_rfl) (by kernel_rfl) (by rw [H]))
  ·refine W.guard true (w := ((!(a0_3 == a1_3)) == false)) (by kernel_rfl) (congrArg (fun b => b == false) (congrArg (fun b => !b) (congr (congrArg (fun x y => x == y) (bfalse h1)) (bfalse h4)))) ?_
   refine W.adv 1 ?_
   refine W.guard true (w := ((!(a0_3 == a1_3)) == false)) (by kernel_rfl) (congrArg (fun b => b == false) (congrArg (fun b => !b) (congr (congrArg (fun x y => x == y) (bfalse h1)) (bfalse h4)))) ?_
   refine W.adv 1 ?_
   refine W.guard true (w := ((!(a0_3 == a1_3)) == false)) (by kernel_rfl) (congrArg (fun b => b == false) (congrArg (fun b => !b) (congr (congrArg (fun x y => x == y) (bfalse h1)) (bfalse h4)))) ?_
   refine W.opS (OpIs.ln (n := (a0_4.map E46).length) (m := a0_4.length) (by kernel_rfl) (by rw [List.length_map])) ?_
   refine W.guard true (w := ((!(a0_3 == a1_3)) == false)) (by kernel_rfl) (congrArg (fun b => b == false) (congrArg (fun b => !b) (congr (congrArg (fun x y => x == y) (bfalse h1)) (bfalse h4)))) ?_
   refine W.adv 1 ?_
   refine W.guard true (w := ((!(a0_3 == a1_3)) == false)) (by kernel_rfl) (congrArg (fun b => b == false) (congrArg (fun b => !b) (congr (congrArg (fun x y => x == y) (bfalse h1)) (bfalse h4)))) ?_
   refine W.adv 1 ?_
   refine W.guard true (w := ((!(a0_3 == a1_3)) == false)) (by kernel_rfl) (congrArg (fun b => b == false) (congrArg (fun b => !b) (congr (congrArg (fun x y => x == y) (bfalse h1)) (bfalse h4)))) ?_
   refine W.opS (OpIs.ln (n := (a1_4.map E46).length) (m := a1_4.length) (by kernel_rfl) (by rw [List.length_map])) ?_
   refine W.guard true (w := ((!(a0_3 == a1_3)) == false)) (by kernel_rfl) (congrArg (fun b => b == false) (congrArg (fun b => !b) (congr (congrArg (fun x y => x == y) (bfalse h1)) (bfalse h4)))) ?_
   refine W.adv 1 ?_
   refine W.opS (OpIs.pk false (t := (!(a0_3 == a1_3))) (x := (.bool true)) (y := (.bool (!(decide ((a0_4.length : Int) = (a1_4.length : Int)))))) (by kernel_rfl) (congrArg (fun b => !b) (congr (congrArg (fun x y => x == y) (bfalse h1)) (bfalse h4)))) ?_
   refine W.adv 2 ?_
   rcases H with ⟨h5, H⟩ | ⟨h5, H⟩
   ·refine W.cond false (w := (!(decide ((a0_4.length : Int) = (a1_4.length : Int))))) (by kernel_rfl) (congrArg (fun b => !b) (decide_eq_true h5)) ?_
    refine W.adv 9 ?_
    exact W.to_loop (P := ref45_Alike_l0_s 0 a0_0 a0_1 a0_2 a0_3 a0_4 a1_0 a1_1 a1_2 a1_3 a1_4) (H ) (by kernel_rfl)
   ·refine W.cond true (w := (!(decide ((a0_4.length : Int) = (a1_4.length : Int))))) (by kernel_rfl) (congrArg (fun b => !b) (decide_eq_false h5)) ?_
    refine W.adv 7 ?_
    exact W.fin (x := .ret) (by kernel_rfl) (Ans.of (d := (.bool false)) (d' := (.bool false)) (e' := (.bool false)) (by kernel_rfl) (by kernel_rfl) (by kernel_rfl) (by rw [H]))
end Go.Proofs.YtfijdkdpcjfiaaaGreatA
namespace Go.Proofs.YtfijdkdpcjfiaaaGreatA
open Go Go.Proofs
noncomputable def lean_Cover_l0_s (x7 : Int) (x8 : Bool) (x26 : List T_api_Rule) (x27 : Int) (x28 : Int) (r2_0_0 : ByteArray) (r2_0_1 : List T_api_Node) (r2_0_2 : List T_api_Link) (r2_0_3 : List T_api_Rule) (r6_0_0 : ByteArray) (r6_0_1 : Int) (r6_0_2 : Int) (r6_0_3 : Bool) (r6_0_4 : List T46) (j : Nat → D) (jb : Nat → Blk) (vs : Nat → Nat) : Cf := cfAt Tryz.f6 [1, 1, 1, 1, 0, 1, 0] ⟨[j 0, j 1, .pref 2 1 0 0, j 3, j 4, j 5, .pref 6 1 0 0, .int .i64 x7, .bool x8, j 9, j 10, j 11, j 12, j 13, j 14, j 15, j 16, j 17, j 18, j 19, j 20, j 21, j 22, j 23, j 24, j 25, (.list 5 (x26.map E_api_Rule)), .int .i64 x27, .int .i64 x28, j 29, j 30, j 31, j 32, j 33, j 34, j 35, j 36, j 37, j 38, j 39, j 40, j 41, j 42, j 43, j 44, j 45, j 46, j 47, j 48, j 49, j 50, j 51, j 52, j 53, j 54, j 55, j 56, j 57, j 58, j 59, j 60, j 61, j 62, j 63, j 64, j 65, j 66, j 67, j 68, j 69, j 70, j 71, j 72, j 73], [jb 0, jb 1, ⟨1, false, .rows 4 [(.agg [.str r2_0_0, (.list 2 (r2_0_1.map E_api_Node)), (.list 6 (r2_0_2.map E_api_Link)), (.list 5 (r2_0_3.map E_api_Rule))])]⟩, jb 3, jb 4, jb 5, ⟨1, false, .rows 5 [(.agg [.str r6_0_0, .int .u32 r6_0_1, .int .i64 r6_0_2, .bool r6_0_3, (.list 1 (r6_0_4.map E46))])]⟩, jb 7, jb 8, jb 9, jb 10, jb 11, jb 12, jb 13, jb 14, jb 15, jb 16, jb 17, jb 18, jb 19, jb 20, jb 21, jb 22, jb 23, jb 24, jb 25, jb 26, jb 27, jb 28, jb 29, jb 30, jb 31, jb 32, jb 33, jb 34, jb 35, jb 36, jb 37, jb 38, jb 39, jb 40, jb 41, jb 42, jb 43, jb 44, jb 45, jb 46, jb 47, jb 48, jb 49, jb 50, jb 51, jb 52, jb 53, jb 54, jb 55, jb 56, jb 57, jb 58, jb 59, jb 60, jb 61, jb 62, jb 63, jb 64, jb 65, jb 66, jb 67, jb 68, jb 69, jb 70, jb 71, jb 72, jb 73]⟩
def lean_Cover_l0 (x7 : Int) (x8 : Bool) (x26 : List T_api_Rule) (x27 : Int) (x28 : Int) (r2_0_0 : ByteArray) (r2_0_1 : List T_api_Node) (r2_0_2 : List T_api_Link) (r2_0_3 : List T_api_Rule) (r6_0_0 : ByteArray) (r6_0_1 : Int) (r6_0_2 : Int) (r6_0_3 : Bool) (r6_0_4 : List T46) (zt0 : Int) (zt1 : Bool) : Prop := ∀ j jb vs, W C F 6 0 (lean_Cover_l0_s x7 x8 x26 x27 x28 r2_0_0 r2_0_1 r2_0_2 r2_0_3 r6_0_0 r6_0_1 r6_0_2 r6_0_3 r6_0_4  j jb vs) (Ans C Tryz.f6 (.tuple [.int .i64 zt0, .bool zt1]))
theorem lean_Cover_l0_go {x7 : Int} {x8 : Bool} {x26 : List T_api_Rule} {x27 : Int} {x28 : Int} {r2_0_0 : ByteArray} {r2_0_1 : List T_api_Node} {r2_0_2 : List T_api_Link} {r2_0_3 : List T_api_Rule} {r6_0_0 : ByteArray} {r6_0_1 : Int} {r6_0_2 : Int} {r6_0_3 : Bool} {r6_0_4 : List T46} {zt0 : Int} {zt1 : Bool} (H : ((x28 < x27 ∧ (0 ≤ x28 ∧ (x28 < (x26.length : Int) ∧ (∃ e14 : ByteArray, (∃ e15 : Int, (∃ e16 : Int, (∃ e17 : Bool, (∃ e18 : List T46, (x26.getD (x28).toNat (ByteArray.empty, 0, 0, false, []) = (e14, e15, e16, e17, e18) ∧ ((e14 = r6_0_0 ∧ ((r6_0_2 ≤ e16 ∧ (lean_Cover_l0 x7 x8 x26 x27 (wi (x28 + 1)) r2_0_0 r2_0_1 r2_0_2 r2_0_3 r6_0_0 r6_0_1 r6_0_2 r6_0_3 r6_0_4 zt0 zt1)) ∨ (¬ r6_0_2 ≤ e16 ∧ (∃ c22 : Bool, (addr_Within_R r6_0_1 r6_0_2 e15 e16 c22 ∧ ((c22 = true ∧ ((x8 = true ∧ (0 ≤ x7 ∧ (x7 < (r2_0_3.length : Int) ∧ (∃ e28 : ByteArray, (∃ e29 : Int, (∃ e30 : Int, (∃ e31 : Bool, (∃ e32 : List T46, (r2_0_3.getD (x7).toNat (ByteArray.empty, 0, 0, false, []) = (e28, e29, e30, e31, e32) ∧ ((e30 < e16 ∧ (lean_Cover_l0 x28 true x26 x27 (wi (x28 + 1)) r2_0_0 r2_0_1 r2_0_2 r2_0_3 r6_0_0 r6_0_1 r6_0_2 r6_0_3 r6_0_4 zt0 zt1)) ∨ (¬ e30 < e16 ∧ (lean_Cover_l0 x7 x8 x26 x27 (wi (x28 + 1)) r2_0_0 r2_0_1 r2_0_2 r2_0_3 r6_0_0 r6_0_1 r6_0_2 r6_0_3 r6_0_4 zt0 zt1)))))))))))) ∨ (¬ x8 = true ∧ (lean_Cover_l0 x28 true x26 x27 (wi (x28 + 1)) r2_0_0 r2_0_1 r2_0_2 r2_0_3 r6_0_0 r6_0_1 r6_0_2 r6_0_3 r6_0_4 zt0 zt1)))) ∨ (¬ c22 = true ∧ (lean_Cover_l0 x7 x8 x26 x27 (wi (x28 + 1)) r2_0_0 r2_0_1 r2_0_2 r2_0_3 r6_0_0 r6_0_1 r6_0_2 r6_0_3 r6_0_4 zt0 zt1)))))))) ∨ (¬ e14 = r6_0_0 ∧ (lean_Cover_l0 x7 x8 x26 x27 (wi (x28 + 1)) r2_0_0 r2_0_1 r2_0_2 r2_0_3 r6_0_0 r6_0_1 r6_0_2 r6_0_3 r6_0_4 zt0 zt1)))))))))))) ∨ (¬ x28 < x27 ∧ (zt0 = x7 ∧ zt1 = x8)))) : lean_Cover_l0 x7 x8 x26 x27 x28 r2_0_0 r2_0_1 r2_0_2 r2_0_3 r6_0_0 r6_0_1 r6_0_2 r6_0_3 r6_0_4 zt0 zt1 := by
 intro j jb vs
 refine W.adv 1 ?_
 refine W.adv 6 ?_
 rcases H with ⟨h11, H⟩ | ⟨h11, H⟩
 ·refine W.cond true (w := (decide (x28 < x27))) (by kernel_rfl) (decide_eq_true h11) ?_
  refine W.adv 7 ?_
  obtain ⟨h12, h13, H⟩ := H
  obtain ⟨e14, e15, e16, e17, e18, he19, H⟩ := H
  refine W.opS (OpIs.ixE (enc := E_api_Rule) (n := 5) (k' := .i64) (L := x26) (i := x28) (d0 := (ByteArray.empty, 0, 0, false, [])) (x := (e14, e15, e16, e17, e18)) (by kernel_rfl) h12 h13 he19) ?_
  refine W.adv 3 ?_
  refine W.opH (OpIs.stV (b := 10) (v := ((jb 10).ver + 1)) (i := 0) (off := 0) (w := ((jb 10).ver + 1)) (n := 5) (s := 5) (xs := [(.agg [.str ⟨#[]⟩, .int .u32 0, .int .i64 0, .bool false, .nilS])]) (ys := [(.agg [.str e14, .int .u32 e15, .int .i64 e16, .bool e17, (.list 1 (e18.map E46))])]) (d := (.agg [.str ⟨#[]⟩, .int .u32 0, .int .i64 0, .bool false, .nilS])) (y := (.agg [.str e14, .int .u32 e15, .int .i64 e16, .bool e17, (.list 1 (e18.map E46))])) (by kernel_rfl) rfl (by kernel_rfl) (by kernel_rfl) (Nat.le_of_ble_eq_true (by kernel_rfl)) (by kernel_rfl) (by kernel_rfl)) ?_
  refine W.adv 6 ?_
  refine W.opS (OpIs.ldV (b := 10) (v := ((jb 10).ver + 1)) (i := 0) (off := 0) (w := ((jb 10).ver + 1)) (n := 5) (s := 1) (fz := false) (a := false) (xs := [(.agg [.str e14, .int .u32 e15, .int .i64 e16, .bool e17, (.list 1 (e18.map E46))])]) (r := (.str e14)) (by kernel_rfl) rfl (by kernel_rfl)) ?_
  refine W.adv 4 ?_
  rcases H with ⟨h20, H⟩ | ⟨h20, H⟩
  ·refine W.guard true (w := ((!(decide (e14 = r6_0_0))) == false)) (by kernel_rfl) (congrArg (fun b => b == false) (congrArg (fun b => !b) (decide_eq_true h20))) ?_
   refine W.adv 1 ?_
   refine W.guard true (w := ((!(decide (e14 = r6_0_0))) == false)) (by kernel_rfl) (congrArg (fun b => b == false) (congrArg (fun b => !b) (decide_eq_true h20))) ?_
   refine W.adv 1 ?_
   refine W.guard true (w := ((!(decide (e14 = r6_0_0))) == false)) (by kernel_rfl) (congrArg (fun b => b == false) (congrArg (fun b => !b) (decide_eq_true h20))) ?_
   refine W.opS (OpIs.ldV (b := 10) (v := ((jb 10).ver + 1)) (i := 0) (off := 2) (w := ((jb 10).ver + 1)) (n := 5) (s := 1) (fz := false) (a := false) (xs := [(.agg [.str e14, .int .u32 e15, .int .i64 e16, .bool e17, (.list 1 (e18.map E46))])]) (r := (.int .i64 e16)) (by kernel_rfl) rfl (by kernel_rfl)) ?_
   refine W.guard true (w := ((!(decide (e14 = r6_0_0))) == false)) (by kernel_rfl) (congrArg (fun b => b == false) (congrArg (fun b => !b) (decide_eq_true h20))) ?_
   refine W.adv 1 ?_
   refine W.guard true (w := ((!(decide (e14 = r6_0_0))) == false)) (by kernel_rfl) (congrArg (fun b => b == false) (congrArg (fun b => !b) (decide_eq_true h20))) ?_
   refine W.adv 1 ?_
   refine W.guard true (w := ((!(decide (e14 = r6_0_0))) == false)) (by kernel_rfl) (congrArg (fun b => b == false) (congrArg (fun b => !b) (decide_eq_true h20))) ?_
   refine W.adv 1 ?_
   refine W.guard true (w := ((!(decide (e14 = r6_0_0))) == false)) (by kernel_rfl) (congrArg (fun b => b == false) (congrArg (fun b => !b) (decide_eq_true h20))) ?_
   refine W.adv 1 ?_
   refine W.opS (OpIs.pk false (t := (!(decide (e14 = r6_0_0)))) (x := (.bool true)) (y := (.bool (decide (r6_0_2 ≤ e16)))) (by kernel_rfl) (congrArg (fun b => !b) (decide_eq_true h20))) ?_
   refine W.adv 1 ?_
   rcases H with ⟨h21, H⟩ | ⟨h21, H⟩
   ·refine W.guard false (w := ((decide (r6_0_2 ≤ e16)) == false)) (by kernel_rfl) (congrArg (fun b => b == false) (decide_eq_true h21)) ?_
    refine W.guard false (w := ((decide (r6_0_2 ≤ e16)) == false)) (by kernel_rfl) (congrArg (fun b => b == false) (decide_eq_true h21)) ?_
    refine W.guard false (w := ((decide (r6_0_2 ≤ e16)) == false)) (by kernel_rfl) (congrArg (fun b => b == false) (decide_eq_true h21)) ?_
    refine W.guard false (w := ((decide (r6_0_2 ≤ e16)) == false)) (by kernel_rfl) (congrArg (fun b => b == false) (decide_eq_true h21)) ?_
    refine W.guard false (w := ((decide (r6_0_2 ≤ e16)) == false)) (by kernel_rfl) (congrArg (fun b => b == false) (decide_eq_true h21)) ?_
    refine W.guard false (w := ((decide (r6_0_2 ≤ e16)) == false)) (by kernel_rfl) (congrArg (fun b => b == false) (decide_eq_true h21)) ?_
    refine W.opS (OpIs.pk true (t := (decide (r6_0_2 ≤ e16))) (x := (.bool true)) (y := (.tuple [])) (by kernel_rfl) (decide_eq_true h21)) ?_
    refine W.adv 12 ?_
    exact W.to_loop (P := lean_Cover_l0_s x7 x8 x26 x27 (wi (x28 + 1)) r2_0_0 r2_0_1 r2_0_2 r2_0_3 r6_0_0 r6_0_1 r6_0_2 r6_0_3 r6_0_4) (H ) (by kernel_rfl)
   ·refine W.guard true (w := ((decide (r6_0_2 ≤ e16)) == false)) (by kernel_rfl) (congrArg (fun b => b == false) (decide_eq_false h21)) ?_
    refine W.adv 1 ?_
    refine W.guard true (w := ((decide (r6_0_2 ≤ e16)) == false)) (by kernel_rfl) (congrArg (fun b => b == false) (decide_eq_false h21)) ?_
    refine W.adv 1 ?_
    refine W.guard true (w := ((decide (r6_0_2 ≤ e16)) == false)) (by kernel_rfl) (congrArg (fun b => b == false) (decide_eq_false h21)) ?_
    refine W.adv 1 ?_
    refine W.guard true (w := ((decide (r6_0_2 ≤ e16)) == false)) (by kernel_rfl) (congrArg (fun b => b == false) (decide_eq_false h21)) ?_
    refine W.opS (OpIs.ldV (b := 10) (v := ((jb 10).ver + 1)) (i := 0) (off := 1) (w := ((jb 10).ver + 1)) (n := 5) (s := 2) (fz := false) (a := true) (xs := [(.agg [.str e14, .int .u32 e15, .int .i64 e16, .bool e17, (.list 1 (e18.map E46))])]) (r := (.agg [.int .u32 e15, .int .i64 e16])) (by kernel_rfl) rfl (by kernel_rfl)) ?_
    refine W.guard true (w := ((decide (r6_0_2 ≤ e16)) == false)) (by kernel_rfl) (congrArg (fun b => b == false) (decide_eq_false h21)) ?_
    obtain ⟨c22, hc23, H⟩ := H
    refine W.callR (g := 15) (ds := [(.agg [.int .u32 r6_0_1, .int .i64 r6_0_2]), (.agg [.int .u32 e15, .int .i64 e16])]) (es := [(.agg [.int .u32 r6_0_1, .int .i64 r6_0_2]), (.agg [.int .u32 e15, .int .i64 e16])]) (r := (.bool c22)) (by kernel_rfl) (by kernel_rfl) (Ic.args hc23 (by kernel_rfl)) (by kernel_rfl) ?_
    refine W.guard true (w := ((decide (r6_0_2 ≤ e16)) == false)) (by kernel_rfl) (congrArg (fun b => b == false) (decide_eq_false h21)) ?_
    refine W.adv 1 ?_
    refine W.opS (OpIs.pk false (t := (decide (r6_0_2 ≤ e16))) (x := (.bool true)) (y := (.bool (!c22))) (by kernel_rfl) (decide_eq_false h21)) ?_
    refine W.adv 2 ?_
    rcases H with ⟨h24, H⟩ | ⟨h24, H⟩
    ·refine W.cond false (w := (!c22)) (by kernel_rfl) (congrArg (fun b => !b) h24) ?_
     refine W.adv 7 ?_
     rcases H with ⟨h25, H⟩ | ⟨h25, H⟩
     ·refine W.guard true (w := ((!x8) == false)) (by kernel_rfl) (congrArg (fun b => b == false) (congrArg (fun b => !b) h25)) ?_
      refine W.adv 1 ?_
      refine W.guard true (w := ((!x8) == false)) (by kernel_rfl) (congrArg (fun b => b == false) (congrArg (fun b => !b) h25)) ?_
      refine W.adv 1 ?_
      refine W.guard true (w := ((!x8) == false)) (by kernel_rfl) (congrArg (fun b => b == false) (congrArg (fun b => !b) h25)) ?_
      refine W.opS (OpIs.ldV (b := 10) (v := ((jb 10).ver + 1)) (i := 0) (off := 2) (w := ((jb 10).ver + 1)) (n := 5) (s := 1) (fz := false) (a := false) (xs := [(.agg [.str e14, .int .u32 e15, .int .i64 e16, .bool e17, (.list 1 (e18.map E46))])]) (r := (.int .i64 e16)) (by kernel_rfl) rfl (by kernel_rfl)) ?_
      refine W.guard true (w := ((!x8) == false)) (by kernel_rfl) (congrArg (fun b => b == false) (congrArg (fun b => !b) h25)) ?_
      refine W.adv 1 ?_
      refine W.guard true (w := ((!x8) == false)) (by kernel_rfl) (congrArg (fun b => b == false) (congrArg (fun b => !b) h25)) ?_
      refine W.adv 1 ?_
      refine W.guard true (w := ((!x8) == false)) (by kernel_rfl) (congrArg (fun b => b == false) (congrArg (fun b => !b) h25)) ?_
      refine W.adv 1 ?_
      refine W.guard true (w := ((!x8) == false)) (by kernel_rfl) (congrArg (fun b => b == false) (congrArg (fun b => !b) h25)) ?_
      obtain ⟨h26, h27, H⟩ := H
      obtain ⟨e28, e29, e30, e31, e32, he33, H⟩ := H
      refine W.opS (OpIs.ixE (enc := E_api_Rule) (n := 5) (k' := .i64) (L := r2_0_3) (i := x7) (d0 := (ByteArray.empty, 0, 0, false, [])) (x := (e28, e29, e30, e31, e32)) (by kernel_rfl) h26 h27 he33) ?_
      refine W.guard true (w := ((!x8) == false)) (by kernel_rfl) (congrArg (fun b => b == false) (congrArg (fun b => !b) h25)) ?_
      refine W.adv 1 ?_
      refine W.guard true (w := ((!x8) == false)) (by kernel_rfl) (congrArg (fun b => b == false) (congrArg (fun b => !b) h25)) ?_
      refine W.adv 1 ?_
      refine W.guard true (w := ((!x8) == false)) (by kernel_rfl) (congrArg (fun b => b == false) (congrArg (fun b => !b) h25)) ?_
      refine W.adv 1 ?_
      refine W.guard true (w := ((!x8) == false)) (by kernel_rfl) (congrArg (fun b => b == false) (congrArg (fun b => !b) h25)) ?_
      refine W.adv 1 ?_
      refine W.opS (OpIs.pk false (t := (!x8)) (x := (.bool true)) (y := (.bool (decide (e30 < e16)))) (by kernel_rfl) (congrArg (fun b => !b) h25)) ?_
      refine W.adv 2 ?_
      rcases H with ⟨h34, H⟩ | ⟨h34, H⟩
      ·refine W.cond true (w := (decide (e30 < e16))) (by kernel_rfl) (decide_eq_true h34) ?_
       refine W.adv 12 ?_
       exact W.to_loop (P := lean_Cover_l0_s x28 true x26 x27 (wi (x28 + 1)) r2_0_0 r2_0_1 r2_0_2 r2_0_3 r6_0_0 r6_0_1 r6_0_2 r6_0_3 r6_0_4) (H ) (by kernel_rfl)
      ·refine W.cond false (w := (decide (e30 < e16))) (by kernel_rfl) (decide_eq_false h34) ?_
       refine W.adv 8 ?_
       exact W.to_loop (P := lean_Cover_l0_s x7 x8 x26 x27 (wi (x28 + 1)) r2_0_0 r2_0_1 r2_0_2 r2_0_3 r6_0_0 r6_0_1 r6_0_2 r6_0_3 r6_0_4) (H ) (by kernel_rfl)
     ·refine W.guard false (w := ((!x8) == false)) (by kernel_rfl) (congrArg (fun b => b == false) (congrArg (fun b => !b) (bfalse h25))) ?_
      refine W.guard false (w := ((!x8) == false)) (by kernel_rfl) (congrArg (fun b => b == false) (congrArg (fun b => !b) (bfalse h25))) ?_
      refine W.guard false (w := ((!x8) == false)) (by kernel_rfl) (congrArg (fun b => b == false) (congrArg (fun b => !b) (bfalse h25))) ?_
      refine W.guard false (w := ((!x8) == false)) (by kernel_rfl) (congrArg (fun b => b == false) (congrArg (fun b => !b) (bfalse h25))) ?_
      refine W.guard false (w := ((!x8) == false)) (by kernel_rfl) (congrArg (fun b => b == false) (congrArg (fun b => !b) (bfalse h25))) ?_
      refine W.guard false (w := ((!x8) == false)) (by kernel_rfl) (congrArg (fun b => b == false) (congrArg (fun b => !b) (bfalse h25))) ?_
      refine W.guard false (w := ((!x8) == false)) (by kernel_rfl) (congrArg (fun b => b == false) (congrArg (fun b => !b) (bfalse h25))) ?_
      refine W.guard false (w := ((!x8) == false)) (by kernel_rfl) (congrArg (fun b => b == false) (congrArg (fun b => !b) (bfalse h25))) ?_
      refine W.guard false (w := ((!x8) == false)) (by kernel_rfl) (congrArg (fun b => b == false) (congrArg (fun b => !b) (bfalse h25))) ?_
      refine W.guard false (w := ((!x8) == false)) (by kernel_rfl) (congrArg (fun b => b == false) (congrArg (fun b => !b) (bfalse h25))) ?_
      refine W.guard false (w := ((!x8) == false)) (by kernel_rfl) (congrArg (fun b => b == false) (congrArg (fun b => !b) (bfalse h25))) ?_
      refine W.opS (OpIs.pk true (t := (!x8)) (x := (.bool true)) (y := (.tuple [])) (by kernel_rfl) (congrArg (fun b => !b) (bfalse h25))) ?_
      refine W.adv 15 ?_
      exact W.to_loop (P := lean_Cover_l0_s x28 true x26 x27 (wi (x28 + 1)) r2_0_0 r2_0_1 r2_0_2 r2_0_3 r6_0_0 r6_0_1 r6_0_2 r6_0_3 r6_0_4) (H ) (by kernel_rfl)
    ·refine W.cond true (w := (!c22)) (by kernel_rfl) (congrArg (fun b => !b) (bfalse h24)) ?_
     refine W.adv 9 ?_
     exact W.to_loop (P := lean_Cover_l0_s x7 x8 x26 x27 (wi (x28 + 1)) r2_0_0 r2_0_1 r2_0_2 r2_0_3 r6_0_0 r6_0_1 r6_0_2 r6_0_3 r6_0_4) (H ) (by kernel_rfl)
  ·refine W.guard false (w := ((!(decide (e14 = r6_0_0))) == false)) (by kernel_rfl) (congrArg (fun b => b == false) (congrArg (fun b => !b) (decide_eq_false h20))) ?_
   refine W.guard false (w := ((!(decide (e14 = r6_0_0))) == false)) (by kernel_rfl) (congrArg (fun b => b == false) (congrArg (fun b => !b) (decide_eq_false h20))) ?_
   refine W.guard false (w := ((!(decide (e14 = r6_0_0))) == false)) (by kernel_rfl) (congrArg (fun b => b == false) (congrArg (fun b => !b) (decide_eq_false h20))) ?_
   refine W.guard false (w := ((!(decide (e14 = r6_0_0))) == false)) (by kernel_rfl) (congrArg (fun b => b == false) (congrArg (fun b => !b) (decide_eq_false h20))) ?_
   refine W.guard false (w := ((!(decide (e14 = r6_0_0))) == false)) (by kernel_rfl) (congrArg (fun b => b == false) (congrArg (fun b => !b) (decide_eq_false h20))) ?_
   refine W.guard false (w := ((!(decide (e14 = r6_0_0))) == false)) (by kernel_rfl) (congrArg (fun b => b == false) (congrArg (fun b => !b) (decide_eq_false h20))) ?_
   refine W.guard false (w := ((!(decide (e14 = r6_0_0))) == false)) (by kernel_rfl) (congrArg (fun b => b == false) (congrArg (fun b => !b) (decide_eq_false h20))) ?_
   refine W.opS (OpIs.pk true (t := (!(decide (e14 = r6_0_0)))) (x := (.bool true)) (y := (.tuple [])) (by kernel_rfl) (congrArg (fun b => !b) (decide_eq_false h20))) ?_
   refine W.adv 20 ?_
   exact W.to_loop (P := lean_Cover_l0_s x7 x8 x26 x27 (wi (x28 + 1)) r2_0_0 r2_0_1 r2_0_2 r2_0_3 r6_0_0 r6_0_1 r6_0_2 r6_0_3 r6_0_4) (H ) (by kernel_rfl)
 ·refine W.cond false (w := (decide (x28 < x27))) (by kernel_rfl) (decide_eq_false h11) ?_
  refine W.adv 14 ?_
  exact W.fin (x := .ret) (by kernel_rfl) (Ans.of (d := (.tuple [.int .i64 x7, .bool x8])) (d' := (.tuple [.int .i64 x7, .bool x8])) (e' := (.tuple [.int .i64 x7, .bool x8])) (by kernel_rfl) (by kernel_rfl) (by kernel_rfl) (by rw [H.1, H.2]))
theorem lean_Cover_go {a0_0 : ByteArray} {a0_1 : List T_api_Node} {a0_2 : List T_api_Link} {a0_3 : List T_api_Rule} {a1 : Int} {zt0 : Int} {zt1 : Bool} (H : ((a1 < 0 ∧ (zt0 = 0 ∧ zt1 = false)) ∨ (¬ a1 < 0 ∧ (((a0_3.length : Int) ≤ a1 ∧ (zt0 = 0 ∧ zt1 = false)) ∨ (¬ (a0_3.length : Int) ≤ a1 ∧ (0 ≤ a1 ∧ (a1 < (a0_3.length : Int) ∧ (∃ e5 : ByteArray, (∃ e6 : Int, (∃ e7 : Int, (∃ e8 : Bool, (∃ e9 : List T46, (a0_3.getD (a1).toNat (ByteArray.empty, 0, 0, false, []) = (e5, e6, e7, e8, e9) ∧ (lean_Cover_l0 0 false a0_3 (a0_3.length : Int) 0 a0_0 a0_1 a0_2 a0_3 e5 e6 e7 e8 e9 zt0 zt1)))))))))))))) : lean_Cover_R a0_0 a0_1 a0_2 a0_3 a1 zt0 zt1 := by
 refine W.ic (zs := [(.agg [.str a0_0, (.list 2 (a0_1.map E_api_Node)), (.list 6 (a0_2.map E_api_Link)), (.list 5 (a0_3.map E_api_Rule))]), .int .i64 a1]) Tryz.func6 (by kernel_rfl) (by kernel_rfl) (by kernel_rfl) (by kernel_rfl) ?_
 refine W.adv 13 ?_
 rcases H with ⟨h1, H⟩ | ⟨h1, H⟩
 ·refine W.guard false (w := ((decide (a1 < 0)) == false)) (by kernel_rfl) (congrArg (fun b => b == false) (decide_eq_true h1)) ?_
  refine W.guard false (w := ((decide (a1 < 0)) == false)) (by kernel_rfl) (congrArg (fun b => b == false) (decide_eq_true h1)) ?_
  refine W.guard false (w := ((decide (a1 < 0)) == false)) (by kernel_rfl) (congrArg (fun b => b == false) (decide_eq_true h1)) ?_
  refine W.guard false (w := ((decide (a1 < 0)) == false)) (by kernel_rfl) (congrArg (fun b => b == false) (decide_eq_true h1)) ?_
  refine W.guard false (w := ((decide (a1 < 0)) == false)) (by kernel_rfl) (congrArg (fun b => b == false) (decide_eq_true h1)) ?_
  refine W.opS (OpIs.pk true (t := (decide (a1 < 0))) (x := (.bool true)) (y := (.tuple [])) (by kernel_rfl) (decide_eq_true h1)) ?_
  refine W.adv 11 ?_
  exact W.fin (x := .ret) (by kernel_rfl) (Ans.of (d := (.tuple [.int .i64 0, .bool false])) (d' := (.tuple [.int .i64 0, .bool false])) (e' := (.tuple [.int .i64 0, .bool false])) (by kernel_rfl) (by kernel_rfl) (by kernel_rfl) (by rw [H.1, H.2]))
 ·refine W.guard true (w := ((decide (a1 < 0)) == false)) (by kernel_rfl) (congrArg (fun b => b == false) (decide_eq_false h1)) ?_
  refine W.adv 1 ?_
  refine W.guard true (w := ((decide (a1 < 0)) == false)) (by kernel_rfl) (congrArg (fun b => b == false) (decide_eq_false h1)) ?_
  refine W.adv 1 ?_
  refine W.guard true (w := ((decide (a1 < 0)) == false)) (by kernel_rfl) (congrArg (fun b => b == false) (decide_eq_false h1)) ?_
  refine W.adv 1 ?_
  refine W.guard true (w := ((decide (a1 < 0)) == false)) (by kernel_rfl) (congrArg (fun b => b == false) (decide_eq_false h1)) ?_
  refine W.opS (OpIs.ln (n := (a0_3.map E_api_Rule).length) (m := a0_3.length) (by kernel_rfl) (by rw [List.length_map])) ?_
  refine W.guard true (w := ((decide (a1 < 0)) == false)) (by kernel_rfl) (congrArg (fun b => b == false) (decide_eq_false h1)) ?_
  refine W.adv 1 ?_
  refine W.opS (OpIs.pk false (t := (decide (a1 < 0))) (x := (.bool true)) (y := (.bool (decide ((a0_3.length : Int) ≤ a1)))) (by kernel_rfl) (decide_eq_false h1)) ?_
  refine W.adv 2 ?_
  rcases H with ⟨h2, H⟩ | ⟨h2, H⟩
  ·refine W.cond true (w := (decide ((a0_3.length : Int) ≤ a1))) (by kernel_rfl) (decide_eq_true h2) ?_
   refine W.adv 8 ?_
   exact W.fin (x := .ret) (by kernel_rfl) (Ans.of (d := (.tuple [.int .i64 0, .bool false])) (d' := (.tuple [.int .i64 0, .bool false])) (e' := (.tuple [.int .i64 0, .bool false])) (by kernel_rfl) (by kernel_rfl) (by kernel_rfl) (by rw [H.1, H.2]))
  ·refine W.cond false (w := (decide ((a0_3.length : Int) ≤ a1))) (by kernel_rfl) (decide_eq_false h2) ?_
   refine W.adv 7 ?_
   obtain ⟨h3, h4, H⟩ := H
   obtain ⟨e5, e6, e7, e8, e9, he10, H⟩ := H
   refine W.opS (OpIs.ixE (enc := E_api_Rule) (n := 5) (k' := .i64) (L := a0_3) (i := a1) (d0 := (ByteArray.empty, 0, 0, false, [])) (x := (e5, e6, e7, e8, e9)) (by kernel_rfl) h3 h4 he10) ?_
   refine W.adv 16 ?_
   refine W.opS (OpIs.ln (n := (a0_3.map E_api_Rule).length) (m := a0_3.length) (by kernel_rfl) (by rw [List.length_map])) ?_
   refine W.adv 4 ?_
   exact W.to_loop (P := lean_Cover_l0_s 0 false a0_3 (a0_3.length : Int) 0 a0_0 a0_1 a0_2 a0_3 e5 e6 e7 e8 e9) (H ) (by kernel_rfl)
end Go.Proofs.YtfijdkdpcjfiaaaGreatA
namespace Go.Proofs.YtfijdkdpcjfiaaaGreatA
open Go Go.Proofs
noncomputable def ref45_Cover_l0_s (x6 : Int) (x7 : Int) (r2_0_0 : ByteArray) (r2_0_1 : List T_api_Node) (r2_0_2 : List T_api_Link) (r2_0_3 : List T_api_Rule) (r5_0_0 : ByteArray) (r5_0_1 : Int) (r5_0_2 : Int) (r5_0_3 : Bool) (r5_0_4 : List T46) (j : Nat → D) (jb : Nat → Blk) (vs : Nat → Nat) : Cf := cfAt Tryz.f7 [1, 1, 1, 0, 1, 0] ⟨[j 0, j 1, .pref 2 1 0 0, j 3, j 4, .pref 5 1 0 0, .int .i64 x6, .int .i64 x7, j 8, j 9, j 10, j 11, j 12, j 13, j 14, j 15, j 16, j 17, j 18, j 19, j 20, j 21, j 22, j 23, j 24, j 25, j 26, j 27, j 28, j 29, j 30, j 31, j 32, j 33, j 34, j 35, j 36, j 37, j 38, j 39, j 40, j 41, j 42, j 43, j 44, j 45, j 46, j 47, j 48, j 49, j 50, j 51, j 52, j 53, j 54, j 55, j 56, j 57, j 58, j 59, j 60, j 61, j 62, j 63, j 64, j 65, j 66, j 67, j 68, j 69, j 70, j 71, j 72, j 73, j 74, j 75, j 76, j 77, j 78, j 79, j 80], [jb 0, jb 1, ⟨1, false, .rows 4 [(.agg [.str r2_0_0, (.list 2 (r2_0_1.map E_api_Node)), (.list 6 (r2_0_2.map E_api_Link)), (.list 5 (r2_0_3.map E_api_Rule))])]⟩, jb 3, jb 4, ⟨1, false, .rows 5 [(.agg [.str r5_0_0, .int .u32 r5_0_1, .int .i64 r5_0_2, .bool r5_0_3, (.list 1 (r5_0_4.map E46))])]⟩, jb 6, jb 7, jb 8, jb 9, jb 10, jb 11, jb 12, jb 13, jb 14, jb 15, jb 16, jb 17, jb 18, jb 19, jb 20, jb 21, jb 22, jb 23, jb 24, jb 25, jb 26, jb 27, jb 28, jb 29, jb 30, jb 31, jb 32, jb 33, jb 34, jb 35, jb 36, jb 37, jb 38, jb 39, jb 40, jb 41, jb 42, jb 43, jb 44, jb 45, jb 46, jb 47, jb 48, jb 49, jb 50, jb 51, jb 52, jb 53, jb 54, jb 55, jb 56, jb 57, jb 58, jb 59, jb 60, jb 61, jb 62, jb 63, jb 64, jb 65, jb 66, jb 67, jb 68, jb 69, jb 70, jb 71, jb 72, jb 73, jb 74, jb 75, jb 76, jb 77, jb 78, jb 79, jb 80]⟩
def ref45_Cover_l0 (x6 : Int) (x7 : Int) (r2_0_0 : ByteArray) (r2_0_1 : List T_api_Node) (r2_0_2 : List T_api_Link) (r2_0_3 : List T_api_Rule) (r5_0_0 : ByteArray) (r5_0_1 : Int) (r5_0_2 : Int) (r5_0_3 : Bool) (r5_0_4 : List T46) (z : Int) : Prop := ∀ j jb vs, W C F 7 0 (ref45_Cover_l0_s x6 x7 r2_0_0 r2_0_1 r2_0_2 r2_0_3 r5_0_0 r5_0_1 r5_0_2 r5_0_3 r5_0_4  j jb vs) (Ans C Tryz.f7 (.int .i64 z))
theorem ref45_Cover_l0_go {x6 : Int} {x7 : Int} {r2_0_0 : ByteArray} {r2_0_1 : List T_api_Node} {r2_0_2 : List T_api_Link} {r2_0_3 : List T_api_Rule} {r5_0_0 : ByteArray} {r5_0_1 : Int} {r5_0_2 : Int} {r5_0_3 : Bool} {r5_0_4 : List T46} {z : Int} (H : ((x7 < (r2_0_3.length : Int) ∧ (0 ≤ x7 ∧ (∃ e13 : ByteArray, (∃ e14 : Int, (∃ e15 : Int, (∃ e16 : Bool, (∃ e17 : List T46, (r2_0_3.getD (x7).toNat (ByteArray.empty, 0, 0, false, []) = (e13, e14, e15, e16, e17) ∧ ((e13 = r5_0_0 ∧ (∃ c20 : Bool, (ref18_May_R r5_0_1 r5_0_2 c20 ∧ ((c20 = true ∧ (∃ c23 : Bool, (ref18_Has_R e14 e15 r5_0_1 c23 ∧ ((c23 = true ∧ ((e15 < r5_0_2 ∧ ((x6 < 0 ∧ (ref45_Cover_l0 x7 (wi (x7 + 1)) r2_0_0 r2_0_1 r2_0_2 r2_0_3 r5_0_0 r5_0_1 r5_0_2 r5_0_3 r5_0_4 z)) ∨ (¬ x6 < 0 ∧ (0 ≤ x6 ∧ (x6 < (r2_0_3.length : Int) ∧ (∃ e30 : ByteArray, (∃ e31 : Int, (∃ e32 : Int, (∃ e33 : Bool, (∃ e34 : List T46, (r2_0_3.getD (x6).toNat (ByteArray.empty, 0, 0, false, []) = (e30, e31, e32, e33, e34) ∧ ((e32 < e15 ∧ (ref45_Cover_l0 x7 (wi (x7 + 1)) r2_0_0 r2_0_1 r2_0_2 r2_0_3 r5_0_0 r5_0_1 r5_0_2 r5_0_3 r5_0_4 z)) ∨ (¬ e32 < e15 ∧ (ref45_Cover_l0 x6 (wi (x7 + 1)) r2_0_0 r2_0_1 r2_0_2 r2_0_3 r5_0_0 r5_0_1 r5_0_2 r5_0_3 r5_0_4 z)))))))))))))) ∨ (¬ e15 < r5_0_2 ∧ (ref45_Cover_l0 x6 (wi (x7 + 1)) r2_0_0 r2_0_1 r2_0_2 r2_0_3 r5_0_0 r5_0_1 r5_0_2 r5_0_3 r5_0_4 z)))) ∨ (¬ c23 = true ∧ (ref45_Cover_l0 x6 (wi (x7 + 1)) r2_0_0 r2_0_1 r2_0_2 r2_0_3 r5_0_0 r5_0_1 r5_0_2 r5_0_3 r5_0_4 z)))))) ∨ (¬ c20 = true ∧ (ref45_Cover_l0 x6 (wi (x7 + 1)) r2_0_0 r2_0_1 r2_0_2 r2_0_3 r5_0_0 r5_0_1 r5_0_2 r5_0_3 r5_0_4 z)))))) ∨ (¬ e13 = r5_0_0 ∧ (ref45_Cover_l0 x6 (wi (x7 + 1)) r2_0_0 r2_0_1 r2_0_2 r2_0_3 r5_0_0 r5_0_1 r5_0_2 r5_0_3 r5_0_4 z))))))))))) ∨ (¬ x7 < (r2_0_3.length : Int) ∧ (z = x6)))) : ref45_Cover_l0 x6 x7 r2_0_0 r2_0_1 r2_0_2 r2_0_3 r5_0_0 r5_0_1 r5_0_2 r5_0_3 r5_0_4 z := by
 intro j jb vs
 refine W.adv 1 ?_
 refine W.adv 6 ?_
 refine W.opS (OpIs.ln (n := (r2_0_3.map E_api_Rule).length) (m := r2_0_3.length) (by kernel_rfl) (by rw [List.length_map])) ?_
 refine W.adv 3 ?_
 rcases H with ⟨h11, H⟩ | ⟨h11, H⟩
 ·refine W.cond true (w := (decide (x7 < (r2_0_3.length : Int)))) (by kernel_rfl) (decide_eq_true h11) ?_
  refine W.adv 9 ?_
  obtain ⟨h12, H⟩ := H
  obtain ⟨e13, e14, e15, e16, e17, he18, H⟩ := H
  refine W.opS (OpIs.ixE (enc := E_api_Rule) (n := 5) (k' := .i64) (L := r2_0_3) (i := x7) (d0 := (ByteArray.empty, 0, 0, false, [])) (x := (e13, e14, e15, e16, e17)) (by kernel_rfl) h12 h11 he18) ?_
  refine W.adv 2 ?_
  refine W.opH (OpIs.stV (b := 8) (v := ((jb 8).ver + 1)) (i := 0) (off := 0) (w := ((jb 8).ver + 1)) (n := 5) (s := 5) (xs := [(.agg [.str ⟨#[]⟩, .int .u32 0, .int .i64 0, .bool false, .nilS])]) (ys := [(.agg [.str e13, .int .u32 e14, .int .i64 e15, .bool e16, (.list 1 (e17.map E46))])]) (d := (.agg [.str ⟨#[]⟩, .int .u32 0, .int .i64 0, .bool false, .nilS])) (y := (.agg [.str e13, .int .u32 e14, .int .i64 e15, .bool e16, (.list 1 (e17.map E46))])) (by kernel_rfl) rfl (by kernel_rfl) (by kernel_rfl) (Nat.le_of_ble_eq_true (by kernel_rfl)) (by kernel_rfl) (by kernel_rfl)) ?_
  refine W.adv 5 ?_
  refine W.opS (OpIs.ldV (b := 8) (v := ((jb 8).ver + 1)) (i := 0) (off := 0) (w := ((jb 8).ver + 1)) (n := 5) (s := 1) (fz := false) (a := false) (xs := [(.agg [.str e13, .int .u32 e14, .int .i64 e15, .bool e16, (.list 1 (e17.map E46))])]) (r := (.str e13)) (by kernel_rfl) rfl (by kernel_rfl)) ?_
  refine W.adv 4 ?_
  rcases H with ⟨h19, H⟩ | ⟨h19, H⟩
  ·refine W.guard true (w := ((decide (e13 = r5_0_0)) == true)) (by kernel_rfl) (congrArg (fun b => b == true) (decide_eq_true h19)) ?_
   refine W.adv 1 ?_
   refine W.guard true (w := ((decide (e13 = r5_0_0)) == true)) (by kernel_rfl) (congrArg (fun b => b == true) (decide_eq_true h19)) ?_
   refine W.adv 1 ?_
   refine W.guard true (w := ((decide (e13 = r5_0_0)) == true)) (by kernel_rfl) (congrArg (fun b => b == true) (decide_eq_true h19)) ?_
   obtain ⟨c20, hc21, H⟩ := H
   refine W.callR (g := 16) (ds := [(.agg [.int .u32 r5_0_1, .int .i64 r5_0_2])]) (es := [(.agg [.int .u32 r5_0_1, .int .i64 r5_0_2])]) (r := (.bool c20)) (by kernel_rfl) (by kernel_rfl) (Ic.args hc21 (by kernel_rfl)) (by kernel_rfl) ?_
   refine W.opS (OpIs.pk true (t := (decide (e13 = r5_0_0))) (x := (.bool c20)) (y := (.bool false)) (by kernel_rfl) (decide_eq_true h19)) ?_
   refine W.adv 1 ?_
   rcases H with ⟨h22, H⟩ | ⟨h22, H⟩
   ·refine W.guard true (w := (c20 == true)) (by kernel_rfl) (congrArg (fun b => b == true) h22) ?_
    refine W.adv 1 ?_
    refine W.guard true (w := (c20 == true)) (by kernel_rfl) (congrArg (fun b => b == true) h22) ?_
    refine W.opS (OpIs.ldV (b := 8) (v := ((jb 8).ver + 1)) (i := 0) (off := 1) (w := ((jb 8).ver + 1)) (n := 5) (s := 2) (fz := false) (a := true) (xs := [(.agg [.str e13, .int .u32 e14, .int .i64 e15, .bool e16, (.list 1 (e17.map E46))])]) (r := (.agg [.int .u32 e14, .int .i64 e15])) (by kernel_rfl) rfl (by kernel_rfl)) ?_
    refine W.guard true (w := (c20 == true)) (by kernel_rfl) (congrArg (fun b => b == true) h22) ?_
    refine W.adv 1 ?_
    refine W.guard true (w := (c20 == true)) (by kernel_rfl) (congrArg (fun b => b == true) h22) ?_
    refine W.adv 1 ?_
    refine W.guard true (w := (c20 == true)) (by kernel_rfl) (congrArg (fun b => b == true) h22) ?_
    refine W.adv 1 ?_
    refine W.guard true (w := (c20 == true)) (by kernel_rfl) (congrArg (fun b => b == true) h22) ?_
    obtain ⟨c23, hc24, H⟩ := H
    refine W.callR (g := 17) (ds := [(.agg [.int .u32 e14, .int .i64 e15]), .int .u32 r5_0_1]) (es := [(.agg [.int .u32 e14, .int .i64 e15]), .int .u32 r5_0_1]) (r := (.bool c23)) (by kernel_rfl) (by kernel_rfl) (Ic.args hc24 (by kernel_rfl)) (by kernel_rfl) ?_
    refine W.opS (OpIs.pk true (t := c20) (x := (.bool c23)) (y := (.bool false)) (by kernel_rfl) h22) ?_
    refine W.adv 1 ?_
    rcases H with ⟨h25, H⟩ | ⟨h25, H⟩
    ·refine W.guard true (w := (c23 == true)) (by kernel_rfl) (congrArg (fun b => b == true) h25) ?_
     refine W.adv 1 ?_
     refine W.guard true (w := (c23 == true)) (by kernel_rfl) (congrArg (fun b => b == true) h25) ?_
     refine W.adv 1 ?_
     refine W.guard true (w := (c23 == true)) (by kernel_rfl) (congrArg (fun b => b == true) h25) ?_
     refine W.opS (OpIs.ldV (b := 8) (v := ((jb 8).ver + 1)) (i := 0) (off := 2) (w := ((jb 8).ver + 1)) (n := 5) (s := 1) (fz := false) (a := false) (xs := [(.agg [.str e13, .int .u32 e14, .int .i64 e15, .bool e16, (.list 1 (e17.map E46))])]) (r := (.int .i64 e15)) (by kernel_rfl) rfl (by kernel_rfl)) ?_
     refine W.guard true (w := (c23 == true)) (by kernel_rfl) (congrArg (fun b => b == true) h25) ?_
     refine W.adv 1 ?_
     refine W.guard true (w := (c23 == true)) (by kernel_rfl) (congrArg (fun b => b == true) h25) ?_
     refine W.adv 1 ?_
     refine W.guard true (w := (c23 == true)) (by kernel_rfl) (congrArg (fun b => b == true) h25) ?_
     refine W.adv 1 ?_
     refine W.guard true (w := (c23 == true)) (by kernel_rfl) (congrArg (fun b => b == true) h25) ?_
     refine W.adv 1 ?_
     refine W.opS (OpIs.pk true (t := c23) (x := (.bool (decide (e15 < r5_0_2)))) (y := (.bool false)) (by kernel_rfl) h25) ?_
     refine W.adv 1 ?_
     rcases H with ⟨h26, H⟩ | ⟨h26, H⟩
     ·refine W.guard true (w := ((decide (e15 < r5_0_2)) == true)) (by kernel_rfl) (congrArg (fun b => b == true) (decide_eq_true h26)) ?_
      refine W.adv 1 ?_
      refine W.guard true (w := ((decide (e15 < r5_0_2)) == true)) (by kernel_rfl) (congrArg (fun b => b == true) (decide_eq_true h26)) ?_
      refine W.adv 1 ?_
      refine W.guard true (w := ((decide (e15 < r5_0_2)) == true)) (by kernel_rfl) (congrArg (fun b => b == true) (decide_eq_true h26)) ?_
      refine W.adv 1 ?_
      rcases H with ⟨h27, H⟩ | ⟨h27, H⟩
      ·refine W.guard false (w := ((decide (x6 < 0)) == false)) (by kernel_rfl) (congrArg (fun b => b == false) (decide_eq_true h27)) ?_
       refine W.guard false (w := ((decide (x6 < 0)) == false)) (by kernel_rfl) (congrArg (fun b => b == false) (decide_eq_true h27)) ?_
       refine W.guard false (w := ((decide (x6 < 0)) == false)) (by kernel_rfl) (congrArg (fun b => b == false) (decide_eq_true h27)) ?_
       refine W.guard false (w := ((decide (x6 < 0)) == false)) (by kernel_rfl) (congrArg (fun b => b == false) (decide_eq_true h27)) ?_
       refine W.guard false (w := ((decide (x6 < 0)) == false)) (by kernel_rfl) (congrArg (fun b => b == false) (decide_eq_true h27)) ?_
       refine W.guard false (w := ((decide (x6 < 0)) == false)) (by kernel_rfl) (congrArg (fun b => b == false) (decide_eq_true h27)) ?_
       refine W.guard false (w := ((decide (x6 < 0)) == false)) (by kernel_rfl) (congrArg (fun b => b == false) (decide_eq_true h27)) ?_
       refine W.guard false (w := ((decide (x6 < 0)) == false)) (by kernel_rfl) (congrArg (fun b => b == false) (decide_eq_true h27)) ?_
       refine W.guard false (w := ((decide (x6 < 0)) == false)) (by kernel_rfl) (congrArg (fun b => b == false) (decide_eq_true h27)) ?_
       refine W.guard false (w := ((decide (x6 < 0)) == false)) (by kernel_rfl) (congrArg (fun b => b == false) (decide_eq_true h27)) ?_
       refine W.guard false (w := ((decide (x6 < 0)) == false)) (by kernel_rfl) (congrArg (fun b => b == false) (decide_eq_true h27)) ?_
       refine W.guard true (w := ((decide (e15 < r5_0_2)) == true)) (by kernel_rfl) (congrArg (fun b => b == true) (decide_eq_true h26)) ?_
       refine W.opS (OpIs.pk true (t := (decide (x6 < 0))) (x := (.bool true)) (y := (.tuple [])) (by kernel_rfl) (decide_eq_true h27)) ?_
       refine W.opS (OpIs.pk true (t := (decide (e15 < r5_0_2))) (x := (.bool true)) (y := (.bool false)) (by kernel_rfl) (decide_eq_true h26)) ?_
       refine W.adv 15 ?_
       exact W.to_loop (P := ref45_Cover_l0_s x7 (wi (x7 + 1)) r2_0_0 r2_0_1 r2_0_2 r2_0_3 r5_0_0 r5_0_1 r5_0_2 r5_0_3 r5_0_4) (H ) (by kernel_rfl)
      ·refine W.guard true (w := ((decide (x6 < 0)) == false)) (by kernel_rfl) (congrArg (fun b => b == false) (decide_eq_false h27)) ?_
       refine W.adv 1 ?_
       refine W.guard true (w := ((decide (x6 < 0)) == false)) (by kernel_rfl) (congrArg (fun b => b == false) (decide_eq_false h27)) ?_
       refine W.adv 1 ?_
       refine W.guard true (w := ((decide (x6 < 0)) == false)) (by kernel_rfl) (congrArg (fun b => b == false) (decide_eq_false h27)) ?_
       refine W.opS (OpIs.ldV (b := 8) (v := ((jb 8).ver + 1)) (i := 0) (off := 2) (w := ((jb 8).ver + 1)) (n := 5) (s := 1) (fz := false) (a := false) (xs := [(.agg [.str e13, .int .u32 e14, .int .i64 e15, .bool e16, (.list 1 (e17.map E46))])]) (r := (.int .i64 e15)) (by kernel_rfl) rfl (by kernel_rfl)) ?_
       refine W.guard true (w := ((decide (x6 < 0)) == false)) (by kernel_rfl) (congrArg (fun b => b == false) (decide_eq_false h27)) ?_
       refine W.adv 1 ?_
       refine W.guard true (w := ((decide (x6 < 0)) == false)) (by kernel_rfl) (congrArg (fun b => b == false) (decide_eq_false h27)) ?_
       refine W.adv 1 ?_
       refine W.guard true (w := ((decide (x6 < 0)) == false)) (by kernel_rfl) (congrArg (fun b => b == false) (decide_eq_false h27)) ?_
       refine W.adv 1 ?_
       refine W.guard true (w := ((decide (x6 < 0)) == false)) (by kernel_rfl) (congrArg (fun b => b == false) (decide_eq_false h27)) ?_
       obtain ⟨h28, h29, H⟩ := H
       obtain ⟨e30, e31, e32, e33, e34, he35, H⟩ := H
       refine W.opS (OpIs.ixE (enc := E_api_Rule) (n := 5) (k' := .i64) (L := r2_0_3) (i := x6) (d0 := (ByteArray.empty, 0, 0, false, [])) (x := (e30, e31, e32, e33, e34)) (by kernel_rfl) h28 h29 he35) ?_
       refine W.guard true (w := ((decide (x6 < 0)) == false)) (by kernel_rfl) (congrArg (fun b => b == false) (decide_eq_false h27)) ?_
       refine W.adv 1 ?_
       refine W.guard true (w := ((decide (x6 < 0)) == false)) (by kernel_rfl) (congrArg (fun b => b == false) (decide_eq_false h27)) ?_
       refine W.adv 1 ?_
       refine W.guard true (w := ((decide (x6 < 0)) == false)) (by kernel_rfl) (congrArg (fun b => b == false) (decide_eq_false h27)) ?_
       refine W.adv 1 ?_
       refine W.guard true (w := ((decide (x6 < 0)) == false)) (by kernel_rfl) (congrArg (fun b => b == false) (decide_eq_false h27)) ?_
       refine W.adv 1 ?_
       refine W.guard true (w := ((decide (e15 < r5_0_2)) == true)) (by kernel_rfl) (congrArg (fun b => b == true) (decide_eq_true h26)) ?_
       refine W.opS (OpIs.pk false (t := (decide (x6 < 0))) (x := (.bool true)) (y := (.bool (decide (e32 < e15)))) (by kernel_rfl) (decide_eq_false h27)) ?_
       refine W.opS (OpIs.pk true (t := (decide (e15 < r5_0_2))) (x := (.bool (decide (e32 < e15)))) (y := (.bool false)) (by kernel_rfl) (decide_eq_true h26)) ?_
       refine W.adv 2 ?_
       rcases H with ⟨h36, H⟩ | ⟨h36, H⟩
       ·refine W.cond true (w := (decide (e32 < e15))) (by kernel_rfl) (decide_eq_true h36) ?_
        refine W.adv 12 ?_
        exact W.to_loop (P := ref45_Cover_l0_s x7 (wi (x7 + 1)) r2_0_0 r2_0_1 r2_0_2 r2_0_3 r5_0_0 r5_0_1 r5_0_2 r5_0_3 r5_0_4) (H ) (by kernel_rfl)
       ·refine W.cond false (w := (decide (e32 < e15))) (by kernel_rfl) (decide_eq_false h36) ?_
        refine W.adv 9 ?_
        exact W.to_loop (P := ref45_Cover_l0_s x6 (wi (x7 + 1)) r2_0_0 r2_0_1 r2_0_2 r2_0_3 r5_0_0 r5_0_1 r5_0_2 r5_0_3 r5_0_4) (H ) (by kernel_rfl)
     ·refine W.guard false (w := ((decide (e15 < r5_0_2)) == true)) (by kernel_rfl) (congrArg (fun b => b == true) (decide_eq_false h26)) ?_
      refine W.guard false (w := ((decide (e15 < r5_0_2)) == true)) (by kernel_rfl) (congrArg (fun b => b == true) (decide_eq_false h26)) ?_
      refine W.guard false (w := ((decide (e15 < r5_0_2)) == true)) (by kernel_rfl) (congrArg (fun b => b == true) (decide_eq_false h26)) ?_
      refine W.adv 11 ?_
      refine W.guard false (w := ((decide (e15 < r5_0_2)) == true)) (by kernel_rfl) (congrArg (fun b => b == true) (decide_eq_false h26)) ?_
      refine W.opS (OpIs.pk false (t := (decide (e15 < r5_0_2))) (x := (.tuple [])) (y := (.bool false)) (by kernel_rfl) (decide_eq_false h26)) ?_
      refine W.adv 12 ?_
      exact W.to_loop (P := ref45_Cover_l0_s x6 (wi (x7 + 1)) r2_0_0 r2_0_1 r2_0_2 r2_0_3 r5_0_0 r5_0_1 r5_0_2 r5_0_3 r5_0_4) (H ) (by kernel_rfl)
    ·refine W.guard false (w := (c23 == true)) (by kernel_rfl) (congrArg (fun b => b == true) (bfalse h25)) ?_
     refine W.guard false (w := (c23 == true)) (by kernel_rfl) (congrArg (fun b => b == true) (bfalse h25)) ?_
     refine W.guard false (w := (c23 == true)) (by kernel_rfl) (congrArg (fun b => b == true) (bfalse h25)) ?_
     refine W.guard false (w := (c23 == true)) (by kernel_rfl) (congrArg (fun b => b == true) (bfalse h25)) ?_
     refine W.guard false (w := (c23 == true)) (by kernel_rfl) (congrArg (fun b => b == true) (bfalse h25)) ?_
     refine W.guard false (w := (c23 == true)) (by kernel_rfl) (congrArg (fun b => b == true) (bfalse h25)) ?_
     refine W.guard false (w := (c23 == true)) (by kernel_rfl) (congrArg (fun b => b == true) (bfalse h25)) ?_
     refine W.opS (OpIs.pk false (t := c23) (x := (.tuple [])) (y := (.bool false)) (by kernel_rfl) (bfalse h25)) ?_
     refine W.adv 29 ?_
     exact W.to_loop (P := ref45_Cover_l0_s x6 (wi (x7 + 1)) r2_0_0 r2_0_1 r2_0_2 r2_0_3 r5_0_0 r5_0_1 r5_0_2 r5_0_3 r5_0_4) (H ) (by kernel_rfl)
   ·refine W.guard false (w := (c20 == true)) (by kernel_rfl) (congrArg (fun b => b == true) (bfalse h22)) ?_
    refine W.guard false (w := (c20 == true)) (by kernel_rfl) (congrArg (fun b => b == true) (bfalse h22)) ?_
    refine W.guard false (w := (c20 == true)) (by kernel_rfl) (congrArg (fun b => b == true) (bfalse h22)) ?_
    refine W.guard false (w := (c20 == true)) (by kernel_rfl) (congrArg (fun b => b == true) (bfalse h22)) ?_
    refine W.guard false (w := (c20 == true)) (by kernel_rfl) (congrArg (fun b => b == true) (bfalse h22)) ?_
    refine W.guard false (w := (c20 == true)) (by kernel_rfl) (congrArg (fun b => b == true) (bfalse h22)) ?_
    refine W.opS (OpIs.pk false (t := c20) (x := (.tuple [])) (y := (.bool false)) (by kernel_rfl) (bfalse h22)) ?_
    refine W.adv 38 ?_
    exact W.to_loop (P := ref45_Cover_l0_s x6 (wi (x7 + 1)) r2_0_0 r2_0_1 r2_0_2 r2_0_3 r5_0_0 r5_0_1 r5_0_2 r5_0_3 r5_0_4) (H ) (by kernel_rfl)
  ·refine W.guard false (w := ((decide (e13 = r5_0_0)) == true)) (by kernel_rfl) (congrArg (fun b => b == true) (decide_eq_false h19)) ?_
   refine W.guard false (w := ((decide (e13 = r5_0_0)) == true)) (by kernel_rfl) (congrArg (fun b => b == true) (decide_eq_false h19)) ?_
   refine W.guard false (w := ((decide (e13 = r5_0_0)) == true)) (by kernel_rfl) (congrArg (fun b => b == true) (decide_eq_false h19)) ?_
   refine W.opS (OpIs.pk false (t := (decide (e13 = r5_0_0))) (x := (.tuple [])) (y := (.bool false)) (by kernel_rfl) (decide_eq_false h19)) ?_
   refine W.adv 46 ?_
   exact W.to_loop (P := ref45_Cover_l0_s x6 (wi (x7 + 1)) r2_0_0 r2_0_1 r2_0_2 r2_0_3 r5_0_0 r5_0_1 r5_0_2 r5_0_3 r5_0_4) (H ) (by kernel_rfl)
 ·refine W.cond false (w := (decide (x7 < (r2_0_3.length : Int)))) (by kernel_rfl) (decide_eq_false h11) ?_
  refine W.adv 12 ?_
  exact W.fin (x := .ret) (by kernel_rfl) (Ans.of (d := (.int .i64 x6)) (d' := (.int .i64 x6)) (e' := (.int .i64 x6)) (by kernel_rfl) (by kernel_rfl) (by kernel_rfl) (by rw [H]))
theorem ref45_Cover_go {a0_0 : ByteArray} {a0_1 : List T_api_Node} {a0_2 : List T_api_Link} {a0_3 : List T_api_Rule} {a1 : Int} {z : Int} (H : ((a1 < 0 ∧ (z = (-1))) ∨ (¬ a1 < 0 ∧ (((a0_3.length : Int) ≤ a1 ∧ (z = (-1))) ∨ (¬ (a0_3.length : Int) ≤ a1 ∧ (0 ≤ a1 ∧ (a1 < (a0_3.length : Int) ∧ (∃ e5 : ByteArray, (∃ e6 : Int, (∃ e7 : Int, (∃ e8 : Bool, (∃ e9 : List T46, (a0_3.getD (a1).toNat (ByteArray.empty, 0, 0, false, []) = (e5, e6, e7, e8, e9) ∧ (ref45_Cover_l0 (-1) 0 a0_0 a0_1 a0_2 a0_3 e5 e6 e7 e8 e9 z)))))))))))))) : ref45_Cover_R a0_0 a0_1 a0_2 a0_3 a1 z := by
 refine W.ic (zs := [(.agg [.str a0_0, (.list 2 (a0_1.map E_api_Node)), (.list 6 (a0_2.map E_api_Link)), (.list 5 (a0_3.map E_api_Rule))]), .int .i64 a1]) Tryz.func7 (by kernel_rfl) (by kernel_rfl) (by kernel_rfl) (by kernel_rfl) ?_
 refine W.adv 12 ?_
 rcases H with ⟨h1, H⟩ | ⟨h1, H⟩
 ·refine W.guard false (w := ((decide (a1 < 0)) == false)) (by kernel_rfl) (congrArg (fun b => b == false) (decide_eq_true h1)) ?_
  refine W.guard false (w := ((decide (a1 < 0)) == false)) (by kernel_rfl) (congrArg (fun b => b == false) (decide_eq_true h1)) ?_
  refine W.guard false (w := ((decide (a1 < 0)) == false)) (by kernel_rfl) (congrArg (fun b => b == false) (decide_eq_true h1)) ?_
  refine W.guard false (w := ((decide (a1 < 0)) == false)) (by kernel_rfl) (congrArg (fun b => b == false) (decide_eq_true h1)) ?_
  refine W.guard false (w := ((decide (a1 < 0)) == false)) (by kernel_rfl) (congrArg (fun b => b == false) (decide_eq_true h1)) ?_
  refine W.opS (OpIs.pk true (t := (decide (a1 < 0))) (x := (.bool true)) (y := (.tuple [])) (by kernel_rfl) (decide_eq_true h1)) ?_
  refine W.adv 10 ?_
  exact W.fin (x := .ret) (by kernel_rfl) (Ans.of (d := (.int .i64 (-1))) (d' := (.int .i64 (-1))) (e' := (.int .i64 (-1))) (by kernel_rfl) (by kernel_rfl) (by kernel_rfl) (by rw [H]))
 ·refine W.guard true (w := ((decide (a1 < 0)) == false)) (by kernel_rfl) (congrArg (fun b => b == false) (decide_eq_false h1)) ?_
  refine W.adv 1 ?_
  refine W.guard true (w := ((decide (a1 < 0)) == false)) (by kernel_rfl) (congrArg (fun b => b == false) (decide_eq_false h1)) ?_
  refine W.adv 1 ?_
  refine W.guard true (w := ((decide (a1 < 0)) == false)) (by kernel_rfl) (congrArg (fun b => b == false) (decide_eq_false h1)) ?_
  refine W.adv 1 ?_
  refine W.guard true (w := ((decide (a1 < 0)) == false)) (by kernel_rfl) (congrArg (fun b => b == false) (decide_eq_false h1)) ?_
  refine W.opS (OpIs.ln (n := (a0_3.map E_api_Rule).length) (m := a0_3.length) (by kernel_rfl) (by rw [List.length_map])) ?_
  refine W.guard true (w := ((decide (a1 < 0)) == false)) (by kernel_rfl) (congrArg (fun b => b == false) (decide_eq_false h1)) ?_
  refine W.adv 1 ?_
  refine W.opS (OpIs.pk false (t := (decide (a1 < 0))) (x := (.bool true)) (y := (.bool (decide ((a0_3.length : Int) ≤ a1)))) (by kernel_rfl) (decide_eq_false h1)) ?_
  refine W.adv 2 ?_
  rcases H with ⟨h2, H⟩ | ⟨h2, H⟩
  ·refine W.cond true (w := (decide ((a0_3.length : Int) ≤ a1))) (by kernel_rfl) (decide_eq_true h2) ?_
   refine W.adv 7 ?_
   exact W.fin (x := .ret) (by kernel_rfl) (Ans.of (d := (.int .i64 (-1))) (d' := (.int .i64 (-1))) (e' := (.int .i64 (-1))) (by kernel_rfl) (by kernel_rfl) (by kernel_rfl) (by rw [H]))
  ·refine W.cond false (w := (decide ((a0_3.length : Int) ≤ a1))) (by kernel_rfl) (decide_eq_false h2) ?_
   refine W.adv 7 ?_
   obtain ⟨h3, h4, H⟩ := H
   obtain ⟨e5, e6, e7, e8, e9, he10, H⟩ := H
   refine W.opS (OpIs.ixE (enc := E_api_Rule) (n := 5) (k' := .i64) (L := a0_3) (i := a1) (d0 := (ByteArray.empty, 0, 0, false, [])) (x := (e5, e6, e7, e8, e9)) (by kernel_rfl) h3 h4 he10) ?_
   refine W.adv 13 ?_
   exact W.to_loop (P := ref45_Cover_l0_s (-1) 0 a0_0 a0_1 a0_2 a0_3 e5 e6 e7 e8 e9) (H ) (by kernel_rfl)
end Go.Proofs.YtfijdkdpcjfiaaaGreatA
