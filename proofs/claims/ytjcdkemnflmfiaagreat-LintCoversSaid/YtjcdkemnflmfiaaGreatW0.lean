/- What each function answers, as a relation. -/
import Derived.Test.YtjcdkemnflmfiaaGreatB8
set_option linter.unusedVariables false
set_option maxRecDepth 100000
namespace Go.Proofs.YtjcdkemnflmfiaaGreatA
open Go Go.Proofs
abbrev T_api_Prefix : Type := Int × Int
def E_api_Prefix (p : T_api_Prefix) : D := .agg [(.int .u32 p.1), (.int .i64 p.2)]
theorem E_api_Prefix_t (p : T_api_Prefix) : (E_api_Prefix p).cells.all (D.isT 2) = true := rfl
def law44_LintCovers_R (a0_0 : Int) (a0_1 : Int) (a1 : List T_api_Prefix) (z : Bool) : Prop := LawIs C F 6 [(.agg [(.int .u32 a0_0), (.int .i64 a0_1)]), (.list 2 (a1.map E_api_Prefix))] z
def lint_Covered_R (a0_0 : Int) (a0_1 : Int) (a1 : List T_api_Prefix) (z : Bool) : Prop := Ic C F 27 [(.agg [(.int .u32 a0_0), (.int .i64 a0_1)]), (.list 2 (a1.map E_api_Prefix))] (.bool z)
def ref44_Covered_R (a0_0 : Int) (a0_1 : Int) (a1 : List T_api_Prefix) (z : Bool) : Prop := Ic C F 28 [(.agg [(.int .u32 a0_0), (.int .i64 a0_1)]), (.list 2 (a1.map E_api_Prefix))] (.bool z)
def law44_works_R (z : Bool) : Prop := Ic C F 29 [] (.bool z)
def addr_May_R (a0_0 : Int) (a0_1 : Int) (z : Bool) : Prop := Ic C F 75 [(.agg [(.int .u32 a0_0), (.int .i64 a0_1)])] (.bool z)
def lint_Covered_1_R (a0_0 : Int) (a0_1 : Int) (z : Bool) : Prop := Ic C F 77 [(.agg [(.int .u32 a0_0), (.int .i64 a0_1)])] (.bool z)
def addr_Within_R (a0_0 : Int) (a0_1 : Int) (a1_0 : Int) (a1_1 : Int) (z : Bool) : Prop := Ic C F 78 [(.agg [(.int .u32 a0_0), (.int .i64 a0_1)]), (.agg [(.int .u32 a1_0), (.int .i64 a1_1)])] (.bool z)
def lint_Covered_2_R (a0_0 : Int) (a0_1 : Int) (z : Bool) : Prop := Ic C F 81 [(.agg [(.int .u32 a0_0), (.int .i64 a0_1)])] (.bool z)
def ref18_May_R (a0_0 : Int) (a0_1 : Int) (z : Bool) : Prop := Ic C F 82 [(.agg [(.int .u32 a0_0), (.int .i64 a0_1)])] (.bool z)
def ref18_Range_R (a0_0 : Int) (a0_1 : Int) (z_0 : Int) (z_1 : Int) : Prop := Ic C F 83 [(.agg [(.int .u32 a0_0), (.int .i64 a0_1)])] (.agg [(.int .u32 z_0), (.int .u32 z_1)])
def ref18_Has_R (a0_0 : Int) (a0_1 : Int) (a1 : Int) (z : Bool) : Prop := Ic C F 84 [(.agg [(.int .u32 a0_0), (.int .i64 a0_1)]), (.int .u32 a1)] (.bool z)
def addr_Mask_R (a0 : Int) (z : Int) : Prop := Ic C F 132 [(.int .i64 a0)] (.int .u32 z)
def addr_Has_R (a0_0 : Int) (a0_1 : Int) (a1 : Int) (z : Bool) : Prop := Ic C F 134 [(.agg [(.int .u32 a0_0), (.int .i64 a0_1)]), (.int .u32 a1)] (.bool z)
def ref18_Size_R (a0 : Int) (z : Int) : Prop := Ic C F 135 [(.int .i64 a0)] (.int .u64 z)
def slices_ContainsFunc___api_Prefix_api_Prefix__v0_R (a0 : List T_api_Prefix) (a1_c0_0 : Int) (a1_c0_1 : Int) (z : Bool) : Prop := Ic C F 76 [(.list 2 (a0.map E_api_Prefix)), (.fn 77 [] [(.ptr [(.int .u32 a1_c0_0), (.int .i64 a1_c0_1)])])] (.bool z)
def slices_IndexFunc___api_Prefix_api_Prefix__v0_R (a0 : List T_api_Prefix) (a1_c0_0 : Int) (a1_c0_1 : Int) (z : Int) : Prop := Ic C F 133 [(.list 2 (a0.map E_api_Prefix)), (.fn 77 [] [(.ptr [(.int .u32 a1_c0_0), (.int .i64 a1_c0_1)])])] (.int .i64 z)
def lint_Covered_1_v0_R (a0_0 : Int) (a0_1 : Int) (a1_0 : Int) (a1_1 : Int) (z : Bool) : Prop := Ic C F 77 [(.agg [(.int .u32 a0_0), (.int .i64 a0_1)]), (.ptr [(.int .u32 a1_0), (.int .i64 a1_1)])] (.bool z)
def slices_DeleteFunc___api_Prefix_api_Prefix__L1_R (xs : List T_api_Prefix) (e2_0_0 : Int) (e2_0_1 : Int) (ys : List T_api_Prefix) : Prop := ∀ (cb : Nat → Blk) (ver ver2 n : Nat), n = xs.length → ∃ l : List Blk, Sc C F 79 [(.sref 15 ver 2 0 n), (.fn 81 [] [(.pref 2 ver2 0 0)])] [(cb 0), (cb 1), ⟨ver2, false, .rows 2 [(.agg [(.int .u32 e2_0_0), (.int .i64 e2_0_1)])]⟩, (cb 3), (cb 4), (cb 5), (cb 6), (cb 7), (cb 8), (cb 9), (cb 10), (cb 11), (cb 12), (cb 13), (cb 14), ⟨ver, false, .rows 2 (xs.map E_api_Prefix)⟩, (cb 16), (cb 17), (cb 18), (cb 19), (cb 20), (cb 21), (cb 22), (cb 23), (cb 24), (cb 25), (cb 26), (cb 27), (cb 28), (cb 29), (cb 30), (cb 31), (cb 32), (cb 33), (cb 34), (cb 35), (cb 36), (cb 37), (cb 38), (cb 39), (cb 40), (cb 41), (cb 42), (cb 43), (cb 44), (cb 45), (cb 46), (cb 47), (cb 48), (cb 49), (cb 50)] (.sref 15 ver 2 0 ys.length) ([(cb 0), (cb 1), ⟨ver2, false, .rows 2 [(.agg [(.int .u32 e2_0_0), (.int .i64 e2_0_1)])]⟩, (cb 3), (cb 4), (cb 5), (cb 6), (cb 7), (cb 8), (cb 9), (cb 10), (cb 11), (cb 12), (cb 13), (cb 14), ⟨ver, false, .rows 2 (ys.map E_api_Prefix)⟩, (cb 16), (cb 17), (cb 18), (cb 19), (cb 20), (cb 21), (cb 22), (cb 23), (cb 24), (cb 25), (cb 26), (cb 27), (cb 28), (cb 29), (cb 30), (cb 31), (cb 32), (cb 33), (cb 34), (cb 35), (cb 36), (cb 37), (cb 38), (cb 39), (cb 40), (cb 41), (cb 42), (cb 43), (cb 44), (cb 45), (cb 46), (cb 47), (cb 48), (cb 49), (cb 50)] ++ l)
def slices_IndexFunc___api_Prefix_api_Prefix__v1_R (a0 : List T_api_Prefix) (a1_c0_0 : Int) (a1_c0_1 : Int) (z : Int) : Prop := Ic C F 133 [(.list 2 (a0.map E_api_Prefix)), (.fn 81 [] [(.ptr [(.int .u32 a1_c0_0), (.int .i64 a1_c0_1)])])] (.int .i64 z)
def lint_Covered_2_v0_R (a0_0 : Int) (a0_1 : Int) (a1_0 : Int) (a1_1 : Int) (z : Bool) : Prop := Ic C F 81 [(.agg [(.int .u32 a0_0), (.int .i64 a0_1)]), (.ptr [(.int .u32 a1_0), (.int .i64 a1_1)])] (.bool z)
theorem slices_Clone___api_Prefix_api_Prefix__nil {L : List T_api_Prefix} {base : Nat} {t : Tmp} {h : Heap} (hL : L = []) : Ev (fun k => adoptD C (run C F k) base (some t) h 80 [.list 2 (L.map E_api_Prefix)]) (.list 2 (([] : List T_api_Prefix).map E_api_Prefix), h) := by
  subst hL
  exact ⟨30, fun k hk => by
    obtain ⟨n, rfl⟩ := Nat.exists_eq_add_of_le' hk
    kernel_rfl⟩
theorem slices_Clone___api_Prefix_api_Prefix__ad {L : List T_api_Prefix} (hL : ¬ L = []) (hb : (L.length + 192) * (16 + 1) ≤ 70368744177664) : Ad C F 80 [.list 2 (L.map E_api_Prefix)] 2 (L.map E_api_Prefix) L.length := by
  have h0 : L.length ≠ 0 := fun e => hL (List.length_eq_zero_iff.1 e)
  refine W.ad (zs := [.list 2 (L.map E_api_Prefix)]) Tryz.func80 (by kernel_rfl) (by kernel_rfl) (by kernel_rfl) ?_ (by kernel_rfl) h0 ?_ ?_
  · cases L with | nil => exact absurd rfl hL | cons x L => rfl
  · rw [List.all_eq_true]
    intro d hd
    obtain ⟨x, _, rfl⟩ := List.mem_map.1 hd
    exact E_api_Prefix_t x
  · skip
    refine W.adv 9 ?_
    refine W.opS (OpIs.nqE (enc := E_api_Prefix) (n := 2) (e := 60) (L := L) (by kernel_rfl) hL) ?_
    refine W.adv 9 ?_
    refine W.opH (OpIs.apENil (enc := E_api_Prefix) (y := (.list 2 (L.map E_api_Prefix))) (B := none) (n := 16) (d := 7) (v := 0) (m := 2) (ys := L) (by kernel_rfl) (by kernel_rfl) rfl hb) ?_
    refine W.adv 4 ?_
    exact W.fin (x := .ret) (by kernel_rfl) ⟨7, 0, by kernel_rfl, by kernel_rfl⟩
end Go.Proofs.YtjcdkemnflmfiaaGreatA
