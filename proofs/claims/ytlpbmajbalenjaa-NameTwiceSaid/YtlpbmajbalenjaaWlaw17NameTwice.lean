/- Walks through the functions: what makes each relation true. -/
import Derived.Test.YtlpbmajbalenjaaW0
set_option linter.unusedVariables false
set_option maxRecDepth 100000
namespace Go.Proofs.YtlpbmajbalenjaaA
open Go Go.Proofs
/-! ### trivium/triviumlaw17.NameTwice -/
theorem law17_NameTwice_go {a0 : List T_string} {z : Bool} (H : (0 ≤ (mn (a0.length : Int) 20) ∧ ((mn (a0.length : Int) 20) ≤ (a0.length : Int) ∧ (((a0.take (mn (a0.length : Int) 20).toNat).length + 192) * (16 + 1) ≤ 70368744177664 ∧ (∃ y3 : List T_string, y3 = (a0.take (mn (a0.length : Int) 20).toNat) ∧ ((y3.length + 192) * (16 + 1) ≤ 70368744177664 ∧ (∃ y7 : List T_string, y7 = y3 ∧ (∃ c11t0 : ByteArray, (∃ c11t1 : Bool, (name_Twice_R y7 c11t0 c11t1 ∧ (∃ c13t0 : ByteArray, (∃ c13t1 : Bool, (ref17_Twice_R y3 c13t0 c13t1 ∧ ((c11t0 = c13t0 ∧ ((c11t1 = true ∧ ((c13t1 = true ∧ (∃ c18 : List T_string, (name_Keywords_R c18 ∧ (∃ c20 : List T_string, (ref17_Keywords_R c20 ∧ (∃ c22 : Bool, (triviumbase_SameTexts_R c18 c20 c22 ∧ ((c22 = true ∧ (∃ c25 : Bool, (law17_works_R c25 ∧ (z = c25)))) ∨ (¬ c22 = true ∧ (z = false)))))))))) ∨ (¬ c13t1 = true ∧ (z = false)))) ∨ (¬ c11t1 = true ∧ ((c13t1 = true ∧ (z = false)) ∨ (¬ c13t1 = true ∧ (∃ c28 : List T_string, (name_Keywords_R c28 ∧ (∃ c30 : List T_string, (ref17_Keywords_R c30 ∧ (∃ c32 : Bool, (triviumbase_SameTexts_R c28 c30 c32 ∧ ((c32 = true ∧ (∃ c35 : Bool, (law17_works_R c35 ∧ (z = c35)))) ∨ (¬ c32 = true ∧ (z = false)))))))))))))) ∨ (¬ c11t0 = c13t0 ∧ (z = false)))))))))))))))) : law17_NameTwice_R a0 z := by
  refine W.lawIs (zs := [(.list 1 (a0.map E_string))]) Try.func3 (by kernel_rfl) (by kernel_rfl) (by kernel_rfl) ?_
  refine W.adv 10 ?_
  refine W.opS (OpIs.ln (n := (a0.map E_string).length) (m := a0.length) (by kernel_rfl) (by rw [List.length_map])) ?_
  refine W.adv 1 ?_
  obtain ⟨h1, h2, H⟩ := H
  refine W.opS (OpIs.slE_hi (enc := E_string) (n := 1) (k' := .i64) (L := a0) (i := (mn (a0.length : Int) 20)) (by kernel_rfl) h1 h2) ?_
  obtain ⟨h6, H⟩ := H
  obtain ⟨y3, hy4, H⟩ := H
  have ln5 : (a0.take (mn (a0.length : Int) 20).toNat).length = y3.length := by rw [hy4] <;> rfl
  refine W.opH (OpIs.apENil (enc := E_string) (y := (.list 1 ((a0.take (mn (a0.length : Int) 20).toNat).map E_string))) (B := none) (n := 16) (d := 13) (v := 0) (m := 1) (ys := (a0.take (mn (a0.length : Int) 20).toNat)) (by kernel_rfl) (by kernel_rfl) hy4 h6) ?_
  refine W.adv 7 ?_
  obtain ⟨h10, H⟩ := H
  obtain ⟨y7, hy8, H⟩ := H
  have ln9 : y3.length = y7.length := by rw [hy8] <;> rfl
  refine W.opH (OpIs.apENil (enc := E_string) (y := (.sref 13 1 1 0 (a0.take (mn (a0.length : Int) 20).toNat).length)) (B := none) (n := 16) (d := 17) (v := 0) (m := 1) (ys := y3) (by kernel_rfl) (src_rowE (enc := E_string) E_string_t (b := 13) (v := 1) (w := 1) (fz := false) (xs := y3) (by kernel_rfl) rfl ln5) hy8 h10) ?_
  obtain ⟨c11t0, c11t1, hc12, H⟩ := H
  refine W.callR (g := 7) (ds := [(.sref 17 1 1 0 y3.length)]) (es := [(.list 1 (y7.map E_string))]) (r := (.tuple [(.str c11t0), (.bool c11t1)])) (by kernel_rfl) (rf_cons (rf_fullE (enc := E_string) E_string_t (b := 17) (v := 1) (w := 1) (fz := false) (xs := y7) (by kernel_rfl) rfl ln9) rf_nil) (Ic.args hc12 (by kernel_rfl)) (by kernel_rfl) ?_
  refine W.adv 10 ?_
  obtain ⟨c13t0, c13t1, hc14, H⟩ := H
  refine W.callR (g := 8) (ds := [(.sref 13 1 1 0 (a0.take (mn (a0.length : Int) 20).toNat).length)]) (es := [(.list 1 (y3.map E_string))]) (r := (.tuple [(.str c13t0), (.bool c13t1)])) (by kernel_rfl) (rf_cons (rf_fullE (enc := E_string) E_string_t (b := 13) (v := 1) (w := 1) (fz := false) (xs := y3) (by kernel_rfl) rfl ln5) rf_nil) (Ic.args hc14 (by kernel_rfl)) (by kernel_rfl) ?_
  refine W.adv 13 ?_
  rcases H with ⟨h15, H⟩ | ⟨h15, H⟩
  · refine W.guard true (w := ((decide (c11t0 = c13t0)) == true)) (by kernel_rfl) (congrArg (fun b => b == true) (decide_eq_true h15)) ?_
    refine W.adv 1 ?_
    refine W.guard true (w := ((decide (c11t0 = c13t0)) == true)) (by kernel_rfl) (congrArg (fun b => b == true) (decide_eq_true h15)) ?_
    refine W.adv 1 ?_
    refine W.guard true (w := ((decide (c11t0 = c13t0)) == true)) (by kernel_rfl) (congrArg (fun b => b == true) (decide_eq_true h15)) ?_
    refine W.adv 1 ?_
    refine W.opS (OpIs.pk true (t := (decide (c11t0 = c13t0))) (x := (.bool (c11t1 == c13t1))) (y := (.bool false)) (by kernel_rfl) (decide_eq_true h15)) ?_
    refine W.adv 1 ?_
    rcases H with ⟨h16, H⟩ | ⟨h16, H⟩
    · rcases H with ⟨h17, H⟩ | ⟨h17, H⟩
      · refine W.guard true (w := ((c11t1 == c13t1) == true)) (by kernel_rfl) (congrArg (fun b => b == true) (congr (congrArg (fun x y => x == y) h16) h17)) ?_
        obtain ⟨c18, hc19, H⟩ := H
        refine W.callR (g := 10) (ds := []) (es := []) (r := (.list 1 (c18.map E_string))) (by kernel_rfl) (by kernel_rfl) (Ic.args hc19 (by kernel_rfl)) (by kernel_rfl) ?_
        refine W.guard true (w := ((c11t1 == c13t1) == true)) (by kernel_rfl) (congrArg (fun b => b == true) (congr (congrArg (fun x y => x == y) h16) h17)) ?_
        obtain ⟨c20, hc21, H⟩ := H
        refine W.callR (g := 11) (ds := []) (es := []) (r := (.list 1 (c20.map E_string))) (by kernel_rfl) (by kernel_rfl) (Ic.args hc21 (by kernel_rfl)) (by kernel_rfl) ?_
        refine W.guard true (w := ((c11t1 == c13t1) == true)) (by kernel_rfl) (congrArg (fun b => b == true) (congr (congrArg (fun x y => x == y) h16) h17)) ?_
        obtain ⟨c22, hc23, H⟩ := H
        refine W.callR (g := 9) (ds := [(.list 1 (c18.map E_string)), (.list 1 (c20.map E_string))]) (es := [(.list 1 (c18.map E_string)), (.list 1 (c20.map E_string))]) (r := (.bool c22)) (by kernel_rfl) (by kernel_rfl) (Ic.args hc23 (by kernel_rfl)) (by kernel_rfl) ?_
        refine W.opS (OpIs.pk true (t := (c11t1 == c13t1)) (x := (.bool c22)) (y := (.bool false)) (by kernel_rfl) (congr (congrArg (fun x y => x == y) h16) h17)) ?_
        refine W.adv 1 ?_
        rcases H with ⟨h24, H⟩ | ⟨h24, H⟩
        · refine W.guard true (w := (c22 == true)) (by kernel_rfl) (congrArg (fun b => b == true) h24) ?_
          obtain ⟨c25, hc26, H⟩ := H
          refine W.callR (g := 12) (ds := []) (es := []) (r := (.bool c25)) (by kernel_rfl) (by kernel_rfl) (Ic.args hc26 (by kernel_rfl)) (by kernel_rfl) ?_
          refine W.opS (OpIs.pk true (t := c22) (x := (.bool c25)) (y := (.bool false)) (by kernel_rfl) h24) ?_
          refine W.adv 4 ?_
          exact W.fin (x := .ret) (by kernel_rfl) (LAns.of (d := (.bool c25)) (by kernel_rfl) (by rw [H]))
        · refine W.guard false (w := (c22 == true)) (by kernel_rfl) (congrArg (fun b => b == true) (bfalse h24)) ?_
          refine W.opS (OpIs.pk false (t := c22) (x := (.tuple [])) (y := (.bool false)) (by kernel_rfl) (bfalse h24)) ?_
          refine W.adv 4 ?_
          exact W.fin (x := .ret) (by kernel_rfl) (LAns.of (d := (.bool false)) (by kernel_rfl) (by rw [H]))
      · refine W.guard false (w := ((c11t1 == c13t1) == true)) (by kernel_rfl) (congrArg (fun b => b == true) (congr (congrArg (fun x y => x == y) h16) (bfalse h17))) ?_
        refine W.guard false (w := ((c11t1 == c13t1) == true)) (by kernel_rfl) (congrArg (fun b => b == true) (congr (congrArg (fun x y => x == y) h16) (bfalse h17))) ?_
        refine W.guard false (w := ((c11t1 == c13t1) == true)) (by kernel_rfl) (congrArg (fun b => b == true) (congr (congrArg (fun x y => x == y) h16) (bfalse h17))) ?_
        refine W.opS (OpIs.pk false (t := (c11t1 == c13t1)) (x := (.tuple [])) (y := (.bool false)) (by kernel_rfl) (congr (congrArg (fun x y => x == y) h16) (bfalse h17))) ?_
        refine W.adv 7 ?_
        exact W.fin (x := .ret) (by kernel_rfl) (LAns.of (d := (.bool false)) (by kernel_rfl) (by rw [H]))
    · rcases H with ⟨h27, H⟩ | ⟨h27, H⟩
      · refine W.guard false (w := ((c11t1 == c13t1) == true)) (by kernel_rfl) (congrArg (fun b => b == true) (congr (congrArg (fun x y => x == y) (bfalse h16)) h27)) ?_
        refine W.guard false (w := ((c11t1 == c13t1) == true)) (by kernel_rfl) (congrArg (fun b => b == true) (congr (congrArg (fun x y => x == y) (bfalse h16)) h27)) ?_
        refine W.guard false (w := ((c11t1 == c13t1) == true)) (by kernel_rfl) (congrArg (fun b => b == true) (congr (congrArg (fun x y => x == y) (bfalse h16)) h27)) ?_
        refine W.opS (OpIs.pk false (t := (c11t1 == c13t1)) (x := (.tuple [])) (y := (.bool false)) (by kernel_rfl) (congr (congrArg (fun x y => x == y) (bfalse h16)) h27)) ?_
        refine W.adv 7 ?_
        exact W.fin (x := .ret) (by kernel_rfl) (LAns.of (d := (.bool false)) (by kernel_rfl) (by rw [H]))
      · refine W.guard true (w := ((c11t1 == c13t1) == true)) (by kernel_rfl) (congrArg (fun b => b == true) (congr (congrArg (fun x y => x == y) (bfalse h16)) (bfalse h27))) ?_
        obtain ⟨c28, hc29, H⟩ := H
        refine W.callR (g := 10) (ds := []) (es := []) (r := (.list 1 (c28.map E_string))) (by kernel_rfl) (by kernel_rfl) (Ic.args hc29 (by kernel_rfl)) (by kernel_rfl) ?_
        refine W.guard true (w := ((c11t1 == c13t1) == true)) (by kernel_rfl) (congrArg (fun b => b == true) (congr (congrArg (fun x y => x == y) (bfalse h16)) (bfalse h27))) ?_
        obtain ⟨c30, hc31, H⟩ := H
        refine W.callR (g := 11) (ds := []) (es := []) (r := (.list 1 (c30.map E_string))) (by kernel_rfl) (by kernel_rfl) (Ic.args hc31 (by kernel_rfl)) (by kernel_rfl) ?_
        refine W.guard true (w := ((c11t1 == c13t1) == true)) (by kernel_rfl) (congrArg (fun b => b == true) (congr (congrArg (fun x y => x == y) (bfalse h16)) (bfalse h27))) ?_
        obtain ⟨c32, hc33, H⟩ := H
        refine W.callR (g := 9) (ds := [(.list 1 (c28.map E_string)), (.list 1 (c30.map E_string))]) (es := [(.list 1 (c28.map E_string)), (.list 1 (c30.map E_string))]) (r := (.bool c32)) (by kernel_rfl) (by kernel_rfl) (Ic.args hc33 (by kernel_rfl)) (by kernel_rfl) ?_
        refine W.opS (OpIs.pk true (t := (c11t1 == c13t1)) (x := (.bool c32)) (y := (.bool false)) (by kernel_rfl) (congr (congrArg (fun x y => x == y) (bfalse h16)) (bfalse h27))) ?_
        refine W.adv 1 ?_
        rcases H with ⟨h34, H⟩ | ⟨h34, H⟩
        · refine W.guard true (w := (c32 == true)) (by kernel_rfl) (congrArg (fun b => b == true) h34) ?_
          obtain ⟨c35, hc36, H⟩ := H
          refine W.callR (g := 12) (ds := []) (es := []) (r := (.bool c35)) (by kernel_rfl) (by kernel_rfl) (Ic.args hc36 (by kernel_rfl)) (by kernel_rfl) ?_
          refine W.opS (OpIs.pk true (t := c32) (x := (.bool c35)) (y := (.bool false)) (by kernel_rfl) h34) ?_
          refine W.adv 4 ?_
          exact W.fin (x := .ret) (by kernel_rfl) (LAns.of (d := (.bool c35)) (by kernel_rfl) (by rw [H]))
        · refine W.guard false (w := (c32 == true)) (by kernel_rfl) (congrArg (fun b => b == true) (bfalse h34)) ?_
          refine W.opS (OpIs.pk false (t := c32) (x := (.tuple [])) (y := (.bool false)) (by kernel_rfl) (bfalse h34)) ?_
          refine W.adv 4 ?_
          exact W.fin (x := .ret) (by kernel_rfl) (LAns.of (d := (.bool false)) (by kernel_rfl) (by rw [H]))
  · refine W.guard false (w := ((decide (c11t0 = c13t0)) == true)) (by kernel_rfl) (congrArg (fun b => b == true) (decide_eq_false h15)) ?_
    refine W.guard false (w := ((decide (c11t0 = c13t0)) == true)) (by kernel_rfl) (congrArg (fun b => b == true) (decide_eq_false h15)) ?_
    refine W.guard false (w := ((decide (c11t0 = c13t0)) == true)) (by kernel_rfl) (congrArg (fun b => b == true) (decide_eq_false h15)) ?_
    refine W.opS (OpIs.pk false (t := (decide (c11t0 = c13t0))) (x := (.tuple [])) (y := (.bool false)) (by kernel_rfl) (decide_eq_false h15)) ?_
    refine W.adv 12 ?_
    exact W.fin (x := .ret) (by kernel_rfl) (LAns.of (d := (.bool false)) (by kernel_rfl) (by rw [H]))
end Go.Proofs.YtlpbmajbalenjaaA
