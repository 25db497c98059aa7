/- Walks through the functions: what makes each relation true. -/
import Derived.Test.YtlpbmajbalenjaaW0
set_option linter.unusedVariables false
set_option maxRecDepth 100000
namespace Go.Proofs.YtlpbmajbalenjaaA
open Go Go.Proofs
/-! ### trivium/name.Twice -/
noncomputable def name_Twice_l0_s (x8 : List T_string) (x9 : Int) (x10 : Int) (r7 : List (T_string × T_bool)) (j : Nat → D) (jb : Nat → Blk) (vs : Nat → Nat) : Cf := cfAt Try.f7 [1, 1, 0, 1, 0] ⟨[(j 0), (j 1), (j 2), (j 3), (.mref 7 1), (j 5), (j 6), (j 7), (.list 1 (x8.map E_string)), (.int .i64 x9), (.int .i64 x10), (j 11), (j 12), (j 13), (j 14), (j 15), (j 16), (j 17), (j 18), (j 19), (j 20)], [(jb 0), (jb 1), (jb 2), (jb 3), (jb 4), (jb 5), (jb 6), ⟨1, false, .map (mrow E_string E_bool r7)⟩, (jb 8), (jb 9), (jb 10), (jb 11), (jb 12), (jb 13), (jb 14), (jb 15), (jb 16), (jb 17), (jb 18), (jb 19), (jb 20)]⟩
def name_Twice_l0 (x8 : List T_string) (x9 : Int) (x10 : Int) (r7 : List (T_string × T_bool)) (zt0 : ByteArray) (zt1 : Bool) : Prop := ∀ j jb vs, W C F 7 0 (name_Twice_l0_s x8 x9 x10 r7  j jb vs) (Ans C Try.f7 (.tuple [(.str zt0), (.bool zt1)]))
theorem name_Twice_l0_go {x8 : List T_string} {x9 : Int} {x10 : Int} {r7 : List (T_string × T_bool)} {zt0 : ByteArray} {zt1 : Bool} (H : ((x10 < x9 ∧ (0 ≤ x10 ∧ (x10 < (x8.length : Int) ∧ ((∃ v4 : T_bool, mget (x8.getD (x10).toNat ByteArray.empty) r7 = some v4 ∧ ((v4 = true ∧ (zt0 = (x8.getD (x10).toNat ByteArray.empty) ∧ zt1 = true)) ∨ (¬ v4 = true ∧ (∃ y7, y7 = mput (x8.getD (x10).toNat ByteArray.empty) true r7 ∧ (name_Twice_l0 x8 x9 (wi (x10 + 1)) y7 zt0 zt1))))) ∨ (mget (x8.getD (x10).toNat ByteArray.empty) r7 = none ∧ (∃ y9, y9 = mput (x8.getD (x10).toNat ByteArray.empty) true r7 ∧ (name_Twice_l0 x8 x9 (wi (x10 + 1)) y9 zt0 zt1))))))) ∨ (¬ x10 < x9 ∧ (zt0 = ⟨#[]⟩ ∧ zt1 = false)))) : name_Twice_l0 x8 x9 x10 r7 zt0 zt1 := by
  intro j jb vs
  refine W.adv 1 ?_
  refine W.adv 6 ?_
  rcases H with ⟨h1, H⟩ | ⟨h1, H⟩
  · refine W.cond true (w := (decide (x10 < x9))) (by kernel_rfl) (decide_eq_true h1) ?_
    refine W.adv 6 ?_
    obtain ⟨h2, h3, H⟩ := H
    refine W.opS (OpIs.ixE (enc := E_string) (n := 1) (k' := .i64) (L := x8) (i := x10) (d0 := ByteArray.empty) (x := (x8.getD (x10).toNat ByteArray.empty)) (by kernel_rfl) h2 h3 rfl) ?_
    refine W.adv 9 ?_
    rcases H with ⟨v4, hm5, H⟩ | ⟨hm5, H⟩
    · refine W.opS (OpIs.lkSome (kd := .string) (z := (.bool false)) (ok := false) (fz := false) (b := 7) (v := 1) (w := 1) (ek := E_string) (ev := E_bool) (k := (x8.getD (x10).toNat ByteArray.empty)) (L := r7) (x := v4) (r := (.bool v4)) (by kernel_rfl) rfl sameD_str hm5 rfl) ?_
      refine W.adv 2 ?_
      rcases H with ⟨h6, H⟩ | ⟨h6, H⟩
      · refine W.cond true (w := v4) (by kernel_rfl) h6 ?_
        refine W.adv 14 ?_
        exact W.fin (x := .ret) (by kernel_rfl) (Ans.of (d := (.tuple [(.str (x8.getD (x10).toNat ByteArray.empty)), (.bool true)])) (d' := (.tuple [(.str (x8.getD (x10).toNat ByteArray.empty)), (.bool true)])) (e' := (.tuple [(.str (x8.getD (x10).toNat ByteArray.empty)), (.bool true)])) (by kernel_rfl) (by kernel_rfl) (by kernel_rfl) (by rw [H.1, H.2]))
      · refine W.cond false (w := v4) (by kernel_rfl) (bfalse h6) ?_
        refine W.adv 5 ?_
        obtain ⟨y7, hy8, H⟩ := H
        refine W.opH (OpIs.mu (kd := .string) (b := 7) (v := 1) (w := 1) (ek := E_string) (ev := E_bool) (k := (x8.getD (x10).toNat ByteArray.empty)) (x := true) (L := r7) (by kernel_rfl) hy8 rfl sameD_str) ?_
        refine W.adv 8 ?_
        exact W.to_loop (P := name_Twice_l0_s x8 x9 (wi (x10 + 1)) y7) (H ) (by kernel_rfl)
    · refine W.opS (OpIs.lkNone (kd := .string) (z := (.bool false)) (ok := false) (fz := false) (b := 7) (v := 1) (w := 1) (ek := E_string) (ev := E_bool) (k := (x8.getD (x10).toNat ByteArray.empty)) (L := r7) (r := (.bool false)) (by kernel_rfl) rfl sameD_str hm5 rfl) ?_
      refine W.adv 8 ?_
      obtain ⟨y9, hy10, H⟩ := H
      refine W.opH (OpIs.mu (kd := .string) (b := 7) (v := 1) (w := 1) (ek := E_string) (ev := E_bool) (k := (x8.getD (x10).toNat ByteArray.empty)) (x := true) (L := r7) (by kernel_rfl) hy10 rfl sameD_str) ?_
      refine W.adv 8 ?_
      exact W.to_loop (P := name_Twice_l0_s x8 x9 (wi (x10 + 1)) y9) (H ) (by kernel_rfl)
  · refine W.cond false (w := (decide (x10 < x9))) (by kernel_rfl) (decide_eq_false h1) ?_
    refine W.adv 12 ?_
    exact W.fin (x := .ret) (by kernel_rfl) (Ans.of (d := (.tuple [(.str ⟨#[]⟩), (.bool false)])) (d' := (.tuple [(.str ⟨#[]⟩), (.bool false)])) (e' := (.tuple [(.str ⟨#[]⟩), (.bool false)])) (by kernel_rfl) (by kernel_rfl) (by kernel_rfl) (by rw [H.1, H.2]))
theorem name_Twice_go {a0 : List T_string} {zt0 : ByteArray} {zt1 : Bool} (H : (name_Twice_l0 a0 (a0.length : Int) 0 ([] : List (T_string × T_bool)) zt0 zt1)) : name_Twice_R a0 zt0 zt1 := by
  refine W.ic (zs := [(.list 1 (a0.map E_string))]) Try.func7 (by kernel_rfl) (by kernel_rfl) (by kernel_rfl) (by kernel_rfl) ?_
  refine W.adv 16 ?_
  refine W.opS (OpIs.ln (n := (a0.map E_string).length) (m := a0.length) (by kernel_rfl) (by rw [List.length_map])) ?_
  refine W.adv 4 ?_
  exact W.to_loop (P := name_Twice_l0_s a0 (a0.length : Int) 0 ([] : List (T_string × T_bool))) (H ) (by kernel_rfl)
end Go.Proofs.YtlpbmajbalenjaaA
