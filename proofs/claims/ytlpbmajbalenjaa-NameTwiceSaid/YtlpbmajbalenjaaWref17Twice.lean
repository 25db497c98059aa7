/- Walks through the functions: what makes each relation true. -/
import Derived.Test.YtlpbmajbalenjaaW0
set_option linter.unusedVariables false
set_option maxRecDepth 100000
namespace Go.Proofs.YtlpbmajbalenjaaA
open Go Go.Proofs
/-! ### trivium/triviumref17.Twice -/
noncomputable def ref17_Twice_l0_s (x0 : List T_string) (x4 : Int) (j : Nat → D) (jb : Nat → Blk) (vs : Nat → Nat) : Cf := cfAt Try.f8 [1, 0, 1, 0] ⟨[(.list 1 (x0.map E_string)), (j 1), (j 2), (j 3), (.int .i64 x4), (j 5), (j 6), (j 7), (j 8), (j 9), (j 10), (j 11), (j 12), (j 13), (j 14), (j 15), (j 16), (j 17), (j 18), (j 19), (j 20), (j 21), (j 22), (j 23), (j 24), (j 25), (j 26), (j 27), (j 28), (j 29)], [(jb 0), (jb 1), (jb 2), (jb 3), (jb 4), (jb 5), (jb 6), (jb 7), (jb 8), (jb 9), (jb 10), (jb 11), (jb 12), (jb 13), (jb 14), (jb 15), (jb 16), (jb 17), (jb 18), (jb 19), (jb 20), (jb 21), (jb 22), (jb 23), (jb 24), (jb 25), (jb 26), (jb 27), (jb 28), (jb 29)]⟩
def ref17_Twice_l0 (x0 : List T_string) (x4 : Int) (zt0 : ByteArray) (zt1 : Bool) : Prop := ∀ j jb vs, W C F 8 0 (ref17_Twice_l0_s x0 x4  j jb vs) (Ans C Try.f8 (.tuple [(.str zt0), (.bool zt1)]))
noncomputable def ref17_Twice_l1_s (x0 : List T_string) (x4 : Int) (x5 : Int) (j : Nat → D) (jb : Nat → Blk) (vs : Nat → Nat) : Cf := cfAt Try.f8 [1, 0, 1, 0, 0, 1, 0, 0, 1, 0] ⟨[(.list 1 (x0.map E_string)), (j 1), (j 2), (j 3), (.int .i64 x4), (.int .i64 x5), (j 6), (j 7), (j 8), (j 9), (j 10), (j 11), (j 12), (j 13), (j 14), (j 15), (j 16), (j 17), (j 18), (j 19), (j 20), (j 21), (j 22), (j 23), (j 24), (j 25), (j 26), (j 27), (j 28), (j 29)], [(jb 0), (jb 1), (jb 2), (jb 3), (jb 4), (jb 5), (jb 6), (jb 7), (jb 8), (jb 9), (jb 10), (jb 11), (jb 12), (jb 13), (jb 14), (jb 15), (jb 16), (jb 17), (jb 18), (jb 19), (jb 20), (jb 21), (jb 22), (jb 23), (jb 24), (jb 25), (jb 26), (jb 27), (jb 28), (jb 29)]⟩
def ref17_Twice_l1 (x0 : List T_string) (x4 : Int) (x5 : Int) (zt0 : ByteArray) (zt1 : Bool) : Prop := ∀ j jb vs, W C F 8 0 (ref17_Twice_l1_s x0 x4 x5  j jb vs) (Ans C Try.f8 (.tuple [(.str zt0), (.bool zt1)]))
theorem ref17_Twice_l0_go {x0 : List T_string} {x4 : Int} {zt0 : ByteArray} {zt1 : Bool} (H : ((x4 < (x0.length : Int) ∧ (ref17_Twice_l1 x0 x4 0 zt0 zt1)) ∨ (¬ x4 < (x0.length : Int) ∧ (zt0 = ⟨#[]⟩ ∧ zt1 = false)))) : ref17_Twice_l0 x0 x4 zt0 zt1 := by
  intro j jb vs
  refine W.adv 1 ?_
  refine W.adv 5 ?_
  refine W.opS (OpIs.ln (n := (x0.map E_string).length) (m := x0.length) (by kernel_rfl) (by rw [List.length_map])) ?_
  refine W.adv 3 ?_
  rcases H with ⟨h1, H⟩ | ⟨h1, H⟩
  · refine W.cond true (w := (decide (x4 < (x0.length : Int)))) (by kernel_rfl) (decide_eq_true h1) ?_
    refine W.adv 10 ?_
    exact W.to_loop (P := ref17_Twice_l1_s x0 x4 0) (H ) (by kernel_rfl)
  · refine W.cond false (w := (decide (x4 < (x0.length : Int)))) (by kernel_rfl) (decide_eq_false h1) ?_
    refine W.adv 12 ?_
    exact W.fin (x := .ret) (by kernel_rfl) (Ans.of (d := (.tuple [(.str ⟨#[]⟩), (.bool false)])) (d' := (.tuple [(.str ⟨#[]⟩), (.bool false)])) (e' := (.tuple [(.str ⟨#[]⟩), (.bool false)])) (by kernel_rfl) (by kernel_rfl) (by kernel_rfl) (by rw [H.1, H.2]))
theorem ref17_Twice_l1_go {x0 : List T_string} {x4 : Int} {x5 : Int} {zt0 : ByteArray} {zt1 : Bool} (H : ((x5 < x4 ∧ (0 ≤ x5 ∧ (x5 < (x0.length : Int) ∧ (0 ≤ x4 ∧ (x4 < (x0.length : Int) ∧ (((x0.getD (x5).toNat ByteArray.empty) = (x0.getD (x4).toNat ByteArray.empty) ∧ (zt0 = (x0.getD (x4).toNat ByteArray.empty) ∧ zt1 = true)) ∨ (¬ (x0.getD (x5).toNat ByteArray.empty) = (x0.getD (x4).toNat ByteArray.empty) ∧ (ref17_Twice_l1 x0 x4 (wi (x5 + 1)) zt0 zt1)))))))) ∨ (¬ x5 < x4 ∧ (ref17_Twice_l0 x0 (wi (x4 + 1)) zt0 zt1)))) : ref17_Twice_l1 x0 x4 x5 zt0 zt1 := by
  intro j jb vs
  refine W.adv 1 ?_
  refine W.adv 8 ?_
  rcases H with ⟨h2, H⟩ | ⟨h2, H⟩
  · refine W.cond true (w := (decide (x5 < x4))) (by kernel_rfl) (decide_eq_true h2) ?_
    refine W.adv 8 ?_
    obtain ⟨h3, h4, H⟩ := H
    refine W.opS (OpIs.ixE (enc := E_string) (n := 1) (k' := .i64) (L := x0) (i := x5) (d0 := ByteArray.empty) (x := (x0.getD (x5).toNat ByteArray.empty)) (by kernel_rfl) h3 h4 rfl) ?_
    refine W.adv 3 ?_
    obtain ⟨h5, h6, H⟩ := H
    refine W.opS (OpIs.ixE (enc := E_string) (n := 1) (k' := .i64) (L := x0) (i := x4) (d0 := ByteArray.empty) (x := (x0.getD (x4).toNat ByteArray.empty)) (by kernel_rfl) h5 h6 rfl) ?_
    refine W.adv 4 ?_
    rcases H with ⟨h7, H⟩ | ⟨h7, H⟩
    · refine W.cond true (w := (decide ((x0.getD (x5).toNat ByteArray.empty) = (x0.getD (x4).toNat ByteArray.empty)))) (by kernel_rfl) (decide_eq_true h7) ?_
      refine W.adv 4 ?_
      refine W.opS (OpIs.ixE (enc := E_string) (n := 1) (k' := .i64) (L := x0) (i := x4) (d0 := ByteArray.empty) (x := (x0.getD (x4).toNat ByteArray.empty)) (by kernel_rfl) h5 h6 rfl) ?_
      refine W.adv 15 ?_
      exact W.fin (x := .ret) (by kernel_rfl) (Ans.of (d := (.tuple [(.str (x0.getD (x4).toNat ByteArray.empty)), (.bool true)])) (d' := (.tuple [(.str (x0.getD (x4).toNat ByteArray.empty)), (.bool true)])) (e' := (.tuple [(.str (x0.getD (x4).toNat ByteArray.empty)), (.bool true)])) (by kernel_rfl) (by kernel_rfl) (by kernel_rfl) (by rw [H.1, H.2]))
    · refine W.cond false (w := (decide ((x0.getD (x5).toNat ByteArray.empty) = (x0.getD (x4).toNat ByteArray.empty)))) (by kernel_rfl) (decide_eq_false h7) ?_
      refine W.adv 9 ?_
      exact W.to_loop (P := ref17_Twice_l1_s x0 x4 (wi (x5 + 1))) (H ) (by kernel_rfl)
  · refine W.cond false (w := (decide (x5 < x4))) (by kernel_rfl) (decide_eq_false h2) ?_
    refine W.adv 12 ?_
    exact W.to_loop (P := ref17_Twice_l0_s x0 (wi (x4 + 1))) (H ) (by kernel_rfl)
theorem ref17_Twice_go {a0 : List T_string} {zt0 : ByteArray} {zt1 : Bool} (H : (ref17_Twice_l0 a0 0 zt0 zt1)) : ref17_Twice_R a0 zt0 zt1 := by
  refine W.ic (zs := [(.list 1 (a0.map E_string))]) Try.func8 (by kernel_rfl) (by kernel_rfl) (by kernel_rfl) (by kernel_rfl) ?_
  refine W.adv 13 ?_
  exact W.to_loop (P := ref17_Twice_l0_s a0 0) (H ) (by kernel_rfl)
end Go.Proofs.YtlpbmajbalenjaaA
