/- Walks through the functions: what makes each relation true. -/
import Derived.Test.YtjcdkemnflmfiaaGreatW0
set_option linter.unusedVariables false
set_option maxRecDepth 100000
namespace Go.Proofs.YtjcdkemnflmfiaaGreatA
open Go Go.Proofs
noncomputable def gcd_Euclid_l0_s (x5 : List Int) (x7 : List Int) (j : Nat → D) (jb : Nat → Blk) (vs : Nat → Nat) : Cf := cfAt Tryz.f178 [1, 1, 1, 0, 0] ⟨[j 0, j 1, j 2, j 3, j 4, .ints .u64 x5, j 6, .ints .u64 x7, j 8, j 9, j 10, j 11, j 12, j 13, j 14, j 15, j 16, j 17, j 18, j 19, j 20, j 21, j 22, j 23, j 24, j 25, j 26, j 27, j 28, j 29, j 30, j 31, j 32], [jb 0, jb 1, jb 2, jb 3, jb 4, jb 5, jb 6, jb 7, jb 8, jb 9, jb 10, jb 11, jb 12, jb 13, jb 14, jb 15, jb 16, jb 17, jb 18, jb 19, jb 20, jb 21, jb 22, jb 23, jb 24, jb 25, jb 26, jb 27, jb 28, jb 29, jb 30, jb 31, jb 32]⟩
def gcd_Euclid_l0 (x5 : List Int) (x7 : List Int) (z : List Int) : Prop := ∀ j jb vs, W C F 178 0 (gcd_Euclid_l0_s x5 x7  j jb vs) (Ans C Tryz.f178 (.ints .u64 z))
theorem gcd_Euclid_l0_go {x5 : List Int} {x7 : List Int} {z : List Int} (H : ((0 < (x7.length : Int) ∧ (∃ c6t0 : List Int, (∃ c6t1 : Int, (divide_Mod_R x5 x7 c6t0 c6t1 ∧ (gcd_Euclid_l0 x7 c6t0 z))))) ∨ (¬ 0 < (x7.length : Int) ∧ (z = x5)))) : gcd_Euclid_l0 x5 x7 z := by
 intro j jb vs
 refine W.adv 1 ?_
 refine W.adv 8 ?_
 rcases H with ⟨h5, H⟩ | ⟨h5, H⟩
 ·refine W.cond true (w := (decide (0 < (x7.length : Int)))) (by kernel_rfl) (decide_eq_true h5) ?_
  refine W.adv 7 ?_
  obtain ⟨c6t0, c6t1, hc7, H⟩ := H
  refine W.callR (g := 199) (ds := [.ints .u64 x5, .ints .u64 x7]) (es := [.ints .u64 x5, .ints .u64 x7]) (r := (.tuple [.ints .u64 c6t0, .int .i64 c6t1])) (by kernel_rfl) (by kernel_rfl) (Ic.args hc7 (by kernel_rfl)) (by kernel_rfl) ?_
  refine W.adv 15 ?_
  exact W.to_loop (P := gcd_Euclid_l0_s x7 c6t0) (H ) (by kernel_rfl)
 ·refine W.cond false (w := (decide (0 < (x7.length : Int)))) (by kernel_rfl) (decide_eq_false h5) ?_
  refine W.adv 12 ?_
  exact W.fin (x := .ret) (by kernel_rfl) (Ans.of (d := (.ints .u64 x5)) (d' := (.ints .u64 x5)) (e' := (.ints .u64 x5)) (by kernel_rfl) (by kernel_rfl) (by kernel_rfl) (by rw [H]))
theorem gcd_Euclid_go {a0 : List Int} {a1 : List Int} {z : List Int} (H : (∃ c1t0 : List Int, (∃ c1t1 : Int, (nat_Make_R a0 c1t0 c1t1 ∧ (∃ c3t0 : List Int, (∃ c3t1 : Int, (nat_Make_R a1 c3t0 c3t1 ∧ (gcd_Euclid_l0 c1t0 c3t0 z)))))))) : gcd_Euclid_R a0 a1 z := by
 refine W.ic (zs := [.ints .u64 a0, .ints .u64 a1]) Tryz.func178 (by kernel_rfl) (by kernel_rfl) (by kernel_rfl) (by kernel_rfl) ?_
 refine W.adv 8 ?_
 obtain ⟨c1t0, c1t1, hc2, H⟩ := H
 refine W.callR (g := 180) (ds := [.ints .u64 a0]) (es := [.ints .u64 a0]) (r := (.tuple [.ints .u64 c1t0, .int .i64 c1t1])) (by kernel_rfl) (by kernel_rfl) (Ic.args hc2 (by kernel_rfl)) (by kernel_rfl) ?_
 refine W.adv 10 ?_
 obtain ⟨c3t0, c3t1, hc4, H⟩ := H
 refine W.callR (g := 180) (ds := [.ints .u64 a1]) (es := [.ints .u64 a1]) (r := (.tuple [.ints .u64 c3t0, .int .i64 c3t1])) (by kernel_rfl) (by kernel_rfl) (Ic.args hc4 (by kernel_rfl)) (by kernel_rfl) ?_
 refine W.adv 9 ?_
 exact W.to_loop (P := gcd_Euclid_l0_s c1t0 c3t0) (H ) (by kernel_rfl)
theorem divide_Exact_go {a0 : List Int} {a1 : List Int} {zt0 : List Int} {zt1 : Int} (H : (∃ c1t0 : List Int, (∃ c1t1 : List Int, (∃ c1t2 : Int, (divide_Div_R a0 a1 c1t0 c1t1 c1t2 ∧ ((c1t2 = 0 ∧ ((0 < (c1t1.length : Int) ∧ (zt0 = [] ∧ zt1 = 4)) ∨ (¬ 0 < (c1t1.length : Int) ∧ (zt0 = c1t0 ∧ zt1 = c1t2)))) ∨ (¬ c1t2 = 0 ∧ (zt0 = [] ∧ zt1 = c1t2)))))))) : divide_Exact_R a0 a1 zt0 zt1 := by
 refine W.ic (zs := [.ints .u64 a0, .ints .u64 a1]) Tryz.func179 (by kernel_rfl) (by kernel_rfl) (by kernel_rfl) (by kernel_rfl) ?_
 refine W.adv 10 ?_
 obtain ⟨c1t0, c1t1, c1t2, hc2, H⟩ := H
 refine W.callR (g := 200) (ds := [.ints .u64 a0, .ints .u64 a1]) (es := [.ints .u64 a0, .ints .u64 a1]) (r := (.tuple [.ints .u64 c1t0, .ints .u64 c1t1, .int .i64 c1t2])) (by kernel_rfl) (by kernel_rfl) (Ic.args hc2 (by kernel_rfl)) (by kernel_rfl) ?_
 refine W.adv 18 ?_
 rcases H with ⟨h3, H⟩ | ⟨h3, H⟩
 ·refine W.cond false (w := (!(decide (c1t2 = 0)))) (by kernel_rfl) (congrArg (fun b => !b) (decide_eq_true h3)) ?_
  refine W.adv 8 ?_
  rcases H with ⟨h4, H⟩ | ⟨h4, H⟩
  ·refine W.cond true (w := (decide (0 < (c1t1.length : Int)))) (by kernel_rfl) (decide_eq_true h4) ?_
   refine W.adv 9 ?_
   exact W.fin (x := .ret) (by kernel_rfl) (Ans.of (d := (.tuple [.nilS, .int .i64 4])) (d' := (.tuple [.nilS, .int .i64 4])) (e' := (.tuple [.ints .u64 [], .int .i64 4])) (by kernel_rfl) (by kernel_rfl) (by kernel_rfl) (by rw [H.1, H.2]))
  ·refine W.cond false (w := (decide (0 < (c1t1.length : Int)))) (by kernel_rfl) (decide_eq_false h4) ?_
   refine W.adv 12 ?_
   exact W.fin (x := .ret) (by kernel_rfl) (Ans.of (d := (.tuple [.ints .u64 c1t0, .int .i64 c1t2])) (d' := (.tuple [.ints .u64 c1t0, .int .i64 c1t2])) (e' := (.tuple [.ints .u64 c1t0, .int .i64 c1t2])) (by kernel_rfl) (by kernel_rfl) (by kernel_rfl) (by rw [H.1, H.2]))
 ·refine W.cond true (w := (!(decide (c1t2 = 0)))) (by kernel_rfl) (congrArg (fun b => !b) (decide_eq_false h3)) ?_
  refine W.adv 10 ?_
  exact W.fin (x := .ret) (by kernel_rfl) (Ans.of (d := (.tuple [.nilS, .int .i64 c1t2])) (d' := (.tuple [.nilS, .int .i64 c1t2])) (e' := (.tuple [.ints .u64 [], .int .i64 c1t2])) (by kernel_rfl) (by kernel_rfl) (by kernel_rfl) (by rw [H.1, H.2]))
theorem divide_Mod_go {a0 : List Int} {a1 : List Int} {zt0 : List Int} {zt1 : Int} (H : (∃ c1t0 : List Int, (∃ c1t1 : List Int, (∃ c1t2 : Int, (divide_Div_R a0 a1 c1t0 c1t1 c1t2 ∧ (zt0 = c1t1 ∧ zt1 = c1t2)))))) : divide_Mod_R a0 a1 zt0 zt1 := by
 refine W.ic (zs := [.ints .u64 a0, .ints .u64 a1]) Tryz.func199 (by kernel_rfl) (by kernel_rfl) (by kernel_rfl) (by kernel_rfl) ?_
 refine W.adv 10 ?_
 obtain ⟨c1t0, c1t1, c1t2, hc2, H⟩ := H
 refine W.callR (g := 200) (ds := [.ints .u64 a0, .ints .u64 a1]) (es := [.ints .u64 a0, .ints .u64 a1]) (r := (.tuple [.ints .u64 c1t0, .ints .u64 c1t1, .int .i64 c1t2])) (by kernel_rfl) (by kernel_rfl) (Ic.args hc2 (by kernel_rfl)) (by kernel_rfl) ?_
 refine W.adv 18 ?_
 exact W.fin (x := .ret) (by kernel_rfl) (Ans.of (d := (.tuple [.ints .u64 c1t1, .int .i64 c1t2])) (d' := (.tuple [.ints .u64 c1t1, .int .i64 c1t2])) (e' := (.tuple [.ints .u64 c1t1, .int .i64 c1t2])) (by kernel_rfl) (by kernel_rfl) (by kernel_rfl) (by rw [H.1, H.2]))
theorem divide_Div_go {a0 : List Int} {a1 : List Int} {zt0 : List Int} {zt1 : List Int} {zt2 : Int} (H : (((a1.length : Int) = 0 ∧ (zt0 = [] ∧ zt1 = [] ∧ zt2 = 3)) ∨ (¬ (a1.length : Int) = 0 ∧ (∃ c2 : Bool, (nat_May_R a0 c2 ∧ ((c2 = true ∧ (∃ c5 : Bool, (nat_May_R a1 c5 ∧ ((c5 = true ∧ (∃ c8 : Int, (nat_Cmp_R a0 a1 c8 ∧ ((c8 < 0 ∧ (∃ c11t0 : List Int, (∃ c11t1 : Int, (nat_Make_R a0 c11t0 c11t1 ∧ (zt0 = [] ∧ zt1 = c11t0 ∧ zt2 = c11t1))))) ∨ (¬ c8 < 0 ∧ (((a1.length : Int) = 1 ∧ (0 < (a1.length : Int) ∧ (∃ c15t0 : List Int, (∃ c15t1 : Int, (∃ c15t2 : Int, (divide_Small_R a0 (a1.getD 0 0) c15t0 c15t1 c15t2 ∧ (∃ c17 : List Int, (nat_Of_R c15t1 c17 ∧ (zt0 = c15t0 ∧ zt1 = c17 ∧ zt2 = c15t2))))))))) ∨ (¬ (a1.length : Int) = 1 ∧ (∃ c19t0 : List Int, (∃ c19t1 : List Int, (divide_knuth_R a0 a1 c19t0 c19t1 ∧ (zt0 = c19t0 ∧ zt1 = c19t1 ∧ zt2 = 0))))))))))) ∨ (¬ c5 = true ∧ (zt0 = [] ∧ zt1 = [] ∧ zt2 = 2)))))) ∨ (¬ c2 = true ∧ (zt0 = [] ∧ zt1 = [] ∧ zt2 = 2)))))))) : divide_Div_R a0 a1 zt0 zt1 zt2 := by
 refine W.ic (zs := [.ints .u64 a0, .ints .u64 a1]) Tryz.func200 (by kernel_rfl) (by kernel_rfl) (by kernel_rfl) (by kernel_rfl) ?_
 refine W.adv 17 ?_
 rcases H with ⟨h1, H⟩ | ⟨h1, H⟩
 ·refine W.cond true (w := (decide ((a1.length : Int) = 0))) (by kernel_rfl) (decide_eq_true h1) ?_
  refine W.adv 10 ?_
  exact W.fin (x := .ret) (by kernel_rfl) (Ans.of (d := (.tuple [.nilS, .nilS, .int .i64 3])) (d' := (.tuple [.nilS, .nilS, .int .i64 3])) (e' := (.tuple [.ints .u64 [], .ints .u64 [], .int .i64 3])) (by kernel_rfl) (by kernel_rfl) (by kernel_rfl) (by rw [H.1, H.2.1, H.2.2]))
 ·refine W.cond false (w := (decide ((a1.length : Int) = 0))) (by kernel_rfl) (decide_eq_false h1) ?_
  refine W.adv 3 ?_
  obtain ⟨c2, hc3, H⟩ := H
  refine W.callR (g := 209) (ds := [.ints .u64 a0]) (es := [.ints .u64 a0]) (r := (.bool c2)) (by kernel_rfl) (by kernel_rfl) (Ic.args hc3 (by kernel_rfl)) (by kernel_rfl) ?_
  refine W.adv 2 ?_
  rcases H with ⟨h4, H⟩ | ⟨h4, H⟩
  ·refine W.guard true (w := ((!c2) == false)) (by kernel_rfl) (congrArg (fun b => b == false) (congrArg (fun b => !b) h4)) ?_
   refine W.adv 1 ?_
   refine W.guard true (w := ((!c2) == false)) (by kernel_rfl) (congrArg (fun b => b == false) (congrArg (fun b => !b) h4)) ?_
   obtain ⟨c5, hc6, H⟩ := H
   refine W.callR (g := 209) (ds := [.ints .u64 a1]) (es := [.ints .u64 a1]) (r := (.bool c5)) (by kernel_rfl) (by kernel_rfl) (Ic.args hc6 (by kernel_rfl)) (by kernel_rfl) ?_
   refine W.guard true (w := ((!c2) == false)) (by kernel_rfl) (congrArg (fun b => b == false) (congrArg (fun b => !b) h4)) ?_
   refine W.adv 1 ?_
   refine W.opS (OpIs.pk false (t := (!c2)) (x := (.bool true)) (y := (.bool (!c5))) (by kernel_rfl) (congrArg (fun b => !b) h4)) ?_
   refine W.adv 3 ?_
   rcases H with ⟨h7, H⟩ | ⟨h7, H⟩
   ·refine W.cond false (w := (!c5)) (by kernel_rfl) (congrArg (fun b => !b) h7) ?_
    refine W.adv 4 ?_
    obtain ⟨c8, hc9, H⟩ := H
    refine W.callR (g := 101) (ds := [.ints .u64 a0, .ints .u64 a1]) (es := [.ints .u64 a0, .ints .u64 a1]) (r := (.int .i64 c8)) (by kernel_rfl) (by kernel_rfl) (Ic.args hc9 (by kernel_rfl)) (by kernel_rfl) ?_
    refine W.adv 4 ?_
    rcases H with ⟨h10, H⟩ | ⟨h10, H⟩
    ·refine W.cond true (w := (decide (c8 < 0))) (by kernel_rfl) (decide_eq_true h10) ?_
     refine W.adv 3 ?_
     obtain ⟨c11t0, c11t1, hc12, H⟩ := H
     refine W.callR (g := 180) (ds := [.ints .u64 a0]) (es := [.ints .u64 a0]) (r := (.tuple [.ints .u64 c11t0, .int .i64 c11t1])) (by kernel_rfl) (by kernel_rfl) (Ic.args hc12 (by kernel_rfl)) (by kernel_rfl) ?_
     refine W.adv 19 ?_
     exact W.fin (x := .ret) (by kernel_rfl) (Ans.of (d := (.tuple [.nilS, .ints .u64 c11t0, .int .i64 c11t1])) (d' := (.tuple [.nilS, .ints .u64 c11t0, .int .i64 c11t1])) (e' := (.tuple [.ints .u64 [], .ints .u64 c11t0, .int .i64 c11t1])) (by kernel_rfl) (by kernel_rfl) (by kernel_rfl) (by rw [H.1, H.2.1, H.2.2]))
    ·refine W.cond false (w := (decide (c8 < 0))) (by kernel_rfl) (decide_eq_false h10) ?_
     refine W.adv 8 ?_
     rcases H with ⟨h13, H⟩ | ⟨h13, H⟩
     ·refine W.cond true (w := (decide ((a1.length : Int) = 1))) (by kernel_rfl) (decide_eq_true h13) ?_
      refine W.adv 4 ?_
      obtain ⟨h14, H⟩ := H
      refine W.opS (OpIs.ixI (k := .u64) (k' := .i64) (xs := a1) (i := 0) (by kernel_rfl) (by decide) h14) ?_
      refine W.adv 1 ?_
      obtain ⟨c15t0, c15t1, c15t2, hc16, H⟩ := H
      refine W.callR (g := 212) (ds := [.ints .u64 a0, (.int .u64 (a1.getD 0 0))]) (es := [.ints .u64 a0, (.int .u64 (a1.getD 0 0))]) (r := (.tuple [.ints .u64 c15t0, .int .u64 c15t1, .int .i64 c15t2])) (by kernel_rfl) (by kernel_rfl) (Ic.args hc16 (by kernel_rfl)) (by kernel_rfl) ?_
      refine W.adv 13 ?_
      obtain ⟨c17, hc18, H⟩ := H
      refine W.callR (g := 150) (ds := [.int .u64 c15t1]) (es := [.int .u64 c15t1]) (r := (.ints .u64 c17)) (by kernel_rfl) (by kernel_rfl) (Ic.args hc18 (by kernel_rfl)) (by kernel_rfl) ?_
      refine W.adv 9 ?_
      exact W.fin (x := .ret) (by kernel_rfl) (Ans.of (d := (.tuple [.ints .u64 c15t0, .ints .u64 c17, .int .i64 c15t2])) (d' := (.tuple [.ints .u64 c15t0, .ints .u64 c17, .int .i64 c15t2])) (e' := (.tuple [.ints .u64 c15t0, .ints .u64 c17, .int .i64 c15t2])) (by kernel_rfl) (by kernel_rfl) (by kernel_rfl) (by rw [H.1, H.2.1, H.2.2]))
     ·refine W.cond false (w := (decide ((a1.length : Int) = 1))) (by kernel_rfl) (decide_eq_false h13) ?_
      refine W.adv 7 ?_
      obtain ⟨c19t0, c19t1, hc20, H⟩ := H
      refine W.callR (g := 213) (ds := [.ints .u64 a0, .ints .u64 a1]) (es := [.ints .u64 a0, .ints .u64 a1]) (r := (.tuple [.ints .u64 c19t0, .ints .u64 c19t1])) (by kernel_rfl) (by kernel_rfl) (Ic.args hc20 (by kernel_rfl)) (by kernel_rfl) ?_
      refine W.adv 17 ?_
      exact W.fin (x := .ret) (by kernel_rfl) (Ans.of (d := (.tuple [.ints .u64 c19t0, .ints .u64 c19t1, .int .i64 0])) (d' := (.tuple [.ints .u64 c19t0, .ints .u64 c19t1, .int .i64 0])) (e' := (.tuple [.ints .u64 c19t0, .ints .u64 c19t1, .int .i64 0])) (by kernel_rfl) (by kernel_rfl) (by kernel_rfl) (by rw [H.1, H.2.1, H.2.2]))
   ·refine W.cond true (w := (!c5)) (by kernel_rfl) (congrArg (fun b => !b) (bfalse h7)) ?_
    refine W.adv 10 ?_
    exact W.fin (x := .ret) (by kernel_rfl) (Ans.of (d := (.tuple [.nilS, .nilS, .int .i64 2])) (d' := (.tuple [.nilS, .nilS, .int .i64 2])) (e' := (.tuple [.ints .u64 [], .ints .u64 [], .int .i64 2])) (by kernel_rfl) (by kernel_rfl) (by kernel_rfl) (by rw [H.1, H.2.1, H.2.2]))
  ·refine W.guard false (w := ((!c2) == false)) (by kernel_rfl) (congrArg (fun b => b == false) (congrArg (fun b => !b) (bfalse h4))) ?_
   refine W.guard false (w := ((!c2) == false)) (by kernel_rfl) (congrArg (fun b => b == false) (congrArg (fun b => !b) (bfalse h4))) ?_
   refine W.guard false (w := ((!c2) == false)) (by kernel_rfl) (congrArg (fun b => b == false) (congrArg (fun b => !b) (bfalse h4))) ?_
   refine W.opS (OpIs.pk true (t := (!c2)) (x := (.bool true)) (y := (.tuple [])) (by kernel_rfl) (congrArg (fun b => !b) (bfalse h4))) ?_
   refine W.adv 14 ?_
   exact W.fin (x := .ret) (by kernel_rfl) (Ans.of (d := (.tuple [.nilS, .nilS, .int .i64 2])) (d' := (.tuple [.nilS, .nilS, .int .i64 2])) (e' := (.tuple [.ints .u64 [], .ints .u64 [], .int .i64 2])) (by kernel_rfl) (by kernel_rfl) (by kernel_rfl) (by rw [H.1, H.2.1, H.2.2]))
noncomputable def divide_Small_l0_s (x0 : List Int) (x1 : Int) (x8 : Int) (x20 : Int) (x21 : Int) (r18 : List Int) (n18 : Nat) (j : Nat → D) (jb : Nat → Blk) (vs : Nat → Nat) : Cf := cfAt Tryz.f212 [1, 1, 1, 1, 0, 1, 0] ⟨[.ints .u64 x0, .int .u64 x1, j 2, j 3, j 4, j 5, j 6, .sref 18 1 1 0 n18, .int .u64 x8, j 9, j 10, j 11, j 12, j 13, j 14, j 15, j 16, j 17, j 18, j 19, .int .i64 x20, .int .i64 x21, j 22, j 23, j 24, j 25, j 26, j 27, j 28, j 29, j 30, j 31, j 32, j 33, j 34, j 35, j 36, j 37, j 38, j 39, j 40, j 41, j 42, j 43, j 44, j 45, j 46, j 47, j 48, j 49, j 50], [jb 0, jb 1, jb 2, jb 3, jb 4, jb 5, jb 6, jb 7, jb 8, jb 9, jb 10, jb 11, jb 12, jb 13, jb 14, jb 15, jb 16, jb 17, ⟨1, false, .ints .u64 r18⟩, jb 19, jb 20, jb 21, jb 22, jb 23, jb 24, jb 25, jb 26, jb 27, jb 28, jb 29, jb 30, jb 31, jb 32, jb 33, jb 34, jb 35, jb 36, jb 37, jb 38, jb 39, jb 40, jb 41, jb 42, jb 43, jb 44, jb 45, jb 46, jb 47, jb 48, jb 49, jb 50]⟩
def divide_Small_l0 (x0 : List Int) (x1 : Int) (x8 : Int) (x20 : Int) (x21 : Int) (r18 : List Int) (zt0 : List Int) (zt1 : Int) (zt2 : Int) : Prop := ∀ n18, n18 = r18.length → ∀ j jb vs, W C F 212 0 (divide_Small_l0_s x0 x1 x8 x20 x21 r18 n18 j jb vs) (Ans C Tryz.f212 (.tuple [.ints .u64 zt0, .int .u64 zt1, .int .i64 zt2]))
theorem divide_Small_l0_go {x0 : List Int} {x1 : Int} {x8 : Int} {x20 : Int} {x21 : Int} {r18 : List Int} {zt0 : List Int} {zt1 : Int} {zt2 : Int} (H : ((x21 < x20 ∧ (0 ≤ (wi ((wi ((x0.length : Int) - 1)) - x21)) ∧ ((wi ((wi ((x0.length : Int) - 1)) - x21)) < (x0.length : Int) ∧ (∃ c10t0 : Int, (∃ c10t1 : Int, (∃ c10t2 : Int, (limb_Div_R x8 (x0.getD (wi ((wi ((x0.length : Int) - 1)) - x21)).toNat 0) x1 c10t0 c10t1 c10t2 ∧ ((wi ((wi ((x0.length : Int) - 1)) - x21)) < (r18.length : Int) ∧ (∃ y13, y13 = r18.set (wi ((wi ((x0.length : Int) - 1)) - x21)).toNat c10t0 ∧ (divide_Small_l0 x0 x1 c10t1 x20 (wi (x21 + 1)) y13 zt0 zt1 zt2)))))))))) ∨ (¬ x21 < x20 ∧ (∃ c16t0 : List Int, (∃ c16t1 : Int, (nat_Make_R r18 c16t0 c16t1 ∧ (zt0 = c16t0 ∧ zt1 = x8 ∧ zt2 = 0))))))) : divide_Small_l0 x0 x1 x8 x20 x21 r18 zt0 zt1 zt2 := by
 intro n18 ln_18 j jb vs
 refine W.adv 1 ?_
 refine W.adv 6 ?_
 rcases H with ⟨h7, H⟩ | ⟨h7, H⟩
 ·refine W.cond true (w := (decide (x21 < x20))) (by kernel_rfl) (decide_eq_true h7) ?_
  refine W.adv 26 ?_
  obtain ⟨h8, h9, H⟩ := H
  refine W.opS (OpIs.ixI (k := .u64) (k' := .i64) (xs := x0) (i := (wi ((wi ((x0.length : Int) - 1)) - x21))) (by kernel_rfl) h8 h9) ?_
  refine W.adv 2 ?_
  obtain ⟨c10t0, c10t1, c10t2, hc11, H⟩ := H
  refine W.callR (g := 217) (ds := [.int .u64 x8, (.int .u64 (x0.getD (wi ((wi ((x0.length : Int) - 1)) - x21)).toNat 0)), .int .u64 x1]) (es := [.int .u64 x8, (.int .u64 (x0.getD (wi ((wi ((x0.length : Int) - 1)) - x21)).toNat 0)), .int .u64 x1]) (r := (.tuple [.int .u64 c10t0, .int .u64 c10t1, .int .i64 c10t2])) (by kernel_rfl) (by kernel_rfl) (Ic.args hc11 (by kernel_rfl)) (by kernel_rfl) ?_
  refine W.adv 4 ?_
  obtain ⟨h12, H⟩ := H
  refine W.opS (OpIs.ixR (k' := .i64) (b := 18) (v := 1) (sz := 1) (len := n18) (i := (wi ((wi ((x0.length : Int) - 1)) - x21))) (by kernel_rfl) h8 (by rw [ln_18]; exact h12)) ?_
  obtain ⟨y13, hy14, H⟩ := H
  have ln15 : n18 = y13.length := by rw [hy14, List.length_set]; exact ln_18
  refine W.opH (OpIs.stN (b := 18) (v := 1) (i := (wi ((wi ((x0.length : Int) - 1)) - x21)).toNat) (w := 1) (k := .u64) (xs := r18) (n := c10t0) (by kernel_rfl) hy14 rfl (by omega)) ?_
  refine W.adv 9 ?_
  exact W.to_loop (P := divide_Small_l0_s x0 x1 c10t1 x20 (wi (x21 + 1)) y13 n18) (H _ ln15) (by kernel_rfl)
 ·refine W.cond false (w := (decide (x21 < x20))) (by kernel_rfl) (decide_eq_false h7) ?_
  refine W.adv 8 ?_
  obtain ⟨c16t0, c16t1, hc17, H⟩ := H
  refine W.callR (g := 180) (ds := [.sref 18 1 1 0 n18]) (es := [.ints .u64 r18]) (r := (.tuple [.ints .u64 c16t0, .int .i64 c16t1])) (by kernel_rfl) (rf_cons (rf_full (b := 18) (v := 1) (w := 1) (fz := false) (k := .u64) (xs := r18) (by kernel_rfl) rfl ln_18) rf_nil) (Ic.args hc17 (by kernel_rfl)) (by kernel_rfl) ?_
  refine W.adv 17 ?_
  exact W.fin (x := .ret) (by kernel_rfl) (Ans.of (d := (.tuple [.ints .u64 c16t0, .int .u64 x8, .int .i64 0])) (d' := (.tuple [.ints .u64 c16t0, .int .u64 x8, .int .i64 0])) (e' := (.tuple [.ints .u64 c16t0, .int .u64 x8, .int .i64 0])) (by kernel_rfl) (by kernel_rfl) (by kernel_rfl) (by rw [H.1, H.2.1, H.2.2]))
theorem divide_Small_go {a0 : List Int} {a1 : Int} {zt0 : List Int} {zt1 : Int} {zt2 : Int} (H : (((a1.tmod 4294967296) = 0 ∧ (zt0 = [] ∧ zt1 = 0 ∧ zt2 = 3)) ∨ (¬ (a1.tmod 4294967296) = 0 ∧ (0 ≤ (a0.length : Int) ∧ (8 * (a0.length : Int) ≤ 140737488351232 ∧ (∃ y2, y2 = List.replicate (a0.length : Int).toNat 0 ∧ (divide_Small_l0 a0 a1 0 (a0.length : Int) 0 y2 zt0 zt1 zt2))))))) : divide_Small_R a0 a1 zt0 zt1 zt2 := by
 refine W.ic (zs := [.ints .u64 a0, .int .u64 a1]) Tryz.func212 (by kernel_rfl) (by kernel_rfl) (by kernel_rfl) (by kernel_rfl) ?_
 refine W.adv 15 ?_
 rcases H with ⟨h1, H⟩ | ⟨h1, H⟩
 ·refine W.cond true (w := (decide ((a1.tmod 4294967296) = 0))) (by kernel_rfl) (decide_eq_true h1) ?_
  refine W.adv 9 ?_
  exact W.fin (x := .ret) (by kernel_rfl) (Ans.of (d := (.tuple [.nilS, .int .u64 0, .int .i64 3])) (d' := (.tuple [.nilS, .int .u64 0, .int .i64 3])) (e' := (.tuple [.ints .u64 [], .int .u64 0, .int .i64 3])) (by kernel_rfl) (by kernel_rfl) (by kernel_rfl) (by rw [H.1, H.2.1, H.2.2]))
 ·refine W.cond false (w := (decide ((a1.tmod 4294967296) = 0))) (by kernel_rfl) (decide_eq_false h1) ?_
  refine W.adv 6 ?_
  obtain ⟨h5, h6, H⟩ := H
  obtain ⟨y2, hy3, H⟩ := H
  have ln4 : (a0.length : Int).toNat = y2.length := by rw [hy3, List.length_replicate]
  refine W.opH (OpIs.msN (k1 := .i64) (k2 := .i64) (k := .u64) (n := (a0.length : Int)) (m := (a0.length : Int)) (y := 8) (b := 18) (v := 0) (by kernel_rfl) hy3 h5 (Int.le_refl _) h6 (by omega)) ?_
  refine W.adv 17 ?_
  exact W.to_loop (P := divide_Small_l0_s a0 a1 0 (a0.length : Int) 0 y2 ((a0.length : Int).toNat)) (H _ ln4) (by kernel_rfl)
noncomputable def divide_knuth_l0_s (x6 : Int) (x7 : List Int) (x13 : Int) (r35 : List Int) (r51 : List Int) (n35 : Nat) (n51 : Nat) (j : Nat → D) (jb : Nat → Blk) (vs : Nat → Nat) : Cf := cfAt Tryz.f213 [1, 1, 1, 1, 1, 1, 1, 0, 1, 0] ⟨[j 0, j 1, j 2, j 3, j 4, j 5, .int .i64 x6, .ints .u64 x7, j 8, .sref 35 1 1 0 n35, j 10, j 11, .sref 51 1 1 0 n51, .int .i64 x13, j 14, j 15, j 16, j 17, j 18, j 19, j 20, j 21, j 22, j 23, j 24, j 25, j 26, j 27, j 28, j 29, j 30, j 31, j 32, j 33, j 34, j 35, j 36, j 37, j 38, j 39, j 40, j 41, j 42, j 43, j 44, j 45, j 46, j 47, j 48, j 49, j 50, j 51, j 52, j 53, j 54, j 55, j 56, j 57, j 58, j 59, j 60, j 61, j 62, j 63, j 64, j 65, j 66, j 67, j 68, j 69, j 70, j 71, j 72, j 73, j 74, j 75, j 76, j 77, j 78, j 79, j 80, j 81, j 82, j 83, j 84, j 85, j 86, j 87, j 88, j 89, j 90, j 91, j 92, j 93, j 94, j 95, j 96, j 97, j 98, j 99, j 100, j 101, j 102, j 103], [jb 0, jb 1, jb 2, jb 3, jb 4, jb 5, jb 6, jb 7, jb 8, jb 9, jb 10, jb 11, jb 12, jb 13, jb 14, jb 15, jb 16, jb 17, jb 18, jb 19, jb 20, jb 21, jb 22, jb 23, jb 24, jb 25, jb 26, jb 27, jb 28, jb 29, jb 30, jb 31, jb 32, jb 33, jb 34, ⟨1, false, .ints .u64 r35⟩, jb 36, jb 37, jb 38, jb 39, jb 40, jb 41, jb 42, jb 43, jb 44, jb 45, jb 46, jb 47, jb 48, jb 49, jb 50, ⟨1, false, .ints .u64 r51⟩, jb 52, jb 53, jb 54, jb 55, jb 56, jb 57, jb 58, jb 59, jb 60, jb 61, jb 62, jb 63, jb 64, jb 65, jb 66, jb 67, jb 68, jb 69, jb 70, jb 71, jb 72, jb 73, jb 74, jb 75, jb 76, jb 77, jb 78, jb 79, jb 80, jb 81, jb 82, jb 83, jb 84, jb 85, jb 86, jb 87, jb 88, jb 89, jb 90, jb 91, jb 92, jb 93, jb 94, jb 95, jb 96, jb 97, jb 98, jb 99, jb 100, jb 101, jb 102, jb 103]⟩
def divide_knuth_l0 (x6 : Int) (x7 : List Int) (x13 : Int) (r35 : List Int) (r51 : List Int) (zt0 : List Int) (zt1 : List Int) : Prop := ∀ n35, n35 = r35.length → ∀ n51, n51 = r51.length → ∀ j jb vs, W C F 213 0 (divide_knuth_l0_s x6 x7 x13 r35 r51 n35 n51 j jb vs) (Ans C Tryz.f213 (.tuple [.ints .u64 zt0, .ints .u64 zt1]))
theorem divide_knuth_l0_go {x6 : Int} {x7 : List Int} {x13 : Int} {r35 : List Int} {r51 : List Int} {zt0 : List Int} {zt1 : List Int} (H : ((0 ≤ x13 ∧ (∃ c23 : Int, (divide_guess_R r35 x13 x7 c23 ∧ (x13 < (r51.length : Int) ∧ (∃ y26, y26 = r51.set (x13).toNat c23 ∧ (x13 < (y26.length : Int) ∧ (∃ c30 : Bool, (∃ y31 : List Int, (y31.length = r35.length ∧ divide_take_R r35 x13 x7 (y26.getD (x13).toNat 0) c30 y31 ∧ ((c30 = true ∧ (∃ y37, y37 = y26.set (x13).toNat (wu ((y26.getD (x13).toNat 0) - 1)) ∧ (∃ y40 : List Int, (y40.length = y31.length ∧ divide_give_R y31 x13 x7 y40 ∧ (divide_knuth_l0 x6 x7 (wi (x13 - 1)) y40 y37 zt0 zt1))))) ∨ (¬ c30 = true ∧ (divide_knuth_l0 x6 x7 (wi (x13 - 1)) y31 y26 zt0 zt1)))))))))))) ∨ (¬ 0 ≤ x13 ∧ (∃ c45t0 : List Int, (∃ c45t1 : Int, (nat_Make_R r51 c45t0 c45t1 ∧ (∃ c47t0 : List Int, (∃ c47t1 : Int, (nat_Make_R r35 c47t0 c47t1 ∧ (∃ c49t0 : List Int, (∃ c49t1 : Int, (nat_Shr_R c47t0 x6 c49t0 c49t1 ∧ (zt0 = c45t0 ∧ zt1 = c49t0))))))))))))) : divide_knuth_l0 x6 x7 x13 r35 r51 zt0 zt1 := by
 intro n35 ln_35 n51 ln_51 j jb vs
 refine W.adv 1 ?_
 refine W.adv 7 ?_
 rcases H with ⟨h22, H⟩ | ⟨h22, H⟩
 ·refine W.cond true (w := (decide (0 ≤ x13))) (by kernel_rfl) (decide_eq_true h22) ?_
  refine W.adv 11 ?_
  obtain ⟨c23, hc24, H⟩ := H
  refine W.callR (g := 220) (ds := [.sref 35 1 1 0 n35, .int .i64 x13, .ints .u64 x7]) (es := [.ints .u64 r35, .int .i64 x13, .ints .u64 x7]) (r := (.int .u64 c23)) (by kernel_rfl) (rf_cons (rf_full (b := 35) (v := 1) (w := 1) (fz := false) (k := .u64) (xs := r35) (by kernel_rfl) rfl ln_35) (rf_cons (by kernel_rfl) (rf_cons (by kernel_rfl) rf_nil))) (Ic.args hc24 (by kernel_rfl)) (by kernel_rfl) ?_
  obtain ⟨h25, H⟩ := H
  refine W.opS (OpIs.ixR (k' := .i64) (b := 51) (v := 1) (sz := 1) (len := n51) (i := x13) (by kernel_rfl) h22 (by rw [ln_51]; exact h25)) ?_
  obtain ⟨y26, hy27, H⟩ := H
  have ln28 : n51 = y26.length := by rw [hy27, List.length_set]; exact ln_51
  refine W.opH (OpIs.stN (b := 51) (v := 1) (i := (x13).toNat) (w := 1) (k := .u64) (xs := r51) (n := c23) (by kernel_rfl) hy27 rfl (by omega)) ?_
  refine W.adv 9 ?_
  obtain ⟨h29, H⟩ := H
  refine W.opS (OpIs.ixR (k' := .i64) (b := 51) (v := 1) (sz := 1) (len := n51) (i := x13) (by kernel_rfl) h22 (by rw [ln28]; exact h29)) ?_
  refine W.opS (OpIs.ldI (b := 51) (v := 1) (i := (x13).toNat) (w := 1) (fz := false) (k := .u64) (xs := y26) (by kernel_rfl) rfl (by omega)) ?_
  obtain ⟨c30, y31, hl32, hc33, H⟩ := H
  have ln34 : n35 = y31.length := by rw [hl32]; exact ln_35
  refine W.sharedP (g := 221) (ds := [.sref 35 1 1 0 n35, .int .i64 x13, .ints .u64 x7, (.int .u64 (y26.getD (x13).toNat 0))]) (d := (.bool c30)) (P := (fun cb => [cb 0, cb 1, cb 2, cb 3, cb 4, cb 5, cb 6, cb 7, cb 8, cb 9, cb 10, cb 11, cb 12, cb 13, cb 14, cb 15, cb 16, cb 17, cb 18, cb 19, cb 20, cb 21, cb 22, cb 23, cb 24, cb 25, cb 26, cb 27, cb 28, cb 29, cb 30, cb 31, cb 32, cb 33, cb 34, ⟨1, false, .ints .u64 r35⟩, cb 36, cb 37, cb 38, cb 39, cb 40, cb 41, cb 42, cb 43, cb 44, cb 45, cb 46, cb 47, cb 48, cb 49, cb 50, cb 51, cb 52, cb 53, cb 54, cb 55, cb 56, cb 57, cb 58, cb 59, cb 60, cb 61, cb 62, cb 63, cb 64, cb 65, cb 66, cb 67, cb 68, cb 69, cb 70, cb 71, cb 72, cb 73, cb 74, cb 75, cb 76, cb 77, cb 78, cb 79, cb 80, cb 81, cb 82, cb 83, cb 84, cb 85, cb 86, cb 87, cb 88, cb 89, cb 90, cb 91, cb 92, cb 93, cb 94, cb 95, cb 96, cb 97, cb 98, cb 99, cb 100, cb 101, cb 102, cb 103])) (P' := (fun cb => [cb 0, cb 1, cb 2, cb 3, cb 4, cb 5, cb 6, cb 7, cb 8, cb 9, cb 10, cb 11, cb 12, cb 13, cb 14, cb 15, cb 16, cb 17, cb 18, cb 19, cb 20, cb 21, cb 22, cb 23, cb 24, cb 25, cb 26, cb 27, cb 28, cb 29, cb 30, cb 31, cb 32, cb 33, cb 34, ⟨1, false, .ints .u64 y31⟩, cb 36, cb 37, cb 38, cb 39, cb 40, cb 41, cb 42, cb 43, cb 44, cb 45, cb 46, cb 47, cb 48, cb 49, cb 50, cb 51, cb 52, cb 53, cb 54, cb 55, cb 56, cb 57, cb 58, cb 59, cb 60, cb 61, cb 62, cb 63, cb 64, cb 65, cb 66, cb 67, cb 68, cb 69, cb 70, cb 71, cb 72, cb 73, cb 74, cb 75, cb 76, cb 77, cb 78, cb 79, cb 80, cb 81, cb 82, cb 83, cb 84, cb 85, cb 86, cb 87, cb 88, cb 89, cb 90, cb 91, cb 92, cb 93, cb 94, cb 95, cb 96, cb 97, cb 98, cb 99, cb 100, cb 101, cb 102, cb 103])) (by kernel_rfl) (by kernel_rfl) (by kernel_rfl) (fun cb => hc33 cb _ _ ln_35) ?_
  refine W.adv 2 ?_
  rcases H with ⟨h36, H⟩ | ⟨h36, H⟩
  ·refine W.cond true (w := c30) (by kernel_rfl) h36 ?_
   refine W.adv 4 ?_
   refine W.opS (OpIs.ixR (k' := .i64) (b := 51) (v := 1) (sz := 1) (len := n51) (i := x13) (by kernel_rfl) h22 (by rw [ln28]; exact h29)) ?_
   refine W.opS (OpIs.ldI (b := 51) (v := 1) (i := (x13).toNat) (w := 1) (fz := false) (k := .u64) (xs := y26) (by kernel_rfl) rfl (by omega)) ?_
   refine W.adv 1 ?_
   refine W.opS (OpIs.ixR (k' := .i64) (b := 51) (v := 1) (sz := 1) (len := n51) (i := x13) (by kernel_rfl) h22 (by rw [ln28]; exact h29)) ?_
   obtain ⟨y37, hy38, H⟩ := H
   have ln39 : n51 = y37.length := by rw [hy38, List.length_set]; exact ln28
   refine W.opH (OpIs.stN (b := 51) (v := 1) (i := (x13).toNat) (w := 1) (k := .u64) (xs := y26) (n := (wu ((y26.getD (x13).toNat 0) - 1))) (by kernel_rfl) hy38 rfl (by omega)) ?_
   refine W.adv 6 ?_
   obtain ⟨y40, hl41, hc42, H⟩ := H
   have ln43 : n35 = y40.length := by rw [hl41]; exact ln34
   refine W.sharedP (g := 222) (ds := [.sref 35 1 1 0 n35, .int .i64 x13, .ints .u64 x7]) (d := (.tuple [])) (P := (fun cb => [cb 0, cb 1, cb 2, cb 3, cb 4, cb 5, cb 6, cb 7, cb 8, cb 9, cb 10, cb 11, cb 12, cb 13, cb 14, cb 15, cb 16, cb 17, cb 18, cb 19, cb 20, cb 21, cb 22, cb 23, cb 24, cb 25, cb 26, cb 27, cb 28, cb 29, cb 30, cb 31, cb 32, cb 33, cb 34, ⟨1, false, .ints .u64 y31⟩, cb 36, cb 37, cb 38, cb 39, cb 40, cb 41, cb 42, cb 43, cb 44, cb 45, cb 46, cb 47, cb 48, cb 49, cb 50, cb 51, cb 52, cb 53, cb 54, cb 55, cb 56, cb 57, cb 58, cb 59, cb 60, cb 61, cb 62, cb 63, cb 64, cb 65, cb 66, cb 67, cb 68, cb 69, cb 70, cb 71, cb 72, cb 73, cb 74, cb 75, cb 76, cb 77, cb 78, cb 79, cb 80, cb 81, cb 82, cb 83, cb 84, cb 85, cb 86, cb 87, cb 88, cb 89, cb 90, cb 91, cb 92, cb 93, cb 94, cb 95, cb 96, cb 97, cb 98, cb 99, cb 100, cb 101, cb 102, cb 103])) (P' := (fun cb => [cb 0, cb 1, cb 2, cb 3, cb 4, cb 5, cb 6, cb 7, cb 8, cb 9, cb 10, cb 11, cb 12, cb 13, cb 14, cb 15, cb 16, cb 17, cb 18, cb 19, cb 20, cb 21, cb 22, cb 23, cb 24, cb 25, cb 26, cb 27, cb 28, cb 29, cb 30, cb 31, cb 32, cb 33, cb 34, ⟨1, false, .ints .u64 y40⟩, cb 36, cb 37, cb 38, cb 39, cb 40, cb 41, cb 42, cb 43, cb 44, cb 45, cb 46, cb 47, cb 48, cb 49, cb 50, cb 51, cb 52, cb 53, cb 54, cb 55, cb 56, cb 57, cb 58, cb 59, cb 60, cb 61, cb 62, cb 63, cb 64, cb 65, cb 66, cb 67, cb 68, cb 69, cb 70, cb 71, cb 72, cb 73, cb 74, cb 75, cb 76, cb 77, cb 78, cb 79, cb 80, cb 81, cb 82, cb 83, cb 84, cb 85, cb 86, cb 87, cb 88, cb 89, cb 90, cb 91, cb 92, cb 93, cb 94, cb 95, cb 96, cb 97, cb 98, cb 99, cb 100, cb 101, cb 102, cb 103])) (by kernel_rfl) (by kernel_rfl) (by kernel_rfl) (fun cb => hc42 cb _ _ ln34) ?_
   refine W.adv 9 ?_
   exact W.to_loop (P := divide_knuth_l0_s x6 x7 (wi (x13 - 1)) y40 y37 n35 n51) (H _ ln43 _ ln39) (by kernel_rfl)
  ·refine W.cond false (w := c30) (by kernel_rfl) (bfalse h36) ?_
   refine W.adv 9 ?_
   exact W.to_loop (P := divide_knuth_l0_s x6 x7 (wi (x13 - 1)) y31 y26 n35 n51) (H _ ln34 _ ln28) (by kernel_rfl)
 ·refine W.cond false (w := (decide (0 ≤ x13))) (by kernel_rfl) (decide_eq_false h22) ?_
  refine W.adv 8 ?_
  obtain ⟨c45t0, c45t1, hc46, H⟩ := H
  refine W.callR (g := 180) (ds := [.sref 51 1 1 0 n51]) (es := [.ints .u64 r51]) (r := (.tuple [.ints .u64 c45t0, .int .i64 c45t1])) (by kernel_rfl) (rf_cons (rf_full (b := 51) (v := 1) (w := 1) (fz := false) (k := .u64) (xs := r51) (by kernel_rfl) rfl ln_51) rf_nil) (Ic.args hc46 (by kernel_rfl)) (by kernel_rfl) ?_
  refine W.adv 10 ?_
  obtain ⟨c47t0, c47t1, hc48, H⟩ := H
  refine W.callR (g := 180) (ds := [.sref 35 1 1 0 n35]) (es := [.ints .u64 r35]) (r := (.tuple [.ints .u64 c47t0, .int .i64 c47t1])) (by kernel_rfl) (rf_cons (rf_full (b := 35) (v := 1) (w := 1) (fz := false) (k := .u64) (xs := r35) (by kernel_rfl) rfl ln_35) rf_nil) (Ic.args hc48 (by kernel_rfl)) (by kernel_rfl) ?_
  refine W.adv 11 ?_
  obtain ⟨c49t0, c49t1, hc50, H⟩ := H
  refine W.callR (g := 223) (ds := [.ints .u64 c47t0, .int .i64 x6]) (es := [.ints .u64 c47t0, .int .i64 x6]) (r := (.tuple [.ints .u64 c49t0, .int .i64 c49t1])) (by kernel_rfl) (by kernel_rfl) (Ic.args hc50 (by kernel_rfl)) (by kernel_rfl) ?_
  refine W.adv 15 ?_
  exact W.fin (x := .ret) (by kernel_rfl) (Ans.of (d := (.tuple [.ints .u64 c45t0, .ints .u64 c49t0])) (d' := (.tuple [.ints .u64 c45t0, .ints .u64 c49t0])) (e' := (.tuple [.ints .u64 c45t0, .ints .u64 c49t0])) (by kernel_rfl) (by kernel_rfl) (by kernel_rfl) (by rw [H.1, H.2]))
theorem divide_knuth_go {a0 : List Int} {a1 : List Int} {zt0 : List Int} {zt1 : List Int} (H : (0 ≤ (wi ((a1.length : Int) - 1)) ∧ ((wi ((a1.length : Int) - 1)) < (a1.length : Int) ∧ (∃ c3 : Int, (limb_Bits_R (a1.getD (wi ((a1.length : Int) - 1)).toNat 0) c3 ∧ (∃ c5t0 : List Int, (∃ c5t1 : Int, (nat_Shl_R a1 (wi (32 - c3)) c5t0 c5t1 ∧ (0 ≤ (wi ((a0.length : Int) + 1)) ∧ (8 * (wi ((a0.length : Int) + 1)) ≤ 140737488351232 ∧ (∃ y7, y7 = List.replicate (wi ((a0.length : Int) + 1)).toNat 0 ∧ (∃ c12t0 : List Int, (∃ c12t1 : Int, (nat_Shl_R a0 (wi (32 - c3)) c12t0 c12t1 ∧ (∃ y14, y14 = y7.take 0 ++ (c12t0.take (min c12t0.length y7.length) ++ y7.drop (0 + min c12t0.length y7.length)) ∧ (0 ≤ (wi ((wi ((a0.length : Int) - (a1.length : Int))) + 1)) ∧ (8 * (wi ((wi ((a0.length : Int) - (a1.length : Int))) + 1)) ≤ 140737488351232 ∧ (∃ y17, y17 = List.replicate (wi ((wi ((a0.length : Int) - (a1.length : Int))) + 1)).toNat 0 ∧ (divide_knuth_l0 (wi (32 - c3)) c5t0 (wi ((a0.length : Int) - (a1.length : Int))) y14 y17 zt0 zt1))))))))))))))))))) : divide_knuth_R a0 a1 zt0 zt1 := by
 refine W.ic (zs := [.ints .u64 a0, .ints .u64 a1]) Tryz.func213 (by kernel_rfl) (by kernel_rfl) (by kernel_rfl) (by kernel_rfl) ?_
 refine W.adv 12 ?_
 obtain ⟨h1, h2, H⟩ := H
 refine W.opS (OpIs.ixI (k := .u64) (k' := .i64) (xs := a1) (i := (wi ((a1.length : Int) - 1))) (by kernel_rfl) h1 h2) ?_
 refine W.adv 1 ?_
 obtain ⟨c3, hc4, H⟩ := H
 refine W.callR (g := 218) (ds := [(.int .u64 (a1.getD (wi ((a1.length : Int) - 1)).toNat 0))]) (es := [(.int .u64 (a1.getD (wi ((a1.length : Int) - 1)).toNat 0))]) (r := (.int .i64 c3)) (by kernel_rfl) (by kernel_rfl) (Ic.args hc4 (by kernel_rfl)) (by kernel_rfl) ?_
 refine W.adv 8 ?_
 obtain ⟨c5t0, c5t1, hc6, H⟩ := H
 refine W.callR (g := 219) (ds := [.ints .u64 a1, (.int .i64 (wi (32 - c3)))]) (es := [.ints .u64 a1, (.int .i64 (wi (32 - c3)))]) (r := (.tuple [.ints .u64 c5t0, .int .i64 c5t1])) (by kernel_rfl) (by kernel_rfl) (Ic.args hc6 (by kernel_rfl)) (by kernel_rfl) ?_
 refine W.adv 12 ?_
 obtain ⟨h10, h11, H⟩ := H
 obtain ⟨y7, hy8, H⟩ := H
 have ln9 : (wi ((a0.length : Int) + 1)).toNat = y7.length := by rw [hy8, List.length_replicate]
 refine W.opH (OpIs.msN (k1 := .i64) (k2 := .i64) (k := .u64) (n := (wi ((a0.length : Int) + 1))) (m := (wi ((a0.length : Int) + 1))) (y := 8) (b := 35) (v := 0) (by kernel_rfl) hy8 h10 (Int.le_refl _) h11 (by omega)) ?_
 refine W.adv 7 ?_
 obtain ⟨c12t0, c12t1, hc13, H⟩ := H
 refine W.callR (g := 219) (ds := [.ints .u64 a0, (.int .i64 (wi (32 - c3)))]) (es := [.ints .u64 a0, (.int .i64 (wi (32 - c3)))]) (r := (.tuple [.ints .u64 c12t0, .int .i64 c12t1])) (by kernel_rfl) (by kernel_rfl) (Ic.args hc13 (by kernel_rfl)) (by kernel_rfl) ?_
 refine W.adv 11 ?_
 obtain ⟨y14, hy15, H⟩ := H
 have ln16 : (wi ((a0.length : Int) + 1)).toNat = y14.length := by rw [hy15, List.length_append, List.length_append, List.length_take, List.length_take, List.length_drop]; omega
 refine W.opH (OpIs.cp (zs := y14) (y := (.ints .u64 c12t0)) (b := 35) (v := 1) (w := 1) (off := 0) (len := (wi ((a0.length : Int) + 1)).toNat) (k := .u64) (xs := y7) (ys := c12t0) (by kernel_rfl) (by kernel_rfl) rfl (by omega) (by rw [ln9]; exact hy15)) ?_
 refine W.adv 10 ?_
 obtain ⟨h20, h21, H⟩ := H
 obtain ⟨y17, hy18, H⟩ := H
 have ln19 : (wi ((wi ((a0.length : Int) - (a1.length : Int))) + 1)).toNat = y17.length := by rw [hy18, List.length_replicate]
 refine W.opH (OpIs.msN (k1 := .i64) (k2 := .i64) (k := .u64) (n := (wi ((wi ((a0.length : Int) - (a1.length : Int))) + 1))) (m := (wi ((wi ((a0.length : Int) - (a1.length : Int))) + 1))) (y := 8) (b := 51) (v := 0) (by kernel_rfl) hy18 h20 (Int.le_refl _) h21 (by omega)) ?_
 refine W.adv 15 ?_
 exact W.to_loop (P := divide_knuth_l0_s (wi (32 - c3)) c5t0 (wi ((a0.length : Int) - (a1.length : Int))) y14 y17 ((wi ((a0.length : Int) + 1)).toNat) ((wi ((wi ((a0.length : Int) - (a1.length : Int))) + 1)).toNat)) (H _ ln16 _ ln19) (by kernel_rfl)
noncomputable def divide_guess_l0_s (x0 : List Int) (x1 : Int) (x2 : List Int) (x7 : Int) (x9 : Int) (x10 : Int) (j : Nat → D) (jb : Nat → Blk) (vs : Nat → Nat) : Cf := cfAt Tryz.f220 [1, 1, 1, 1, 0, 0] ⟨[.ints .u64 x0, .int .i64 x1, .ints .u64 x2, j 3, j 4, j 5, j 6, .int .i64 x7, j 8, .int .u64 x9, .int .u64 x10, j 11, j 12, j 13, j 14, j 15, j 16, j 17, j 18, j 19, j 20, j 21, j 22, j 23, j 24, j 25, j 26, j 27, j 28, j 29, j 30, j 31, j 32, j 33, j 34, j 35, j 36, j 37, j 38, j 39, j 40, j 41, j 42, j 43, j 44, j 45, j 46, j 47, j 48, j 49, j 50, j 51, j 52, j 53, j 54, j 55, j 56, j 57, j 58, j 59, j 60, j 61, j 62, j 63, j 64, j 65, j 66, j 67, j 68, j 69, j 70, j 71, j 72, j 73, j 74, j 75], [jb 0, jb 1, jb 2, jb 3, jb 4, jb 5, jb 6, jb 7, jb 8, jb 9, jb 10, jb 11, jb 12, jb 13, jb 14, jb 15, jb 16, jb 17, jb 18, jb 19, jb 20, jb 21, jb 22, jb 23, jb 24, jb 25, jb 26, jb 27, jb 28, jb 29, jb 30, jb 31, jb 32, jb 33, jb 34, jb 35, jb 36, jb 37, jb 38, jb 39, jb 40, jb 41, jb 42, jb 43, jb 44, jb 45, jb 46, jb 47, jb 48, jb 49, jb 50, jb 51, jb 52, jb 53, jb 54, jb 55, jb 56, jb 57, jb 58, jb 59, jb 60, jb 61, jb 62, jb 63, jb 64, jb 65, jb 66, jb 67, jb 68, jb 69, jb 70, jb 71, jb 72, jb 73, jb 74, jb 75]⟩
def divide_guess_l0 (x0 : List Int) (x1 : Int) (x2 : List Int) (x7 : Int) (x9 : Int) (x10 : Int) (z : Int) : Prop := ∀ j jb vs, W C F 220 0 (divide_guess_l0_s x0 x1 x2 x7 x9 x10  j jb vs) (Ans C Tryz.f220 (.int .u64 z))
theorem divide_guess_l0_go {x0 : List Int} {x1 : Int} {x2 : List Int} {x7 : Int} {x9 : Int} {x10 : Int} {z : Int} (H : ((4294967296 ≤ x9 ∧ (0 ≤ (wi (x7 - 1)) ∧ ((wi (x7 - 1)) < (x2.length : Int) ∧ ((4294967296 ≤ (wu (x10 + (x2.getD (wi (x7 - 1)).toNat 0))) ∧ (z = (wu (x9 - 1)))) ∨ (¬ 4294967296 ≤ (wu (x10 + (x2.getD (wi (x7 - 1)).toNat 0))) ∧ (divide_guess_l0 x0 x1 x2 x7 (wu (x9 - 1)) (wu (x10 + (x2.getD (wi (x7 - 1)).toNat 0))) z)))))) ∨ (¬ 4294967296 ≤ x9 ∧ (0 ≤ (wi (x7 - 2)) ∧ ((wi (x7 - 2)) < (x2.length : Int) ∧ (0 ≤ (wi ((wi (x1 + x7)) - 2)) ∧ ((wi ((wi (x1 + x7)) - 2)) < (x0.length : Int) ∧ (∃ t18, t18 = (bits .or .u64 (wu (x10 * 2 ^ 32)) (x0.getD (wi ((wi (x1 + x7)) - 2)).toNat 0)) ∧ ((t18 < (wu (x9 * (x2.getD (wi (x7 - 2)).toNat 0))) ∧ (0 ≤ (wi (x7 - 1)) ∧ ((wi (x7 - 1)) < (x2.length : Int) ∧ ((4294967296 ≤ (wu (x10 + (x2.getD (wi (x7 - 1)).toNat 0))) ∧ (z = (wu (x9 - 1)))) ∨ (¬ 4294967296 ≤ (wu (x10 + (x2.getD (wi (x7 - 1)).toNat 0))) ∧ (divide_guess_l0 x0 x1 x2 x7 (wu (x9 - 1)) (wu (x10 + (x2.getD (wi (x7 - 1)).toNat 0))) z)))))) ∨ (¬ t18 < (wu (x9 * (x2.getD (wi (x7 - 2)).toNat 0))) ∧ (z = x9))))))))))) : divide_guess_l0 x0 x1 x2 x7 x9 x10 z := by
 intro j jb vs
 refine W.adv 1 ?_
 refine W.adv 6 ?_
 rcases H with ⟨h10, H⟩ | ⟨h10, H⟩
 ·refine W.guard false (w := ((decide (4294967296 ≤ x9)) == false)) (by kernel_rfl) (congrArg (fun b => b == false) (decide_eq_true h10)) ?_
  refine W.guard false (w := ((decide (4294967296 ≤ x9)) == false)) (by kernel_rfl) (congrArg (fun b => b == false) (decide_eq_true h10)) ?_
  refine W.guard false (w := ((decide (4294967296 ≤ x9)) == false)) (by kernel_rfl) (congrArg (fun b => b == false) (decide_eq_true h10)) ?_
  refine W.guard false (w := ((decide (4294967296 ≤ x9)) == false)) (by kernel_rfl) (congrArg (fun b => b == false) (decide_eq_true h10)) ?_
  refine W.guard false (w := ((decide (4294967296 ≤ x9)) == false)) (by kernel_rfl) (congrArg (fun b => b == false) (decide_eq_true h10)) ?_
  refine W.guard false (w := ((decide (4294967296 ≤ x9)) == false)) (by kernel_rfl) (congrArg (fun b => b == false) (decide_eq_true h10)) ?_
  refine W.guard false (w := ((decide (4294967296 ≤ x9)) == false)) (by kernel_rfl) (congrArg (fun b => b == false) (decide_eq_true h10)) ?_
  refine W.guard false (w := ((decide (4294967296 ≤ x9)) == false)) (by kernel_rfl) (congrArg (fun b => b == false) (decide_eq_true h10)) ?_
  refine W.guard false (w := ((decide (4294967296 ≤ x9)) == false)) (by kernel_rfl) (congrArg (fun b => b == false) (decide_eq_true h10)) ?_
  refine W.guard false (w := ((decide (4294967296 ≤ x9)) == false)) (by kernel_rfl) (congrArg (fun b => b == false) (decide_eq_true h10)) ?_
  refine W.guard false (w := ((decide (4294967296 ≤ x9)) == false)) (by kernel_rfl) (congrArg (fun b => b == false) (decide_eq_true h10)) ?_
  refine W.guard false (w := ((decide (4294967296 ≤ x9)) == false)) (by kernel_rfl) (congrArg (fun b => b == false) (decide_eq_true h10)) ?_
  refine W.guard false (w := ((decide (4294967296 ≤ x9)) == false)) (by kernel_rfl) (congrArg (fun b => b == false) (decide_eq_true h10)) ?_
  refine W.guard false (w := ((decide (4294967296 ≤ x9)) == false)) (by kernel_rfl) (congrArg (fun b => b == false) (decide_eq_true h10)) ?_
  refine W.guard false (w := ((decide (4294967296 ≤ x9)) == false)) (by kernel_rfl) (congrArg (fun b => b == false) (decide_eq_true h10)) ?_
  refine W.guard false (w := ((decide (4294967296 ≤ x9)) == false)) (by kernel_rfl) (congrArg (fun b => b == false) (decide_eq_true h10)) ?_
  refine W.guard false (w := ((decide (4294967296 ≤ x9)) == false)) (by kernel_rfl) (congrArg (fun b => b == false) (decide_eq_true h10)) ?_
  refine W.guard false (w := ((decide (4294967296 ≤ x9)) == false)) (by kernel_rfl) (congrArg (fun b => b == false) (decide_eq_true h10)) ?_
  refine W.opS (OpIs.pk true (t := (decide (4294967296 ≤ x9))) (x := (.bool true)) (y := (.tuple [])) (by kernel_rfl) (decide_eq_true h10)) ?_
  refine W.adv 19 ?_
  obtain ⟨h11, h12, H⟩ := H
  refine W.opS (OpIs.ixI (k := .u64) (k' := .i64) (xs := x2) (i := (wi (x7 - 1))) (by kernel_rfl) h11 h12) ?_
  refine W.adv 11 ?_
  rcases H with ⟨h13, H⟩ | ⟨h13, H⟩
  ·refine W.cond true (w := (decide (4294967296 ≤ (wu (x10 + (x2.getD (wi (x7 - 1)).toNat 0)))))) (by kernel_rfl) (decide_eq_true h13) ?_
   refine W.adv 12 ?_
   exact W.fin (x := .ret) (by kernel_rfl) (Ans.of (d := (.int .u64 (wu (x9 - 1)))) (d' := (.int .u64 (wu (x9 - 1)))) (e' := (.int .u64 (wu (x9 - 1)))) (by kernel_rfl) (by kernel_rfl) (by kernel_rfl) (by rw [H]))
  ·refine W.cond false (w := (decide (4294967296 ≤ (wu (x10 + (x2.getD (wi (x7 - 1)).toNat 0)))))) (by kernel_rfl) (decide_eq_false h13) ?_
   refine W.adv 3 ?_
   exact W.to_loop (P := divide_guess_l0_s x0 x1 x2 x7 (wu (x9 - 1)) (wu (x10 + (x2.getD (wi (x7 - 1)).toNat 0)))) (H ) (by kernel_rfl)
 ·refine W.guard true (w := ((decide (4294967296 ≤ x9)) == false)) (by kernel_rfl) (congrArg (fun b => b == false) (decide_eq_false h10)) ?_
  refine W.adv 1 ?_
  refine W.guard true (w := ((decide (4294967296 ≤ x9)) == false)) (by kernel_rfl) (congrArg (fun b => b == false) (decide_eq_false h10)) ?_
  refine W.adv 1 ?_
  refine W.guard true (w := ((decide (4294967296 ≤ x9)) == false)) (by kernel_rfl) (congrArg (fun b => b == false) (decide_eq_false h10)) ?_
  refine W.adv 1 ?_
  refine W.guard true (w := ((decide (4294967296 ≤ x9)) == false)) (by kernel_rfl) (congrArg (fun b => b == false) (decide_eq_false h10)) ?_
  refine W.adv 1 ?_
  refine W.guard true (w := ((decide (4294967296 ≤ x9)) == false)) (by kernel_rfl) (congrArg (fun b => b == false) (decide_eq_false h10)) ?_
  obtain ⟨h14, h15, H⟩ := H
  refine W.opS (OpIs.ixI (k := .u64) (k' := .i64) (xs := x2) (i := (wi (x7 - 2))) (by kernel_rfl) h14 h15) ?_
  refine W.guard true (w := ((decide (4294967296 ≤ x9)) == false)) (by kernel_rfl) (congrArg (fun b => b == false) (decide_eq_false h10)) ?_
  refine W.adv 1 ?_
  refine W.guard true (w := ((decide (4294967296 ≤ x9)) == false)) (by kernel_rfl) (congrArg (fun b => b == false) (decide_eq_false h10)) ?_
  refine W.adv 1 ?_
  refine W.guard true (w := ((decide (4294967296 ≤ x9)) == false)) (by kernel_rfl) (congrArg (fun b => b == false) (decide_eq_false h10)) ?_
  refine W.adv 1 ?_
  refine W.guard true (w := ((decide (4294967296 ≤ x9)) == false)) (by kernel_rfl) (congrArg (fun b => b == false) (decide_eq_false h10)) ?_
  refine W.adv 1 ?_
  refine W.guard true (w := ((decide (4294967296 ≤ x9)) == false)) (by kernel_rfl) (congrArg (fun b => b == false) (decide_eq_false h10)) ?_
  refine W.adv 1 ?_
  refine W.guard true (w := ((decide (4294967296 ≤ x9)) == false)) (by kernel_rfl) (congrArg (fun b => b == false) (decide_eq_false h10)) ?_
  refine W.adv 1 ?_
  refine W.guard true (w := ((decide (4294967296 ≤ x9)) == false)) (by kernel_rfl) (congrArg (fun b => b == false) (decide_eq_false h10)) ?_
  refine W.adv 1 ?_
  refine W.guard true (w := ((decide (4294967296 ≤ x9)) == false)) (by kernel_rfl) (congrArg (fun b => b == false) (decide_eq_false h10)) ?_
  refine W.adv 1 ?_
  refine W.guard true (w := ((decide (4294967296 ≤ x9)) == false)) (by kernel_rfl) (congrArg (fun b => b == false) (decide_eq_false h10)) ?_
  refine W.adv 1 ?_
  refine W.guard true (w := ((decide (4294967296 ≤ x9)) == false)) (by kernel_rfl) (congrArg (fun b => b == false) (decide_eq_false h10)) ?_
  obtain ⟨h16, h17, H⟩ := H
  refine W.opS (OpIs.ixI (k := .u64) (k' := .i64) (xs := x0) (i := (wi ((wi (x1 + x7)) - 2))) (by kernel_rfl) h16 h17) ?_
  refine W.guard true (w := ((decide (4294967296 ≤ x9)) == false)) (by kernel_rfl) (congrArg (fun b => b == false) (decide_eq_false h10)) ?_
  refine W.adv 1 ?_
  refine W.guard true (w := ((decide (4294967296 ≤ x9)) == false)) (by kernel_rfl) (congrArg (fun b => b == false) (decide_eq_false h10)) ?_
  obtain ⟨t18, ht19, H⟩ := H
  refine W.opS (OpIs.bnN (k := .u64) (op := .or) (x := (.int .u64 (wu (x10 * 2 ^ 32)))) (y := (.int .u64 (x0.getD (wi ((wi (x1 + x7)) - 2)).toNat 0))) (by kernel_rfl) ht19 (by kernel_rfl)) ?_
  refine W.guard true (w := ((decide (4294967296 ≤ x9)) == false)) (by kernel_rfl) (congrArg (fun b => b == false) (decide_eq_false h10)) ?_
  refine W.adv 1 ?_
  refine W.opS (OpIs.pk false (t := (decide (4294967296 ≤ x9))) (x := (.bool true)) (y := (.bool (decide (t18 < (wu (x9 * (x2.getD (wi (x7 - 2)).toNat 0))))))) (by kernel_rfl) (decide_eq_false h10)) ?_
  refine W.adv 2 ?_
  rcases H with ⟨h20, H⟩ | ⟨h20, H⟩
  ·refine W.cond true (w := (decide (t18 < (wu (x9 * (x2.getD (wi (x7 - 2)).toNat 0)))))) (by kernel_rfl) (decide_eq_true h20) ?_
   refine W.adv 16 ?_
   obtain ⟨h21, h22, H⟩ := H
   refine W.opS (OpIs.ixI (k := .u64) (k' := .i64) (xs := x2) (i := (wi (x7 - 1))) (by kernel_rfl) h21 h22) ?_
   refine W.adv 11 ?_
   rcases H with ⟨h23, H⟩ | ⟨h23, H⟩
   ·refine W.cond true (w := (decide (4294967296 ≤ (wu (x10 + (x2.getD (wi (x7 - 1)).toNat 0)))))) (by kernel_rfl) (decide_eq_true h23) ?_
    refine W.adv 12 ?_
    exact W.fin (x := .ret) (by kernel_rfl) (Ans.of (d := (.int .u64 (wu (x9 - 1)))) (d' := (.int .u64 (wu (x9 - 1)))) (e' := (.int .u64 (wu (x9 - 1)))) (by kernel_rfl) (by kernel_rfl) (by kernel_rfl) (by rw [H]))
   ·refine W.cond false (w := (decide (4294967296 ≤ (wu (x10 + (x2.getD (wi (x7 - 1)).toNat 0)))))) (by kernel_rfl) (decide_eq_false h23) ?_
    refine W.adv 3 ?_
    exact W.to_loop (P := divide_guess_l0_s x0 x1 x2 x7 (wu (x9 - 1)) (wu (x10 + (x2.getD (wi (x7 - 1)).toNat 0)))) (H ) (by kernel_rfl)
  ·refine W.cond false (w := (decide (t18 < (wu (x9 * (x2.getD (wi (x7 - 2)).toNat 0)))))) (by kernel_rfl) (decide_eq_false h20) ?_
   refine W.adv 12 ?_
   exact W.fin (x := .ret) (by kernel_rfl) (Ans.of (d := (.int .u64 x9)) (d' := (.int .u64 x9)) (e' := (.int .u64 x9)) (by kernel_rfl) (by kernel_rfl) (by kernel_rfl) (by rw [H]))
theorem divide_guess_go {a0 : List Int} {a1 : Int} {a2 : List Int} {z : Int} (H : (0 ≤ (wi (a1 + (a2.length : Int))) ∧ ((wi (a1 + (a2.length : Int))) < (a0.length : Int) ∧ (0 ≤ (wi ((wi (a1 + (a2.length : Int))) - 1)) ∧ ((wi ((wi (a1 + (a2.length : Int))) - 1)) < (a0.length : Int) ∧ (∃ t5, t5 = (bits .or .u64 (wu ((a0.getD (wi (a1 + (a2.length : Int))).toNat 0) * 2 ^ 32)) (a0.getD (wi ((wi (a1 + (a2.length : Int))) - 1)).toNat 0)) ∧ (0 ≤ (wi ((a2.length : Int) - 1)) ∧ ((wi ((a2.length : Int) - 1)) < (a2.length : Int) ∧ ((a2.getD (wi ((a2.length : Int) - 1)).toNat 0) ≠ 0 ∧ (divide_guess_l0 a0 a1 a2 (a2.length : Int) (wu (t5.tdiv (a2.getD (wi ((a2.length : Int) - 1)).toNat 0))) (t5.tmod (a2.getD (wi ((a2.length : Int) - 1)).toNat 0)) z)))))))))) : divide_guess_R a0 a1 a2 z := by
 refine W.ic (zs := [.ints .u64 a0, .int .i64 a1, .ints .u64 a2]) Tryz.func220 (by kernel_rfl) (by kernel_rfl) (by kernel_rfl) (by kernel_rfl) ?_
 refine W.adv 18 ?_
 obtain ⟨h1, h2, H⟩ := H
 refine W.opS (OpIs.ixI (k := .u64) (k' := .i64) (xs := a0) (i := (wi (a1 + (a2.length : Int)))) (by kernel_rfl) h1 h2) ?_
 refine W.adv 7 ?_
 obtain ⟨h3, h4, H⟩ := H
 refine W.opS (OpIs.ixI (k := .u64) (k' := .i64) (xs := a0) (i := (wi ((wi (a1 + (a2.length : Int))) - 1))) (by kernel_rfl) h3 h4) ?_
 refine W.adv 1 ?_
 obtain ⟨t5, ht6, H⟩ := H
 refine W.opS (OpIs.bnN (k := .u64) (op := .or) (x := (.int .u64 (wu ((a0.getD (wi (a1 + (a2.length : Int))).toNat 0) * 2 ^ 32)))) (y := (.int .u64 (a0.getD (wi ((wi (a1 + (a2.length : Int))) - 1)).toNat 0))) (by kernel_rfl) ht6 (by kernel_rfl)) ?_
 refine W.adv 9 ?_
 obtain ⟨h7, h8, H⟩ := H
 refine W.opS (OpIs.ixI (k := .u64) (k' := .i64) (xs := a2) (i := (wi ((a2.length : Int) - 1))) (by kernel_rfl) h7 h8) ?_
 refine W.adv 1 ?_
 obtain ⟨h9, H⟩ := H
 refine W.opS (OpIs.bn (op := .quo) (x := (.int .u64 t5)) (y := (.int .u64 (a2.getD (wi ((a2.length : Int) - 1)).toNat 0))) (by kernel_rfl) (quoD h9)) ?_
 refine W.adv 4 ?_
 refine W.opS (OpIs.ixI (k := .u64) (k' := .i64) (xs := a2) (i := (wi ((a2.length : Int) - 1))) (by kernel_rfl) h7 h8) ?_
 refine W.adv 1 ?_
 refine W.opS (OpIs.bn (op := .rem) (x := (.int .u64 t5)) (y := (.int .u64 (a2.getD (wi ((a2.length : Int) - 1)).toNat 0))) (by kernel_rfl) (remD h9)) ?_
 refine W.adv 6 ?_
 exact W.to_loop (P := divide_guess_l0_s a0 a1 a2 (a2.length : Int) (wu (t5.tdiv (a2.getD (wi ((a2.length : Int) - 1)).toNat 0))) (t5.tmod (a2.getD (wi ((a2.length : Int) - 1)).toNat 0))) (H ) (by kernel_rfl)
theorem divide_at_go {a0 : List Int} {a1 : Int} {z : Int} (H : (((a0.length : Int) ≤ a1 ∧ (z = 0)) ∨ (¬ (a0.length : Int) ≤ a1 ∧ (0 ≤ a1 ∧ (a1 < (a0.length : Int) ∧ (z = (a0.getD (a1).toNat 0))))))) : divide_at_R a0 a1 z := by
 refine W.ic (zs := [.ints .u64 a0, .int .i64 a1]) Tryz.func225 (by kernel_rfl) (by kernel_rfl) (by kernel_rfl) (by kernel_rfl) ?_
 refine W.adv 14 ?_
 rcases H with ⟨h1, H⟩ | ⟨h1, H⟩
 ·refine W.cond true (w := (decide ((a0.length : Int) ≤ a1))) (by kernel_rfl) (decide_eq_true h1) ?_
  refine W.adv 7 ?_
  exact W.fin (x := .ret) (by kernel_rfl) (Ans.of (d := (.int .u64 0)) (d' := (.int .u64 0)) (e' := (.int .u64 0)) (by kernel_rfl) (by kernel_rfl) (by kernel_rfl) (by rw [H]))
 ·refine W.cond false (w := (decide ((a0.length : Int) ≤ a1))) (by kernel_rfl) (decide_eq_false h1) ?_
  refine W.adv 6 ?_
  obtain ⟨h2, h3, H⟩ := H
  refine W.opS (OpIs.ixI (k := .u64) (k' := .i64) (xs := a0) (i := a1) (by kernel_rfl) h2 h3) ?_
  refine W.adv 5 ?_
  exact W.fin (x := .ret) (by kernel_rfl) (Ans.of (d := (.int .u64 (a0.getD (a1).toNat 0))) (d' := (.int .u64 (a0.getD (a1).toNat 0))) (e' := (.int .u64 (a0.getD (a1).toNat 0))) (by kernel_rfl) (by kernel_rfl) (by kernel_rfl) (by rw [H]))
noncomputable def divide_take_l0_s (cb : Nat → Blk) (ver : Nat) (x1 : Int) (x2 : List Int) (x3 : Int) (x9 : Int) (x10 : Int) (x15 : Int) (x16 : Int) (r35 : List Int) (n35 : Nat) (j : Nat → D) (jb : Nat → Blk) (vs : Nat → Nat) : Cf := cfAt Tryz.f221 [1, 1, 0, 1, 0] ⟨[.sref 35 ver 1 0 n35, .int .i64 x1, .ints .u64 x2, .int .u64 x3, j 4, j 5, j 6, j 7, j 8, .int .u64 x9, .int .u64 x10, j 11, j 12, j 13, j 14, .int .i64 x15, .int .i64 x16, j 17, j 18, j 19, j 20, j 21, j 22, j 23, j 24, j 25, j 26, j 27, j 28, j 29, j 30, j 31, j 32, j 33, j 34, j 35, j 36, j 37, j 38, j 39, j 40, j 41, j 42, j 43, j 44, j 45, j 46, j 47], [cb 0, cb 1, cb 2, cb 3, cb 4, cb 5, cb 6, cb 7, cb 8, cb 9, cb 10, cb 11, cb 12, cb 13, cb 14, cb 15, cb 16, cb 17, cb 18, cb 19, cb 20, cb 21, cb 22, cb 23, cb 24, cb 25, cb 26, cb 27, cb 28, cb 29, cb 30, cb 31, cb 32, cb 33, cb 34, ⟨ver, false, .ints .u64 r35⟩, cb 36, cb 37, cb 38, cb 39, cb 40, cb 41, cb 42, cb 43, cb 44, cb 45, cb 46, cb 47, cb 48, cb 49, cb 50, cb 51, cb 52, cb 53, cb 54, cb 55, cb 56, cb 57, cb 58, cb 59, cb 60, cb 61, cb 62, cb 63, cb 64, cb 65, cb 66, cb 67, cb 68, cb 69, cb 70, cb 71, cb 72, cb 73, cb 74, cb 75, cb 76, cb 77, cb 78, cb 79, cb 80, cb 81, cb 82, cb 83, cb 84, cb 85, cb 86, cb 87, cb 88, cb 89, cb 90, cb 91, cb 92, cb 93, cb 94, cb 95, cb 96, cb 97, cb 98, cb 99, cb 100, cb 101, cb 102, cb 103, noBlk, noBlk, noBlk, noBlk, noBlk, noBlk, noBlk, noBlk, noBlk, noBlk, noBlk, noBlk, noBlk, noBlk, noBlk, noBlk, noBlk, noBlk, noBlk, noBlk, noBlk, noBlk, noBlk, noBlk, noBlk, noBlk, noBlk, noBlk, noBlk, noBlk, noBlk, noBlk, noBlk, noBlk, noBlk, noBlk, noBlk, noBlk, noBlk, noBlk, noBlk, noBlk, noBlk, noBlk, noBlk, noBlk, noBlk, noBlk]⟩
def divide_take_l0 (cb : Nat → Blk) (ver : Nat) (x1 : Int) (x2 : List Int) (x3 : Int) (x9 : Int) (x10 : Int) (x15 : Int) (x16 : Int) (r35 : List Int) (z : Bool) (ys : List Int) : Prop := ∀ n35, n35 = r35.length → ∀ j jb vs, W C F 221 104 (divide_take_l0_s cb ver x1 x2 x3 x9 x10 x15 x16 r35 n35 j jb vs) (SAns C Tryz.f221 104 (.bool z) [cb 0, cb 1, cb 2, cb 3, cb 4, cb 5, cb 6, cb 7, cb 8, cb 9, cb 10, cb 11, cb 12, cb 13, cb 14, cb 15, cb 16, cb 17, cb 18, cb 19, cb 20, cb 21, cb 22, cb 23, cb 24, cb 25, cb 26, cb 27, cb 28, cb 29, cb 30, cb 31, cb 32, cb 33, cb 34, ⟨ver, false, .ints .u64 ys⟩, cb 36, cb 37, cb 38, cb 39, cb 40, cb 41, cb 42, cb 43, cb 44, cb 45, cb 46, cb 47, cb 48, cb 49, cb 50, cb 51, cb 52, cb 53, cb 54, cb 55, cb 56, cb 57, cb 58, cb 59, cb 60, cb 61, cb 62, cb 63, cb 64, cb 65, cb 66, cb 67, cb 68, cb 69, cb 70, cb 71, cb 72, cb 73, cb 74, cb 75, cb 76, cb 77, cb 78, cb 79, cb 80, cb 81, cb 82, cb 83, cb 84, cb 85, cb 86, cb 87, cb 88, cb 89, cb 90, cb 91, cb 92, cb 93, cb 94, cb 95, cb 96, cb 97, cb 98, cb 99, cb 100, cb 101, cb 102, cb 103])
theorem divide_take_l0_go {cb : Nat → Blk} {ver : Nat} {x1 : Int} {x2 : List Int} {x3 : Int} {x9 : Int} {x10 : Int} {x15 : Int} {x16 : Int} {r35 : List Int} {z : Bool} {ys : List Int} (H : ((x16 < x15 ∧ (∃ c2 : Int, (divide_at_R x2 x16 c2 ∧ (∃ c4t0 : Int, (∃ c4t1 : Int, (limb_Mul_R x3 c2 x9 0 c4t0 c4t1 ∧ (0 ≤ (wi (x1 + x16)) ∧ ((wi (x1 + x16)) < (r35.length : Int) ∧ (∃ c8t0 : Int, (∃ c8t1 : Int, (limb_Sub_R (r35.getD (wi (x1 + x16)).toNat 0) c4t0 x10 c8t0 c8t1 ∧ (∃ y10, y10 = r35.set (wi (x1 + x16)).toNat c8t0 ∧ (divide_take_l0 cb ver x1 x2 x3 c4t1 c8t1 x15 (wi (x16 + 1)) y10 z ys))))))))))))) ∨ (¬ x16 < x15 ∧ (z = (decide (0 < x10)) ∧ ys = r35)))) : divide_take_l0 cb ver x1 x2 x3 x9 x10 x15 x16 r35 z ys := by
 intro n35 ln_35 j jb vs
 refine W.adv 1 ?_
 refine W.adv 6 ?_
 rcases H with ⟨h1, H⟩ | ⟨h1, H⟩
 ·refine W.cond true (w := (decide (x16 < x15))) (by kernel_rfl) (decide_eq_true h1) ?_
  refine W.adv 20 ?_
  obtain ⟨c2, hc3, H⟩ := H
  refine W.callR (g := 225) (ds := [.ints .u64 x2, .int .i64 x16]) (es := [.ints .u64 x2, .int .i64 x16]) (r := (.int .u64 c2)) (by kernel_rfl) (by kernel_rfl) (Ic.args hc3 (by kernel_rfl)) (by kernel_rfl) ?_
  refine W.adv 1 ?_
  obtain ⟨c4t0, c4t1, hc5, H⟩ := H
  refine W.callR (g := 214) (ds := [.int .u64 x3, .int .u64 c2, .int .u64 x9, .int .u64 0]) (es := [.int .u64 x3, .int .u64 c2, .int .u64 x9, .int .u64 0]) (r := (.tuple [.int .u64 c4t0, .int .u64 c4t1])) (by kernel_rfl) (by kernel_rfl) (Ic.args hc5 (by kernel_rfl)) (by kernel_rfl) ?_
  refine W.adv 16 ?_
  obtain ⟨h6, h7, H⟩ := H
  refine W.opS (OpIs.ixR (k' := .i64) (b := 35) (v := ver) (sz := 1) (len := n35) (i := (wi (x1 + x16))) (by kernel_rfl) h6 (by rw [ln_35]; exact h7)) ?_
  refine W.opS (OpIs.ldI (b := 35) (v := ver) (i := (wi (x1 + x16)).toNat) (w := ver) (fz := false) (k := .u64) (xs := r35) (by kernel_rfl) rfl (by omega)) ?_
  refine W.adv 2 ?_
  obtain ⟨c8t0, c8t1, hc9, H⟩ := H
  refine W.callR (g := 186) (ds := [(.int .u64 (r35.getD (wi (x1 + x16)).toNat 0)), .int .u64 c4t0, .int .u64 x10]) (es := [(.int .u64 (r35.getD (wi (x1 + x16)).toNat 0)), .int .u64 c4t0, .int .u64 x10]) (r := (.tuple [.int .u64 c8t0, .int .u64 c8t1])) (by kernel_rfl) (by kernel_rfl) (Ic.args hc9 (by kernel_rfl)) (by kernel_rfl) ?_
  refine W.adv 3 ?_
  refine W.opS (OpIs.ixR (k' := .i64) (b := 35) (v := ver) (sz := 1) (len := n35) (i := (wi (x1 + x16))) (by kernel_rfl) h6 (by rw [ln_35]; exact h7)) ?_
  obtain ⟨y10, hy11, H⟩ := H
  have ln12 : n35 = y10.length := by rw [hy11, List.length_set]; exact ln_35
  refine W.opH (OpIs.stN (b := 35) (v := ver) (i := (wi (x1 + x16)).toNat) (w := ver) (k := .u64) (xs := r35) (n := c8t0) (by kernel_rfl) hy11 rfl (by omega)) ?_
  refine W.adv 9 ?_
  exact W.to_loop (P := divide_take_l0_s cb ver x1 x2 x3 c4t1 c8t1 x15 (wi (x16 + 1)) y10 n35) (H _ ln12) (by kernel_rfl)
 ·refine W.cond false (w := (decide (x16 < x15))) (by kernel_rfl) (decide_eq_false h1) ?_
  refine W.adv 13 ?_
  exact W.fin (x := .ret) (by kernel_rfl) (SAns.of (d0 := (.bool (decide (0 < x10)))) (h0 := [cb 0, cb 1, cb 2, cb 3, cb 4, cb 5, cb 6, cb 7, cb 8, cb 9, cb 10, cb 11, cb 12, cb 13, cb 14, cb 15, cb 16, cb 17, cb 18, cb 19, cb 20, cb 21, cb 22, cb 23, cb 24, cb 25, cb 26, cb 27, cb 28, cb 29, cb 30, cb 31, cb 32, cb 33, cb 34, ⟨ver, false, .ints .u64 r35⟩, cb 36, cb 37, cb 38, cb 39, cb 40, cb 41, cb 42, cb 43, cb 44, cb 45, cb 46, cb 47, cb 48, cb 49, cb 50, cb 51, cb 52, cb 53, cb 54, cb 55, cb 56, cb 57, cb 58, cb 59, cb 60, cb 61, cb 62, cb 63, cb 64, cb 65, cb 66, cb 67, cb 68, cb 69, cb 70, cb 71, cb 72, cb 73, cb 74, cb 75, cb 76, cb 77, cb 78, cb 79, cb 80, cb 81, cb 82, cb 83, cb 84, cb 85, cb 86, cb 87, cb 88, cb 89, cb 90, cb 91, cb 92, cb 93, cb 94, cb 95, cb 96, cb 97, cb 98, cb 99, cb 100, cb 101, cb 102, cb 103]) (by kernel_rfl) (by rw [H.1]) (by kernel_rfl) (by rw [H.2]))
theorem divide_take_go {xs : List Int} {a1 : Int} {a2 : List Int} {a3 : Int} {z : Bool} {ys : List Int} (H : ∀ (cb : Nat → Blk) (ver : Nat), (divide_take_l0 cb ver a1 a2 a3 0 0 (wi ((a2.length : Int) + 1)) 0 xs z ys)) : divide_take_R xs a1 a2 a3 z ys := by
 intro cb ver n ln
 replace H := H cb ver
 refine W.sc (n := 104) Tryz.func221 (by kernel_rfl) (by kernel_rfl) (by kernel_rfl) (by kernel_rfl) ?_
 refine W.adv 21 ?_
 exact W.to_loop (P := divide_take_l0_s cb ver a1 a2 a3 0 0 (wi ((a2.length : Int) + 1)) 0 xs n) (H _ ln) (by kernel_rfl)
noncomputable def divide_give_l0_s (cb : Nat → Blk) (ver : Nat) (x1 : Int) (x2 : List Int) (x6 : Int) (x10 : Int) (x11 : Int) (r35 : List Int) (n35 : Nat) (j : Nat → D) (jb : Nat → Blk) (vs : Nat → Nat) : Cf := cfAt Tryz.f222 [1, 1, 0] ⟨[.sref 35 ver 1 0 n35, .int .i64 x1, .ints .u64 x2, j 3, j 4, j 5, .int .u64 x6, j 7, j 8, j 9, .int .i64 x10, .int .i64 x11, j 12, j 13, j 14, j 15, j 16, j 17, j 18, j 19, j 20, j 21, j 22, j 23, j 24, j 25, j 26, j 27, j 28, j 29, j 30, j 31, j 32, j 33], [cb 0, cb 1, cb 2, cb 3, cb 4, cb 5, cb 6, cb 7, cb 8, cb 9, cb 10, cb 11, cb 12, cb 13, cb 14, cb 15, cb 16, cb 17, cb 18, cb 19, cb 20, cb 21, cb 22, cb 23, cb 24, cb 25, cb 26, cb 27, cb 28, cb 29, cb 30, cb 31, cb 32, cb 33, cb 34, ⟨ver, false, .ints .u64 r35⟩, cb 36, cb 37, cb 38, cb 39, cb 40, cb 41, cb 42, cb 43, cb 44, cb 45, cb 46, cb 47, cb 48, cb 49, cb 50, cb 51, cb 52, cb 53, cb 54, cb 55, cb 56, cb 57, cb 58, cb 59, cb 60, cb 61, cb 62, cb 63, cb 64, cb 65, cb 66, cb 67, cb 68, cb 69, cb 70, cb 71, cb 72, cb 73, cb 74, cb 75, cb 76, cb 77, cb 78, cb 79, cb 80, cb 81, cb 82, cb 83, cb 84, cb 85, cb 86, cb 87, cb 88, cb 89, cb 90, cb 91, cb 92, cb 93, cb 94, cb 95, cb 96, cb 97, cb 98, cb 99, cb 100, cb 101, cb 102, cb 103, noBlk, noBlk, noBlk, noBlk, noBlk, noBlk, noBlk, noBlk, noBlk, noBlk, noBlk, noBlk, noBlk, noBlk, noBlk, noBlk, noBlk, noBlk, noBlk, noBlk, noBlk, noBlk, noBlk, noBlk, noBlk, noBlk, noBlk, noBlk, noBlk, noBlk, noBlk, noBlk, noBlk, noBlk]⟩
def divide_give_l0 (cb : Nat → Blk) (ver : Nat) (x1 : Int) (x2 : List Int) (x6 : Int) (x10 : Int) (x11 : Int) (r35 : List Int) (ys : List Int) : Prop := ∀ n35, n35 = r35.length → ∀ j jb vs, W C F 222 104 (divide_give_l0_s cb ver x1 x2 x6 x10 x11 r35 n35 j jb vs) (SAns C Tryz.f222 104 (.tuple []) [cb 0, cb 1, cb 2, cb 3, cb 4, cb 5, cb 6, cb 7, cb 8, cb 9, cb 10, cb 11, cb 12, cb 13, cb 14, cb 15, cb 16, cb 17, cb 18, cb 19, cb 20, cb 21, cb 22, cb 23, cb 24, cb 25, cb 26, cb 27, cb 28, cb 29, cb 30, cb 31, cb 32, cb 33, cb 34, ⟨ver, false, .ints .u64 ys⟩, cb 36, cb 37, cb 38, cb 39, cb 40, cb 41, cb 42, cb 43, cb 44, cb 45, cb 46, cb 47, cb 48, cb 49, cb 50, cb 51, cb 52, cb 53, cb 54, cb 55, cb 56, cb 57, cb 58, cb 59, cb 60, cb 61, cb 62, cb 63, cb 64, cb 65, cb 66, cb 67, cb 68, cb 69, cb 70, cb 71, cb 72, cb 73, cb 74, cb 75, cb 76, cb 77, cb 78, cb 79, cb 80, cb 81, cb 82, cb 83, cb 84, cb 85, cb 86, cb 87, cb 88, cb 89, cb 90, cb 91, cb 92, cb 93, cb 94, cb 95, cb 96, cb 97, cb 98, cb 99, cb 100, cb 101, cb 102, cb 103])
theorem divide_give_l0_go {cb : Nat → Blk} {ver : Nat} {x1 : Int} {x2 : List Int} {x6 : Int} {x10 : Int} {x11 : Int} {r35 : List Int} {ys : List Int} (H : ((x11 < x10 ∧ (0 ≤ (wi (x1 + x11)) ∧ ((wi (x1 + x11)) < (r35.length : Int) ∧ (∃ c4 : Int, (divide_at_R x2 x11 c4 ∧ (∃ c6t0 : Int, (∃ c6t1 : Int, (limb_Add_R (r35.getD (wi (x1 + x11)).toNat 0) c4 x6 c6t0 c6t1 ∧ (∃ y8, y8 = r35.set (wi (x1 + x11)).toNat c6t0 ∧ (divide_give_l0 cb ver x1 x2 c6t1 x10 (wi (x11 + 1)) y8 ys)))))))))) ∨ (¬ x11 < x10 ∧ (ys = r35)))) : divide_give_l0 cb ver x1 x2 x6 x10 x11 r35 ys := by
 intro n35 ln_35 j jb vs
 refine W.adv 1 ?_
 refine W.adv 6 ?_
 rcases H with ⟨h1, H⟩ | ⟨h1, H⟩
 ·refine W.cond true (w := (decide (x11 < x10))) (by kernel_rfl) (decide_eq_true h1) ?_
  refine W.adv 19 ?_
  obtain ⟨h2, h3, H⟩ := H
  refine W.opS (OpIs.ixR (k' := .i64) (b := 35) (v := ver) (sz := 1) (len := n35) (i := (wi (x1 + x11))) (by kernel_rfl) h2 (by rw [ln_35]; exact h3)) ?_
  refine W.opS (OpIs.ldI (b := 35) (v := ver) (i := (wi (x1 + x11)).toNat) (w := ver) (fz := false) (k := .u64) (xs := r35) (by kernel_rfl) rfl (by omega)) ?_
  refine W.adv 2 ?_
  obtain ⟨c4, hc5, H⟩ := H
  refine W.callR (g := 225) (ds := [.ints .u64 x2, .int .i64 x11]) (es := [.ints .u64 x2, .int .i64 x11]) (r := (.int .u64 c4)) (by kernel_rfl) (by kernel_rfl) (Ic.args hc5 (by kernel_rfl)) (by kernel_rfl) ?_
  refine W.adv 1 ?_
  obtain ⟨c6t0, c6t1, hc7, H⟩ := H
  refine W.callR (g := 181) (ds := [(.int .u64 (r35.getD (wi (x1 + x11)).toNat 0)), .int .u64 c4, .int .u64 x6]) (es := [(.int .u64 (r35.getD (wi (x1 + x11)).toNat 0)), .int .u64 c4, .int .u64 x6]) (r := (.tuple [.int .u64 c6t0, .int .u64 c6t1])) (by kernel_rfl) (by kernel_rfl) (Ic.args hc7 (by kernel_rfl)) (by kernel_rfl) ?_
  refine W.adv 3 ?_
  refine W.opS (OpIs.ixR (k' := .i64) (b := 35) (v := ver) (sz := 1) (len := n35) (i := (wi (x1 + x11))) (by kernel_rfl) h2 (by rw [ln_35]; exact h3)) ?_
  obtain ⟨y8, hy9, H⟩ := H
  have ln10 : n35 = y8.length := by rw [hy9, List.length_set]; exact ln_35
  refine W.opH (OpIs.stN (b := 35) (v := ver) (i := (wi (x1 + x11)).toNat) (w := ver) (k := .u64) (xs := r35) (n := c6t0) (by kernel_rfl) hy9 rfl (by omega)) ?_
  refine W.adv 9 ?_
  exact W.to_loop (P := divide_give_l0_s cb ver x1 x2 c6t1 x10 (wi (x11 + 1)) y8 n35) (H _ ln10) (by kernel_rfl)
 ·refine W.cond false (w := (decide (x11 < x10))) (by kernel_rfl) (decide_eq_false h1) ?_
  refine W.adv 4 ?_
  exact W.fin (x := .normal) (by kernel_rfl) (SAns.of (d0 := (.tuple [])) (h0 := [cb 0, cb 1, cb 2, cb 3, cb 4, cb 5, cb 6, cb 7, cb 8, cb 9, cb 10, cb 11, cb 12, cb 13, cb 14, cb 15, cb 16, cb 17, cb 18, cb 19, cb 20, cb 21, cb 22, cb 23, cb 24, cb 25, cb 26, cb 27, cb 28, cb 29, cb 30, cb 31, cb 32, cb 33, cb 34, ⟨ver, false, .ints .u64 r35⟩, cb 36, cb 37, cb 38, cb 39, cb 40, cb 41, cb 42, cb 43, cb 44, cb 45, cb 46, cb 47, cb 48, cb 49, cb 50, cb 51, cb 52, cb 53, cb 54, cb 55, cb 56, cb 57, cb 58, cb 59, cb 60, cb 61, cb 62, cb 63, cb 64, cb 65, cb 66, cb 67, cb 68, cb 69, cb 70, cb 71, cb 72, cb 73, cb 74, cb 75, cb 76, cb 77, cb 78, cb 79, cb 80, cb 81, cb 82, cb 83, cb 84, cb 85, cb 86, cb 87, cb 88, cb 89, cb 90, cb 91, cb 92, cb 93, cb 94, cb 95, cb 96, cb 97, cb 98, cb 99, cb 100, cb 101, cb 102, cb 103]) (by kernel_rfl) rfl (by kernel_rfl) (by rw [H]))
theorem divide_give_go {xs : List Int} {a1 : Int} {a2 : List Int} {ys : List Int} (H : ∀ (cb : Nat → Blk) (ver : Nat), (divide_give_l0 cb ver a1 a2 0 (wi ((a2.length : Int) + 1)) 0 xs ys)) : divide_give_R xs a1 a2 ys := by
 intro cb ver n ln
 replace H := H cb ver
 refine W.sc (n := 104) Tryz.func222 (by kernel_rfl) (by kernel_rfl) (by kernel_rfl) (by kernel_rfl) ?_
 refine W.adv 14 ?_
 exact W.to_loop (P := divide_give_l0_s cb ver a1 a2 0 (wi ((a2.length : Int) + 1)) 0 xs n) (H _ ln) (by kernel_rfl)
end Go.Proofs.YtjcdkemnflmfiaaGreatA
