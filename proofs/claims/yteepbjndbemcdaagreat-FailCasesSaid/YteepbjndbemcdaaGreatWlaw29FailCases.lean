/- Walks through the functions: what makes each relation true. -/
import Derived.Test.YteepbjndbemcdaaGreatW0
set_option linter.unusedVariables false
set_option maxRecDepth 100000
namespace Go.Proofs.YteepbjndbemcdaaGreatA
open Go Go.Proofs
/-! ### trivium/triviumlaw29.FailCases -/
noncomputable def law29_FailCases_l0_s (x0 : List T_api_Rat) (x1 : Int) (x2 : Int) (x8 : Int) (x9 : Int) (j : Nat → D) (jb : Nat → Blk) (vs : Nat → Nat) : Cf := cfAt Tryz.f4 [1, 1, 1, 0, 1, 0] ⟨[(.list 3 (x0.map E_api_Rat)), (.int .u64 x1), (.int .i64 x2), (j 3), (j 4), (j 5), (j 6), .nilS, (.int .u64 x8), (.int .i64 x9), (j 10), (j 11), (j 12), (j 13), (j 14), (j 15), (j 16), (j 17), (j 18), (j 19), (j 20), (j 21), (j 22), (j 23), (j 24), (j 25), (j 26), (j 27), (j 28), (j 29), (j 30), (j 31), (j 32), (j 33), (j 34), (j 35), (j 36), (j 37), (j 38), (j 39), (j 40), (j 41), (j 42), (j 43), (j 44), (j 45), (j 46), (j 47), (j 48), (j 49), (j 50), (j 51), (j 52), (j 53), (j 54), (j 55), (j 56), (j 57), (j 58), (j 59), (j 60), (j 61), (j 62), (j 63), (j 64), (j 65), (j 66), (j 67), (j 68), (j 69), (j 70), (j 71), (j 72), (j 73), (j 74), (j 75), (j 76), (j 77), (j 78), (j 79), (j 80), (j 81), (j 82), (j 83), (j 84), (j 85), (j 86), (j 87), (j 88), (j 89), (j 90), (j 91), (j 92), (j 93), (j 94), (j 95), (j 96), (j 97), (j 98), (j 99), (j 100), (j 101), (j 102), (j 103), (j 104), (j 105), (j 106), (j 107), (j 108), (j 109), (j 110), (j 111), (j 112), (j 113), (j 114), (j 115), (j 116), (j 117), (j 118), (j 119), (j 120), (j 121), (j 122), (j 123), (j 124), (j 125), (j 126)], [(jb 0), (jb 1), (jb 2), (jb 3), (jb 4), (jb 5), (jb 6), (jb 7), (jb 8), (jb 9), (jb 10), (jb 11), (jb 12), (jb 13), (jb 14), (jb 15), (jb 16), (jb 17), (jb 18), (jb 19), (jb 20), (jb 21), (jb 22), (jb 23), (jb 24), (jb 25), (jb 26), (jb 27), (jb 28), (jb 29), (jb 30), (jb 31), (jb 32), (jb 33), (jb 34), (jb 35), (jb 36), (jb 37), (jb 38), (jb 39), (jb 40), (jb 41), (jb 42), (jb 43), (jb 44), (jb 45), (jb 46), (jb 47), (jb 48), (jb 49), (jb 50), (jb 51), (jb 52), (jb 53), (jb 54), (jb 55), (jb 56), (jb 57), (jb 58), (jb 59), (jb 60), (jb 61), (jb 62), (jb 63), (jb 64), (jb 65), (jb 66), (jb 67), (jb 68), (jb 69), (jb 70), (jb 71), (jb 72), (jb 73), (jb 74), (jb 75), (jb 76), (jb 77), (jb 78), (jb 79), (jb 80), (jb 81), (jb 82), (jb 83), (jb 84), (jb 85), (jb 86), (jb 87), (jb 88), (jb 89), (jb 90), (jb 91), (jb 92), (jb 93), (jb 94), (jb 95), (jb 96), (jb 97), (jb 98), (jb 99), (jb 100), (jb 101), (jb 102), (jb 103), (jb 104), (jb 105), (jb 106), (jb 107), (jb 108), (jb 109), (jb 110), (jb 111), (jb 112), (jb 113), (jb 114), (jb 115), (jb 116), (jb 117), (jb 118), (jb 119), (jb 120), (jb 121), (jb 122), (jb 123), (jb 124), (jb 125), (jb 126)]⟩
def law29_FailCases_l0 (x0 : List T_api_Rat) (x1 : Int) (x2 : Int) (x8 : Int) (x9 : Int) (z : Bool) : Prop := ∀ j jb vs, W C F 4 0 (law29_FailCases_l0_s x0 x1 x2 x8 x9  j jb vs) (LAns C Tryz.f4 z)
noncomputable def law29_FailCases_l1_s (x0 : List T_api_Rat) (x1 : Int) (x2 : Int) (x8 : Int) (x9 : Int) (r34 : List Int) (n34 : Nat) (j : Nat → D) (jb : Nat → Blk) (vs : Nat → Nat) : Cf := cfAt Tryz.f4 [1, 1, 1, 0, 1, 0] ⟨[(.list 3 (x0.map E_api_Rat)), (.int .u64 x1), (.int .i64 x2), (j 3), (j 4), (j 5), (j 6), (.sref 34 ((vs 34) + 1) 1 0 n34), (.int .u64 x8), (.int .i64 x9), (j 10), (j 11), (j 12), (j 13), (j 14), (j 15), (j 16), (j 17), (j 18), (j 19), (j 20), (j 21), (j 22), (j 23), (j 24), (j 25), (j 26), (j 27), (j 28), (j 29), (j 30), (j 31), (j 32), (j 33), (j 34), (j 35), (j 36), (j 37), (j 38), (j 39), (j 40), (j 41), (j 42), (j 43), (j 44), (j 45), (j 46), (j 47), (j 48), (j 49), (j 50), (j 51), (j 52), (j 53), (j 54), (j 55), (j 56), (j 57), (j 58), (j 59), (j 60), (j 61), (j 62), (j 63), (j 64), (j 65), (j 66), (j 67), (j 68), (j 69), (j 70), (j 71), (j 72), (j 73), (j 74), (j 75), (j 76), (j 77), (j 78), (j 79), (j 80), (j 81), (j 82), (j 83), (j 84), (j 85), (j 86), (j 87), (j 88), (j 89), (j 90), (j 91), (j 92), (j 93), (j 94), (j 95), (j 96), (j 97), (j 98), (j 99), (j 100), (j 101), (j 102), (j 103), (j 104), (j 105), (j 106), (j 107), (j 108), (j 109), (j 110), (j 111), (j 112), (j 113), (j 114), (j 115), (j 116), (j 117), (j 118), (j 119), (j 120), (j 121), (j 122), (j 123), (j 124), (j 125), (j 126)], [(jb 0), (jb 1), (jb 2), (jb 3), (jb 4), (jb 5), (jb 6), (jb 7), (jb 8), (jb 9), (jb 10), (jb 11), (jb 12), (jb 13), (jb 14), (jb 15), (jb 16), (jb 17), (jb 18), (jb 19), (jb 20), (jb 21), (jb 22), (jb 23), (jb 24), (jb 25), (jb 26), (jb 27), (jb 28), (jb 29), (jb 30), (jb 31), (jb 32), (jb 33), ⟨((vs 34) + 1), false, .ints .i64 r34⟩, (jb 35), (jb 36), (jb 37), (jb 38), (jb 39), (jb 40), (jb 41), (jb 42), (jb 43), (jb 44), (jb 45), (jb 46), (jb 47), (jb 48), (jb 49), (jb 50), (jb 51), (jb 52), (jb 53), (jb 54), (jb 55), (jb 56), (jb 57), (jb 58), (jb 59), (jb 60), (jb 61), (jb 62), (jb 63), (jb 64), (jb 65), (jb 66), (jb 67), (jb 68), (jb 69), (jb 70), (jb 71), (jb 72), (jb 73), (jb 74), (jb 75), (jb 76), (jb 77), (jb 78), (jb 79), (jb 80), (jb 81), (jb 82), (jb 83), (jb 84), (jb 85), (jb 86), (jb 87), (jb 88), (jb 89), (jb 90), (jb 91), (jb 92), (jb 93), (jb 94), (jb 95), (jb 96), (jb 97), (jb 98), (jb 99), (jb 100), (jb 101), (jb 102), (jb 103), (jb 104), (jb 105), (jb 106), (jb 107), (jb 108), (jb 109), (jb 110), (jb 111), (jb 112), (jb 113), (jb 114), (jb 115), (jb 116), (jb 117), (jb 118), (jb 119), (jb 120), (jb 121), (jb 122), (jb 123), (jb 124), (jb 125), (jb 126)]⟩
def law29_FailCases_l1 (x0 : List T_api_Rat) (x1 : Int) (x2 : Int) (x8 : Int) (x9 : Int) (r34 : List Int) (z : Bool) : Prop := ∀ n34, n34 = r34.length → ∀ j jb vs, W C F 4 0 (law29_FailCases_l1_s x0 x1 x2 x8 x9 r34 n34 j jb vs) (LAns C Tryz.f4 z)
noncomputable def law29_FailCases_l2_s (x11 : List T_ref08_Q) (x12 : List T_fail_Case) (x13 : Int) (x14 : Int) (x15 : Int) (j : Nat → D) (jb : Nat → Blk) (vs : Nat → Nat) : Cf := cfAt Tryz.f4 [1, 1, 1, 1, 1, 1, 1, 1, 1, 1, 0, 1, 0] ⟨[(j 0), (j 1), (j 2), (j 3), (j 4), (j 5), (j 6), (j 7), (j 8), (j 9), (j 10), (.list 3 (x11.map E_ref08_Q)), (.list 4 (x12.map E_fail_Case)), (.int .i64 x13), (.int .i64 x14), (.int .u64 x15), (j 16), (j 17), (j 18), (j 19), (j 20), (j 21), (j 22), (j 23), (j 24), (j 25), (j 26), (j 27), (j 28), (j 29), (j 30), (j 31), (j 32), (j 33), (j 34), (j 35), (j 36), (j 37), (j 38), (j 39), (j 40), (j 41), (j 42), (j 43), (j 44), (j 45), (j 46), (j 47), (j 48), (j 49), (j 50), (j 51), (j 52), (j 53), (j 54), (j 55), (j 56), (j 57), (j 58), (j 59), (j 60), (j 61), (j 62), (j 63), (j 64), (j 65), (j 66), (j 67), (j 68), (j 69), (j 70), (j 71), (j 72), (j 73), (j 74), (j 75), (j 76), (j 77), (j 78), (j 79), (j 80), (j 81), (j 82), (j 83), (j 84), (j 85), (j 86), (j 87), (j 88), (j 89), (j 90), (j 91), (j 92), (j 93), (j 94), (j 95), (j 96), (j 97), (j 98), (j 99), (j 100), (j 101), (j 102), (j 103), (j 104), (j 105), (j 106), (j 107), (j 108), (j 109), (j 110), (j 111), (j 112), (j 113), (j 114), (j 115), (j 116), (j 117), (j 118), (j 119), (j 120), (j 121), (j 122), (j 123), (j 124), (j 125), (j 126)], [(jb 0), (jb 1), (jb 2), (jb 3), (jb 4), (jb 5), (jb 6), (jb 7), (jb 8), (jb 9), (jb 10), (jb 11), (jb 12), (jb 13), (jb 14), (jb 15), (jb 16), (jb 17), (jb 18), (jb 19), (jb 20), (jb 21), (jb 22), (jb 23), (jb 24), (jb 25), (jb 26), (jb 27), (jb 28), (jb 29), (jb 30), (jb 31), (jb 32), (jb 33), (jb 34), (jb 35), (jb 36), (jb 37), (jb 38), (jb 39), (jb 40), (jb 41), (jb 42), (jb 43), (jb 44), (jb 45), (jb 46), (jb 47), (jb 48), (jb 49), (jb 50), (jb 51), (jb 52), (jb 53), (jb 54), (jb 55), (jb 56), (jb 57), (jb 58), (jb 59), (jb 60), (jb 61), (jb 62), (jb 63), (jb 64), (jb 65), (jb 66), (jb 67), (jb 68), (jb 69), (jb 70), (jb 71), (jb 72), (jb 73), (jb 74), (jb 75), (jb 76), (jb 77), (jb 78), (jb 79), (jb 80), (jb 81), (jb 82), (jb 83), (jb 84), (jb 85), (jb 86), (jb 87), (jb 88), (jb 89), (jb 90), (jb 91), (jb 92), (jb 93), (jb 94), (jb 95), (jb 96), (jb 97), (jb 98), (jb 99), (jb 100), (jb 101), (jb 102), (jb 103), (jb 104), (jb 105), (jb 106), (jb 107), (jb 108), (jb 109), (jb 110), (jb 111), (jb 112), (jb 113), (jb 114), (jb 115), (jb 116), (jb 117), (jb 118), (jb 119), (jb 120), (jb 121), (jb 122), (jb 123), (jb 124), (jb 125), (jb 126)]⟩
def law29_FailCases_l2 (x11 : List T_ref08_Q) (x12 : List T_fail_Case) (x13 : Int) (x14 : Int) (x15 : Int) (z : Bool) : Prop := ∀ j jb vs, W C F 4 0 (law29_FailCases_l2_s x11 x12 x13 x14 x15  j jb vs) (LAns C Tryz.f4 z)
theorem law29_FailCases_l0_go {x0 : List T_api_Rat} {x1 : Int} {x2 : Int} {x8 : Int} {x9 : Int} {z : Bool} (H : ((x9 < 64 ∧ (((x8.tmod 2) = 1 ∧ ((x9 < x2 ∧ ((1 + 192) * (8 + 1) ≤ 70368744177664 ∧ (∃ y4, y4 = [x9] ∧ (law29_FailCases_l1 x0 x1 x2 (wu (x8.tdiv 2)) (wi (x9 + 1)) y4 z)))) ∨ (¬ x9 < x2 ∧ (law29_FailCases_l0 x0 x1 x2 (wu (x8.tdiv 2)) (wi (x9 + 1)) z)))) ∨ (¬ (x8.tmod 2) = 1 ∧ (law29_FailCases_l0 x0 x1 x2 (wu (x8.tdiv 2)) (wi (x9 + 1)) z)))) ∨ (¬ x9 < 64 ∧ (∃ c8 : List Int, (fail_Lives_R x1 x2 c8 ∧ (∃ c10 : Bool, (triviumbase_SameInts_R c8 [] c10 ∧ ((c10 = true ∧ (∃ c13t0 : List T_api_Rat, (∃ c13t1 : List T_ref08_Q, (law29_few_R x0 9 c13t0 c13t1 ∧ ((5 < (c13t1.length : Int) ∧ (((c13t1.length : Int) < 9 ∧ (5 ≤ (c13t0.length : Int) ∧ (5 ≤ (c13t1.length : Int) ∧ (∃ c19t0 : List T_fail_Case, (∃ c19t1 : Int, (fail_All_R (c13t0.take 5) c19t0 c19t1 ∧ (∃ c21 : Bool, (ref29_Right_R (c13t1.take 5) c21 ∧ ((c21 = true ∧ (law29_FailCases_l2 (c13t1.take 5) c19t0 c19t1 0 0 z)) ∨ (¬ c21 = true ∧ ((c19t1 = 2 ∧ (((c19t0.length : Int) = 0 ∧ (∃ c26 : Bool, (law29_works_R c26 ∧ (z = c26)))) ∨ (¬ (c19t0.length : Int) = 0 ∧ (z = false)))) ∨ (¬ c19t1 = 2 ∧ (z = false))))))))))))) ∨ (¬ (c13t1.length : Int) < 9 ∧ (∃ c28t0 : List T_fail_Case, (∃ c28t1 : Int, (fail_All_R c13t0 c28t0 c28t1 ∧ (∃ c30 : Bool, (ref29_Right_R c13t1 c30 ∧ ((c30 = true ∧ (law29_FailCases_l2 c13t1 c28t0 c28t1 0 0 z)) ∨ (¬ c30 = true ∧ ((c28t1 = 2 ∧ (((c28t0.length : Int) = 0 ∧ (∃ c35 : Bool, (law29_works_R c35 ∧ (z = c35)))) ∨ (¬ (c28t0.length : Int) = 0 ∧ (z = false)))) ∨ (¬ c28t1 = 2 ∧ (z = false))))))))))))) ∨ (¬ 5 < (c13t1.length : Int) ∧ (∃ c37t0 : List T_fail_Case, (∃ c37t1 : Int, (fail_All_R c13t0 c37t0 c37t1 ∧ (∃ c39 : Bool, (ref29_Right_R c13t1 c39 ∧ ((c39 = true ∧ (law29_FailCases_l2 c13t1 c37t0 c37t1 0 0 z)) ∨ (¬ c39 = true ∧ ((c37t1 = 2 ∧ (((c37t0.length : Int) = 0 ∧ (∃ c44 : Bool, (law29_works_R c44 ∧ (z = c44)))) ∨ (¬ (c37t0.length : Int) = 0 ∧ (z = false)))) ∨ (¬ c37t1 = 2 ∧ (z = false)))))))))))))))) ∨ (¬ c10 = true ∧ (z = false)))))))))) : law29_FailCases_l0 x0 x1 x2 x8 x9 z := by
  intro j jb vs
  refine W.adv 1 ?_
  refine W.adv 7 ?_
  rcases H with ⟨h1, H⟩ | ⟨h1, H⟩
  · refine W.cond true (w := (decide (x9 < 64))) (by kernel_rfl) (decide_eq_true h1) ?_
    refine W.adv 11 ?_
    rcases H with ⟨h2, H⟩ | ⟨h2, H⟩
    · refine W.guard true (w := ((decide ((x8.tmod 2) = 1)) == true)) (by kernel_rfl) (congrArg (fun b => b == true) (decide_eq_true h2)) ?_
      refine W.adv 1 ?_
      refine W.guard true (w := ((decide ((x8.tmod 2) = 1)) == true)) (by kernel_rfl) (congrArg (fun b => b == true) (decide_eq_true h2)) ?_
      refine W.adv 1 ?_
      refine W.guard true (w := ((decide ((x8.tmod 2) = 1)) == true)) (by kernel_rfl) (congrArg (fun b => b == true) (decide_eq_true h2)) ?_
      refine W.adv 1 ?_
      refine W.opS (OpIs.pk true (t := (decide ((x8.tmod 2) = 1))) (x := (.bool (decide (x9 < x2)))) (y := (.bool false)) (by kernel_rfl) (decide_eq_true h2)) ?_
      refine W.adv 2 ?_
      rcases H with ⟨h3, H⟩ | ⟨h3, H⟩
      · refine W.cond true (w := (decide (x9 < x2))) (by kernel_rfl) (decide_eq_true h3) ?_
        refine W.adv 4 ?_
        obtain ⟨h7, H⟩ := H
        obtain ⟨y4, hy5, H⟩ := H
        have ln6 : 1 = y4.length := by rw [hy5] <;> rfl
        refine W.opH (OpIs.apNil (y := (.lit (.ints .i64 [x9]))) (B := none) (n := 8) (d := 34) (v := (jb 34).ver) (k := .i64) (ys := [x9]) (by kernel_rfl) (by kernel_rfl) hy5 h7) ?_
        refine W.adv 16 ?_
        exact W.to_loop (P := law29_FailCases_l1_s x0 x1 x2 (wu (x8.tdiv 2)) (wi (x9 + 1)) y4 1) (H _ ln6) (by kernel_rfl)
      · refine W.cond false (w := (decide (x9 < x2))) (by kernel_rfl) (decide_eq_false h3) ?_
        refine W.adv 15 ?_
        exact W.to_loop (P := law29_FailCases_l0_s x0 x1 x2 (wu (x8.tdiv 2)) (wi (x9 + 1))) (H ) (by kernel_rfl)
    · refine W.guard false (w := ((decide ((x8.tmod 2) = 1)) == true)) (by kernel_rfl) (congrArg (fun b => b == true) (decide_eq_false h2)) ?_
      refine W.guard false (w := ((decide ((x8.tmod 2) = 1)) == true)) (by kernel_rfl) (congrArg (fun b => b == true) (decide_eq_false h2)) ?_
      refine W.guard false (w := ((decide ((x8.tmod 2) = 1)) == true)) (by kernel_rfl) (congrArg (fun b => b == true) (decide_eq_false h2)) ?_
      refine W.opS (OpIs.pk false (t := (decide ((x8.tmod 2) = 1))) (x := (.tuple [])) (y := (.bool false)) (by kernel_rfl) (decide_eq_false h2)) ?_
      refine W.adv 18 ?_
      exact W.to_loop (P := law29_FailCases_l0_s x0 x1 x2 (wu (x8.tdiv 2)) (wi (x9 + 1))) (H ) (by kernel_rfl)
  · refine W.cond false (w := (decide (x9 < 64))) (by kernel_rfl) (decide_eq_false h1) ?_
    refine W.adv 10 ?_
    obtain ⟨c8, hc9, H⟩ := H
    refine W.callR (g := 17) (ds := [(.int .u64 x1), (.int .i64 x2)]) (es := [(.int .u64 x1), (.int .i64 x2)]) (r := (.ints .i64 c8)) (by kernel_rfl) (by kernel_rfl) (Ic.args hc9 (by kernel_rfl)) (by kernel_rfl) ?_
    refine W.adv 1 ?_
    obtain ⟨c10, hc11, H⟩ := H
    refine W.callR (g := 16) (ds := [(.ints .i64 c8), .nilS]) (es := [(.ints .i64 c8), .nilS]) (r := (.bool c10)) (by kernel_rfl) (by kernel_rfl) (Ic.args hc11 (by kernel_rfl)) (by kernel_rfl) ?_
    refine W.adv 3 ?_
    rcases H with ⟨h12, H⟩ | ⟨h12, H⟩
    · refine W.cond false (w := (!c10)) (by kernel_rfl) (congrArg (fun b => !b) h12) ?_
      refine W.adv 5 ?_
      obtain ⟨c13t0, c13t1, hc14, H⟩ := H
      refine W.callR (g := 7) (ds := [(.list 3 (x0.map E_api_Rat)), (.int .i64 9)]) (es := [(.list 3 (x0.map E_api_Rat)), (.int .i64 9)]) (r := (.tuple [(.list 3 (c13t0.map E_api_Rat)), (.list 3 (c13t1.map E_ref08_Q))])) (by kernel_rfl) (by kernel_rfl) (Ic.args hc14 (by kernel_rfl)) (by kernel_rfl) ?_
      refine W.adv 11 ?_
      refine W.opS (OpIs.ln (n := (c13t1.map E_ref08_Q).length) (m := c13t1.length) (by kernel_rfl) (by rw [List.length_map])) ?_
      refine W.adv 2 ?_
      rcases H with ⟨h15, H⟩ | ⟨h15, H⟩
      · refine W.guard true (w := ((decide (5 < (c13t1.length : Int))) == true)) (by kernel_rfl) (congrArg (fun b => b == true) (decide_eq_true h15)) ?_
        refine W.adv 1 ?_
        refine W.guard true (w := ((decide (5 < (c13t1.length : Int))) == true)) (by kernel_rfl) (congrArg (fun b => b == true) (decide_eq_true h15)) ?_
        refine W.opS (OpIs.ln (n := (c13t1.map E_ref08_Q).length) (m := c13t1.length) (by kernel_rfl) (by rw [List.length_map])) ?_
        refine W.guard true (w := ((decide (5 < (c13t1.length : Int))) == true)) (by kernel_rfl) (congrArg (fun b => b == true) (decide_eq_true h15)) ?_
        refine W.adv 1 ?_
        refine W.opS (OpIs.pk true (t := (decide (5 < (c13t1.length : Int)))) (x := (.bool (decide ((c13t1.length : Int) < 9)))) (y := (.bool false)) (by kernel_rfl) (decide_eq_true h15)) ?_
        refine W.adv 2 ?_
        rcases H with ⟨h16, H⟩ | ⟨h16, H⟩
        · refine W.cond true (w := (decide ((c13t1.length : Int) < 9))) (by kernel_rfl) (decide_eq_true h16) ?_
          refine W.adv 2 ?_
          obtain ⟨h17, H⟩ := H
          refine W.opS (OpIs.slE_hi (enc := E_api_Rat) (n := 3) (k' := .i64) (L := c13t0) (i := 5) (by kernel_rfl) (by decide) h17) ?_
          refine W.adv 1 ?_
          obtain ⟨h18, H⟩ := H
          refine W.opS (OpIs.slE_hi (enc := E_ref08_Q) (n := 3) (k' := .i64) (L := c13t1) (i := 5) (by kernel_rfl) (by decide) h18) ?_
          refine W.adv 7 ?_
          obtain ⟨c19t0, c19t1, hc20, H⟩ := H
          refine W.callR (g := 18) (ds := [(.list 3 ((c13t0.take 5).map E_api_Rat))]) (es := [(.list 3 ((c13t0.take 5).map E_api_Rat))]) (r := (.tuple [(.list 4 (c19t0.map E_fail_Case)), (.int .i64 c19t1)])) (by kernel_rfl) (by kernel_rfl) (Ic.args hc20 (by kernel_rfl)) (by kernel_rfl) ?_
          refine W.adv 11 ?_
          obtain ⟨c21, hc22, H⟩ := H
          refine W.callR (g := 10) (ds := [(.list 3 ((c13t1.take 5).map E_ref08_Q))]) (es := [(.list 3 ((c13t1.take 5).map E_ref08_Q))]) (r := (.bool c21)) (by kernel_rfl) (by kernel_rfl) (Ic.args hc22 (by kernel_rfl)) (by kernel_rfl) ?_
          refine W.adv 3 ?_
          rcases H with ⟨h23, H⟩ | ⟨h23, H⟩
          · refine W.cond false (w := (!c21)) (by kernel_rfl) (congrArg (fun b => !b) h23) ?_
            refine W.adv 14 ?_
            exact W.to_loop (P := law29_FailCases_l2_s (c13t1.take 5) c19t0 c19t1 0 0) (H ) (by kernel_rfl)
          · refine W.cond true (w := (!c21)) (by kernel_rfl) (congrArg (fun b => !b) (bfalse h23)) ?_
            refine W.adv 5 ?_
            rcases H with ⟨h24, H⟩ | ⟨h24, H⟩
            · refine W.guard true (w := ((decide (c19t1 = 2)) == true)) (by kernel_rfl) (congrArg (fun b => b == true) (decide_eq_true h24)) ?_
              refine W.adv 1 ?_
              refine W.guard true (w := ((decide (c19t1 = 2)) == true)) (by kernel_rfl) (congrArg (fun b => b == true) (decide_eq_true h24)) ?_
              refine W.opS (OpIs.ln (n := (c19t0.map E_fail_Case).length) (m := c19t0.length) (by kernel_rfl) (by rw [List.length_map])) ?_
              refine W.guard true (w := ((decide (c19t1 = 2)) == true)) (by kernel_rfl) (congrArg (fun b => b == true) (decide_eq_true h24)) ?_
              refine W.adv 1 ?_
              refine W.opS (OpIs.pk true (t := (decide (c19t1 = 2))) (x := (.bool (decide ((c19t0.length : Int) = 0)))) (y := (.bool false)) (by kernel_rfl) (decide_eq_true h24)) ?_
              refine W.adv 1 ?_
              rcases H with ⟨h25, H⟩ | ⟨h25, H⟩
              · refine W.guard true (w := ((decide ((c19t0.length : Int) = 0)) == true)) (by kernel_rfl) (congrArg (fun b => b == true) (decide_eq_true h25)) ?_
                obtain ⟨c26, hc27, H⟩ := H
                refine W.callR (g := 11) (ds := []) (es := []) (r := (.bool c26)) (by kernel_rfl) (by kernel_rfl) (Ic.args hc27 (by kernel_rfl)) (by kernel_rfl) ?_
                refine W.opS (OpIs.pk true (t := (decide ((c19t0.length : Int) = 0))) (x := (.bool c26)) (y := (.bool false)) (by kernel_rfl) (decide_eq_true h25)) ?_
                refine W.adv 5 ?_
                exact W.fin (x := .ret) (by kernel_rfl) (LAns.of (d := (.bool c26)) (by kernel_rfl) (by rw [H]))
              · refine W.guard false (w := ((decide ((c19t0.length : Int) = 0)) == true)) (by kernel_rfl) (congrArg (fun b => b == true) (decide_eq_false h25)) ?_
                refine W.opS (OpIs.pk false (t := (decide ((c19t0.length : Int) = 0))) (x := (.tuple [])) (y := (.bool false)) (by kernel_rfl) (decide_eq_false h25)) ?_
                refine W.adv 5 ?_
                exact W.fin (x := .ret) (by kernel_rfl) (LAns.of (d := (.bool false)) (by kernel_rfl) (by rw [H]))
            · refine W.guard false (w := ((decide (c19t1 = 2)) == true)) (by kernel_rfl) (congrArg (fun b => b == true) (decide_eq_false h24)) ?_
              refine W.guard false (w := ((decide (c19t1 = 2)) == true)) (by kernel_rfl) (congrArg (fun b => b == true) (decide_eq_false h24)) ?_
              refine W.guard false (w := ((decide (c19t1 = 2)) == true)) (by kernel_rfl) (congrArg (fun b => b == true) (decide_eq_false h24)) ?_
              refine W.opS (OpIs.pk false (t := (decide (c19t1 = 2))) (x := (.tuple [])) (y := (.bool false)) (by kernel_rfl) (decide_eq_false h24)) ?_
              refine W.adv 8 ?_
              exact W.fin (x := .ret) (by kernel_rfl) (LAns.of (d := (.bool false)) (by kernel_rfl) (by rw [H]))
        · refine W.cond false (w := (decide ((c13t1.length : Int) < 9))) (by kernel_rfl) (decide_eq_false h16) ?_
          refine W.adv 5 ?_
          obtain ⟨c28t0, c28t1, hc29, H⟩ := H
          refine W.callR (g := 18) (ds := [(.list 3 (c13t0.map E_api_Rat))]) (es := [(.list 3 (c13t0.map E_api_Rat))]) (r := (.tuple [(.list 4 (c28t0.map E_fail_Case)), (.int .i64 c28t1)])) (by kernel_rfl) (by kernel_rfl) (Ic.args hc29 (by kernel_rfl)) (by kernel_rfl) ?_
          refine W.adv 11 ?_
          obtain ⟨c30, hc31, H⟩ := H
          refine W.callR (g := 10) (ds := [(.list 3 (c13t1.map E_ref08_Q))]) (es := [(.list 3 (c13t1.map E_ref08_Q))]) (r := (.bool c30)) (by kernel_rfl) (by kernel_rfl) (Ic.args hc31 (by kernel_rfl)) (by kernel_rfl) ?_
          refine W.adv 3 ?_
          rcases H with ⟨h32, H⟩ | ⟨h32, H⟩
          · refine W.cond false (w := (!c30)) (by kernel_rfl) (congrArg (fun b => !b) h32) ?_
            refine W.adv 14 ?_
            exact W.to_loop (P := law29_FailCases_l2_s c13t1 c28t0 c28t1 0 0) (H ) (by kernel_rfl)
          · refine W.cond true (w := (!c30)) (by kernel_rfl) (congrArg (fun b => !b) (bfalse h32)) ?_
            refine W.adv 5 ?_
            rcases H with ⟨h33, H⟩ | ⟨h33, H⟩
            · refine W.guard true (w := ((decide (c28t1 = 2)) == true)) (by kernel_rfl) (congrArg (fun b => b == true) (decide_eq_true h33)) ?_
              refine W.adv 1 ?_
              refine W.guard true (w := ((decide (c28t1 = 2)) == true)) (by kernel_rfl) (congrArg (fun b => b == true) (decide_eq_true h33)) ?_
              refine W.opS (OpIs.ln (n := (c28t0.map E_fail_Case).length) (m := c28t0.length) (by kernel_rfl) (by rw [List.length_map])) ?_
              refine W.guard true (w := ((decide (c28t1 = 2)) == true)) (by kernel_rfl) (congrArg (fun b => b == true) (decide_eq_true h33)) ?_
              refine W.adv 1 ?_
              refine W.opS (OpIs.pk true (t := (decide (c28t1 = 2))) (x := (.bool (decide ((c28t0.length : Int) = 0)))) (y := (.bool false)) (by kernel_rfl) (decide_eq_true h33)) ?_
              refine W.adv 1 ?_
              rcases H with ⟨h34, H⟩ | ⟨h34, H⟩
              · refine W.guard true (w := ((decide ((c28t0.length : Int) = 0)) == true)) (by kernel_rfl) (congrArg (fun b => b == true) (decide_eq_true h34)) ?_
                obtain ⟨c35, hc36, H⟩ := H
                refine W.callR (g := 11) (ds := []) (es := []) (r := (.bool c35)) (by kernel_rfl) (by kernel_rfl) (Ic.args hc36 (by kernel_rfl)) (by kernel_rfl) ?_
                refine W.opS (OpIs.pk true (t := (decide ((c28t0.length : Int) = 0))) (x := (.bool c35)) (y := (.bool false)) (by kernel_rfl) (decide_eq_true h34)) ?_
                refine W.adv 5 ?_
                exact W.fin (x := .ret) (by kernel_rfl) (LAns.of (d := (.bool c35)) (by kernel_rfl) (by rw [H]))
              · refine W.guard false (w := ((decide ((c28t0.length : Int) = 0)) == true)) (by kernel_rfl) (congrArg (fun b => b == true) (decide_eq_false h34)) ?_
                refine W.opS (OpIs.pk false (t := (decide ((c28t0.length : Int) = 0))) (x := (.tuple [])) (y := (.bool false)) (by kernel_rfl) (decide_eq_false h34)) ?_
                refine W.adv 5 ?_
                exact W.fin (x := .ret) (by kernel_rfl) (LAns.of (d := (.bool false)) (by kernel_rfl) (by rw [H]))
            · refine W.guard false (w := ((decide (c28t1 = 2)) == true)) (by kernel_rfl) (congrArg (fun b => b == true) (decide_eq_false h33)) ?_
              refine W.guard false (w := ((decide (c28t1 = 2)) == true)) (by kernel_rfl) (congrArg (fun b => b == true) (decide_eq_false h33)) ?_
              refine W.guard false (w := ((decide (c28t1 = 2)) == true)) (by kernel_rfl) (congrArg (fun b => b == true) (decide_eq_false h33)) ?_
              refine W.opS (OpIs.pk false (t := (decide (c28t1 = 2))) (x := (.tuple [])) (y := (.bool false)) (by kernel_rfl) (decide_eq_false h33)) ?_
              refine W.adv 8 ?_
              exact W.fin (x := .ret) (by kernel_rfl) (LAns.of (d := (.bool false)) (by kernel_rfl) (by rw [H]))
      · refine W.guard false (w := ((decide (5 < (c13t1.length : Int))) == true)) (by kernel_rfl) (congrArg (fun b => b == true) (decide_eq_false h15)) ?_
        refine W.guard false (w := ((decide (5 < (c13t1.length : Int))) == true)) (by kernel_rfl) (congrArg (fun b => b == true) (decide_eq_false h15)) ?_
        refine W.guard false (w := ((decide (5 < (c13t1.length : Int))) == true)) (by kernel_rfl) (congrArg (fun b => b == true) (decide_eq_false h15)) ?_
        refine W.opS (OpIs.pk false (t := (decide (5 < (c13t1.length : Int)))) (x := (.tuple [])) (y := (.bool false)) (by kernel_rfl) (decide_eq_false h15)) ?_
        refine W.adv 8 ?_
        obtain ⟨c37t0, c37t1, hc38, H⟩ := H
        refine W.callR (g := 18) (ds := [(.list 3 (c13t0.map E_api_Rat))]) (es := [(.list 3 (c13t0.map E_api_Rat))]) (r := (.tuple [(.list 4 (c37t0.map E_fail_Case)), (.int .i64 c37t1)])) (by kernel_rfl) (by kernel_rfl) (Ic.args hc38 (by kernel_rfl)) (by kernel_rfl) ?_
        refine W.adv 11 ?_
        obtain ⟨c39, hc40, H⟩ := H
        refine W.callR (g := 10) (ds := [(.list 3 (c13t1.map E_ref08_Q))]) (es := [(.list 3 (c13t1.map E_ref08_Q))]) (r := (.bool c39)) (by kernel_rfl) (by kernel_rfl) (Ic.args hc40 (by kernel_rfl)) (by kernel_rfl) ?_
        refine W.adv 3 ?_
        rcases H with ⟨h41, H⟩ | ⟨h41, H⟩
        · refine W.cond false (w := (!c39)) (by kernel_rfl) (congrArg (fun b => !b) h41) ?_
          refine W.adv 14 ?_
          exact W.to_loop (P := law29_FailCases_l2_s c13t1 c37t0 c37t1 0 0) (H ) (by kernel_rfl)
        · refine W.cond true (w := (!c39)) (by kernel_rfl) (congrArg (fun b => !b) (bfalse h41)) ?_
          refine W.adv 5 ?_
          rcases H with ⟨h42, H⟩ | ⟨h42, H⟩
          · refine W.guard true (w := ((decide (c37t1 = 2)) == true)) (by kernel_rfl) (congrArg (fun b => b == true) (decide_eq_true h42)) ?_
            refine W.adv 1 ?_
            refine W.guard true (w := ((decide (c37t1 = 2)) == true)) (by kernel_rfl) (congrArg (fun b => b == true) (decide_eq_true h42)) ?_
            refine W.opS (OpIs.ln (n := (c37t0.map E_fail_Case).length) (m := c37t0.length) (by kernel_rfl) (by rw [List.length_map])) ?_
            refine W.guard true (w := ((decide (c37t1 = 2)) == true)) (by kernel_rfl) (congrArg (fun b => b == true) (decide_eq_true h42)) ?_
            refine W.adv 1 ?_
            refine W.opS (OpIs.pk true (t := (decide (c37t1 = 2))) (x := (.bool (decide ((c37t0.length : Int) = 0)))) (y := (.bool false)) (by kernel_rfl) (decide_eq_true h42)) ?_
            refine W.adv 1 ?_
            rcases H with ⟨h43, H⟩ | ⟨h43, H⟩
            · refine W.guard true (w := ((decide ((c37t0.length : Int) = 0)) == true)) (by kernel_rfl) (congrArg (fun b => b == true) (decide_eq_true h43)) ?_
              obtain ⟨c44, hc45, H⟩ := H
              refine W.callR (g := 11) (ds := []) (es := []) (r := (.bool c44)) (by kernel_rfl) (by kernel_rfl) (Ic.args hc45 (by kernel_rfl)) (by kernel_rfl) ?_
              refine W.opS (OpIs.pk true (t := (decide ((c37t0.length : Int) = 0))) (x := (.bool c44)) (y := (.bool false)) (by kernel_rfl) (decide_eq_true h43)) ?_
              refine W.adv 5 ?_
              exact W.fin (x := .ret) (by kernel_rfl) (LAns.of (d := (.bool c44)) (by kernel_rfl) (by rw [H]))
            · refine W.guard false (w := ((decide ((c37t0.length : Int) = 0)) == true)) (by kernel_rfl) (congrArg (fun b => b == true) (decide_eq_false h43)) ?_
              refine W.opS (OpIs.pk false (t := (decide ((c37t0.length : Int) = 0))) (x := (.tuple [])) (y := (.bool false)) (by kernel_rfl) (decide_eq_false h43)) ?_
              refine W.adv 5 ?_
              exact W.fin (x := .ret) (by kernel_rfl) (LAns.of (d := (.bool false)) (by kernel_rfl) (by rw [H]))
          · refine W.guard false (w := ((decide (c37t1 = 2)) == true)) (by kernel_rfl) (congrArg (fun b => b == true) (decide_eq_false h42)) ?_
            refine W.guard false (w := ((decide (c37t1 = 2)) == true)) (by kernel_rfl) (congrArg (fun b => b == true) (decide_eq_false h42)) ?_
            refine W.guard false (w := ((decide (c37t1 = 2)) == true)) (by kernel_rfl) (congrArg (fun b => b == true) (decide_eq_false h42)) ?_
            refine W.opS (OpIs.pk false (t := (decide (c37t1 = 2))) (x := (.tuple [])) (y := (.bool false)) (by kernel_rfl) (decide_eq_false h42)) ?_
            refine W.adv 8 ?_
            exact W.fin (x := .ret) (by kernel_rfl) (LAns.of (d := (.bool false)) (by kernel_rfl) (by rw [H]))
    · refine W.cond true (w := (!c10)) (by kernel_rfl) (congrArg (fun b => !b) (bfalse h12)) ?_
      refine W.adv 7 ?_
      exact W.fin (x := .ret) (by kernel_rfl) (LAns.of (d := (.bool false)) (by kernel_rfl) (by rw [H]))
theorem law29_FailCases_l1_go {x0 : List T_api_Rat} {x1 : Int} {x2 : Int} {x8 : Int} {x9 : Int} {r34 : List Int} {z : Bool} (H : ((x9 < 64 ∧ (((x8.tmod 2) = 1 ∧ ((x9 < x2 ∧ ((r34.length + 1 + 192) * (8 + 1) ≤ 70368744177664 ∧ (∃ y49, y49 = r34 ++ [x9] ∧ (law29_FailCases_l1 x0 x1 x2 (wu (x8.tdiv 2)) (wi (x9 + 1)) y49 z)))) ∨ (¬ x9 < x2 ∧ (law29_FailCases_l1 x0 x1 x2 (wu (x8.tdiv 2)) (wi (x9 + 1)) r34 z)))) ∨ (¬ (x8.tmod 2) = 1 ∧ (law29_FailCases_l1 x0 x1 x2 (wu (x8.tdiv 2)) (wi (x9 + 1)) r34 z)))) ∨ (¬ x9 < 64 ∧ (∃ c53 : List Int, (fail_Lives_R x1 x2 c53 ∧ (∃ c55 : Bool, (triviumbase_SameInts_R c53 r34 c55 ∧ ((c55 = true ∧ (∃ c58t0 : List T_api_Rat, (∃ c58t1 : List T_ref08_Q, (law29_few_R x0 9 c58t0 c58t1 ∧ ((5 < (c58t1.length : Int) ∧ (((c58t1.length : Int) < 9 ∧ (5 ≤ (c58t0.length : Int) ∧ (5 ≤ (c58t1.length : Int) ∧ (∃ c64t0 : List T_fail_Case, (∃ c64t1 : Int, (fail_All_R (c58t0.take 5) c64t0 c64t1 ∧ (∃ c66 : Bool, (ref29_Right_R (c58t1.take 5) c66 ∧ ((c66 = true ∧ (law29_FailCases_l2 (c58t1.take 5) c64t0 c64t1 0 0 z)) ∨ (¬ c66 = true ∧ ((c64t1 = 2 ∧ (((c64t0.length : Int) = 0 ∧ (∃ c71 : Bool, (law29_works_R c71 ∧ (z = c71)))) ∨ (¬ (c64t0.length : Int) = 0 ∧ (z = false)))) ∨ (¬ c64t1 = 2 ∧ (z = false))))))))))))) ∨ (¬ (c58t1.length : Int) < 9 ∧ (∃ c73t0 : List T_fail_Case, (∃ c73t1 : Int, (fail_All_R c58t0 c73t0 c73t1 ∧ (∃ c75 : Bool, (ref29_Right_R c58t1 c75 ∧ ((c75 = true ∧ (law29_FailCases_l2 c58t1 c73t0 c73t1 0 0 z)) ∨ (¬ c75 = true ∧ ((c73t1 = 2 ∧ (((c73t0.length : Int) = 0 ∧ (∃ c80 : Bool, (law29_works_R c80 ∧ (z = c80)))) ∨ (¬ (c73t0.length : Int) = 0 ∧ (z = false)))) ∨ (¬ c73t1 = 2 ∧ (z = false))))))))))))) ∨ (¬ 5 < (c58t1.length : Int) ∧ (∃ c82t0 : List T_fail_Case, (∃ c82t1 : Int, (fail_All_R c58t0 c82t0 c82t1 ∧ (∃ c84 : Bool, (ref29_Right_R c58t1 c84 ∧ ((c84 = true ∧ (law29_FailCases_l2 c58t1 c82t0 c82t1 0 0 z)) ∨ (¬ c84 = true ∧ ((c82t1 = 2 ∧ (((c82t0.length : Int) = 0 ∧ (∃ c89 : Bool, (law29_works_R c89 ∧ (z = c89)))) ∨ (¬ (c82t0.length : Int) = 0 ∧ (z = false)))) ∨ (¬ c82t1 = 2 ∧ (z = false)))))))))))))))) ∨ (¬ c55 = true ∧ (z = false)))))))))) : law29_FailCases_l1 x0 x1 x2 x8 x9 r34 z := by
  intro n34 ln_34 j jb vs
  refine W.adv 1 ?_
  refine W.adv 7 ?_
  rcases H with ⟨h46, H⟩ | ⟨h46, H⟩
  · refine W.cond true (w := (decide (x9 < 64))) (by kernel_rfl) (decide_eq_true h46) ?_
    refine W.adv 11 ?_
    rcases H with ⟨h47, H⟩ | ⟨h47, H⟩
    · refine W.guard true (w := ((decide ((x8.tmod 2) = 1)) == true)) (by kernel_rfl) (congrArg (fun b => b == true) (decide_eq_true h47)) ?_
      refine W.adv 1 ?_
      refine W.guard true (w := ((decide ((x8.tmod 2) = 1)) == true)) (by kernel_rfl) (congrArg (fun b => b == true) (decide_eq_true h47)) ?_
      refine W.adv 1 ?_
      refine W.guard true (w := ((decide ((x8.tmod 2) = 1)) == true)) (by kernel_rfl) (congrArg (fun b => b == true) (decide_eq_true h47)) ?_
      refine W.adv 1 ?_
      refine W.opS (OpIs.pk true (t := (decide ((x8.tmod 2) = 1))) (x := (.bool (decide (x9 < x2)))) (y := (.bool false)) (by kernel_rfl) (decide_eq_true h47)) ?_
      refine W.adv 2 ?_
      rcases H with ⟨h48, H⟩ | ⟨h48, H⟩
      · refine W.cond true (w := (decide (x9 < x2))) (by kernel_rfl) (decide_eq_true h48) ?_
        refine W.adv 4 ?_
        obtain ⟨h52, H⟩ := H
        obtain ⟨y49, hy50, H⟩ := H
        have ln51 : (r34.length + 1) = y49.length := by rw [hy50, List.length_append] <;> rfl
        refine W.opK (OpIs.apRow (y := (.lit (.ints .i64 [x9]))) (n := 8) (d := 34) (dv := ((vs 34) + 1)) (b := 34) (v := ((vs 34) + 1)) (w := ((vs 34) + 1)) (len := n34) (k := .i64) (xs := r34) (ys := [x9]) (by kernel_rfl) (by kernel_rfl) hy50 rfl ln_34 h52) ?_
        refine W.adv 16 ?_
        exact W.to_loop (P := law29_FailCases_l1_s x0 x1 x2 (wu (x8.tdiv 2)) (wi (x9 + 1)) y49 (r34.length + 1)) (H _ ln51) (by kernel_rfl)
      · refine W.cond false (w := (decide (x9 < x2))) (by kernel_rfl) (decide_eq_false h48) ?_
        refine W.adv 15 ?_
        exact W.to_loop (P := law29_FailCases_l1_s x0 x1 x2 (wu (x8.tdiv 2)) (wi (x9 + 1)) r34 n34) (H _ ln_34) (by kernel_rfl)
    · refine W.guard false (w := ((decide ((x8.tmod 2) = 1)) == true)) (by kernel_rfl) (congrArg (fun b => b == true) (decide_eq_false h47)) ?_
      refine W.guard false (w := ((decide ((x8.tmod 2) = 1)) == true)) (by kernel_rfl) (congrArg (fun b => b == true) (decide_eq_false h47)) ?_
      refine W.guard false (w := ((decide ((x8.tmod 2) = 1)) == true)) (by kernel_rfl) (congrArg (fun b => b == true) (decide_eq_false h47)) ?_
      refine W.opS (OpIs.pk false (t := (decide ((x8.tmod 2) = 1))) (x := (.tuple [])) (y := (.bool false)) (by kernel_rfl) (decide_eq_false h47)) ?_
      refine W.adv 18 ?_
      exact W.to_loop (P := law29_FailCases_l1_s x0 x1 x2 (wu (x8.tdiv 2)) (wi (x9 + 1)) r34 n34) (H _ ln_34) (by kernel_rfl)
  · refine W.cond false (w := (decide (x9 < 64))) (by kernel_rfl) (decide_eq_false h46) ?_
    refine W.adv 10 ?_
    obtain ⟨c53, hc54, H⟩ := H
    refine W.callR (g := 17) (ds := [(.int .u64 x1), (.int .i64 x2)]) (es := [(.int .u64 x1), (.int .i64 x2)]) (r := (.ints .i64 c53)) (by kernel_rfl) (by kernel_rfl) (Ic.args hc54 (by kernel_rfl)) (by kernel_rfl) ?_
    refine W.adv 1 ?_
    obtain ⟨c55, hc56, H⟩ := H
    refine W.callR (g := 16) (ds := [(.ints .i64 c53), (.sref 34 ((vs 34) + 1) 1 0 n34)]) (es := [(.ints .i64 c53), (.ints .i64 r34)]) (r := (.bool c55)) (by kernel_rfl) (rf_cons (by kernel_rfl) (rf_cons (rf_full (b := 34) (v := ((vs 34) + 1)) (w := ((vs 34) + 1)) (fz := false) (k := .i64) (xs := r34) (by kernel_rfl) rfl ln_34) rf_nil)) (Ic.args hc56 (by kernel_rfl)) (by kernel_rfl) ?_
    refine W.adv 3 ?_
    rcases H with ⟨h57, H⟩ | ⟨h57, H⟩
    · refine W.cond false (w := (!c55)) (by kernel_rfl) (congrArg (fun b => !b) h57) ?_
      refine W.adv 5 ?_
      obtain ⟨c58t0, c58t1, hc59, H⟩ := H
      refine W.callR (g := 7) (ds := [(.list 3 (x0.map E_api_Rat)), (.int .i64 9)]) (es := [(.list 3 (x0.map E_api_Rat)), (.int .i64 9)]) (r := (.tuple [(.list 3 (c58t0.map E_api_Rat)), (.list 3 (c58t1.map E_ref08_Q))])) (by kernel_rfl) (by kernel_rfl) (Ic.args hc59 (by kernel_rfl)) (by kernel_rfl) ?_
      refine W.adv 11 ?_
      refine W.opS (OpIs.ln (n := (c58t1.map E_ref08_Q).length) (m := c58t1.length) (by kernel_rfl) (by rw [List.length_map])) ?_
      refine W.adv 2 ?_
      rcases H with ⟨h60, H⟩ | ⟨h60, H⟩
      · refine W.guard true (w := ((decide (5 < (c58t1.length : Int))) == true)) (by kernel_rfl) (congrArg (fun b => b == true) (decide_eq_true h60)) ?_
        refine W.adv 1 ?_
        refine W.guard true (w := ((decide (5 < (c58t1.length : Int))) == true)) (by kernel_rfl) (congrArg (fun b => b == true) (decide_eq_true h60)) ?_
        refine W.opS (OpIs.ln (n := (c58t1.map E_ref08_Q).length) (m := c58t1.length) (by kernel_rfl) (by rw [List.length_map])) ?_
        refine W.guard true (w := ((decide (5 < (c58t1.length : Int))) == true)) (by kernel_rfl) (congrArg (fun b => b == true) (decide_eq_true h60)) ?_
        refine W.adv 1 ?_
        refine W.opS (OpIs.pk true (t := (decide (5 < (c58t1.length : Int)))) (x := (.bool (decide ((c58t1.length : Int) < 9)))) (y := (.bool false)) (by kernel_rfl) (decide_eq_true h60)) ?_
        refine W.adv 2 ?_
        rcases H with ⟨h61, H⟩ | ⟨h61, H⟩
        · refine W.cond true (w := (decide ((c58t1.length : Int) < 9))) (by kernel_rfl) (decide_eq_true h61) ?_
          refine W.adv 2 ?_
          obtain ⟨h62, H⟩ := H
          refine W.opS (OpIs.slE_hi (enc := E_api_Rat) (n := 3) (k' := .i64) (L := c58t0) (i := 5) (by kernel_rfl) (by decide) h62) ?_
          refine W.adv 1 ?_
          obtain ⟨h63, H⟩ := H
          refine W.opS (OpIs.slE_hi (enc := E_ref08_Q) (n := 3) (k' := .i64) (L := c58t1) (i := 5) (by kernel_rfl) (by decide) h63) ?_
          refine W.adv 7 ?_
          obtain ⟨c64t0, c64t1, hc65, H⟩ := H
          refine W.callR (g := 18) (ds := [(.list 3 ((c58t0.take 5).map E_api_Rat))]) (es := [(.list 3 ((c58t0.take 5).map E_api_Rat))]) (r := (.tuple [(.list 4 (c64t0.map E_fail_Case)), (.int .i64 c64t1)])) (by kernel_rfl) (by kernel_rfl) (Ic.args hc65 (by kernel_rfl)) (by kernel_rfl) ?_
          refine W.adv 11 ?_
          obtain ⟨c66, hc67, H⟩ := H
          refine W.callR (g := 10) (ds := [(.list 3 ((c58t1.take 5).map E_ref08_Q))]) (es := [(.list 3 ((c58t1.take 5).map E_ref08_Q))]) (r := (.bool c66)) (by kernel_rfl) (by kernel_rfl) (Ic.args hc67 (by kernel_rfl)) (by kernel_rfl) ?_
          refine W.adv 3 ?_
          rcases H with ⟨h68, H⟩ | ⟨h68, H⟩
          · refine W.cond false (w := (!c66)) (by kernel_rfl) (congrArg (fun b => !b) h68) ?_
            refine W.adv 14 ?_
            exact W.to_loop (P := law29_FailCases_l2_s (c58t1.take 5) c64t0 c64t1 0 0) (H ) (by kernel_rfl)
          · refine W.cond true (w := (!c66)) (by kernel_rfl) (congrArg (fun b => !b) (bfalse h68)) ?_
            refine W.adv 5 ?_
            rcases H with ⟨h69, H⟩ | ⟨h69, H⟩
            · refine W.guard true (w := ((decide (c64t1 = 2)) == true)) (by kernel_rfl) (congrArg (fun b => b == true) (decide_eq_true h69)) ?_
              refine W.adv 1 ?_
              refine W.guard true (w := ((decide (c64t1 = 2)) == true)) (by kernel_rfl) (congrArg (fun b => b == true) (decide_eq_true h69)) ?_
              refine W.opS (OpIs.ln (n := (c64t0.map E_fail_Case).length) (m := c64t0.length) (by kernel_rfl) (by rw [List.length_map])) ?_
              refine W.guard true (w := ((decide (c64t1 = 2)) == true)) (by kernel_rfl) (congrArg (fun b => b == true) (decide_eq_true h69)) ?_
              refine W.adv 1 ?_
              refine W.opS (OpIs.pk true (t := (decide (c64t1 = 2))) (x := (.bool (decide ((c64t0.length : Int) = 0)))) (y := (.bool false)) (by kernel_rfl) (decide_eq_true h69)) ?_
              refine W.adv 1 ?_
              rcases H with ⟨h70, H⟩ | ⟨h70, H⟩
              · refine W.guard true (w := ((decide ((c64t0.length : Int) = 0)) == true)) (by kernel_rfl) (congrArg (fun b => b == true) (decide_eq_true h70)) ?_
                obtain ⟨c71, hc72, H⟩ := H
                refine W.callR (g := 11) (ds := []) (es := []) (r := (.bool c71)) (by kernel_rfl) (by kernel_rfl) (Ic.args hc72 (by kernel_rfl)) (by kernel_rfl) ?_
                refine W.opS (OpIs.pk true (t := (decide ((c64t0.length : Int) = 0))) (x := (.bool c71)) (y := (.bool false)) (by kernel_rfl) (decide_eq_true h70)) ?_
                refine W.adv 5 ?_
                exact W.fin (x := .ret) (by kernel_rfl) (LAns.of (d := (.bool c71)) (by kernel_rfl) (by rw [H]))
              · refine W.guard false (w := ((decide ((c64t0.length : Int) = 0)) == true)) (by kernel_rfl) (congrArg (fun b => b == true) (decide_eq_false h70)) ?_
                refine W.opS (OpIs.pk false (t := (decide ((c64t0.length : Int) = 0))) (x := (.tuple [])) (y := (.bool false)) (by kernel_rfl) (decide_eq_false h70)) ?_
                refine W.adv 5 ?_
                exact W.fin (x := .ret) (by kernel_rfl) (LAns.of (d := (.bool false)) (by kernel_rfl) (by rw [H]))
            · refine W.guard false (w := ((decide (c64t1 = 2)) == true)) (by kernel_rfl) (congrArg (fun b => b == true) (decide_eq_false h69)) ?_
              refine W.guard false (w := ((decide (c64t1 = 2)) == true)) (by kernel_rfl) (congrArg (fun b => b == true) (decide_eq_false h69)) ?_
              refine W.guard false (w := ((decide (c64t1 = 2)) == true)) (by kernel_rfl) (congrArg (fun b => b == true) (decide_eq_false h69)) ?_
              refine W.opS (OpIs.pk false (t := (decide (c64t1 = 2))) (x := (.tuple [])) (y := (.bool false)) (by kernel_rfl) (decide_eq_false h69)) ?_
              refine W.adv 8 ?_
              exact W.fin (x := .ret) (by kernel_rfl) (LAns.of (d := (.bool false)) (by kernel_rfl) (by rw [H]))
        · refine W.cond false (w := (decide ((c58t1.length : Int) < 9))) (by kernel_rfl) (decide_eq_false h61) ?_
          refine W.adv 5 ?_
          obtain ⟨c73t0, c73t1, hc74, H⟩ := H
          refine W.callR (g := 18) (ds := [(.list 3 (c58t0.map E_api_Rat))]) (es := [(.list 3 (c58t0.map E_api_Rat))]) (r := (.tuple [(.list 4 (c73t0.map E_fail_Case)), (.int .i64 c73t1)])) (by kernel_rfl) (by kernel_rfl) (Ic.args hc74 (by kernel_rfl)) (by kernel_rfl) ?_
          refine W.adv 11 ?_
          obtain ⟨c75, hc76, H⟩ := H
          refine W.callR (g := 10) (ds := [(.list 3 (c58t1.map E_ref08_Q))]) (es := [(.list 3 (c58t1.map E_ref08_Q))]) (r := (.bool c75)) (by kernel_rfl) (by kernel_rfl) (Ic.args hc76 (by kernel_rfl)) (by kernel_rfl) ?_
          refine W.adv 3 ?_
          rcases H with ⟨h77, H⟩ | ⟨h77, H⟩
          · refine W.cond false (w := (!c75)) (by kernel_rfl) (congrArg (fun b => !b) h77) ?_
            refine W.adv 14 ?_
            exact W.to_loop (P := law29_FailCases_l2_s c58t1 c73t0 c73t1 0 0) (H ) (by kernel_rfl)
          · refine W.cond true (w := (!c75)) (by kernel_rfl) (congrArg (fun b => !b) (bfalse h77)) ?_
            refine W.adv 5 ?_
            rcases H with ⟨h78, H⟩ | ⟨h78, H⟩
            · refine W.guard true (w := ((decide (c73t1 = 2)) == true)) (by kernel_rfl) (congrArg (fun b => b == true) (decide_eq_true h78)) ?_
              refine W.adv 1 ?_
              refine W.guard true (w := ((decide (c73t1 = 2)) == true)) (by kernel_rfl) (congrArg (fun b => b == true) (decide_eq_true h78)) ?_
              refine W.opS (OpIs.ln (n := (c73t0.map E_fail_Case).length) (m := c73t0.length) (by kernel_rfl) (by rw [List.length_map])) ?_
              refine W.guard true (w := ((decide (c73t1 = 2)) == true)) (by kernel_rfl) (congrArg (fun b => b == true) (decide_eq_true h78)) ?_
              refine W.adv 1 ?_
              refine W.opS (OpIs.pk true (t := (decide (c73t1 = 2))) (x := (.bool (decide ((c73t0.length : Int) = 0)))) (y := (.bool false)) (by kernel_rfl) (decide_eq_true h78)) ?_
              refine W.adv 1 ?_
              rcases H with ⟨h79, H⟩ | ⟨h79, H⟩
              · refine W.guard true (w := ((decide ((c73t0.length : Int) = 0)) == true)) (by kernel_rfl) (congrArg (fun b => b == true) (decide_eq_true h79)) ?_
                obtain ⟨c80, hc81, H⟩ := H
                refine W.callR (g := 11) (ds := []) (es := []) (r := (.bool c80)) (by kernel_rfl) (by kernel_rfl) (Ic.args hc81 (by kernel_rfl)) (by kernel_rfl) ?_
                refine W.opS (OpIs.pk true (t := (decide ((c73t0.length : Int) = 0))) (x := (.bool c80)) (y := (.bool false)) (by kernel_rfl) (decide_eq_true h79)) ?_
                refine W.adv 5 ?_
                exact W.fin (x := .ret) (by kernel_rfl) (LAns.of (d := (.bool c80)) (by kernel_rfl) (by rw [H]))
              · refine W.guard false (w := ((decide ((c73t0.length : Int) = 0)) == true)) (by kernel_rfl) (congrArg (fun b => b == true) (decide_eq_false h79)) ?_
                refine W.opS (OpIs.pk false (t := (decide ((c73t0.length : Int) = 0))) (x := (.tuple [])) (y := (.bool false)) (by kernel_rfl) (decide_eq_false h79)) ?_
                refine W.adv 5 ?_
                exact W.fin (x := .ret) (by kernel_rfl) (LAns.of (d := (.bool false)) (by kernel_rfl) (by rw [H]))
            · refine W.guard false (w := ((decide (c73t1 = 2)) == true)) (by kernel_rfl) (congrArg (fun b => b == true) (decide_eq_false h78)) ?_
              refine W.guard false (w := ((decide (c73t1 = 2)) == true)) (by kernel_rfl) (congrArg (fun b => b == true) (decide_eq_false h78)) ?_
              refine W.guard false (w := ((decide (c73t1 = 2)) == true)) (by kernel_rfl) (congrArg (fun b => b == true) (decide_eq_false h78)) ?_
              refine W.opS (OpIs.pk false (t := (decide (c73t1 = 2))) (x := (.tuple [])) (y := (.bool false)) (by kernel_rfl) (decide_eq_false h78)) ?_
              refine W.adv 8 ?_
              exact W.fin (x := .ret) (by kernel_rfl) (LAns.of (d := (.bool false)) (by kernel_rfl) (by rw [H]))
      · refine W.guard false (w := ((decide (5 < (c58t1.length : Int))) == true)) (by kernel_rfl) (congrArg (fun b => b == true) (decide_eq_false h60)) ?_
        refine W.guard false (w := ((decide (5 < (c58t1.length : Int))) == true)) (by kernel_rfl) (congrArg (fun b => b == true) (decide_eq_false h60)) ?_
        refine W.guard false (w := ((decide (5 < (c58t1.length : Int))) == true)) (by kernel_rfl) (congrArg (fun b => b == true) (decide_eq_false h60)) ?_
        refine W.opS (OpIs.pk false (t := (decide (5 < (c58t1.length : Int)))) (x := (.tuple [])) (y := (.bool false)) (by kernel_rfl) (decide_eq_false h60)) ?_
        refine W.adv 8 ?_
        obtain ⟨c82t0, c82t1, hc83, H⟩ := H
        refine W.callR (g := 18) (ds := [(.list 3 (c58t0.map E_api_Rat))]) (es := [(.list 3 (c58t0.map E_api_Rat))]) (r := (.tuple [(.list 4 (c82t0.map E_fail_Case)), (.int .i64 c82t1)])) (by kernel_rfl) (by kernel_rfl) (Ic.args hc83 (by kernel_rfl)) (by kernel_rfl) ?_
        refine W.adv 11 ?_
        obtain ⟨c84, hc85, H⟩ := H
        refine W.callR (g := 10) (ds := [(.list 3 (c58t1.map E_ref08_Q))]) (es := [(.list 3 (c58t1.map E_ref08_Q))]) (r := (.bool c84)) (by kernel_rfl) (by kernel_rfl) (Ic.args hc85 (by kernel_rfl)) (by kernel_rfl) ?_
        refine W.adv 3 ?_
        rcases H with ⟨h86, H⟩ | ⟨h86, H⟩
        · refine W.cond false (w := (!c84)) (by kernel_rfl) (congrArg (fun b => !b) h86) ?_
          refine W.adv 14 ?_
          exact W.to_loop (P := law29_FailCases_l2_s c58t1 c82t0 c82t1 0 0) (H ) (by kernel_rfl)
        · refine W.cond true (w := (!c84)) (by kernel_rfl) (congrArg (fun b => !b) (bfalse h86)) ?_
          refine W.adv 5 ?_
          rcases H with ⟨h87, H⟩ | ⟨h87, H⟩
          · refine W.guard true (w := ((decide (c82t1 = 2)) == true)) (by kernel_rfl) (congrArg (fun b => b == true) (decide_eq_true h87)) ?_
            refine W.adv 1 ?_
            refine W.guard true (w := ((decide (c82t1 = 2)) == true)) (by kernel_rfl) (congrArg (fun b => b == true) (decide_eq_true h87)) ?_
            refine W.opS (OpIs.ln (n := (c82t0.map E_fail_Case).length) (m := c82t0.length) (by kernel_rfl) (by rw [List.length_map])) ?_
            refine W.guard true (w := ((decide (c82t1 = 2)) == true)) (by kernel_rfl) (congrArg (fun b => b == true) (decide_eq_true h87)) ?_
            refine W.adv 1 ?_
            refine W.opS (OpIs.pk true (t := (decide (c82t1 = 2))) (x := (.bool (decide ((c82t0.length : Int) = 0)))) (y := (.bool false)) (by kernel_rfl) (decide_eq_true h87)) ?_
            refine W.adv 1 ?_
            rcases H with ⟨h88, H⟩ | ⟨h88, H⟩
            · refine W.guard true (w := ((decide ((c82t0.length : Int) = 0)) == true)) (by kernel_rfl) (congrArg (fun b => b == true) (decide_eq_true h88)) ?_
              obtain ⟨c89, hc90, H⟩ := H
              refine W.callR (g := 11) (ds := []) (es := []) (r := (.bool c89)) (by kernel_rfl) (by kernel_rfl) (Ic.args hc90 (by kernel_rfl)) (by kernel_rfl) ?_
              refine W.opS (OpIs.pk true (t := (decide ((c82t0.length : Int) = 0))) (x := (.bool c89)) (y := (.bool false)) (by kernel_rfl) (decide_eq_true h88)) ?_
              refine W.adv 5 ?_
              exact W.fin (x := .ret) (by kernel_rfl) (LAns.of (d := (.bool c89)) (by kernel_rfl) (by rw [H]))
            · refine W.guard false (w := ((decide ((c82t0.length : Int) = 0)) == true)) (by kernel_rfl) (congrArg (fun b => b == true) (decide_eq_false h88)) ?_
              refine W.opS (OpIs.pk false (t := (decide ((c82t0.length : Int) = 0))) (x := (.tuple [])) (y := (.bool false)) (by kernel_rfl) (decide_eq_false h88)) ?_
              refine W.adv 5 ?_
              exact W.fin (x := .ret) (by kernel_rfl) (LAns.of (d := (.bool false)) (by kernel_rfl) (by rw [H]))
          · refine W.guard false (w := ((decide (c82t1 = 2)) == true)) (by kernel_rfl) (congrArg (fun b => b == true) (decide_eq_false h87)) ?_
            refine W.guard false (w := ((decide (c82t1 = 2)) == true)) (by kernel_rfl) (congrArg (fun b => b == true) (decide_eq_false h87)) ?_
            refine W.guard false (w := ((decide (c82t1 = 2)) == true)) (by kernel_rfl) (congrArg (fun b => b == true) (decide_eq_false h87)) ?_
            refine W.opS (OpIs.pk false (t := (decide (c82t1 = 2))) (x := (.tuple [])) (y := (.bool false)) (by kernel_rfl) (decide_eq_false h87)) ?_
            refine W.adv 8 ?_
            exact W.fin (x := .ret) (by kernel_rfl) (LAns.of (d := (.bool false)) (by kernel_rfl) (by rw [H]))
    · refine W.cond true (w := (!c55)) (by kernel_rfl) (congrArg (fun b => !b) (bfalse h57)) ?_
      refine W.adv 7 ?_
      exact W.fin (x := .ret) (by kernel_rfl) (LAns.of (d := (.bool false)) (by kernel_rfl) (by rw [H]))
theorem law29_FailCases_l2_go {x11 : List T_ref08_Q} {x12 : List T_fail_Case} {x13 : Int} {x14 : Int} {x15 : Int} {z : Bool} (H : (∃ c91 : Int, (ref29_Cases_R (x11.length : Int) c91 ∧ ((x15 < c91 ∧ (∃ c94_0 : Bool, (∃ c94_1 : List Int, (∃ c94_2 : List Int, (ref29_Chance_R x11 x15 c94_0 c94_1 c94_2 ∧ (∃ c96 : Bool, (ref08_Zero_R c94_0 c94_1 c94_2 c96 ∧ ((c96 = true ∧ (law29_FailCases_l2 x11 x12 x13 x14 (wu (x15 + 1)) z)) ∨ (¬ c96 = true ∧ (((x12.length : Int) ≤ x14 ∧ (z = false)) ∨ (¬ (x12.length : Int) ≤ x14 ∧ (0 ≤ x14 ∧ (x14 < (x12.length : Int) ∧ (∃ e102 : Int, (∃ e103 : Bool, (∃ e104 : List Int, (∃ e105 : List Int, (x12.getD (x14).toNat (0, false, [], []) = (e102, e103, e104, e105) ∧ ((e102 = x15 ∧ (∃ e108 : Int, (∃ e109 : Bool, (∃ e110 : List Int, (∃ e111 : List Int, (x12.getD (x14).toNat (0, false, [], []) = (e108, e109, e110, e111) ∧ (∃ c113_0 : Bool, (∃ c113_1 : List Int, (∃ c113_2 : List Int, (ref08_Back_R c94_0 c94_1 c94_2 c113_0 c113_1 c113_2 ∧ (∃ c115 : Bool, (ref08_Same_R e109 e110 e111 c113_0 c113_1 c113_2 c115 ∧ ((c115 = true ∧ (law29_FailCases_l2 x11 x12 x13 (wi (x14 + 1)) (wu (x15 + 1)) z)) ∨ (¬ c115 = true ∧ (z = false))))))))))))))) ∨ (¬ e102 = x15 ∧ (z = false))))))))))))))))))))) ∨ (¬ x15 < c91 ∧ ((x13 = 0 ∧ ((x14 = (x12.length : Int) ∧ (∃ c120 : Bool, (law29_works_R c120 ∧ (z = c120)))) ∨ (¬ x14 = (x12.length : Int) ∧ (z = false)))) ∨ (¬ x13 = 0 ∧ (z = false)))))))) : law29_FailCases_l2 x11 x12 x13 x14 x15 z := by
  intro j jb vs
  refine W.adv 1 ?_
  refine W.adv 5 ?_
  refine W.opS (OpIs.ln (n := (x11.map E_ref08_Q).length) (m := x11.length) (by kernel_rfl) (by rw [List.length_map])) ?_
  obtain ⟨c91, hc92, H⟩ := H
  refine W.callR (g := 15) (ds := [(.int .i64 (x11.length : Int))]) (es := [(.int .i64 (x11.length : Int))]) (r := (.int .u64 c91)) (by kernel_rfl) (by kernel_rfl) (Ic.args hc92 (by kernel_rfl)) (by kernel_rfl) ?_
  refine W.adv 3 ?_
  rcases H with ⟨h93, H⟩ | ⟨h93, H⟩
  · refine W.cond true (w := (decide (x15 < c91))) (by kernel_rfl) (decide_eq_true h93) ?_
    refine W.adv 8 ?_
    obtain ⟨c94_0, c94_1, c94_2, hc95, H⟩ := H
    refine W.callR (g := 14) (ds := [(.list 3 (x11.map E_ref08_Q)), (.int .u64 x15)]) (es := [(.list 3 (x11.map E_ref08_Q)), (.int .u64 x15)]) (r := (.agg [(.bool c94_0), (.ints .i64 c94_1), (.ints .i64 c94_2)])) (by kernel_rfl) (by kernel_rfl) (Ic.args hc95 (by kernel_rfl)) (by kernel_rfl) ?_
    refine W.adv 1 ?_
    refine W.opH (OpIs.stV (b := 16) (v := ((jb 16).ver + 1)) (i := 0) (off := 0) (w := ((jb 16).ver + 1)) (n := 3) (s := 3) (xs := [(.agg [(.bool false), .nilS, .nilS])]) (ys := [(.agg [(.bool c94_0), (.ints .i64 c94_1), (.ints .i64 c94_2)])]) (d := (.agg [(.bool false), .nilS, .nilS])) (y := (.agg [(.bool c94_0), (.ints .i64 c94_1), (.ints .i64 c94_2)])) (by kernel_rfl) rfl (by kernel_rfl) (by kernel_rfl) (Nat.le_of_ble_eq_true (by kernel_rfl)) (by kernel_rfl) (by kernel_rfl)) ?_
    refine W.adv 5 ?_
    refine W.opS (OpIs.ldV (b := 16) (v := ((jb 16).ver + 1)) (i := 0) (off := 0) (w := ((jb 16).ver + 1)) (n := 3) (s := 3) (fz := false) (a := true) (xs := [(.agg [(.bool c94_0), (.ints .i64 c94_1), (.ints .i64 c94_2)])]) (r := (.agg [(.bool c94_0), (.ints .i64 c94_1), (.ints .i64 c94_2)])) (by kernel_rfl) rfl (by kernel_rfl)) ?_
    obtain ⟨c96, hc97, H⟩ := H
    refine W.callR (g := 19) (ds := [(.agg [(.bool c94_0), (.ints .i64 c94_1), (.ints .i64 c94_2)])]) (es := [(.agg [(.bool c94_0), (.ints .i64 c94_1), (.ints .i64 c94_2)])]) (r := (.bool c96)) (by kernel_rfl) (by kernel_rfl) (Ic.args hc97 (by kernel_rfl)) (by kernel_rfl) ?_
    refine W.adv 2 ?_
    rcases H with ⟨h98, H⟩ | ⟨h98, H⟩
    · refine W.cond true (w := c96) (by kernel_rfl) h98 ?_
      refine W.adv 10 ?_
      exact W.to_loop (P := law29_FailCases_l2_s x11 x12 x13 x14 (wu (x15 + 1))) (H ) (by kernel_rfl)
    · refine W.cond false (w := c96) (by kernel_rfl) (bfalse h98) ?_
      refine W.adv 7 ?_
      refine W.opS (OpIs.ln (n := (x12.map E_fail_Case).length) (m := x12.length) (by kernel_rfl) (by rw [List.length_map])) ?_
      refine W.adv 2 ?_
      rcases H with ⟨h99, H⟩ | ⟨h99, H⟩
      · refine W.guard false (w := ((decide ((x12.length : Int) ≤ x14)) == false)) (by kernel_rfl) (congrArg (fun b => b == false) (decide_eq_true h99)) ?_
        refine W.guard false (w := ((decide ((x12.length : Int) ≤ x14)) == false)) (by kernel_rfl) (congrArg (fun b => b == false) (decide_eq_true h99)) ?_
        refine W.guard false (w := ((decide ((x12.length : Int) ≤ x14)) == false)) (by kernel_rfl) (congrArg (fun b => b == false) (decide_eq_true h99)) ?_
        refine W.guard false (w := ((decide ((x12.length : Int) ≤ x14)) == false)) (by kernel_rfl) (congrArg (fun b => b == false) (decide_eq_true h99)) ?_
        refine W.guard false (w := ((decide ((x12.length : Int) ≤ x14)) == false)) (by kernel_rfl) (congrArg (fun b => b == false) (decide_eq_true h99)) ?_
        refine W.guard false (w := ((decide ((x12.length : Int) ≤ x14)) == false)) (by kernel_rfl) (congrArg (fun b => b == false) (decide_eq_true h99)) ?_
        refine W.guard false (w := ((decide ((x12.length : Int) ≤ x14)) == false)) (by kernel_rfl) (congrArg (fun b => b == false) (decide_eq_true h99)) ?_
        refine W.opS (OpIs.pk true (t := (decide ((x12.length : Int) ≤ x14))) (x := (.bool true)) (y := (.tuple [])) (by kernel_rfl) (decide_eq_true h99)) ?_
        refine W.adv 26 ?_
        exact W.fin (x := .ret) (by kernel_rfl) (LAns.of (d := (.bool false)) (by kernel_rfl) (by rw [H]))
      · refine W.guard true (w := ((decide ((x12.length : Int) ≤ x14)) == false)) (by kernel_rfl) (congrArg (fun b => b == false) (decide_eq_false h99)) ?_
        refine W.adv 1 ?_
        refine W.guard true (w := ((decide ((x12.length : Int) ≤ x14)) == false)) (by kernel_rfl) (congrArg (fun b => b == false) (decide_eq_false h99)) ?_
        refine W.adv 1 ?_
        refine W.guard true (w := ((decide ((x12.length : Int) ≤ x14)) == false)) (by kernel_rfl) (congrArg (fun b => b == false) (decide_eq_false h99)) ?_
        obtain ⟨h100, h101, H⟩ := H
        obtain ⟨e102, e103, e104, e105, he106, H⟩ := H
        refine W.opS (OpIs.ixE (enc := E_fail_Case) (n := 4) (k' := .i64) (L := x12) (i := x14) (d0 := (0, false, [], [])) (x := (e102, e103, e104, e105)) (by kernel_rfl) h100 h101 he106) ?_
        refine W.guard true (w := ((decide ((x12.length : Int) ≤ x14)) == false)) (by kernel_rfl) (congrArg (fun b => b == false) (decide_eq_false h99)) ?_
        refine W.adv 1 ?_
        refine W.guard true (w := ((decide ((x12.length : Int) ≤ x14)) == false)) (by kernel_rfl) (congrArg (fun b => b == false) (decide_eq_false h99)) ?_
        refine W.adv 1 ?_
        refine W.guard true (w := ((decide ((x12.length : Int) ≤ x14)) == false)) (by kernel_rfl) (congrArg (fun b => b == false) (decide_eq_false h99)) ?_
        refine W.adv 1 ?_
        refine W.guard true (w := ((decide ((x12.length : Int) ≤ x14)) == false)) (by kernel_rfl) (congrArg (fun b => b == false) (decide_eq_false h99)) ?_
        refine W.adv 1 ?_
        refine W.opS (OpIs.pk false (t := (decide ((x12.length : Int) ≤ x14))) (x := (.bool true)) (y := (.bool (!(decide (e102 = x15))))) (by kernel_rfl) (decide_eq_false h99)) ?_
        refine W.adv 1 ?_
        rcases H with ⟨h107, H⟩ | ⟨h107, H⟩
        · refine W.guard true (w := ((!(decide (e102 = x15))) == false)) (by kernel_rfl) (congrArg (fun b => b == false) (congrArg (fun b => !b) (decide_eq_true h107))) ?_
          refine W.adv 1 ?_
          refine W.guard true (w := ((!(decide (e102 = x15))) == false)) (by kernel_rfl) (congrArg (fun b => b == false) (congrArg (fun b => !b) (decide_eq_true h107))) ?_
          refine W.adv 1 ?_
          refine W.guard true (w := ((!(decide (e102 = x15))) == false)) (by kernel_rfl) (congrArg (fun b => b == false) (congrArg (fun b => !b) (decide_eq_true h107))) ?_
          obtain ⟨e108, e109, e110, e111, he112, H⟩ := H
          refine W.opS (OpIs.ixE (enc := E_fail_Case) (n := 4) (k' := .i64) (L := x12) (i := x14) (d0 := (0, false, [], [])) (x := (e108, e109, e110, e111)) (by kernel_rfl) h100 h101 he112) ?_
          refine W.guard true (w := ((!(decide (e102 = x15))) == false)) (by kernel_rfl) (congrArg (fun b => b == false) (congrArg (fun b => !b) (decide_eq_true h107))) ?_
          refine W.adv 1 ?_
          refine W.guard true (w := ((!(decide (e102 = x15))) == false)) (by kernel_rfl) (congrArg (fun b => b == false) (congrArg (fun b => !b) (decide_eq_true h107))) ?_
          refine W.adv 1 ?_
          refine W.guard true (w := ((!(decide (e102 = x15))) == false)) (by kernel_rfl) (congrArg (fun b => b == false) (congrArg (fun b => !b) (decide_eq_true h107))) ?_
          refine W.opS (OpIs.ldV (b := 16) (v := ((jb 16).ver + 1)) (i := 0) (off := 0) (w := ((jb 16).ver + 1)) (n := 3) (s := 3) (fz := false) (a := true) (xs := [(.agg [(.bool c94_0), (.ints .i64 c94_1), (.ints .i64 c94_2)])]) (r := (.agg [(.bool c94_0), (.ints .i64 c94_1), (.ints .i64 c94_2)])) (by kernel_rfl) rfl (by kernel_rfl)) ?_
          refine W.guard true (w := ((!(decide (e102 = x15))) == false)) (by kernel_rfl) (congrArg (fun b => b == false) (congrArg (fun b => !b) (decide_eq_true h107))) ?_
          obtain ⟨c113_0, c113_1, c113_2, hc114, H⟩ := H
          refine W.callR (g := 13) (ds := [(.agg [(.bool c94_0), (.ints .i64 c94_1), (.ints .i64 c94_2)])]) (es := [(.agg [(.bool c94_0), (.ints .i64 c94_1), (.ints .i64 c94_2)])]) (r := (.agg [(.bool c113_0), (.ints .u64 c113_1), (.ints .u64 c113_2)])) (by kernel_rfl) (by kernel_rfl) (Ic.args hc114 (by kernel_rfl)) (by kernel_rfl) ?_
          refine W.guard true (w := ((!(decide (e102 = x15))) == false)) (by kernel_rfl) (congrArg (fun b => b == false) (congrArg (fun b => !b) (decide_eq_true h107))) ?_
          obtain ⟨c115, hc116, H⟩ := H
          refine W.callR (g := 12) (ds := [(.agg [(.bool e109), (.ints .u64 e110), (.ints .u64 e111)]), (.agg [(.bool c113_0), (.ints .u64 c113_1), (.ints .u64 c113_2)])]) (es := [(.agg [(.bool e109), (.ints .u64 e110), (.ints .u64 e111)]), (.agg [(.bool c113_0), (.ints .u64 c113_1), (.ints .u64 c113_2)])]) (r := (.bool c115)) (by kernel_rfl) (by kernel_rfl) (Ic.args hc116 (by kernel_rfl)) (by kernel_rfl) ?_
          refine W.guard true (w := ((!(decide (e102 = x15))) == false)) (by kernel_rfl) (congrArg (fun b => b == false) (congrArg (fun b => !b) (decide_eq_true h107))) ?_
          refine W.adv 1 ?_
          refine W.opS (OpIs.pk false (t := (!(decide (e102 = x15)))) (x := (.bool true)) (y := (.bool (!c115))) (by kernel_rfl) (congrArg (fun b => !b) (decide_eq_true h107))) ?_
          refine W.adv 2 ?_
          rcases H with ⟨h117, H⟩ | ⟨h117, H⟩
          · refine W.cond false (w := (!c115)) (by kernel_rfl) (congrArg (fun b => !b) h117) ?_
            refine W.adv 15 ?_
            exact W.to_loop (P := law29_FailCases_l2_s x11 x12 x13 (wi (x14 + 1)) (wu (x15 + 1))) (H ) (by kernel_rfl)
          · refine W.cond true (w := (!c115)) (by kernel_rfl) (congrArg (fun b => !b) (bfalse h117)) ?_
            refine W.adv 12 ?_
            exact W.fin (x := .ret) (by kernel_rfl) (LAns.of (d := (.bool false)) (by kernel_rfl) (by rw [H]))
        · refine W.guard false (w := ((!(decide (e102 = x15))) == false)) (by kernel_rfl) (congrArg (fun b => b == false) (congrArg (fun b => !b) (decide_eq_false h107))) ?_
          refine W.guard false (w := ((!(decide (e102 = x15))) == false)) (by kernel_rfl) (congrArg (fun b => b == false) (congrArg (fun b => !b) (decide_eq_false h107))) ?_
          refine W.guard false (w := ((!(decide (e102 = x15))) == false)) (by kernel_rfl) (congrArg (fun b => b == false) (congrArg (fun b => !b) (decide_eq_false h107))) ?_
          refine W.guard false (w := ((!(decide (e102 = x15))) == false)) (by kernel_rfl) (congrArg (fun b => b == false) (congrArg (fun b => !b) (decide_eq_false h107))) ?_
          refine W.guard false (w := ((!(decide (e102 = x15))) == false)) (by kernel_rfl) (congrArg (fun b => b == false) (congrArg (fun b => !b) (decide_eq_false h107))) ?_
          refine W.guard false (w := ((!(decide (e102 = x15))) == false)) (by kernel_rfl) (congrArg (fun b => b == false) (congrArg (fun b => !b) (decide_eq_false h107))) ?_
          refine W.guard false (w := ((!(decide (e102 = x15))) == false)) (by kernel_rfl) (congrArg (fun b => b == false) (congrArg (fun b => !b) (decide_eq_false h107))) ?_
          refine W.guard false (w := ((!(decide (e102 = x15))) == false)) (by kernel_rfl) (congrArg (fun b => b == false) (congrArg (fun b => !b) (decide_eq_false h107))) ?_
          refine W.guard false (w := ((!(decide (e102 = x15))) == false)) (by kernel_rfl) (congrArg (fun b => b == false) (congrArg (fun b => !b) (decide_eq_false h107))) ?_
          refine W.opS (OpIs.pk true (t := (!(decide (e102 = x15)))) (x := (.bool true)) (y := (.tuple [])) (by kernel_rfl) (congrArg (fun b => !b) (decide_eq_false h107))) ?_
          refine W.adv 15 ?_
          exact W.fin (x := .ret) (by kernel_rfl) (LAns.of (d := (.bool false)) (by kernel_rfl) (by rw [H]))
  · refine W.cond false (w := (decide (x15 < c91))) (by kernel_rfl) (decide_eq_false h93) ?_
    refine W.adv 10 ?_
    rcases H with ⟨h118, H⟩ | ⟨h118, H⟩
    · refine W.guard true (w := ((decide (x13 = 0)) == true)) (by kernel_rfl) (congrArg (fun b => b == true) (decide_eq_true h118)) ?_
      refine W.adv 1 ?_
      refine W.guard true (w := ((decide (x13 = 0)) == true)) (by kernel_rfl) (congrArg (fun b => b == true) (decide_eq_true h118)) ?_
      refine W.adv 1 ?_
      refine W.guard true (w := ((decide (x13 = 0)) == true)) (by kernel_rfl) (congrArg (fun b => b == true) (decide_eq_true h118)) ?_
      refine W.opS (OpIs.ln (n := (x12.map E_fail_Case).length) (m := x12.length) (by kernel_rfl) (by rw [List.length_map])) ?_
      refine W.guard true (w := ((decide (x13 = 0)) == true)) (by kernel_rfl) (congrArg (fun b => b == true) (decide_eq_true h118)) ?_
      refine W.adv 1 ?_
      refine W.opS (OpIs.pk true (t := (decide (x13 = 0))) (x := (.bool (decide (x14 = (x12.length : Int))))) (y := (.bool false)) (by kernel_rfl) (decide_eq_true h118)) ?_
      refine W.adv 1 ?_
      rcases H with ⟨h119, H⟩ | ⟨h119, H⟩
      · refine W.guard true (w := ((decide (x14 = (x12.length : Int))) == true)) (by kernel_rfl) (congrArg (fun b => b == true) (decide_eq_true h119)) ?_
        obtain ⟨c120, hc121, H⟩ := H
        refine W.callR (g := 11) (ds := []) (es := []) (r := (.bool c120)) (by kernel_rfl) (by kernel_rfl) (Ic.args hc121 (by kernel_rfl)) (by kernel_rfl) ?_
        refine W.opS (OpIs.pk true (t := (decide (x14 = (x12.length : Int)))) (x := (.bool c120)) (y := (.bool false)) (by kernel_rfl) (decide_eq_true h119)) ?_
        refine W.adv 4 ?_
        exact W.fin (x := .ret) (by kernel_rfl) (LAns.of (d := (.bool c120)) (by kernel_rfl) (by rw [H]))
      · refine W.guard false (w := ((decide (x14 = (x12.length : Int))) == true)) (by kernel_rfl) (congrArg (fun b => b == true) (decide_eq_false h119)) ?_
        refine W.opS (OpIs.pk false (t := (decide (x14 = (x12.length : Int)))) (x := (.tuple [])) (y := (.bool false)) (by kernel_rfl) (decide_eq_false h119)) ?_
        refine W.adv 4 ?_
        exact W.fin (x := .ret) (by kernel_rfl) (LAns.of (d := (.bool false)) (by kernel_rfl) (by rw [H]))
    · refine W.guard false (w := ((decide (x13 = 0)) == true)) (by kernel_rfl) (congrArg (fun b => b == true) (decide_eq_false h118)) ?_
      refine W.guard false (w := ((decide (x13 = 0)) == true)) (by kernel_rfl) (congrArg (fun b => b == true) (decide_eq_false h118)) ?_
      refine W.guard false (w := ((decide (x13 = 0)) == true)) (by kernel_rfl) (congrArg (fun b => b == true) (decide_eq_false h118)) ?_
      refine W.guard false (w := ((decide (x13 = 0)) == true)) (by kernel_rfl) (congrArg (fun b => b == true) (decide_eq_false h118)) ?_
      refine W.opS (OpIs.pk false (t := (decide (x13 = 0))) (x := (.tuple [])) (y := (.bool false)) (by kernel_rfl) (decide_eq_false h118)) ?_
      refine W.adv 7 ?_
      exact W.fin (x := .ret) (by kernel_rfl) (LAns.of (d := (.bool false)) (by kernel_rfl) (by rw [H]))
theorem law29_FailCases_go {a0 : List T_api_Rat} {a1 : Int} {a2 : Int} {z : Bool} (H : (law29_FailCases_l0 a0 a1 a2 a1 0 z)) : law29_FailCases_R a0 a1 a2 z := by
  refine W.lawIs (zs := [(.list 3 (a0.map E_api_Rat)), (.int .u64 a1), (.int .i64 a2)]) Tryz.func4 (by kernel_rfl) (by kernel_rfl) (by kernel_rfl) ?_
  refine W.adv 24 ?_
  exact W.to_loop (P := law29_FailCases_l0_s a0 a1 a2 a1 0) (H ) (by kernel_rfl)
end Go.Proofs.YteepbjndbemcdaaGreatA
