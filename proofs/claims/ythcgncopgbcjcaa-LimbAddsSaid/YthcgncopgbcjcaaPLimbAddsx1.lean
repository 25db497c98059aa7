-- PRINTED BY print.sh 35421559b90ae4d0a3588c463048766b98c2df88dd9212a6774a882060cdf62d: not written by this session
import Derived.Test.YthcgncopgbcjcaaPLimbAddsx0
namespace Go.Proofs.Ythcgncopgbcjcaa.PLimbAdds
open Go.RowKit Go.Proofs.YthcgncopgbcjcaaW.PrintWords Go.Proofs.YthcgncopgbcjcaaW.PrintLast Go.Proofs.YthcgncopgbcjcaaW.PrintMore
attribute [local go_sem] max2_int min2_int max_two min_two max_three min_three max_four min_four   -- for this text's walks alone
set_option linter.unusedVariables false
set_option linter.unusedSimpArgs false

/-! ### limb_Mul: function 8 -/
def limb_Mul.f (a0 : Int) (a1 : Int) (a2 : Int) (a3 : Int) : Option (Int × Int) := some (Go.bits .and .u64 (IntKind.u64.wrap ((IntKind.u64.wrap ((IntKind.u64.wrap ((Go.bits .and .u64 a0 4294967295) * (Go.bits .and .u64 a1 4294967295))) + (Go.bits .and .u64 a2 4294967295))) + (Go.bits .and .u64 a3 4294967295))) 4294967295, (IntKind.u64.wrap ((IntKind.u64.wrap ((IntKind.u64.wrap ((Go.bits .and .u64 a0 4294967295) * (Go.bits .and .u64 a1 4294967295))) + (Go.bits .and .u64 a2 4294967295))) + (Go.bits .and .u64 a3 4294967295))) / 4294967296)
set_option maxHeartbeats 8000000 in
set_option maxRecDepth 100000 in
theorem limb_Mul.calls (a0 : Int) (a1 : Int) (a2 : Int) (a3 : Int) (r1 : Int) (r2 : Int) (w : World) (h : limb_Mul.f a0 a1 a2 a3 = some (r1, r2)) :
    Calls Try.prog 8 #[.int .u64 a0, .int .u64 a1, .int .u64 a2, .int .u64 a3] w fun e w' => e = .returned (.tuple #[.int .u64 r1, .int .u64 r2]) ∧ Drawn0 w w' := by
  have H : (some (Go.bits .and .u64 (IntKind.u64.wrap ((IntKind.u64.wrap ((IntKind.u64.wrap ((Go.bits .and .u64 a0 4294967295) * (Go.bits .and .u64 a1 4294967295))) + (Go.bits .and .u64 a2 4294967295))) + (Go.bits .and .u64 a3 4294967295))) 4294967295, (IntKind.u64.wrap ((IntKind.u64.wrap ((IntKind.u64.wrap ((Go.bits .and .u64 a0 4294967295) * (Go.bits .and .u64 a1 4294967295))) + (Go.bits .and .u64 a2 4294967295))) + (Go.bits .and .u64 a3 4294967295))) / 4294967296)) = some (r1, r2) := h
  clear h
  simp only [Option.some.injEq, Prod.mk.injEq] at H
  obtain ⟨rfl, rfl⟩ := H
  go_enter Try.func8, Try.ntmps8
  go_wp2
  go_ret2
  exact ⟨by first | rfl | (simp; done) | (simp [*]; done), by repeat (first | exact Drawn0.refl _ | apply Drawn0.step)⟩

/-! ### limb_Div: function 11 -/
def limb_Div.f (a0 : Int) (a1 : Int) (a2 : Int) : Option (Int × Int × Int) := if (Go.bits .and .u64 a2 4294967295) = 0 then (some (0, 0, 3)) else (if (Go.bits .and .u64 a0 4294967295) ≥ (Go.bits .and .u64 a2 4294967295) then (some (0, 0, 2)) else (some (IntKind.u64.wrap (Int.tdiv (Go.bits .or .u64 (IntKind.u64.wrap ((Go.bits .and .u64 a0 4294967295) * 4294967296)) (Go.bits .and .u64 a1 4294967295)) (Go.bits .and .u64 a2 4294967295)), Int.tmod (Go.bits .or .u64 (IntKind.u64.wrap ((Go.bits .and .u64 a0 4294967295) * 4294967296)) (Go.bits .and .u64 a1 4294967295)) (Go.bits .and .u64 a2 4294967295), 0)))
set_option maxHeartbeats 8000000 in
set_option maxRecDepth 100000 in
theorem limb_Div.calls (a0 : Int) (a1 : Int) (a2 : Int) (r1 : Int) (r2 : Int) (r3 : Int) (w : World) (h : limb_Div.f a0 a1 a2 = some (r1, r2, r3)) :
    Calls Try.prog 11 #[.int .u64 a0, .int .u64 a1, .int .u64 a2] w fun e w' => e = .returned (.tuple #[.int .u64 r1, .int .u64 r2, .int .i64 r3]) ∧ Drawn0 w w' := by
  have H : (if (Go.bits .and .u64 a2 4294967295) = 0 then (some (0, 0, 3)) else (if (Go.bits .and .u64 a0 4294967295) ≥ (Go.bits .and .u64 a2 4294967295) then (some (0, 0, 2)) else (some (IntKind.u64.wrap (Int.tdiv (Go.bits .or .u64 (IntKind.u64.wrap ((Go.bits .and .u64 a0 4294967295) * 4294967296)) (Go.bits .and .u64 a1 4294967295)) (Go.bits .and .u64 a2 4294967295)), Int.tmod (Go.bits .or .u64 (IntKind.u64.wrap ((Go.bits .and .u64 a0 4294967295) * 4294967296)) (Go.bits .and .u64 a1 4294967295)) (Go.bits .and .u64 a2 4294967295), 0)))) = some (r1, r2, r3) := h
  clear h
  by_cases c4 : (Go.bits .and .u64 a2 4294967295) = 0
  · rw [if_pos c4] at H
    have c4b0 : ((Go.bits .and .u64 a2 4294967295) == 0) = true := beq_iff_eq.mpr c4
    have c4b1 : ((Go.bits .and .u64 a2 4294967295) != 0) = false := bne_eq_false_iff_eq.mpr c4
    clear c4
    simp only [Option.some.injEq, Prod.mk.injEq] at H
    obtain ⟨rfl, rfl, rfl⟩ := H
    go_enter Try.func11, Try.ntmps11
    go_wp2
    repeat (go_quiet (fail); try go_wp2)
    go_ret3
    exact ⟨by first | rfl | (simp; done) | (simp [*]; done), by repeat (first | exact Drawn0.refl _ | apply Drawn0.step)⟩
  · rw [if_neg c4] at H
    have c4b0 : ((Go.bits .and .u64 a2 4294967295) == 0) = false := beq_eq_false_iff_ne.mpr c4
    have c4b1 : ((Go.bits .and .u64 a2 4294967295) != 0) = true := bne_iff_ne.mpr c4
    by_cases c5 : (Go.bits .and .u64 a0 4294967295) ≥ (Go.bits .and .u64 a2 4294967295)
    · rw [if_pos c5] at H
      have c5b0 : decide ((Go.bits .and .u64 a2 4294967295) ≤ (Go.bits .and .u64 a0 4294967295)) = true := decide_eq_true c5
      clear c5
      simp only [Option.some.injEq, Prod.mk.injEq] at H
      obtain ⟨rfl, rfl, rfl⟩ := H
      go_enter Try.func11, Try.ntmps11
      go_wp2
      repeat (go_quiet (fail); try go_wp2)
      go_ret3
      exact ⟨by first | rfl | (simp; done) | (simp [*]; done), by repeat (first | exact Drawn0.refl _ | apply Drawn0.step)⟩
    · rw [if_neg c5] at H
      have c5b0 : decide ((Go.bits .and .u64 a2 4294967295) ≤ (Go.bits .and .u64 a0 4294967295)) = false := decide_eq_false c5
      clear c5
      simp only [Option.some.injEq, Prod.mk.injEq] at H
      obtain ⟨rfl, rfl, rfl⟩ := H
      go_enter Try.func11, Try.ntmps11
      go_wp2
      repeat (go_quiet (fail); try go_wp2)
      go_ret3
      exact ⟨by first | rfl | (simp; done) | (simp [*]; done), by repeat (first | exact Drawn0.refl _ | apply Drawn0.step)⟩

/-! ### triviumlaw01_works: function 10 -/
def triviumlaw01_works.f  : Option (Bool) := (limb_Mul.f 4294967295 4294967295 0 0).bind fun bt101 => ((limb_Div.f 1 0 3).bind fun bt103 => (if bt101.1 = 1 then (if bt101.2 = 4294967294 then (if bt103.1 = 1431655765 then (if bt103.2.1 = 1 then (some (bt103.2.2 == 0)) else (some false)) else (some false)) else (some false)) else (some false)))
set_option maxHeartbeats 8000000 in
set_option maxRecDepth 100000 in
theorem triviumlaw01_works.calls  (r : Bool) (w : World) (h : triviumlaw01_works.f  = some r) :
    Calls Try.prog 10 #[] w fun e w' => e = .returned (.bool r) ∧ Drawn0 w w' := by
  have H : ((limb_Mul.f 4294967295 4294967295 0 0).bind fun bt101 => ((limb_Div.f 1 0 3).bind fun bt103 => (if bt101.1 = 1 then (if bt101.2 = 4294967294 then (if bt103.1 = 1431655765 then (if bt103.2.1 = 1 then (some (bt103.2.2 == 0)) else (some false)) else (some false)) else (some false)) else (some false)))) = some r := h
  clear h
  replace H := Option.bind_eq_some_iff.mp H
  obtain ⟨⟨t101, t102⟩, A10, H⟩ := H
  replace H : ((limb_Div.f 1 0 3).bind fun bt103 => (if t101 = 1 then (if t102 = 4294967294 then (if bt103.1 = 1431655765 then (if bt103.2.1 = 1 then (some (bt103.2.2 == 0)) else (some false)) else (some false)) else (some false)) else (some false))) = some r := H
  have A1 := Aside0.mk A10
  clear A10
  replace H := Option.bind_eq_some_iff.mp H
  obtain ⟨⟨t103, t104, t105⟩, A20, H⟩ := H
  replace H : (if t101 = 1 then (if t102 = 4294967294 then (if t103 = 1431655765 then (if t104 = 1 then (some (t105 == 0)) else (some false)) else (some false)) else (some false)) else (some false)) = some r := H
  have A2 := Aside0.mk A20
  clear A20
  by_cases c3 : t101 = 1
  · rw [if_pos c3] at H
    have c3b0 : (t101 == 1) = true := beq_iff_eq.mpr c3
    have c3b1 : (t101 != 1) = false := bne_eq_false_iff_eq.mpr c3
    clear c3
    by_cases c4 : t102 = 4294967294
    · rw [if_pos c4] at H
      have c4b0 : (t102 == 4294967294) = true := beq_iff_eq.mpr c4
      have c4b1 : (t102 != 4294967294) = false := bne_eq_false_iff_eq.mpr c4
      clear c4
      by_cases c5 : t103 = 1431655765
      · rw [if_pos c5] at H
        have c5b0 : (t103 == 1431655765) = true := beq_iff_eq.mpr c5
        have c5b1 : (t103 != 1431655765) = false := bne_eq_false_iff_eq.mpr c5
        clear c5
        by_cases c6 : t104 = 1
        · rw [if_pos c6] at H
          have c6b0 : (t104 == 1) = true := beq_iff_eq.mpr c6
          have c6b1 : (t104 != 1) = false := bne_eq_false_iff_eq.mpr c6
          clear c6
          obtain rfl := Option.some.inj H
          go_enter Try.func10, Try.ntmps10
          go_wp2_with (first | ((with_reducible refine gate_callee (f := 8) rfl ?_); refine goesL_ (some 7) rfl rfl Try.func8 (by kernel_rfl) rfl #[.int .u64 4294967295, .int .u64 4294967295, .int .u64 0, .int .u64 0] rfl (by (try simp only [List.map_toArray, List.map_cons, List.map_nil]); first | done | rfl | (simp only [List.length_drop, List.length_take]; rfl)) ?_; (with_reducible refine (limb_Mul.calls 4294967295 4294967295 0 0 t101 t102 _ A1.out).mono ?_); rintro e w' ⟨rfl, ⟨nd, rfl⟩⟩; refine ⟨_, rfl, ?_⟩) | ((with_reducible refine gate_callee (f := 11) rfl ?_); refine goesL_ (some 11) rfl rfl Try.func11 (by kernel_rfl) rfl #[.int .u64 1, .int .u64 0, .int .u64 3] rfl (by (try simp only [List.map_toArray, List.map_cons, List.map_nil]); first | done | rfl | (simp only [List.length_drop, List.length_take]; rfl)) ?_; (with_reducible refine (limb_Div.calls 1 0 3 t103 t104 t105 _ A2.out).mono ?_); rintro e w' ⟨rfl, ⟨nd, rfl⟩⟩; refine ⟨_, rfl, ?_⟩))
          go_ret
          exact ⟨by first | rfl | (simp; done) | (simp [*]; done), by repeat (first | exact Drawn0.refl _ | apply Drawn0.step)⟩
        · rw [if_neg c6] at H
          have c6b0 : (t104 == 1) = false := beq_eq_false_iff_ne.mpr c6
          have c6b1 : (t104 != 1) = true := bne_iff_ne.mpr c6
          obtain rfl := Option.some.inj H
          go_enter Try.func10, Try.ntmps10
          go_wp2_with (first | ((with_reducible refine gate_callee (f := 8) rfl ?_); refine goesL_ (some 7) rfl rfl Try.func8 (by kernel_rfl) rfl #[.int .u64 4294967295, .int .u64 4294967295, .int .u64 0, .int .u64 0] rfl (by (try simp only [List.map_toArray, List.map_cons, List.map_nil]); first | done | rfl | (simp only [List.length_drop, List.length_take]; rfl)) ?_; (with_reducible refine (limb_Mul.calls 4294967295 4294967295 0 0 t101 t102 _ A1.out).mono ?_); rintro e w' ⟨rfl, ⟨nd, rfl⟩⟩; refine ⟨_, rfl, ?_⟩) | ((with_reducible refine gate_callee (f := 11) rfl ?_); refine goesL_ (some 11) rfl rfl Try.func11 (by kernel_rfl) rfl #[.int .u64 1, .int .u64 0, .int .u64 3] rfl (by (try simp only [List.map_toArray, List.map_cons, List.map_nil]); first | done | rfl | (simp only [List.length_drop, List.length_take]; rfl)) ?_; (with_reducible refine (limb_Div.calls 1 0 3 t103 t104 t105 _ A2.out).mono ?_); rintro e w' ⟨rfl, ⟨nd, rfl⟩⟩; refine ⟨_, rfl, ?_⟩))
          go_ret
          exact ⟨by first | rfl | (simp; done) | (simp [*]; done), by repeat (first | exact Drawn0.refl _ | apply Drawn0.step)⟩
      · rw [if_neg c5] at H
        have c5b0 : (t103 == 1431655765) = false := beq_eq_false_iff_ne.mpr c5
        have c5b1 : (t103 != 1431655765) = true := bne_iff_ne.mpr c5
        obtain rfl := Option.some.inj H
        go_enter Try.func10, Try.ntmps10
        go_wp2_with (first | ((with_reducible refine gate_callee (f := 8) rfl ?_); refine goesL_ (some 7) rfl rfl Try.func8 (by kernel_rfl) rfl #[.int .u64 4294967295, .int .u64 4294967295, .int .u64 0, .int .u64 0] rfl (by (try simp only [List.map_toArray, List.map_cons, List.map_nil]); first | done | rfl | (simp only [List.length_drop, List.length_take]; rfl)) ?_; (with_reducible refine (limb_Mul.calls 4294967295 4294967295 0 0 t101 t102 _ A1.out).mono ?_); rintro e w' ⟨rfl, ⟨nd, rfl⟩⟩; refine ⟨_, rfl, ?_⟩) | ((with_reducible refine gate_callee (f := 11) rfl ?_); refine goesL_ (some 11) rfl rfl Try.func11 (by kernel_rfl) rfl #[.int .u64 1, .int .u64 0, .int .u64 3] rfl (by (try simp only [List.map_toArray, List.map_cons, List.map_nil]); first | done | rfl | (simp only [List.length_drop, List.length_take]; rfl)) ?_; (with_reducible refine (limb_Div.calls 1 0 3 t103 t104 t105 _ A2.out).mono ?_); rintro e w' ⟨rfl, ⟨nd, rfl⟩⟩; refine ⟨_, rfl, ?_⟩))
        go_ret
        exact ⟨by first | rfl | (simp; done) | (simp [*]; done), by repeat (first | exact Drawn0.refl _ | apply Drawn0.step)⟩
    · rw [if_neg c4] at H
      have c4b0 : (t102 == 4294967294) = false := beq_eq_false_iff_ne.mpr c4
      have c4b1 : (t102 != 4294967294) = true := bne_iff_ne.mpr c4
      obtain rfl := Option.some.inj H
      go_enter Try.func10, Try.ntmps10
      go_wp2_with (first | ((with_reducible refine gate_callee (f := 8) rfl ?_); refine goesL_ (some 7) rfl rfl Try.func8 (by kernel_rfl) rfl #[.int .u64 4294967295, .int .u64 4294967295, .int .u64 0, .int .u64 0] rfl (by (try simp only [List.map_toArray, List.map_cons, List.map_nil]); first | done | rfl | (simp only [List.length_drop, List.length_take]; rfl)) ?_; (with_reducible refine (limb_Mul.calls 4294967295 4294967295 0 0 t101 t102 _ A1.out).mono ?_); rintro e w' ⟨rfl, ⟨nd, rfl⟩⟩; refine ⟨_, rfl, ?_⟩) | ((with_reducible refine gate_callee (f := 11) rfl ?_); refine goesL_ (some 11) rfl rfl Try.func11 (by kernel_rfl) rfl #[.int .u64 1, .int .u64 0, .int .u64 3] rfl (by (try simp only [List.map_toArray, List.map_cons, List.map_nil]); first | done | rfl | (simp only [List.length_drop, List.length_take]; rfl)) ?_; (with_reducible refine (limb_Div.calls 1 0 3 t103 t104 t105 _ A2.out).mono ?_); rintro e w' ⟨rfl, ⟨nd, rfl⟩⟩; refine ⟨_, rfl, ?_⟩))
      go_ret
      exact ⟨by first | rfl | (simp; done) | (simp [*]; done), by repeat (first | exact Drawn0.refl _ | apply Drawn0.step)⟩
  · rw [if_neg c3] at H
    have c3b0 : (t101 == 1) = false := beq_eq_false_iff_ne.mpr c3
    have c3b1 : (t101 != 1) = true := bne_iff_ne.mpr c3
    obtain rfl := Option.some.inj H
    go_enter Try.func10, Try.ntmps10
    go_wp2_with (first | ((with_reducible refine gate_callee (f := 8) rfl ?_); refine goesL_ (some 7) rfl rfl Try.func8 (by kernel_rfl) rfl #[.int .u64 4294967295, .int .u64 4294967295, .int .u64 0, .int .u64 0] rfl (by (try simp only [List.map_toArray, List.map_cons, List.map_nil]); first | done | rfl | (simp only [List.length_drop, List.length_take]; rfl)) ?_; (with_reducible refine (limb_Mul.calls 4294967295 4294967295 0 0 t101 t102 _ A1.out).mono ?_); rintro e w' ⟨rfl, ⟨nd, rfl⟩⟩; refine ⟨_, rfl, ?_⟩) | ((with_reducible refine gate_callee (f := 11) rfl ?_); refine goesL_ (some 11) rfl rfl Try.func11 (by kernel_rfl) rfl #[.int .u64 1, .int .u64 0, .int .u64 3] rfl (by (try simp only [List.map_toArray, List.map_cons, List.map_nil]); first | done | rfl | (simp only [List.length_drop, List.length_take]; rfl)) ?_; (with_reducible refine (limb_Div.calls 1 0 3 t103 t104 t105 _ A2.out).mono ?_); rintro e w' ⟨rfl, ⟨nd, rfl⟩⟩; refine ⟨_, rfl, ?_⟩))
    go_ret
    exact ⟨by first | rfl | (simp; done) | (simp [*]; done), by repeat (first | exact Drawn0.refl _ | apply Drawn0.step)⟩

/-! ### limb_Add: function 13 -/
def limb_Add.f (a0 : Int) (a1 : Int) (a2 : Int) : Option (Int × Int) := some (Go.bits .and .u64 (IntKind.u64.wrap ((IntKind.u64.wrap ((Go.bits .and .u64 a0 4294967295) + (Go.bits .and .u64 a1 4294967295))) + (Go.bits .and .u64 a2 4294967295))) 4294967295, (IntKind.u64.wrap ((IntKind.u64.wrap ((Go.bits .and .u64 a0 4294967295) + (Go.bits .and .u64 a1 4294967295))) + (Go.bits .and .u64 a2 4294967295))) / 4294967296)
set_option maxHeartbeats 8000000 in
set_option maxRecDepth 100000 in
theorem limb_Add.calls (a0 : Int) (a1 : Int) (a2 : Int) (r1 : Int) (r2 : Int) (w : World) (h : limb_Add.f a0 a1 a2 = some (r1, r2)) :
    Calls Try.prog 13 #[.int .u64 a0, .int .u64 a1, .int .u64 a2] w fun e w' => e = .returned (.tuple #[.int .u64 r1, .int .u64 r2]) ∧ Drawn0 w w' := by
  have H : (some (Go.bits .and .u64 (IntKind.u64.wrap ((IntKind.u64.wrap ((Go.bits .and .u64 a0 4294967295) + (Go.bits .and .u64 a1 4294967295))) + (Go.bits .and .u64 a2 4294967295))) 4294967295, (IntKind.u64.wrap ((IntKind.u64.wrap ((Go.bits .and .u64 a0 4294967295) + (Go.bits .and .u64 a1 4294967295))) + (Go.bits .and .u64 a2 4294967295))) / 4294967296)) = some (r1, r2) := h
  clear h
  simp only [Option.some.injEq, Prod.mk.injEq] at H
  obtain ⟨rfl, rfl⟩ := H
  go_enter Try.func13, Try.ntmps13
  go_wp2
  go_ret2
  exact ⟨by first | rfl | (simp; done) | (simp [*]; done), by repeat (first | exact Drawn0.refl _ | apply Drawn0.step)⟩

/-! ### triviumref01_Add: function 14 -/
def triviumref01_Add.f (a0 : Int) (a1 : Int) (a2 : Int) : Option (Int × Int) := some (Int.tmod (IntKind.u64.wrap ((IntKind.u64.wrap ((Int.tmod a0 4294967296) + (Int.tmod a1 4294967296))) + (Int.tmod a2 4294967296))) 4294967296, IntKind.u64.wrap (Int.tdiv (IntKind.u64.wrap ((IntKind.u64.wrap ((Int.tmod a0 4294967296) + (Int.tmod a1 4294967296))) + (Int.tmod a2 4294967296))) 4294967296))
set_option maxHeartbeats 8000000 in
set_option maxRecDepth 100000 in
theorem triviumref01_Add.calls (a0 : Int) (a1 : Int) (a2 : Int) (r1 : Int) (r2 : Int) (w : World) (h : triviumref01_Add.f a0 a1 a2 = some (r1, r2)) :
    Calls Try.prog 14 #[.int .u64 a0, .int .u64 a1, .int .u64 a2] w fun e w' => e = .returned (.tuple #[.int .u64 r1, .int .u64 r2]) ∧ Drawn0 w w' := by
  have H : (some (Int.tmod (IntKind.u64.wrap ((IntKind.u64.wrap ((Int.tmod a0 4294967296) + (Int.tmod a1 4294967296))) + (Int.tmod a2 4294967296))) 4294967296, IntKind.u64.wrap (Int.tdiv (IntKind.u64.wrap ((IntKind.u64.wrap ((Int.tmod a0 4294967296) + (Int.tmod a1 4294967296))) + (Int.tmod a2 4294967296))) 4294967296))) = some (r1, r2) := h
  clear h
  simp only [Option.some.injEq, Prod.mk.injEq] at H
  obtain ⟨rfl, rfl⟩ := H
  go_enter Try.func14, Try.ntmps14
  go_wp2
  go_ret2
  exact ⟨by first | rfl | (simp; done) | (simp [*]; done), by repeat (first | exact Drawn0.refl _ | apply Drawn0.step)⟩

/-! ### limb_Sub: function 15 -/
def limb_Sub.f (a0 : Int) (a1 : Int) (a2 : Int) : Option (Int × Int) := if (Go.bits .and .u64 a0 4294967295) < (IntKind.u64.wrap ((Go.bits .and .u64 a1 4294967295) + (Go.bits .and .u64 a2 4294967295))) then (some (IntKind.u64.wrap ((IntKind.u64.wrap ((Go.bits .and .u64 a0 4294967295) + (IntKind.u64.wrap (((IntKind.u64.wrap ((IntKind.u64.wrap ((IntKind.u64.wrap ((Go.bits .and .u64 a1 4294967295) + (Go.bits .and .u64 a2 4294967295))) - (Go.bits .and .u64 a0 4294967295))) + 4294967295)) / 4294967296) * 4294967296)))) - (IntKind.u64.wrap ((Go.bits .and .u64 a1 4294967295) + (Go.bits .and .u64 a2 4294967295)))), (IntKind.u64.wrap ((IntKind.u64.wrap ((IntKind.u64.wrap ((Go.bits .and .u64 a1 4294967295) + (Go.bits .and .u64 a2 4294967295))) - (Go.bits .and .u64 a0 4294967295))) + 4294967295)) / 4294967296)) else (some (IntKind.u64.wrap ((IntKind.u64.wrap ((Go.bits .and .u64 a0 4294967295) + (0 * 4294967296))) - (IntKind.u64.wrap ((Go.bits .and .u64 a1 4294967295) + (Go.bits .and .u64 a2 4294967295)))), 0))
set_option maxHeartbeats 8000000 in
set_option maxRecDepth 100000 in
theorem limb_Sub.calls (a0 : Int) (a1 : Int) (a2 : Int) (r1 : Int) (r2 : Int) (w : World) (h : limb_Sub.f a0 a1 a2 = some (r1, r2)) :
    Calls Try.prog 15 #[.int .u64 a0, .int .u64 a1, .int .u64 a2] w fun e w' => e = .returned (.tuple #[.int .u64 r1, .int .u64 r2]) ∧ Drawn0 w w' := by
  have H : (if (Go.bits .and .u64 a0 4294967295) < (IntKind.u64.wrap ((Go.bits .and .u64 a1 4294967295) + (Go.bits .and .u64 a2 4294967295))) then (some (IntKind.u64.wrap ((IntKind.u64.wrap ((Go.bits .and .u64 a0 4294967295) + (IntKind.u64.wrap (((IntKind.u64.wrap ((IntKind.u64.wrap ((IntKind.u64.wrap ((Go.bits .and .u64 a1 4294967295) + (Go.bits .and .u64 a2 4294967295))) - (Go.bits .and .u64 a0 4294967295))) + 4294967295)) / 4294967296) * 4294967296)))) - (IntKind.u64.wrap ((Go.bits .and .u64 a1 4294967295) + (Go.bits .and .u64 a2 4294967295)))), (IntKind.u64.wrap ((IntKind.u64.wrap ((IntKind.u64.wrap ((Go.bits .and .u64 a1 4294967295) + (Go.bits .and .u64 a2 4294967295))) - (Go.bits .and .u64 a0 4294967295))) + 4294967295)) / 4294967296)) else (some (IntKind.u64.wrap ((IntKind.u64.wrap ((Go.bits .and .u64 a0 4294967295) + (0 * 4294967296))) - (IntKind.u64.wrap ((Go.bits .and .u64 a1 4294967295) + (Go.bits .and .u64 a2 4294967295)))), 0))) = some (r1, r2) := h
  clear h
  by_cases c4 : (Go.bits .and .u64 a0 4294967295) < (IntKind.u64.wrap ((Go.bits .and .u64 a1 4294967295) + (Go.bits .and .u64 a2 4294967295)))
  · rw [if_pos c4] at H
    have c4b0 : decide ((Go.bits .and .u64 a0 4294967295) < (IntKind.u64.wrap ((Go.bits .and .u64 a1 4294967295) + (Go.bits .and .u64 a2 4294967295)))) = true := decide_eq_true c4
    clear c4
    simp only [Option.some.injEq, Prod.mk.injEq] at H
    obtain ⟨rfl, rfl⟩ := H
    go_enter Try.func15, Try.ntmps15
    go_wp2
    go_ret2
    exact ⟨by first | rfl | (simp; done) | (simp [*]; done), by repeat (first | exact Drawn0.refl _ | apply Drawn0.step)⟩
  · rw [if_neg c4] at H
    have c4b0 : decide ((Go.bits .and .u64 a0 4294967295) < (IntKind.u64.wrap ((Go.bits .and .u64 a1 4294967295) + (Go.bits .and .u64 a2 4294967295)))) = false := decide_eq_false c4
    clear c4
    simp only [Option.some.injEq, Prod.mk.injEq] at H
    obtain ⟨rfl, rfl⟩ := H
    go_enter Try.func15, Try.ntmps15
    go_wp2
    go_ret2
    exact ⟨by first | rfl | (simp; done) | (simp [*]; done), by repeat (first | exact Drawn0.refl _ | apply Drawn0.step)⟩

/-! ### triviumref01_Sub: function 16 -/
def triviumref01_Sub.l0 : Nat → Int → Int → Int → Option (Int × Int)
  | 0, _, _, _ => none
  | k + 1, x8, x9, x10 => if x8 < x9 then (triviumref01_Sub.l0 k (IntKind.u64.wrap (x8 + 4294967296)) x9 (IntKind.u64.wrap (x10 + 1))) else (some (IntKind.u64.wrap (x8 - x9), x10))
def triviumref01_Sub.f (k : Nat) (a0 : Int) (a1 : Int) (a2 : Int) : Option (Int × Int) := triviumref01_Sub.l0 k (Int.tmod a0 4294967296) (IntKind.u64.wrap ((Int.tmod a1 4294967296) + (Int.tmod a2 4294967296))) 0
theorem triviumref01_Sub.mono_l : ∀ k, (∀ y0 y1 y2, LeO (triviumref01_Sub.l0 k y0 y1 y2) (triviumref01_Sub.l0 (k + 1) y0 y1 y2))
  | 0 => fun _ _ _ r h => by simp [triviumref01_Sub.l0] at h
  | k + 1 => by
    have ih0 := triviumref01_Sub.mono_l k
    · intro y0 y1 y2
      unfold triviumref01_Sub.l0
      repeat' first
      | (with_reducible exact ih0 _ _ _)
      | (with_reducible exact LeO.refl _)
      | (with_reducible exact LeO.none _)
      | (with_reducible refine LeO.ite ?_ ?_)
      | (with_reducible refine LeO.bind ?_ (fun _ => ?_))
      | exact ih0 _ _ _
      | exact LeO.none _
      | refine LeO.ite ?_ ?_
      | refine LeO.bind ?_ (fun _ => ?_)
theorem triviumref01_Sub.mono : ∀ a0 a1 a2 k, LeO (triviumref01_Sub.f k a0 a1 a2) (triviumref01_Sub.f (k + 1) a0 a1 a2) := by
  intro a0 a1 a2 k
  have ih0 := triviumref01_Sub.mono_l k
  unfold triviumref01_Sub.f
  repeat' first
      | (with_reducible exact ih0 _ _ _)
      | (with_reducible exact LeO.refl _)
      | (with_reducible exact LeO.none _)
      | (with_reducible refine LeO.ite ?_ ?_)
      | (with_reducible refine LeO.bind ?_ (fun _ => ?_))
      | exact ih0 _ _ _
      | exact LeO.none _
      | refine LeO.ite ?_ ?_
      | refine LeO.bind ?_ (fun _ => ?_)
set_option maxHeartbeats 8000000 in
set_option maxRecDepth 100000 in
theorem triviumref01_Sub.calls (k : Nat) (a0 : Int) (a1 : Int) (a2 : Int) (r1 : Int) (r2 : Int) (w : World) (h : triviumref01_Sub.f k a0 a1 a2 = some (r1, r2)) :
    Calls Try.prog 16 #[.int .u64 a0, .int .u64 a1, .int .u64 a2] w fun e w' => e = .returned (.tuple #[.int .u64 r1, .int .u64 r2]) ∧ Drawn0 w w' := by
  have H : (triviumref01_Sub.l0 k (Int.tmod a0 4294967296) (IntKind.u64.wrap ((Int.tmod a1 4294967296) + (Int.tmod a2 4294967296))) 0) = some (r1, r2) := h
  clear h
  have H' := Aside0.mk H
  clear H
  go_enter Try.func16, Try.ntmps16
  go_wp2
  go_loopg [8, 10] k (fun kq v8 v10 w' => ∃ (x8_1 : Int) (x10_1 : Int), v8 = .int .u64 x8_1 ∧ v10 = .int .u64 x10_1 ∧ Aside0 (triviumref01_Sub.l0 kq x8_1 (IntKind.u64.wrap ((Int.tmod a1 4294967296) + (Int.tmod a2 4294967296))) x10_1 = some (r1, r2)) ∧ Aside0 (kq ≤ k) ∧ Drawn0 w w')
  case atStart => exact ⟨(Int.tmod a0 4294967296), (0), (by first | rfl | (simp; done) | (simp [*]; done)), (by first | rfl | (simp; done) | (simp [*]; done)), H', ⟨Nat.le_refl _⟩, by repeat (first | exact Drawn0.refl _ | apply Drawn0.step)⟩
  case round =>
    clear H'
    try clear c1
    try clear p2
    obtain ⟨x8_1, x10_1, rfl, rfl, HA, HK1, ⟨m1, rfl⟩⟩ := hrel
    cases gk with
    | zero => exact absurd HA.out (by simp [triviumref01_Sub.l0])
    | succ k1 =>
      have H := HA.out
      clear HA
      simp only [triviumref01_Sub.l0] at H
      by_cases c4 : x8_1 < (IntKind.u64.wrap ((Int.tmod a1 4294967296) + (Int.tmod a2 4294967296)))
      · rw [if_pos c4] at H
        have c4b0 : decide (x8_1 < (IntKind.u64.wrap ((Int.tmod a1 4294967296) + (Int.tmod a2 4294967296)))) = true := decide_eq_true c4
        clear c4
        have H' := Aside0.mk H
        clear H
        go_wp2
        go_roundg k1
        case measure => have := HK1.out; omega
        case rel => exact ⟨(IntKind.u64.wrap (x8_1 + 4294967296)), (IntKind.u64.wrap (x10_1 + 1)), (by first | rfl | (simp; done) | (simp [*]; done)), (by first | rfl | (simp; done) | (simp [*]; done)), H', ⟨by have := HK1.out; omega⟩, by repeat (first | exact Drawn0.refl _ | apply Drawn0.step)⟩
      · rw [if_neg c4] at H
        have c4b0 : decide (x8_1 < (IntKind.u64.wrap ((Int.tmod a1 4294967296) + (Int.tmod a2 4294967296)))) = false := decide_eq_false c4
        clear c4
        simp only [Option.some.injEq, Prod.mk.injEq] at H
        obtain ⟨rfl, rfl⟩ := H
        go_wp2
        go_ret2
        exact ⟨by first | rfl | (simp; done) | (simp [*]; done), by repeat (first | exact Drawn0.refl _ | apply Drawn0.step)⟩

/-! ### triviumlaw01_LimbAdds: function 5 -/
def triviumlaw01_LimbAdds.f (k : Nat) (a0 : Int) (a1 : Int) (a2 : Int) : Option (Bool) := (limb_Add.f a0 a1 a2).bind fun bt106 => ((triviumref01_Add.f a0 a1 a2).bind fun bt108 => ((limb_Sub.f a0 a1 a2).bind fun bt110 => ((triviumref01_Sub.f k a0 a1 a2).bind fun bt112 => (if bt106.1 = bt108.1 then (if bt106.2 = bt108.2 then (if bt110.1 = bt112.1 then (if bt110.2 = bt112.2 then ((triviumlaw01_works.f).bind fun t114 => (some t114)) else (some false)) else (some false)) else (some false)) else (some false)))))
theorem triviumlaw01_LimbAdds.mono : ∀ a0 a1 a2 k, LeO (triviumlaw01_LimbAdds.f k a0 a1 a2) (triviumlaw01_LimbAdds.f (k + 1) a0 a1 a2) := by
  intro a0 a1 a2 k
  unfold triviumlaw01_LimbAdds.f
  repeat' first
      | (with_reducible exact triviumref01_Sub.mono _ _ _ _)
      | (with_reducible exact LeO.refl _)
      | (with_reducible exact LeO.none _)
      | (with_reducible refine LeO.ite ?_ ?_)
      | (with_reducible refine LeO.bind ?_ (fun _ => ?_))
      | exact triviumref01_Sub.mono _ _ _ _
      | exact LeO.none _
      | refine LeO.ite ?_ ?_
      | refine LeO.bind ?_ (fun _ => ?_)
set_option maxHeartbeats 8000000 in
set_option maxRecDepth 100000 in
theorem triviumlaw01_LimbAdds.calls (k : Nat) (a0 : Int) (a1 : Int) (a2 : Int) (r : Bool) (w : World) (h : triviumlaw01_LimbAdds.f k a0 a1 a2 = some r) :
    Calls Try.prog 5 #[.int .u64 a0, .int .u64 a1, .int .u64 a2] w fun e w' => e = .returned (.bool r) ∧ Drawn0 w w' := by
  have H : ((limb_Add.f a0 a1 a2).bind fun bt106 => ((triviumref01_Add.f a0 a1 a2).bind fun bt108 => ((limb_Sub.f a0 a1 a2).bind fun bt110 => ((triviumref01_Sub.f k a0 a1 a2).bind fun bt112 => (if bt106.1 = bt108.1 then (if bt106.2 = bt108.2 then (if bt110.1 = bt112.1 then (if bt110.2 = bt112.2 then ((triviumlaw01_works.f).bind fun t114 => (some t114)) else (some false)) else (some false)) else (some false)) else (some false)))))) = some r := h
  clear h
  replace H := Option.bind_eq_some_iff.mp H
  obtain ⟨⟨t106, t107⟩, A40, H⟩ := H
  replace H : ((triviumref01_Add.f a0 a1 a2).bind fun bt108 => ((limb_Sub.f a0 a1 a2).bind fun bt110 => ((triviumref01_Sub.f k a0 a1 a2).bind fun bt112 => (if t106 = bt108.1 then (if t107 = bt108.2 then (if bt110.1 = bt112.1 then (if bt110.2 = bt112.2 then ((triviumlaw01_works.f).bind fun t114 => (some t114)) else (some false)) else (some false)) else (some false)) else (some false))))) = some r := H
  have A4 := Aside0.mk A40
  clear A40
  replace H := Option.bind_eq_some_iff.mp H
  obtain ⟨⟨t108, t109⟩, A50, H⟩ := H
  replace H : ((limb_Sub.f a0 a1 a2).bind fun bt110 => ((triviumref01_Sub.f k a0 a1 a2).bind fun bt112 => (if t106 = t108 then (if t107 = t109 then (if bt110.1 = bt112.1 then (if bt110.2 = bt112.2 then ((triviumlaw01_works.f).bind fun t114 => (some t114)) else (some false)) else (some false)) else (some false)) else (some false)))) = some r := H
  have A5 := Aside0.mk A50
  clear A50
  replace H := Option.bind_eq_some_iff.mp H
  obtain ⟨⟨t110, t111⟩, A60, H⟩ := H
  replace H : ((triviumref01_Sub.f k a0 a1 a2).bind fun bt112 => (if t106 = t108 then (if t107 = t109 then (if t110 = bt112.1 then (if t111 = bt112.2 then ((triviumlaw01_works.f).bind fun t114 => (some t114)) else (some false)) else (some false)) else (some false)) else (some false))) = some r := H
  have A6 := Aside0.mk A60
  clear A60
  replace H := Option.bind_eq_some_iff.mp H
  obtain ⟨⟨t112, t113⟩, A70, H⟩ := H
  replace H : (if t106 = t108 then (if t107 = t109 then (if t110 = t112 then (if t111 = t113 then ((triviumlaw01_works.f).bind fun t114 => (some t114)) else (some false)) else (some false)) else (some false)) else (some false)) = some r := H
  have A7 := Aside0.mk A70
  clear A70
  by_cases c8 : t106 = t108
  · rw [if_pos c8] at H
    have c8b0 : (t106 == t108) = true := beq_iff_eq.mpr c8
    have c8b1 : (t106 != t108) = false := bne_eq_false_iff_eq.mpr c8
    clear c8
    by_cases c9 : t107 = t109
    · rw [if_pos c9] at H
      have c9b0 : (t107 == t109) = true := beq_iff_eq.mpr c9
      have c9b1 : (t107 != t109) = false := bne_eq_false_iff_eq.mpr c9
      clear c9
      by_cases c10 : t110 = t112
      · rw [if_pos c10] at H
        have c10b0 : (t110 == t112) = true := beq_iff_eq.mpr c10
        have c10b1 : (t110 != t112) = false := bne_eq_false_iff_eq.mpr c10
        clear c10
        by_cases c11 : t111 = t113
        · rw [if_pos c11] at H
          have c11b0 : (t111 == t113) = true := beq_iff_eq.mpr c11
          have c11b1 : (t111 != t113) = false := bne_eq_false_iff_eq.mpr c11
          clear c11
          replace H := Option.bind_eq_some_iff.mp H
          obtain ⟨t114, A120, H⟩ := H
          replace H : (some t114) = some r := H
          have A12 := Aside0.mk A120
          clear A120
          obtain rfl := Option.some.inj H
          go_enter Try.func5, Try.ntmps5
          go_wp2_with (first | ((with_reducible refine gate_callee (f := 13) rfl ?_); refine goesL_ (some 19) rfl rfl Try.func13 (by kernel_rfl) rfl #[.int .u64 a0, .int .u64 a1, .int .u64 a2] rfl (by (try simp only [List.map_toArray, List.map_cons, List.map_nil]); first | done | rfl | (simp only [List.length_drop, List.length_take]; rfl)) ?_; (with_reducible refine (limb_Add.calls a0 a1 a2 t106 t107 _ A4.out).mono ?_); rintro e w' ⟨rfl, ⟨nd, rfl⟩⟩; refine ⟨_, rfl, ?_⟩) | ((with_reducible refine gate_callee (f := 14) rfl ?_); refine goesL_ (some 26) rfl rfl Try.func14 (by kernel_rfl) rfl #[.int .u64 a0, .int .u64 a1, .int .u64 a2] rfl (by (try simp only [List.map_toArray, List.map_cons, List.map_nil]); first | done | rfl | (simp only [List.length_drop, List.length_take]; rfl)) ?_; (with_reducible refine (triviumref01_Add.calls a0 a1 a2 t108 t109 _ A5.out).mono ?_); rintro e w' ⟨rfl, ⟨nd, rfl⟩⟩; refine ⟨_, rfl, ?_⟩) | ((with_reducible refine gate_callee (f := 15) rfl ?_); refine goesL_ (some 33) rfl rfl Try.func15 (by kernel_rfl) rfl #[.int .u64 a0, .int .u64 a1, .int .u64 a2] rfl (by (try simp only [List.map_toArray, List.map_cons, List.map_nil]); first | done | rfl | (simp only [List.length_drop, List.length_take]; rfl)) ?_; (with_reducible refine (limb_Sub.calls a0 a1 a2 t110 t111 _ A6.out).mono ?_); rintro e w' ⟨rfl, ⟨nd, rfl⟩⟩; refine ⟨_, rfl, ?_⟩) | ((with_reducible refine gate_callee (f := 16) rfl ?_); refine goesL_ (some 40) rfl rfl Try.func16 (by kernel_rfl) rfl #[.int .u64 a0, .int .u64 a1, .int .u64 a2] rfl (by (try simp only [List.map_toArray, List.map_cons, List.map_nil]); first | done | rfl | (simp only [List.length_drop, List.length_take]; rfl)) ?_; (with_reducible refine (triviumref01_Sub.calls k a0 a1 a2 t112 t113 _ A7.out).mono ?_); rintro e w' ⟨rfl, ⟨nd, rfl⟩⟩; refine ⟨_, rfl, ?_⟩) | (go_at_call 10; (with_reducible refine (triviumlaw01_works.calls  t114 _ A12.out).mono ?_); rintro e w' ⟨rfl, ⟨nd, rfl⟩⟩))
          go_ret
          exact ⟨by first | rfl | (simp; done) | (simp [*]; done), by repeat (first | exact Drawn0.refl _ | apply Drawn0.step)⟩
        · rw [if_neg c11] at H
          have c11b0 : (t111 == t113) = false := beq_eq_false_iff_ne.mpr c11
          have c11b1 : (t111 != t113) = true := bne_iff_ne.mpr c11
          obtain rfl := Option.some.inj H
          go_enter Try.func5, Try.ntmps5
          go_wp2_with (first | ((with_reducible refine gate_callee (f := 13) rfl ?_); refine goesL_ (some 19) rfl rfl Try.func13 (by kernel_rfl) rfl #[.int .u64 a0, .int .u64 a1, .int .u64 a2] rfl (by (try simp only [List.map_toArray, List.map_cons, List.map_nil]); first | done | rfl | (simp only [List.length_drop, List.length_take]; rfl)) ?_; (with_reducible refine (limb_Add.calls a0 a1 a2 t106 t107 _ A4.out).mono ?_); rintro e w' ⟨rfl, ⟨nd, rfl⟩⟩; refine ⟨_, rfl, ?_⟩) | ((with_reducible refine gate_callee (f := 14) rfl ?_); refine goesL_ (some 26) rfl rfl Try.func14 (by kernel_rfl) rfl #[.int .u64 a0, .int .u64 a1, .int .u64 a2] rfl (by (try simp only [List.map_toArray, List.map_cons, List.map_nil]); first | done | rfl | (simp only [List.length_drop, List.length_take]; rfl)) ?_; (with_reducible refine (triviumref01_Add.calls a0 a1 a2 t108 t109 _ A5.out).mono ?_); rintro e w' ⟨rfl, ⟨nd, rfl⟩⟩; refine ⟨_, rfl, ?_⟩) | ((with_reducible refine gate_callee (f := 15) rfl ?_); refine goesL_ (some 33) rfl rfl Try.func15 (by kernel_rfl) rfl #[.int .u64 a0, .int .u64 a1, .int .u64 a2] rfl (by (try simp only [List.map_toArray, List.map_cons, List.map_nil]); first | done | rfl | (simp only [List.length_drop, List.length_take]; rfl)) ?_; (with_reducible refine (limb_Sub.calls a0 a1 a2 t110 t111 _ A6.out).mono ?_); rintro e w' ⟨rfl, ⟨nd, rfl⟩⟩; refine ⟨_, rfl, ?_⟩) | ((with_reducible refine gate_callee (f := 16) rfl ?_); refine goesL_ (some 40) rfl rfl Try.func16 (by kernel_rfl) rfl #[.int .u64 a0, .int .u64 a1, .int .u64 a2] rfl (by (try simp only [List.map_toArray, List.map_cons, List.map_nil]); first | done | rfl | (simp only [List.length_drop, List.length_take]; rfl)) ?_; (with_reducible refine (triviumref01_Sub.calls k a0 a1 a2 t112 t113 _ A7.out).mono ?_); rintro e w' ⟨rfl, ⟨nd, rfl⟩⟩; refine ⟨_, rfl, ?_⟩))
          go_ret
          exact ⟨by first | rfl | (simp; done) | (simp [*]; done), by repeat (first | exact Drawn0.refl _ | apply Drawn0.step)⟩
      · rw [if_neg c10] at H
        have c10b0 : (t110 == t112) = false := beq_eq_false_iff_ne.mpr c10
        have c10b1 : (t110 != t112) = true := bne_iff_ne.mpr c10
        obtain rfl := Option.some.inj H
        go_enter Try.func5, Try.ntmps5
        go_wp2_with (first | ((with_reducible refine gate_callee (f := 13) rfl ?_); refine goesL_ (some 19) rfl rfl Try.func13 (by kernel_rfl) rfl #[.int .u64 a0, .int .u64 a1, .int .u64 a2] rfl (by (try simp only [List.map_toArray, List.map_cons, List.map_nil]); first | done | rfl | (simp only [List.length_drop, List.length_take]; rfl)) ?_; (with_reducible refine (limb_Add.calls a0 a1 a2 t106 t107 _ A4.out).mono ?_); rintro e w' ⟨rfl, ⟨nd, rfl⟩⟩; refine ⟨_, rfl, ?_⟩) | ((with_reducible refine gate_callee (f := 14) rfl ?_); refine goesL_ (some 26) rfl rfl Try.func14 (by kernel_rfl) rfl #[.int .u64 a0, .int .u64 a1, .int .u64 a2] rfl (by (try simp only [List.map_toArray, List.map_cons, List.map_nil]); first | done | rfl | (simp only [List.length_drop, List.length_take]; rfl)) ?_; (with_reducible refine (triviumref01_Add.calls a0 a1 a2 t108 t109 _ A5.out).mono ?_); rintro e w' ⟨rfl, ⟨nd, rfl⟩⟩; refine ⟨_, rfl, ?_⟩) | ((with_reducible refine gate_callee (f := 15) rfl ?_); refine goesL_ (some 33) rfl rfl Try.func15 (by kernel_rfl) rfl #[.int .u64 a0, .int .u64 a1, .int .u64 a2] rfl (by (try simp only [List.map_toArray, List.map_cons, List.map_nil]); first | done | rfl | (simp only [List.length_drop, List.length_take]; rfl)) ?_; (with_reducible refine (limb_Sub.calls a0 a1 a2 t110 t111 _ A6.out).mono ?_); rintro e w' ⟨rfl, ⟨nd, rfl⟩⟩; refine ⟨_, rfl, ?_⟩) | ((with_reducible refine gate_callee (f := 16) rfl ?_); refine goesL_ (some 40) rfl rfl Try.func16 (by kernel_rfl) rfl #[.int .u64 a0, .int .u64 a1, .int .u64 a2] rfl (by (try simp only [List.map_toArray, List.map_cons, List.map_nil]); first | done | rfl | (simp only [List.length_drop, List.length_take]; rfl)) ?_; (with_reducible refine (triviumref01_Sub.calls k a0 a1 a2 t112 t113 _ A7.out).mono ?_); rintro e w' ⟨rfl, ⟨nd, rfl⟩⟩; refine ⟨_, rfl, ?_⟩))
        go_ret
        exact ⟨by first | rfl | (simp; done) | (simp [*]; done), by repeat (first | exact Drawn0.refl _ | apply Drawn0.step)⟩
    · rw [if_neg c9] at H
      have c9b0 : (t107 == t109) = false := beq_eq_false_iff_ne.mpr c9
      have c9b1 : (t107 != t109) = true := bne_iff_ne.mpr c9
      obtain rfl := Option.some.inj H
      go_enter Try.func5, Try.ntmps5
      go_wp2_with (first | ((with_reducible refine gate_callee (f := 13) rfl ?_); refine goesL_ (some 19) rfl rfl Try.func13 (by kernel_rfl) rfl #[.int .u64 a0, .int .u64 a1, .int .u64 a2] rfl (by (try simp only [List.map_toArray, List.map_cons, List.map_nil]); first | done | rfl | (simp only [List.length_drop, List.length_take]; rfl)) ?_; (with_reducible refine (limb_Add.calls a0 a1 a2 t106 t107 _ A4.out).mono ?_); rintro e w' ⟨rfl, ⟨nd, rfl⟩⟩; refine ⟨_, rfl, ?_⟩) | ((with_reducible refine gate_callee (f := 14) rfl ?_); refine goesL_ (some 26) rfl rfl Try.func14 (by kernel_rfl) rfl #[.int .u64 a0, .int .u64 a1, .int .u64 a2] rfl (by (try simp only [List.map_toArray, List.map_cons, List.map_nil]); first | done | rfl | (simp only [List.length_drop, List.length_take]; rfl)) ?_; (with_reducible refine (triviumref01_Add.calls a0 a1 a2 t108 t109 _ A5.out).mono ?_); rintro e w' ⟨rfl, ⟨nd, rfl⟩⟩; refine ⟨_, rfl, ?_⟩) | ((with_reducible refine gate_callee (f := 15) rfl ?_); refine goesL_ (some 33) rfl rfl Try.func15 (by kernel_rfl) rfl #[.int .u64 a0, .int .u64 a1, .int .u64 a2] rfl (by (try simp only [List.map_toArray, List.map_cons, List.map_nil]); first | done | rfl | (simp only [List.length_drop, List.length_take]; rfl)) ?_; (with_reducible refine (limb_Sub.calls a0 a1 a2 t110 t111 _ A6.out).mono ?_); rintro e w' ⟨rfl, ⟨nd, rfl⟩⟩; refine ⟨_, rfl, ?_⟩) | ((with_reducible refine gate_callee (f := 16) rfl ?_); refine goesL_ (some 40) rfl rfl Try.func16 (by kernel_rfl) rfl #[.int .u64 a0, .int .u64 a1, .int .u64 a2] rfl (by (try simp only [List.map_toArray, List.map_cons, List.map_nil]); first | done | rfl | (simp only [List.length_drop, List.length_take]; rfl)) ?_; (with_reducible refine (triviumref01_Sub.calls k a0 a1 a2 t112 t113 _ A7.out).mono ?_); rintro e w' ⟨rfl, ⟨nd, rfl⟩⟩; refine ⟨_, rfl, ?_⟩))
      go_ret
      exact ⟨by first | rfl | (simp; done) | (simp [*]; done), by repeat (first | exact Drawn0.refl _ | apply Drawn0.step)⟩
  · rw [if_neg c8] at H
    have c8b0 : (t106 == t108) = false := beq_eq_false_iff_ne.mpr c8
    have c8b1 : (t106 != t108) = true := bne_iff_ne.mpr c8
    obtain rfl := Option.some.inj H
    go_enter Try.func5, Try.ntmps5
    go_wp2_with (first | ((with_reducible refine gate_callee (f := 13) rfl ?_); refine goesL_ (some 19) rfl rfl Try.func13 (by kernel_rfl) rfl #[.int .u64 a0, .int .u64 a1, .int .u64 a2] rfl (by (try simp only [List.map_toArray, List.map_cons, List.map_nil]); first | done | rfl | (simp only [List.length_drop, List.length_take]; rfl)) ?_; (with_reducible refine (limb_Add.calls a0 a1 a2 t106 t107 _ A4.out).mono ?_); rintro e w' ⟨rfl, ⟨nd, rfl⟩⟩; refine ⟨_, rfl, ?_⟩) | ((with_reducible refine gate_callee (f := 14) rfl ?_); refine goesL_ (some 26) rfl rfl Try.func14 (by kernel_rfl) rfl #[.int .u64 a0, .int .u64 a1, .int .u64 a2] rfl (by (try simp only [List.map_toArray, List.map_cons, List.map_nil]); first | done | rfl | (simp only [List.length_drop, List.length_take]; rfl)) ?_; (with_reducible refine (triviumref01_Add.calls a0 a1 a2 t108 t109 _ A5.out).mono ?_); rintro e w' ⟨rfl, ⟨nd, rfl⟩⟩; refine ⟨_, rfl, ?_⟩) | ((with_reducible refine gate_callee (f := 15) rfl ?_); refine goesL_ (some 33) rfl rfl Try.func15 (by kernel_rfl) rfl #[.int .u64 a0, .int .u64 a1, .int .u64 a2] rfl (by (try simp only [List.map_toArray, List.map_cons, List.map_nil]); first | done | rfl | (simp only [List.length_drop, List.length_take]; rfl)) ?_; (with_reducible refine (limb_Sub.calls a0 a1 a2 t110 t111 _ A6.out).mono ?_); rintro e w' ⟨rfl, ⟨nd, rfl⟩⟩; refine ⟨_, rfl, ?_⟩) | ((with_reducible refine gate_callee (f := 16) rfl ?_); refine goesL_ (some 40) rfl rfl Try.func16 (by kernel_rfl) rfl #[.int .u64 a0, .int .u64 a1, .int .u64 a2] rfl (by (try simp only [List.map_toArray, List.map_cons, List.map_nil]); first | done | rfl | (simp only [List.length_drop, List.length_take]; rfl)) ?_; (with_reducible refine (triviumref01_Sub.calls k a0 a1 a2 t112 t113 _ A7.out).mono ?_); rintro e w' ⟨rfl, ⟨nd, rfl⟩⟩; refine ⟨_, rfl, ?_⟩))
    go_ret
    exact ⟨by first | rfl | (simp; done) | (simp [*]; done), by repeat (first | exact Drawn0.refl _ | apply Drawn0.step)⟩

/-- THE ONE PURE STATEMENT of triviumlaw01_LimbAdds: yours. -/
def triviumlaw01_LimbAdds.Pure : Prop := ∀ (a0 : Int) (a1 : Int) (a2 : Int), (Lit.int .u64 a0).wf = true → (Lit.int .u64 a1).wf = true → (Lit.int .u64 a2).wf = true → ∃ k, triviumlaw01_LimbAdds.f k a0 a1 a2 = some true
theorem triviumlaw01_LimbAdds.walk (P : triviumlaw01_LimbAdds.Pure) (a0 : Int) (a1 : Int) (a2 : Int) (w : World) (w0 : (Lit.int .u64 a0).wf = true) (w1 : (Lit.int .u64 a1).wf = true) (w2 : (Lit.int .u64 a2).wf = true) :
    Calls Try.prog 5 #[.int .u64 a0, .int .u64 a1, .int .u64 a2] w fun e w' => e = .returned (.bool true) ∧ Below w.heap.size w w' := by
  obtain ⟨k, h⟩ := P a0 a1 a2 w0 w1 w2
  refine (triviumlaw01_LimbAdds.calls k a0 a1 a2 true w h).mono ?_
  rintro e w' ⟨rfl, hd⟩
  exact ⟨rfl, hd.below⟩

end Go.Proofs.Ythcgncopgbcjcaa.PLimbAdds
