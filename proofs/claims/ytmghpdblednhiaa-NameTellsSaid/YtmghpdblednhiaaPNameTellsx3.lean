-- Written by a program of this session (the kit's print, with additions) out of the translation. Not trusted: Lean checks it.
import Derived.Test.YtmghpdblednhiaaPNameTellsx0
import Derived.Test.YtmghpdblednhiaaPNameTellsx1
import Derived.Test.YtmghpdblednhiaaPNameTellsx2
namespace Go.Proofs.Ytmghpdblednhiaa.PNameTells
open Go.RowKit Go.Proofs.YtmghpdblednhiaaW.PrintWords Go.Proofs.YtmghpdblednhiaaW.PrintLast Go.Proofs.YtmghpdblednhiaaW.PrintMore
attribute [local go_sem] max2_int min2_int max_two min_two max_three min_three max_four min_four   -- for this text's walks alone
set_option linter.unusedVariables false
set_option linter.unusedSimpArgs false

/-! ### triviumlaw17_NameTells: function 4 -/
def triviumlaw17_NameTells.f (k : Nat) (a0 : ByteArray) : Option (Bool) := if 0 ≤ (mn (a0.size : Int) 200) then (if (mn (a0.size : Int) 200) ≤ (a0.size : Int) then ((name_Word.f (a0.extract 0 ((mn (a0.size : Int) 200) : Int).toNat)).bind fun t126 => ((triviumref17_Word.f k (a0.extract 0 ((mn (a0.size : Int) 200) : Int).toNat)).bind fun t127 => (if (t126 == t127) = true then ((name_Keyword.f k (a0.extract 0 ((mn (a0.size : Int) 200) : Int).toNat)).bind fun t128 => ((triviumref17_Keyword.f k (a0.extract 0 ((mn (a0.size : Int) 200) : Int).toNat)).bind fun t129 => (if (t128 == t129) = true then ((name_Name.f k (a0.extract 0 ((mn (a0.size : Int) 200) : Int).toNat)).bind fun t130 => ((triviumref17_Name.f k (a0.extract 0 ((mn (a0.size : Int) 200) : Int).toNat)).bind fun t131 => (if (t130 == t131) = true then ((name_Long.f (a0.extract 0 ((mn (a0.size : Int) 200) : Int).toNat)).bind fun t132 => (if (t132 == (decide (((a0.extract 0 ((mn (a0.size : Int) 200) : Int).toNat).size : Int) > 12))) = true then ((triviumlaw17_works.f k).bind fun t133 => (some t133)) else (some false))) else (some false)))) else (some false)))) else (some false)))) else (none)) else (none)
theorem triviumlaw17_NameTells.mono : ∀ a0 k, LeO (triviumlaw17_NameTells.f k a0) (triviumlaw17_NameTells.f (k + 1) a0) := by
  intro a0 k
  unfold triviumlaw17_NameTells.f
  repeat' first
      | (with_reducible exact name_Keyword.mono _ _)
      | (with_reducible exact name_Name.mono _ _)
      | (with_reducible exact triviumlaw17_works.mono _)
      | (with_reducible exact triviumref17_Keyword.mono _ _)
      | (with_reducible exact triviumref17_Name.mono _ _)
      | (with_reducible exact triviumref17_Word.mono _ _)
      | (with_reducible exact LeO.refl _)
      | (with_reducible exact LeO.none _)
      | (with_reducible refine LeO.ite ?_ ?_)
      | (with_reducible refine LeO.bind ?_ (fun _ => ?_))
      | exact name_Keyword.mono _ _
      | exact name_Name.mono _ _
      | exact triviumlaw17_works.mono _
      | exact triviumref17_Keyword.mono _ _
      | exact triviumref17_Name.mono _ _
      | exact triviumref17_Word.mono _ _
      | exact LeO.none _
      | refine LeO.ite ?_ ?_
      | refine LeO.bind ?_ (fun _ => ?_)
set_option maxHeartbeats 8000000 in
set_option maxRecDepth 100000 in
theorem triviumlaw17_NameTells.calls (k : Nat) (a0 : ByteArray) (r : Bool) (w : World) (h : triviumlaw17_NameTells.f k a0 = some r) (hT : Aside0 (r = true)) :
    Calls Try.prog 4 #[.string a0] w fun e w' => e = .returned (.bool r) ∧ Below w.heap.size w w' := by
  have HB := Aside0.mk (Below.refl w.heap.size w)
  have H : (if 0 ≤ (mn (a0.size : Int) 200) then (if (mn (a0.size : Int) 200) ≤ (a0.size : Int) then ((name_Word.f (a0.extract 0 ((mn (a0.size : Int) 200) : Int).toNat)).bind fun t126 => ((triviumref17_Word.f k (a0.extract 0 ((mn (a0.size : Int) 200) : Int).toNat)).bind fun t127 => (if (t126 == t127) = true then ((name_Keyword.f k (a0.extract 0 ((mn (a0.size : Int) 200) : Int).toNat)).bind fun t128 => ((triviumref17_Keyword.f k (a0.extract 0 ((mn (a0.size : Int) 200) : Int).toNat)).bind fun t129 => (if (t128 == t129) = true then ((name_Name.f k (a0.extract 0 ((mn (a0.size : Int) 200) : Int).toNat)).bind fun t130 => ((triviumref17_Name.f k (a0.extract 0 ((mn (a0.size : Int) 200) : Int).toNat)).bind fun t131 => (if (t130 == t131) = true then ((name_Long.f (a0.extract 0 ((mn (a0.size : Int) 200) : Int).toNat)).bind fun t132 => (if (t132 == (decide (((a0.extract 0 ((mn (a0.size : Int) 200) : Int).toNat).size : Int) > 12))) = true then ((triviumlaw17_works.f k).bind fun t133 => (some t133)) else (some false))) else (some false)))) else (some false)))) else (some false)))) else (none)) else (none)) = some r := h
  clear h
  obtain ⟨ji2, hji2⟩ : ∃ j_ : Int, (mn (a0.size : Int) 200) = j_ := ⟨_, rfl⟩
  replace H : (if 0 ≤ (ji2) then (if (ji2) ≤ (a0.size : Int) then ((name_Word.f (a0.extract 0 ((ji2) : Int).toNat)).bind fun t126 => ((triviumref17_Word.f k (a0.extract 0 ((ji2) : Int).toNat)).bind fun t127 => (if (t126 == t127) = true then ((name_Keyword.f k (a0.extract 0 ((ji2) : Int).toNat)).bind fun t128 => ((triviumref17_Keyword.f k (a0.extract 0 ((ji2) : Int).toNat)).bind fun t129 => (if (t128 == t129) = true then ((name_Name.f k (a0.extract 0 ((ji2) : Int).toNat)).bind fun t130 => ((triviumref17_Name.f k (a0.extract 0 ((ji2) : Int).toNat)).bind fun t131 => (if (t130 == t131) = true then ((name_Long.f (a0.extract 0 ((ji2) : Int).toNat)).bind fun t132 => (if (t132 == (decide (((a0.extract 0 ((ji2) : Int).toNat).size : Int) > 12))) = true then ((triviumlaw17_works.f k).bind fun t133 => (some t133)) else (some false))) else (some false)))) else (some false)))) else (some false)))) else (none)) else (none)) = some r := by first | (rw [hji2] at H; exact H) | (simp only [hji2] at H ⊢; exact H)
  (try (have hji2h : ji2 ≤ 200 := by (rw [← hji2]; unfold mn; (repeat' split) <;> omega)))
  (try (have hji2g : ji2 ≤ 64 := by omega))
  (try (have hji2l : 0 ≤ ji2 := by (rw [← hji2]; unfold mn; (repeat' split) <;> omega)))
  (try (have hji2m : 0 ≤ ji2 := by omega))
  have hji2_ : (if 200 < (a0.size : Int) then 200 else (a0.size : Int)) = ji2 := hji2
  (try (have hji2n_ := hji2_; simp only [Int.ofNat_lt] at hji2n_))
  by_cases c3 : 0 ≤ (ji2)
  · rw [if_pos c3] at H
    have c3b0 := eq_true c3
    have c3b1 : decide (0 ≤ (ji2)) = true := decide_eq_true c3
    clear c3
    by_cases c4 : (ji2) ≤ (a0.size : Int)
    · rw [if_pos c4] at H
      have c4b0 := eq_true c4
      have c4b1 : decide ((ji2) ≤ (a0.size : Int)) = true := decide_eq_true c4
      clear c4
      replace H := Option.bind_eq_some_iff.mp H
      obtain ⟨t126, A50, H⟩ := H
      replace H : ((triviumref17_Word.f k (a0.extract 0 ((ji2) : Int).toNat)).bind fun t127 => (if (t126 == t127) = true then ((name_Keyword.f k (a0.extract 0 ((ji2) : Int).toNat)).bind fun t128 => ((triviumref17_Keyword.f k (a0.extract 0 ((ji2) : Int).toNat)).bind fun t129 => (if (t128 == t129) = true then ((name_Name.f k (a0.extract 0 ((ji2) : Int).toNat)).bind fun t130 => ((triviumref17_Name.f k (a0.extract 0 ((ji2) : Int).toNat)).bind fun t131 => (if (t130 == t131) = true then ((name_Long.f (a0.extract 0 ((ji2) : Int).toNat)).bind fun t132 => (if (t132 == (decide (((a0.extract 0 ((ji2) : Int).toNat).size : Int) > 12))) = true then ((triviumlaw17_works.f k).bind fun t133 => (some t133)) else (some false))) else (some false)))) else (some false)))) else (some false))) = some r := H
      have A5 := Aside0.mk A50
      clear A50
      replace H := Option.bind_eq_some_iff.mp H
      obtain ⟨t127, A60, H⟩ := H
      replace H : (if (t126 == t127) = true then ((name_Keyword.f k (a0.extract 0 ((ji2) : Int).toNat)).bind fun t128 => ((triviumref17_Keyword.f k (a0.extract 0 ((ji2) : Int).toNat)).bind fun t129 => (if (t128 == t129) = true then ((name_Name.f k (a0.extract 0 ((ji2) : Int).toNat)).bind fun t130 => ((triviumref17_Name.f k (a0.extract 0 ((ji2) : Int).toNat)).bind fun t131 => (if (t130 == t131) = true then ((name_Long.f (a0.extract 0 ((ji2) : Int).toNat)).bind fun t132 => (if (t132 == (decide (((a0.extract 0 ((ji2) : Int).toNat).size : Int) > 12))) = true then ((triviumlaw17_works.f k).bind fun t133 => (some t133)) else (some false))) else (some false)))) else (some false)))) else (some false)) = some r := H
      have A6 := Aside0.mk A60
      clear A60
      by_cases c7 : (t126 == t127) = true
      · rw [if_pos c7] at H
        have c7b0 : (t126 == t127) = true := c7
        (try (have c7b1 : decide (t126 = t127) = true := by simpa using c7))
        (try (have c7b2 : (t126 == t127) = true := by simpa using c7))
        clear c7
        replace H := Option.bind_eq_some_iff.mp H
        obtain ⟨t128, A80, H⟩ := H
        replace H : ((triviumref17_Keyword.f k (a0.extract 0 ((ji2) : Int).toNat)).bind fun t129 => (if (t128 == t129) = true then ((name_Name.f k (a0.extract 0 ((ji2) : Int).toNat)).bind fun t130 => ((triviumref17_Name.f k (a0.extract 0 ((ji2) : Int).toNat)).bind fun t131 => (if (t130 == t131) = true then ((name_Long.f (a0.extract 0 ((ji2) : Int).toNat)).bind fun t132 => (if (t132 == (decide (((a0.extract 0 ((ji2) : Int).toNat).size : Int) > 12))) = true then ((triviumlaw17_works.f k).bind fun t133 => (some t133)) else (some false))) else (some false)))) else (some false))) = some r := H
        have A8 := Aside0.mk A80
        clear A80
        replace H := Option.bind_eq_some_iff.mp H
        obtain ⟨t129, A90, H⟩ := H
        replace H : (if (t128 == t129) = true then ((name_Name.f k (a0.extract 0 ((ji2) : Int).toNat)).bind fun t130 => ((triviumref17_Name.f k (a0.extract 0 ((ji2) : Int).toNat)).bind fun t131 => (if (t130 == t131) = true then ((name_Long.f (a0.extract 0 ((ji2) : Int).toNat)).bind fun t132 => (if (t132 == (decide (((a0.extract 0 ((ji2) : Int).toNat).size : Int) > 12))) = true then ((triviumlaw17_works.f k).bind fun t133 => (some t133)) else (some false))) else (some false)))) else (some false)) = some r := H
        have A9 := Aside0.mk A90
        clear A90
        by_cases c10 : (t128 == t129) = true
        · rw [if_pos c10] at H
          have c10b0 : (t128 == t129) = true := c10
          (try (have c10b1 : decide (t128 = t129) = true := by simpa using c10))
          (try (have c10b2 : (t128 == t129) = true := by simpa using c10))
          clear c10
          replace H := Option.bind_eq_some_iff.mp H
          obtain ⟨t130, A110, H⟩ := H
          replace H : ((triviumref17_Name.f k (a0.extract 0 ((ji2) : Int).toNat)).bind fun t131 => (if (t130 == t131) = true then ((name_Long.f (a0.extract 0 ((ji2) : Int).toNat)).bind fun t132 => (if (t132 == (decide (((a0.extract 0 ((ji2) : Int).toNat).size : Int) > 12))) = true then ((triviumlaw17_works.f k).bind fun t133 => (some t133)) else (some false))) else (some false))) = some r := H
          have A11 := Aside0.mk A110
          clear A110
          replace H := Option.bind_eq_some_iff.mp H
          obtain ⟨t131, A120, H⟩ := H
          replace H : (if (t130 == t131) = true then ((name_Long.f (a0.extract 0 ((ji2) : Int).toNat)).bind fun t132 => (if (t132 == (decide (((a0.extract 0 ((ji2) : Int).toNat).size : Int) > 12))) = true then ((triviumlaw17_works.f k).bind fun t133 => (some t133)) else (some false))) else (some false)) = some r := H
          have A12 := Aside0.mk A120
          clear A120
          by_cases c13 : (t130 == t131) = true
          · rw [if_pos c13] at H
            have c13b0 : (t130 == t131) = true := c13
            (try (have c13b1 : decide (t130 = t131) = true := by simpa using c13))
            (try (have c13b2 : (t130 == t131) = true := by simpa using c13))
            clear c13
            replace H := Option.bind_eq_some_iff.mp H
            obtain ⟨t132, A140, H⟩ := H
            replace H : (if (t132 == (decide (((a0.extract 0 ((ji2) : Int).toNat).size : Int) > 12))) = true then ((triviumlaw17_works.f k).bind fun t133 => (some t133)) else (some false)) = some r := H
            have A14 := Aside0.mk A140
            clear A140
            by_cases c15 : (t132 == (decide (((a0.extract 0 ((ji2) : Int).toNat).size : Int) > 12))) = true
            · rw [if_pos c15] at H
              have c15b0 : (t132 == (decide (((a0.extract 0 ((ji2) : Int).toNat).size : Int) > 12))) = true := c15
              (try (have c15b1 : decide (t132 = (decide (((a0.extract 0 ((ji2) : Int).toNat).size : Int) > 12))) = true := by simpa using c15))
              (try (have c15b2 : (t132 == (decide (((a0.extract 0 ((ji2) : Int).toNat).size : Int) > 12))) = true := by simpa using c15))
              have c15e : (t132 = decide (12 < max ji2 0)) = True := by
                have h1 : ((a0.extract 0 ((ji2) : Int).toNat).size : Int) = max ji2 0 := by
                  have h2 : ji2 ≤ (a0.size : Int) := of_eq_true c4b0
                  rw [ByteArray.size_extract]
                  omega
                rw [h1] at c15b0
                exact eq_true (by simpa using c15b0)
              clear c15
              replace H := Option.bind_eq_some_iff.mp H
              obtain ⟨t133, A160, H⟩ := H
              replace H : (some t133) = some r := H
              have A16 := Aside0.mk A160
              clear A160
              obtain rfl := Option.some.inj H
              go_enter Try.func4, Try.ntmps4
              go_wp2_with (first | ((with_reducible refine gate_callee (f := 11) rfl ?_); refine goesL_ (some 9) rfl rfl Try.func11 (by kernel_rfl) rfl #[.string (a0.extract 0 ((ji2) : Int).toNat)] rfl (by (try simp only [List.map_toArray, List.map_cons, List.map_nil]); first | done | (simp only [hji2]; rfl) | rfl | (simp only [List.length_drop, List.length_take]; rfl)) ?_; (with_reducible refine (name_Word.calls (a0.extract 0 ((ji2) : Int).toNat) t126 _ A5.out).mono ?_); rintro e w17 ⟨rfl, hb⟩; refine ⟨_, rfl, ?_⟩; have n0_ := Aside0.mk (below_step (by repeat (first | (with_reducible first | exact HB.out | apply below_alloc | apply pw_below_drewN | apply below_drew1) | exact HB.out)) hb); clear HB; have HB := n0_; clear n0_; (try clear hb); (try clear hb2); (try clear hk); (try clear hi)) | ((with_reducible refine gate_callee (f := 13) rfl ?_); refine goesL_ (some 11) rfl rfl Try.func13 (by kernel_rfl) rfl #[.string (a0.extract 0 ((ji2) : Int).toNat)] rfl (by (try simp only [List.map_toArray, List.map_cons, List.map_nil]); first | done | (simp only [hji2]; rfl) | rfl | (simp only [List.length_drop, List.length_take]; rfl)) ?_; (with_reducible refine (triviumref17_Word.calls k (a0.extract 0 ((ji2) : Int).toNat) t127 _ A6.out).mono ?_); rintro e w' ⟨rfl, ⟨nd, rfl⟩⟩; refine ⟨_, rfl, ?_⟩) | (go_at_call 14; (with_reducible refine (name_Keyword.calls k (a0.extract 0 ((ji2) : Int).toNat) t128 _ A8.out).mono ?_); rintro e w18 ⟨rfl, hb⟩; have n0_ := Aside0.mk (below_step (by repeat (first | (with_reducible first | exact HB.out | apply below_alloc | apply pw_below_drewN | apply below_drew1) | exact HB.out)) hb); clear HB; have HB := n0_; clear n0_; (try clear hb); (try clear hb2); (try clear hk); (try clear hi)) | (go_at_call 15; (with_reducible refine (triviumref17_Keyword.calls k (a0.extract 0 ((ji2) : Int).toNat) t129 _ A9.out).mono ?_); rintro e w19 ⟨rfl, hb⟩; have n0_ := Aside0.mk (below_step (by repeat (first | (with_reducible first | exact HB.out | apply below_alloc | apply pw_below_drewN | apply below_drew1) | exact HB.out)) hb); clear HB; have HB := n0_; clear n0_; (try clear hb); (try clear hb2); (try clear hk); (try clear hi)) | (go_at_call 12; (with_reducible refine (name_Name.calls k (a0.extract 0 ((ji2) : Int).toNat) t130 _ A11.out).mono ?_); rintro e w20 ⟨rfl, hb⟩; have n0_ := Aside0.mk (below_step (by repeat (first | (with_reducible first | exact HB.out | apply below_alloc | apply pw_below_drewN | apply below_drew1) | exact HB.out)) hb); clear HB; have HB := n0_; clear n0_; (try clear hb); (try clear hb2); (try clear hk); (try clear hi)) | (go_at_call 16; (with_reducible refine (triviumref17_Name.calls k (a0.extract 0 ((ji2) : Int).toNat) t131 _ A12.out).mono ?_); rintro e w21 ⟨rfl, hb⟩; have n0_ := Aside0.mk (below_step (by repeat (first | (with_reducible first | exact HB.out | apply below_alloc | apply pw_below_drewN | apply below_drew1) | exact HB.out)) hb); clear HB; have HB := n0_; clear n0_; (try clear hb); (try clear hb2); (try clear hk); (try clear hi)) | (go_at_call 17; (with_reducible refine (name_Long.calls (a0.extract 0 ((ji2) : Int).toNat) t132 _ A14.out).mono ?_); rintro e w' ⟨rfl, ⟨nd, rfl⟩⟩) | (go_at_call 9; (with_reducible refine (triviumlaw17_works.calls k  t133 _ A16.out).mono ?_); rintro e w22 ⟨rfl, hb⟩; have n0_ := Aside0.mk (below_step (by repeat (first | (with_reducible first | exact HB.out | apply below_alloc | apply pw_below_drewN | apply below_drew1) | exact HB.out)) hb); clear HB; have HB := n0_; clear n0_; (try clear hb); (try clear hb2); (try clear hk); (try clear hi)))
              go_ret
              exact ⟨by first | rfl | (simp [errW_none, errW_some] <;> rfl) | (simp only [← hji2]; first | rfl | (simp [errW_none, errW_some] <;> rfl)) | (simp [*, errW_none, errW_some] <;> rfl), by repeat (first | (with_reducible first | exact HB.out | apply below_alloc | apply pw_below_drewN | apply below_drew1) | exact HB.out)⟩
            · rw [if_neg c15] at H
              have c15b0 : (t132 == (decide (((a0.extract 0 ((ji2) : Int).toNat).size : Int) > 12))) = false := by simpa using c15
              (try (have c15b1 : decide (t132 = (decide (((a0.extract 0 ((ji2) : Int).toNat).size : Int) > 12))) = false := by simpa using c15))
              (try (have c15b2 : (t132 == (decide (((a0.extract 0 ((ji2) : Int).toNat).size : Int) > 12))) = false := by simpa using c15))
              (try (have c15b3 : ¬ (t132 = (decide (((a0.extract 0 ((ji2) : Int).toNat).size : Int) > 12))) := by simpa using c15))
              clear c15
              exact absurd ((Option.some.inj H).trans hT.out) (by decide)
          · rw [if_neg c13] at H
            have c13b0 : (t130 == t131) = false := by simpa using c13
            (try (have c13b1 : decide (t130 = t131) = false := by simpa using c13))
            (try (have c13b2 : (t130 == t131) = false := by simpa using c13))
            (try (have c13b3 : ¬ (t130 = t131) := by simpa using c13))
            clear c13
            exact absurd ((Option.some.inj H).trans hT.out) (by decide)
        · rw [if_neg c10] at H
          have c10b0 : (t128 == t129) = false := by simpa using c10
          (try (have c10b1 : decide (t128 = t129) = false := by simpa using c10))
          (try (have c10b2 : (t128 == t129) = false := by simpa using c10))
          (try (have c10b3 : ¬ (t128 = t129) := by simpa using c10))
          clear c10
          exact absurd ((Option.some.inj H).trans hT.out) (by decide)
      · rw [if_neg c7] at H
        have c7b0 : (t126 == t127) = false := by simpa using c7
        (try (have c7b1 : decide (t126 = t127) = false := by simpa using c7))
        (try (have c7b2 : (t126 == t127) = false := by simpa using c7))
        (try (have c7b3 : ¬ (t126 = t127) := by simpa using c7))
        clear c7
        exact absurd ((Option.some.inj H).trans hT.out) (by decide)
    · rw [if_neg c4] at H
      exact absurd H (by simp)
  · rw [if_neg c3] at H
    exact absurd H (by simp)

/-- THE ONE PURE STATEMENT of triviumlaw17_NameTells: yours. -/
def triviumlaw17_NameTells.Pure : Prop := ∀ (a0 : ByteArray), a0.size ≤ 140737488351232 → ∃ k, triviumlaw17_NameTells.f k a0 = some true
theorem triviumlaw17_NameTells.walk (P : triviumlaw17_NameTells.Pure) (a0 : ByteArray) (w : World) (w0 : a0.size ≤ 140737488351232) :
    Calls Try.prog 4 #[.string a0] w fun e w' => e = .returned (.bool true) ∧ Below w.heap.size w w' := by
  obtain ⟨k, h⟩ := P a0 w0
  refine (triviumlaw17_NameTells.calls k a0 true w h ⟨rfl⟩).mono ?_
  rintro e w' ⟨rfl, hd⟩
  exact ⟨rfl, hd⟩

end Go.Proofs.Ytmghpdblednhiaa.PNameTells
