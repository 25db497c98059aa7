/- The law of sums, products, wholes and what is left of 1: its function answers true, whatever the input. -/
import Derived.Test.YteepbjndbemcdaaGreatP19
import Derived.Test.YteepbjndbemcdaaGreatWlaw10FoldSums
set_option linter.unusedVariables false
set_option linter.unusedSimpArgs false
namespace Go.Proofs.YteepbjndbemcdaaGreatA
open Go
theorem ref10_Whole_loop {qs : List Rat} (hz : Fits qs) (hl : qs.length ≤ 1000000) (d : Nat) : ∀ i : Nat, i + d = qs.length →
    ref10_Whole_l0 (qs.map fT) (i : Int) (decide ((∀ q ∈ qs.drop i, Unit q) ∧ sumQ 0 qs = 1)) := by
  have hL : (qs.map fT).length = qs.length := List.length_map _
  obtain ⟨c, hc, hcc⟩ := hz
  have hzz := SZ.sum hc SZ0
  induction d with
  | zero =>
    intro i hi
    refine ref10_Whole_l0_go (.inr ⟨by omega, _, _, _, ref10_Sum_is ⟨c, hc, hcc⟩, _, _, _, ref_Num11, _, ref08_Cmp_is (hzz.mono (by omega)) (SZ1.mono (by omega)), decide_eq_decide.2 ?_⟩)
    rw [List.drop_of_length_le (by omega)]
    have : (if sumQ 0 qs < 1 then -1 else if 1 < sumQ 0 qs then 1 else 0 : Int) = 0 ↔ sumQ 0 qs = 1 := by
      constructor
      · intro h; split at h
        · omega
        · split at h
          · omega
          · grind
      · intro h; rw [h]; simp only [Rat.lt_irrefl, if_false]
    rw [this]
    simp
  | succ d ih =>
    intro i hi
    have h : i < qs.length := by omega
    have hq : c + 1 ≤ qs.length * (c + 1) := Nat.le_mul_of_pos_left _ (by omega)
    have hi' := (hc.get h).mono (show c ≤ 10000 by omega)
    refine ref10_Whole_l0_go (.inl ⟨by omega, by omega, _, _, _, getD_fT h _, _, ref08_Sign_is _, ?_⟩)
    rw [w_succ (by omega)]
    by_cases h1 : qs.getD i 0 < 0
    · refine .inl ⟨(sn_lt _).2 h1, decide_eq_false fun g => ?_⟩
      exact ((all_drop h).1 g.1).1.1 h1
    · refine .inr ⟨fun g => h1 ((sn_lt _).1 g), _, _, _, getD_fT h _, _, _, _, ref_Num11, _, ref08_Cmp_is hi' (SZ1.mono (by omega)), ?_⟩
      by_cases h2 : 1 < qs.getD i 0
      · refine .inl ⟨cmp_pos.2 h2, decide_eq_false fun g => ?_⟩
        exact ((all_drop h).1 g.1).1.2 h2
      · refine .inr ⟨fun g => h2 (cmp_pos.1 g), ?_⟩
        have e : ((∀ q ∈ qs.drop i, Unit q) ∧ sumQ 0 qs = 1) ↔ ((∀ q ∈ qs.drop (i + 1), Unit q) ∧ sumQ 0 qs = 1) := by
          rw [all_drop h]
          exact ⟨fun g => ⟨g.1.2, g.2⟩, fun g => ⟨⟨⟨h1, h2⟩, g.1⟩, g.2⟩⟩
        rw [decide_eq_decide.2 e]
        exact ih (i + 1) (by omega)
theorem FoldSums_true {L : List T_api_Rat} {a0 : Bool} {a1 a2 : List Int} (hw : ∀ p ∈ L, RawQ p) (h1 : ∀ x ∈ a1, 0 ≤ x) (h2 : ∀ x ∈ a2, 0 ≤ x) (s1 : a1.length ≤ 9223372036854775807) (s2 : a2.length ≤ 9223372036854775807) : law10_FoldSums_R L a0 a1 a2 true := by
  obtain ⟨qs, hf, hz, hl⟩ := few10_is hw
  obtain ⟨a, hc, ha⟩ := ref08_Clean_is (b := a0) h1 h2 (n := 2) (by omega) (by omega) s1 s2
  have hfit : Fits qs := ⟨2, hz, by omega⟩
  have zs := (SZ.sum hz SZ0).mono (show _ ≤ 100000 by omega)
  have zp := (SZ.prod hz SZ1).mono (show _ ≤ 100000 by omega)
  have zn : SZ 100000 (1 - a) := ((SZ1.mono (show 1 ≤ 2 by omega)).sub ha).mono (by omega)
  have v1 := fold_Whole_is hfit
  have v2 := ref10_Whole_go (ref10_Whole_loop hfit (by omega) qs.length 0 (by omega))
  rw [List.drop_zero] at v2
  refine law10_FoldSums_go ⟨_, _, hf, _, _, _, hc, _, _, _, fold_Sum_is hfit, _, _, _, ref10_Sum_is hfit, _, _, _, ref08_Back_is zs, _, ref08_Same_refl zs, .inl ⟨rfl, _, _, _, fold_Product_is hfit, _, _, _, ref10_Product_is hfit, _, _, _, ref08_Back_is zp, _, ref08_Same_refl zp, .inl ⟨rfl, _, v1, _, v2, ?_⟩⟩⟩
  have t : ∃ x0 x1 x2, fold_Not_R (ng a.num) (ab a.num) (lim a.den) x0 x1 x2 ∧ ∃ y0 y1 y2, ref08_Num_R 1 1 y0 y1 y2 ∧ ∃ u0 u1 u2, ref08_Of_R (ng a.num) (ab a.num) (lim a.den) u0 u1 u2 ∧ ∃ v0 v1 v2, ref08_Sub_R y0 y1 y2 u0 u1 u2 v0 v1 v2 ∧ ∃ w0 w1 w2, ref08_Back_R v0 v1 v2 w0 w1 w2 ∧ ∃ c : Bool, ref08_Same_R x0 x1 x2 w0 w1 w2 c ∧ ((c = true ∧ ∃ d : Bool, law10_works_R d ∧ true = d) ∨ (¬ c = true ∧ true = false)) :=
    ⟨_, _, _, fold_Not_is (ha.mono (by omega)), _, _, _, ref_Num11, _, _, _, ref08_Of_is (ha.mono (by omega)), _, _, _, ref08_Sub_is (SZ1.mono (by omega)) (ha.mono (by omega)), _, _, _, ref08_Back_is zn, _, ref08_Same_refl zn, .inl ⟨rfl, _, fold_works, rfl⟩⟩
  by_cases h : ((∀ q ∈ qs, Unit q) ∧ sumQ 0 qs = 1)
  · exact .inl ⟨decide_eq_true h, .inl ⟨decide_eq_true h, t⟩⟩
  · have hn : ¬ decide ((∀ q ∈ qs, Unit q) ∧ sumQ 0 qs = 1) = true := by rw [decide_eq_true_iff]; exact h
    exact .inr ⟨hn, .inr ⟨hn, t⟩⟩
end Go.Proofs.YteepbjndbemcdaaGreatA
