/- The law of shares and means: its function answers true, whatever the input. -/
import Derived.Test.YteepbjndbemcdaaP23
import Derived.Test.YteepbjndbemcdaaWlaw10FoldShares
set_option linter.unusedVariables false
set_option linter.unusedSimpArgs false
namespace Go.Proofs.YteepbjndbemcdaaA
open Go
theorem zip_take {ps qs : List Rat} {i : Nat} (h1 : i < ps.length) (h2 : i < qs.length) : (List.zipWith (· * ·) ps qs).take (i + 1) = (List.zipWith (· * ·) ps qs).take i ++ [ps.getD i 0 * qs.getD i 0] := by
  rw [take_getD (by rw [List.length_zipWith]; omega), zipq_get h1 h2]
theorem FoldShares_want {ps qs : List Rat} (hp : AZ 27 ps) (hq : AZ 2 qs) (hl : ps.length = qs.length) (hn : qs.length ≤ 8) (d : Nat) : ∀ i : Nat, i + d = qs.length →
    SZ (1 + i * 30) (sumQ 0 ((List.zipWith (· * ·) ps qs).take i)) → law10_FoldShares_l1 (qs.map fT) (ps.map fT) 0 (i : Int) (ng (sumQ 0 (List.zipWith (· * ·) ps qs)).num) (ab (sumQ 0 (List.zipWith (· * ·) ps qs)).num) (lim (sumQ 0 (List.zipWith (· * ·) ps qs)).den) (ng (sumQ 0 ((List.zipWith (· * ·) ps qs).take i)).num) (tn (sumQ 0 ((List.zipWith (· * ·) ps qs).take i)).num) (ten (sumQ 0 ((List.zipWith (· * ·) ps qs).take i)).den) true := by
  have hT : (qs.map fT).length = qs.length := List.length_map _
  have hP : (ps.map fT).length = ps.length := List.length_map _
  induction d with
  | zero =>
    intro i hi hs
    rw [List.take_of_length_le (by rw [List.length_zipWith]; omega)] at hs ⊢
    have hs' := hs.mono (show 1 + i * 30 ≤ 100000 by omega)
    exact law10_FoldShares_l1_go (.inr ⟨by omega, .inl ⟨rfl, _, _, _, ref08_Back_is hs', _, ref08_Same_refl hs', .inl ⟨rfl, _, fold_works, rfl⟩⟩⟩)
  | succ d ih =>
    intro i hi hs
    have h : i < qs.length := by omega
    have hpi := hp.get (i := i) (by omega)
    have hqi := hq.get h
    have hm := hpi.mul2 hqi
    have key := ih (i + 1) (by omega)
    rw [zip_take (by omega) h, sumQ_snoc] at key
    refine law10_FoldShares_l1_go (.inl ⟨by omega, by omega, by omega, _, _, _, getD_fT (by omega) _, _, _, _, getD_fT h _, _, _, _, ref08_Mul_is (hpi.mono (by omega)) (hqi.mono (by omega)), _, _, _, ref08_Add_is (hs.mono (by omega)) (hm.mono (by omega)), ?_⟩)
    rw [w_succ (by omega)]
    exact key ((hs.add2 hm).mono (by omega))
theorem FoldShares_same {w : List Int} {ps qs : List Rat} {e : Int} (hw : W64 w) (hl : w.length ≤ 8) (hq : AZ 2 qs) (hn : qs.length ≤ 8) (hS : Shr w ps e) (hz : AZ 27 ps) (hp8 : ps.length ≤ 8) (d : Nat) : ∀ i : Nat, i + d = ps.length →
    law10_FoldShares_l0 (qs.map fQ) (qs.map fT) (ps.map fQ) (ps.map fT) e (i : Int) w true := by
  have hT : (qs.map fT).length = qs.length := List.length_map _
  have hP : (ps.map fT).length = ps.length := List.length_map _
  have hQ : (ps.map fQ).length = ps.length := List.length_map _
  induction d with
  | zero =>
    intro i hi
    have fin : ∃ x0 x1 x2 g, fold_Mean_R w (qs.map fQ) x0 x1 x2 g ∧ ((0 < (w.length : Int) ∧ (((w.length : Int) = ((qs.map fT).length : Int) ∧ ((e = 0 ∧ (∃ c44_0 : Bool, (∃ c44_1 : List Int, (∃ c44_2 : List Int, (ref08_Num_R 0 1 c44_0 c44_1 c44_2 ∧ (law10_FoldShares_l1 (qs.map fT) (ps.map fT) g 0 x0 x1 x2 c44_0 c44_1 c44_2 true)))))) ∨ (¬ e = 0 ∧ ((g = e ∧ (∃ c47 : Bool, (law10_works_R c47 ∧ (true = c47)))) ∨ (¬ g = e ∧ (true = false)))))) ∨ (¬ (w.length : Int) = ((qs.map fT).length : Int) ∧ ((g = 2 ∧ (∃ c50 : Bool, (law10_works_R c50 ∧ (true = c50)))) ∨ (¬ g = 2 ∧ (true = false)))))) ∨ (¬ 0 < (w.length : Int) ∧ ((e = 0 ∧ (∃ c53_0 : Bool, (∃ c53_1 : List Int, (∃ c53_2 : List Int, (ref08_Num_R 0 1 c53_0 c53_1 c53_2 ∧ (law10_FoldShares_l1 (qs.map fT) (ps.map fT) g 0 x0 x1 x2 c53_0 c53_1 c53_2 true)))))) ∨ (¬ e = 0 ∧ ((g = e ∧ (∃ c56 : Bool, (law10_works_R c56 ∧ (true = c56)))) ∨ (¬ g = e ∧ (true = false))))))) := by
      by_cases h0 : w.length = 0
      · have he : e ≠ 0 := by
          have hwn := List.length_eq_zero_iff.1 h0
          obtain ⟨_, rfl⟩ := hS.unique (.inl ⟨hwn, rfl, rfl⟩)
          omega
        exact ⟨_, _, _, _, fold_Mean_err hw hl (.inl h0) hS he, .inr ⟨by omega, .inr ⟨he, .inl ⟨rfl, _, fold_works, rfl⟩⟩⟩⟩
      · by_cases h1 : w.length = qs.length
        · by_cases he : e = 0
          · subst he
            obtain ⟨_, hpl⟩ := shr_AZ hw hl hS
            exact ⟨_, _, _, _, fold_Mean_is hw hq hl h1 hS, .inl ⟨by omega, .inl ⟨by omega, .inl ⟨rfl, _, _, _, ref_Num00, FoldShares_want hz hq (by omega) hn qs.length 0 (by omega) SZ0⟩⟩⟩⟩
          · exact ⟨_, _, _, _, fold_Mean_err hw hl (.inr h1) hS he, .inl ⟨by omega, .inl ⟨by omega, .inr ⟨he, .inl ⟨rfl, _, fold_works, rfl⟩⟩⟩⟩⟩
        · exact ⟨_, _, _, _, fold_Mean_arg (by omega) h1, .inl ⟨by omega, .inr ⟨by omega, .inl ⟨rfl, _, fold_works, rfl⟩⟩⟩⟩
    exact law10_FoldShares_l0_go (.inr ⟨by omega, by omega, _, rfl, fin⟩)
  | succ d ih =>
    intro i hi
    have h : i < ps.length := by omega
    have hpi := (hz.get h).mono (show 27 ≤ 100000 by omega)
    refine law10_FoldShares_l0_go (.inl ⟨by omega, by omega, _, _, _, getD_fQ h _, by omega, _, _, _, getD_fT h _, _, _, _, ref08_Back_is hpi, _, ref08_Same_refl hpi, .inl ⟨rfl, ?_⟩⟩)
    rw [w_succ (by omega)]
    exact ih (i + 1) (by omega)
theorem shr_AZ' {w : List Int} (hw : W64 w) (hl : w.length ≤ 8) {ps : List Rat} {e : Int} (hS : Shr w ps e) : AZ 27 ps := by
  by_cases he : e = 0
  · subst he; exact (shr_AZ hw hl hS).1
  · rw [hS.nz he]; exact fun q hq => by cases hq
theorem shr_len {w : List Int} (hw : W64 w) (hl : w.length ≤ 8) {ps : List Rat} {e : Int} (hS : Shr w ps e) : ps.length ≤ 8 := by
  by_cases he : e = 0
  · subst he; rw [(shr_AZ hw hl hS).2]; exact hl
  · rw [hS.nz he]; simp
theorem W64.take {w : List Int} (h : W64 w) (n : Nat) : W64 (w.take n) := fun x hx => h x (List.mem_of_mem_take hx)
theorem FoldShares_true {w : List Int} {L : List T_api_Rat} (hw : W64 w) (hr : ∀ p ∈ L, RawQ p) : law10_FoldShares_R w L true := by
  obtain ⟨qs, hf, hz, hl⟩ := few10_is hr
  have hm : mn (w.length : Int) 8 = ((min w.length 8 : Nat) : Int) := mn_nat w.length 8
  have hwl : (w.take (min w.length 8)).length ≤ 8 := by rw [List.length_take]; omega
  obtain ⟨ps, e, hS, h1⟩ := fold_Shares_is (hw.take (min w.length 8)) (by omega)
  have h2 := ref10_Shares_is (hw.take (min w.length 8)) (by omega) hS
  have hP : (ps.map fT).length = ps.length := List.length_map _
  have hQ : (ps.map fQ).length = ps.length := List.length_map _
  refine law10_FoldShares_go ?_
  rw [hm, Int.toNat_natCast]
  exact ⟨by omega, by omega, by omega, _, rfl, _, _, hf, by omega, _, rfl, _, _, h1, _, _, h2, .inl ⟨rfl, .inl ⟨by omega, FoldShares_same (hw.take _) hwl hz (by omega) hS (shr_AZ' (hw.take _) hwl hS) (shr_len (hw.take _) hwl hS) ps.length 0 (by omega)⟩⟩⟩
end Go.Proofs.YteepbjndbemcdaaA
