/- The law of small fractions: its function answers true, whatever the input. -/
import Derived.Test.YtcmajlphfnihgaaP17
import Derived.Test.YtcmajlphfnihgaaWlaw08RatSmalls
set_option linter.unusedVariables false
set_option linter.unusedSimpArgs false
namespace Go.Proofs.YtcmajlphfnihgaaA
open Go
theorem small_big {n d : Int} (h0 : -9223372036854775808 ≤ n) (h1 : n < 9223372036854775808) (g0 : -9223372036854775808 ≤ d) (g1 : d < 9223372036854775808) :
    ∃ b l m e, rat_Frac_R n d b l m e ∧ rat_Make_R (ng n) (ab n) (ng d) (ab d) b l m e ∧ ref08_Same_R b l m b l m true := by
  by_cases hd : d = 0
  · subst hd
    exact ⟨_, _, _, _, rat_Frac_zero h0 h1, rat_Make_zero, ref08_Same_raw (by simp) (by simp)⟩
  · exact ⟨_, _, _, _, rat_Frac_is hd h0 h1 g0 g1, rat_Make_is hd ((zl_word h0 h1).mono (by omega)) ((zl_word g0 g1).mono (by omega)), ref08_Same_refl ((SZ.divInt hd (zl_word h0 h1) (zl_word g0 g1)).mono (by omega))⟩
theorem divInt_one {n d : Int} (hd : d ≠ 0) : Rat.divInt n d = 1 ↔ n = d := by
  have e : (1 : Rat) = Rat.divInt 1 1 := by rw [Rat.divInt_self' (by omega)]
  rw [e, Rat.divInt_eq_divInt_iff hd (by omega)]
  omega
theorem divInt_int (n : Int) : Rat.divInt n 1 = (n : Rat) := by
  have := Rat.num_divInt_den (n : Rat)
  rw [Rat.num_intCast, Rat.den_intCast] at this
  exact this
theorem RatSmalls_true {n d : Int} (h0 : -9223372036854775808 ≤ n) (h1 : n < 9223372036854775808) (g0 : -9223372036854775808 ≤ d) (g1 : d < 9223372036854775808) : law08_RatSmalls_R n d true := by
  have ho := whole_Of_is h0 h1
  have hp := whole_Of_is g0 g1
  obtain ⟨b, l, m, e, k1, k2, k3⟩ := small_big h0 h1 g0 g1
  refine law08_RatSmalls_go ?_
  by_cases c1 : n < -1152921504606846976
  · exact .inl ⟨c1, _, _, _, _, k1, _, _, ho, _, _, hp, _, _, _, _, k2, _, k3, .inl ⟨rfl, .inl ⟨rfl, _, rat_works, rfl⟩⟩⟩
  refine .inr ⟨c1, ?_⟩
  by_cases c2 : 1152921504606846976 < n
  · exact .inl ⟨c2, _, _, _, _, k1, _, _, ho, _, _, hp, _, _, _, _, k2, _, k3, .inl ⟨rfl, .inl ⟨rfl, _, rat_works, rfl⟩⟩⟩
  refine .inr ⟨c2, ?_⟩
  by_cases c3 : d < -1152921504606846976
  · exact .inl ⟨c3, _, _, _, _, k1, _, _, ho, _, _, hp, _, _, _, _, k2, _, k3, .inl ⟨rfl, .inl ⟨rfl, _, rat_works, rfl⟩⟩⟩
  refine .inr ⟨c3, ?_⟩
  by_cases c4 : 1152921504606846976 < d
  · exact .inl ⟨c4, _, _, _, _, k1, _, _, ho, _, _, hp, _, _, _, _, k2, _, k3, .inl ⟨rfl, .inl ⟨rfl, _, rat_works, rfl⟩⟩⟩
  refine .inr ⟨c4, ?_⟩
  by_cases c5 : d = 0
  · subst c5
    exact ⟨_, _, _, _, rat_Frac_zero h0 h1, .inl ⟨rfl, .inl ⟨rfl, _, rat_works, rfl⟩⟩⟩
  · have hz := SZ.divInt c5 (zl_word h0 h1) (zl_word g0 g1)
    have hs := ref08_Same_refl (hz.mono (show 2 ≤ 10000 by omega))
    have hone := rat_One_is (hz.mono (show 2 ≤ 1000 by omega))
    refine ⟨_, _, _, _, rat_Frac_is c5 h0 h1 g0 g1, .inr ⟨c5, ?_⟩⟩
    by_cases c6 : d < 0
    · have e1 : wi (0 - n) = -n := by rw [s64i (by omega) (by omega)]; omega
      have e2 : wi (0 - d) = -d := by rw [s64i (by omega) (by omega)]; omega
      have en : Rat.divInt (-n) (-d) = Rat.divInt n d := Rat.neg_divInt_neg n d
      have hI := SZ_int (n := -n) (by omega) (by omega)
      have r1 := ref08_Num_is (n := -n) (d := -d) (by omega) (by omega) (by omega) (by omega)
      rw [en] at r1
      have r2 := ref08_Num_is (n := -n) (d := 1) (by omega) (by omega) (by omega) (by omega)
      rw [divInt_int] at r2
      refine .inl ⟨c6, .inl ⟨rfl, ?_⟩⟩
      rw [e1, e2]
      refine ⟨_, _, _, r1, _, _, _, ref08_Back_is (hz.mono (by omega)), _, hs, .inl ⟨rfl, _, _, _, rat_Of_is (n := -n) (by omega) (by omega), _, _, _, r2, _, _, _, ref08_Back_is (hI.mono (by omega)), _, ref08_Same_refl (hI.mono (by omega)), .inl ⟨rfl, _, hone, ?_⟩⟩⟩
      by_cases c7 : n = d
      · exact .inl ⟨decide_eq_true ((divInt_one c5).2 c7), .inl ⟨by omega, _, rat_works, rfl⟩⟩
      · exact .inr ⟨by rw [decide_eq_true_iff, divInt_one c5]; exact c7, .inr ⟨by omega, _, rat_works, rfl⟩⟩
    · have hI := SZ_int (n := n) (by omega) (by omega)
      have r1 := ref08_Num_is (n := n) (d := d) (by omega) (by omega) (by omega) (by omega)
      have r2 := ref08_Num_is (n := n) (d := 1) (by omega) (by omega) (by omega) (by omega)
      rw [divInt_int] at r2
      refine .inr ⟨c6, .inl ⟨rfl, ?_⟩⟩
      refine ⟨_, _, _, r1, _, _, _, ref08_Back_is (hz.mono (by omega)), _, hs, .inl ⟨rfl, _, _, _, rat_Of_is (n := n) (by omega) (by omega), _, _, _, r2, _, _, _, ref08_Back_is (hI.mono (by omega)), _, ref08_Same_refl (hI.mono (by omega)), .inl ⟨rfl, _, hone, ?_⟩⟩⟩
      by_cases c7 : n = d
      · exact .inl ⟨decide_eq_true ((divInt_one c5).2 c7), .inl ⟨by omega, _, rat_works, rfl⟩⟩
      · exact .inr ⟨by rw [decide_eq_true_iff, divInt_one c5]; exact c7, .inr ⟨by omega, _, rat_works, rfl⟩⟩
end Go.Proofs.YtcmajlphfnihgaaA
