/- The law of divided fractions: its function answers true, whatever the input. -/
import Derived.Test.YtcmajlphfnihgaaP17
import Derived.Test.YtcmajlphfnihgaaWlaw08RatDivs
set_option linter.unusedVariables false
set_option linter.unusedSimpArgs false
namespace Go.Proofs.YtcmajlphfnihgaaA
open Go
theorem RatDivs_true {a0 b0 : Bool} {a1 a2 b1 b2 : List Int} (h1 : ∀ x ∈ a1, 0 ≤ x) (h2 : ∀ x ∈ a2, 0 ≤ x) (h3 : ∀ x ∈ b1, 0 ≤ x) (h4 : ∀ x ∈ b2, 0 ≤ x) (s1 : a1.length ≤ 9223372036854775807) (s2 : a2.length ≤ 9223372036854775807) (s3 : b1.length ≤ 9223372036854775807) (s4 : b2.length ≤ 9223372036854775807) :
    law08_RatDivs_R a0 a1 a2 b0 b1 b2 true := by
  obtain ⟨p, hp, zp⟩ := ref08_Clean_is (b := a0) h1 h2 (n := 4) (by omega) (by omega) s1 s2
  obtain ⟨q, hq, zq⟩ := ref08_Clean_is (b := b0) h3 h4 (n := 4) (by omega) (by omega) s3 s4
  have up : SZ 10000 p := zp.mono (by omega)
  have uq : SZ 10000 q := zq.mono (by omega)
  have vp : SZ 1000 p := zp.mono (by omega)
  have vq : SZ 1000 q := zq.mono (by omega)
  by_cases h0 : q = 0
  · subst h0
    refine law08_RatDivs_go ⟨_, _, _, hp, _, _, _, hq, _, _, _, ref08_Of_is up, _, _, _, ref08_Of_is uq, _, _, _, _, rat_Div_zero, _, _, _, _, rat_Inv_zero, _, ref08_Zero_is 0, .inl ⟨decide_eq_true rfl, .inl ⟨rfl, .inl ⟨rfl, _, rat_works, rfl⟩⟩⟩⟩
  · have zd : SZ 10000 (p / q) := by
      rw [Rat.div_def]; exact (zp.mul (zq.inv h0)).mono (by omega)
    have zi : SZ 10000 q⁻¹ := (zq.inv h0).mono (by omega)
    exact law08_RatDivs_go ⟨_, _, _, hp, _, _, _, hq, _, _, _, ref08_Of_is up, _, _, _, ref08_Of_is uq, _, _, _, _, rat_Div_is h0 vp vq, _, _, _, _, rat_Inv_is h0 vq, _, ref08_Zero_is q, .inr ⟨by rw [decide_eq_true_iff]; exact h0, .inl ⟨rfl, .inl ⟨rfl, _, _, _, ref08_Div_is h0 vp vq, _, _, _, ref08_Back_is zd, _, ref08_Same_refl zd, .inl ⟨rfl, _, _, _, ref08_Inv_is h0, _, _, _, ref08_Back_is zi, _, ref08_Same_refl zi, .inl ⟨rfl, _, _, _, rat_Neg_is vp, _, _, _, ref08_Neg_is p, _, _, _, ref08_Back_is up.neg, _, ref08_Same_refl up.neg, .inl ⟨rfl, _, rat_works, rfl⟩⟩⟩⟩⟩⟩⟩
end Go.Proofs.YtcmajlphfnihgaaA
