/- The law of sums and products of fractions: its function answers true, whatever the input. -/
import Derived.Test.YtcmajlphfnihgaaP17
import Derived.Test.YtcmajlphfnihgaaWlaw08RatAdds
set_option linter.unusedVariables false
set_option linter.unusedSimpArgs false
namespace Go.Proofs.YtcmajlphfnihgaaA
open Go
theorem RatAdds_true {a0 b0 : Bool} {a1 a2 b1 b2 : List Int} (h1 : ∀ x ∈ a1, 0 ≤ x) (h2 : ∀ x ∈ a2, 0 ≤ x) (h3 : ∀ x ∈ b1, 0 ≤ x) (h4 : ∀ x ∈ b2, 0 ≤ x) (s1 : a1.length ≤ 9223372036854775807) (s2 : a2.length ≤ 9223372036854775807) (s3 : b1.length ≤ 9223372036854775807) (s4 : b2.length ≤ 9223372036854775807) :
    law08_RatAdds_R a0 a1 a2 b0 b1 b2 true := by
  obtain ⟨p, hp, zp⟩ := ref08_Clean_is (b := a0) h1 h2 (n := 4) (by omega) (by omega) s1 s2
  obtain ⟨q, hq, zq⟩ := ref08_Clean_is (b := b0) h3 h4 (n := 4) (by omega) (by omega) s3 s4
  have up : SZ 10000 p := zp.mono (by omega)
  have uq : SZ 10000 q := zq.mono (by omega)
  have vp : SZ 1000 p := zp.mono (by omega)
  have vq : SZ 1000 q := zq.mono (by omega)
  have za : SZ 10000 (p + q) := (zp.add zq).mono (by omega)
  have zs : SZ 10000 (p - q) := (zp.sub zq).mono (by omega)
  have zm : SZ 10000 (p * q) := (zp.mul zq).mono (by omega)
  refine law08_RatAdds_go ⟨_, _, _, hp, _, _, _, hq, _, _, _, ref08_Of_is up, _, _, _, ref08_Of_is uq, _, _, _, rat_Add_is vp vq, _, _, _, ref08_Add_is vp vq, _, _, _, ref08_Back_is za, _, ref08_Same_refl za, .inl ⟨rfl, _, _, _, rat_Sub_is vp vq, _, _, _, ref08_Sub_is vp vq, _, _, _, ref08_Back_is zs, _, ref08_Same_refl zs, .inl ⟨rfl, _, _, _, rat_Mul_is vp vq, _, _, _, ref08_Mul_is vp vq, _, _, _, ref08_Back_is zm, _, ref08_Same_refl zm,
    .inl ⟨rfl, _, rat_Cmp_is vp vq, _, ref08_Cmp_is vp vq, .inl ⟨rfl, _, rat_Sign_is p, _, ref08_Sign_is p, .inl ⟨rfl, _, rat_Same_is vp vq, _, ref08_Same_is up, ?_⟩⟩⟩⟩⟩⟩
  by_cases h : p = q
  · exact .inl ⟨decide_eq_true h, .inl ⟨decide_eq_true h, _, rat_works, rfl⟩⟩
  · have hf : ¬ decide (p = q) = true := by rw [decide_eq_true_iff]; exact h
    exact .inr ⟨hf, .inr ⟨hf, _, rat_works, rfl⟩⟩
end Go.Proofs.YtcmajlphfnihgaaA
