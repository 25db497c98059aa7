/- The law of the field of fractions: its function answers true, whatever the input. -/
import Derived.Test.YtcmajlphfnihgaaP17
import Derived.Test.YtcmajlphfnihgaaWlaw08RatField
set_option linter.unusedVariables false
set_option linter.unusedSimpArgs false
namespace Go.Proofs.YtcmajlphfnihgaaA
open Go
theorem same_of {x y : Rat} (hx : SZ 1000 x) (hy : SZ 1000 y) (h : x = y) : rat_Same_R (ng x.num) (ab x.num) (lim x.den) (ng y.num) (ab y.num) (lim y.den) true := by
  have := rat_Same_is hx hy
  rwa [decide_eq_true h] at this
theorem cmp_add (a b c : Rat) : (if a + c < b + c then -1 else if b + c < a + c then 1 else 0 : Int) = if a < b then -1 else if b < a then 1 else 0 := by
  have e1 : a + c < b + c ↔ a < b := by constructor <;> intro h <;> grind
  have e2 : b + c < a + c ↔ b < a := by constructor <;> intro h <;> grind
  simp only [e1, e2]
theorem RatField_true {a0 b0 c0 : Bool} {a1 a2 b1 b2 c1 c2 : List Int} (h1 : ∀ x ∈ a1, 0 ≤ x) (h2 : ∀ x ∈ a2, 0 ≤ x) (h3 : ∀ x ∈ b1, 0 ≤ x) (h4 : ∀ x ∈ b2, 0 ≤ x) (h5 : ∀ x ∈ c1, 0 ≤ x) (h6 : ∀ x ∈ c2, 0 ≤ x) (s1 : a1.length ≤ 9223372036854775807) (s2 : a2.length ≤ 9223372036854775807) (s3 : b1.length ≤ 9223372036854775807) (s4 : b2.length ≤ 9223372036854775807) (s5 : c1.length ≤ 9223372036854775807) (s6 : c2.length ≤ 9223372036854775807) :
    law08_RatField_R a0 a1 a2 b0 b1 b2 c0 c1 c2 true := by
  obtain ⟨a, ha, za⟩ := ref08_Clean_is (b := a0) h1 h2 (n := 3) (by omega) (by omega) s1 s2
  obtain ⟨b, hb, zb⟩ := ref08_Clean_is (b := b0) h3 h4 (n := 3) (by omega) (by omega) s3 s4
  obtain ⟨c, hc, zc⟩ := ref08_Clean_is (b := c0) h5 h6 (n := 3) (by omega) (by omega) s5 s6
  have va : SZ 1000 a := za.mono (by omega)
  have vb : SZ 1000 b := zb.mono (by omega)
  have vc : SZ 1000 c := zc.mono (by omega)
  have zs : SZ 20 (a + b) := (za.add zb).mono (by omega)
  have zp : SZ 20 (a * b) := (za.mul zb).mono (by omega)
  have zcb : SZ 20 (c + b) := (zc.add zb).mono (by omega)
  have zbc : SZ 20 (b + c) := (zb.add zc).mono (by omega)
  have zac : SZ 20 (a + c) := (za.add zc).mono (by omega)
  have zmcb : SZ 20 (c * b) := (zc.mul zb).mono (by omega)
  have zmac : SZ 20 (a * c) := (za.mul zc).mono (by omega)
  have wa : SZ 20 a := za.mono (by omega)
  have wb : SZ 20 b := zb.mono (by omega)
  have wc : SZ 20 c := zc.mono (by omega)
  have vs : SZ 1000 (a + b) := zs.mono (by omega)
  have vp : SZ 1000 (a * b) := zp.mono (by omega)
  have vcb : SZ 1000 (c + b) := zcb.mono (by omega)
  have vbc : SZ 1000 (b + c) := zbc.mono (by omega)
  have vac : SZ 1000 (a + c) := zac.mono (by omega)
  have vmcb : SZ 1000 (c * b) := zmcb.mono (by omega)
  have vmac : SZ 1000 (a * c) := zmac.mono (by omega)
  have t1 := same_of ((zs.add wc).mono (show _ ≤ 1000 by omega)) ((wa.add zcb).mono (show _ ≤ 1000 by omega)) (by grind)
  have t2 := same_of ((zp.mul wc).mono (show _ ≤ 1000 by omega)) ((wa.mul zmcb).mono (show _ ≤ 1000 by omega)) (by grind)
  have t3 := same_of ((wa.mul zbc).mono (show _ ≤ 1000 by omega)) ((zp.add zmac).mono (show _ ≤ 1000 by omega)) (by grind)
  have t4 := same_of ((zs.sub wb).mono (show _ ≤ 1000 by omega)) va (by grind)
  have tc := rat_Cmp_is vac vbc
  rw [cmp_add] at tc
  have td := rat_Cmp_is va vb
  have ts := rat_Same_is va vb
  refine law08_RatField_go ⟨_, rat_works, .inl ⟨rfl, _, _, _, ha, _, _, _, hb, _, _, _, hc, _, _, _, rat_Add_is va vb, _, _, _, rat_Mul_is va vb, _, rat_May_is vs, .inl ⟨rfl, _, rat_May_is vp, .inl ⟨rfl, _, _, _, rat_Add_is vs vc, _, _, _, rat_Add_is vc vb, _, _, _, rat_Add_is va vcb, _, t1, .inl ⟨rfl, _, _, _, rat_Mul_is vp vc, _, _, _, rat_Mul_is vc vb, _, _, _, rat_Mul_is va vmcb, _, t2,
    .inl ⟨rfl, _, _, _, rat_Add_is vb vc, _, _, _, rat_Mul_is va vbc, _, _, _, rat_Mul_is va vc, _, _, _, rat_Add_is vp vmac, _, t3, .inl ⟨rfl, _, _, _, rat_Sub_is vs vb, _, t4, .inl ⟨rfl, _, _, _, rat_Add_is va vc, _, _, _, rat_Add_is vb vc, _, tc, _, td, .inl ⟨rfl, _, td, _, ts, ?_⟩⟩⟩⟩⟩⟩⟩⟩⟩
  have fin : ∃ x0 x1 x2 e, rat_Div_R (ng (a * b).num) (ab (a * b).num) (lim (a * b).den) (ng b.num) (ab b.num) (lim b.den) x0 x1 x2 e ∧ ((e = 0 ∧ (∃ c : Bool, (rat_Same_R x0 x1 x2 (ng a.num) (ab a.num) (lim a.den) c ∧ ((c = true ∧ (∃ d : Bool, (rat_May_R x0 x1 x2 d ∧ (true = d)))) ∨ (¬ c = true ∧ (true = false)))))) ∨ (¬ e = 0 ∧ (∃ c : Int, (rat_Sign_R (ng b.num) (ab b.num) (lim b.den) c ∧ (true = (decide (c = 0))))))) := by
    by_cases h0 : b = 0
    · refine ⟨_, _, _, _, by rw [h0]; exact rat_Div_zero, .inr ⟨by omega, _, rat_Sign_is b, ?_⟩⟩
      rw [h0]; rfl
    · have e : a * b / b = a := by rw [Rat.div_def, Rat.mul_assoc, Rat.mul_inv_cancel b h0, Rat.mul_one]
      have := rat_Div_is h0 vp vb
      rw [e] at this
      exact ⟨_, _, _, _, this, .inl ⟨rfl, _, same_of va va rfl, .inl ⟨rfl, _, rat_May_is va, rfl⟩⟩⟩
  by_cases h : a = b
  · refine .inl ⟨?_, .inl ⟨decide_eq_true h, fin⟩⟩
    rw [h]
    simp only [Rat.lt_irrefl, if_false]
  · refine .inr ⟨?_, .inr ⟨by rw [decide_eq_true_iff]; exact h, fin⟩⟩
    intro g
    split at g
    · omega
    · split at g
      · omega
      · grind
end Go.Proofs.YtcmajlphfnihgaaA
