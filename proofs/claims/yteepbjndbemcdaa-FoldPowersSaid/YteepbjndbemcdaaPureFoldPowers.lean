/- The law of a fraction's powers: its function answers true, whatever the input. -/
import Derived.Test.YteepbjndbemcdaaP19
import Derived.Test.YteepbjndbemcdaaWlaw10FoldPowers
set_option linter.unusedVariables false
set_option linter.unusedSimpArgs false
namespace Go.Proofs.YteepbjndbemcdaaA
open Go
/-- The powers that are reckoned: the program and the document answer the same. -/
def PowTail (n : Int) (c0 : Bool) (c1 c2 : List Int) : Prop := (∃ x0 : Bool, (∃ x1 : List Int, (∃ x2 : List Int, (∃ e : Int, (fold_Pow_R c0 c1 c2 n x0 x1 x2 e ∧ (∃ y0 : Bool, (∃ y1 : List Int, (∃ y2 : List Int, (ref08_Of_R c0 c1 c2 y0 y1 y2 ∧ (∃ u0 : Bool, (∃ u1 : List Int, (∃ u2 : List Int, (∃ g : Int, (ref10_Pow_R y0 y1 y2 n u0 u1 u2 g ∧ ((g = 0 ∧ ((e = 0 ∧ (∃ v0 : Bool, (∃ v1 : List Int, (∃ v2 : List Int, (ref08_Back_R u0 u1 u2 v0 v1 v2 ∧ (∃ s : Bool, (ref08_Same_R x0 x1 x2 v0 v1 v2 s ∧ ((s = true ∧ (∃ w : Bool, (law10_works_R w ∧ (true = w)))) ∨ (¬ s = true ∧ (true = false)))))))))) ∨ (¬ e = 0 ∧ (true = false)))) ∨ (¬ g = 0 ∧ ((e = g ∧ (∃ w : Bool, (law10_works_R w ∧ (true = w)))) ∨ (¬ e = g ∧ (true = false)))))))))))))))))))
theorem pow_tail {a : Rat} (ha : SZ 2 a) {n : Int} (h1 : -9223372036854775808 ≤ n) (h2 : n < 9223372036854775808) (hn : (-12 ≤ n ∧ n ≤ 12) ∨ n < -2000 ∨ 2000 < n) : PowTail n (ng a.num) (ab a.num) (lim a.den) := by
  have ho := ref08_Of_is (ha.mono (show 2 ≤ 10000 by omega))
  rcases hn with hn | hn | hn
  · by_cases h0 : n < 0
    · obtain ⟨k, hk⟩ : ∃ k : Nat, n = -(k : Int) := ⟨n.natAbs, by omega⟩
      subst hk
      by_cases hz : a = 0
      · subst hz
        exact ⟨_, _, _, _, fold_Pow_zero (by omega) (by omega), _, _, _, ho, _, _, _, _, ref10_Pow_zero (by omega) (by omega), .inr ⟨by omega, .inl ⟨rfl, _, fold_works, rfl⟩⟩⟩
      · have hs := (SZ.pow (ha.inv hz) k).mono (show 1 + k * 2 ≤ 10000 by omega)
        exact ⟨_, _, _, _, fold_Pow_neg (by omega) (by omega) hz ha, _, _, _, ho, _, _, _, _, ref10_Pow_neg (by omega) (by omega) hz ha, .inl ⟨rfl, .inl ⟨rfl, _, _, _, ref08_Back_is hs, _, ref08_Same_refl hs, .inl ⟨rfl, _, fold_works, rfl⟩⟩⟩⟩
    · obtain ⟨k, hk⟩ := Int.eq_ofNat_of_zero_le (show 0 ≤ n by omega)
      subst hk
      have hs := (SZ.pow ha k).mono (show 1 + k * 2 ≤ 10000 by omega)
      exact ⟨_, _, _, _, fold_Pow_nat ha (by omega), _, _, _, ho, _, _, _, _, ref10_Pow_nat ha (by omega), .inl ⟨rfl, .inl ⟨rfl, _, _, _, ref08_Back_is hs, _, ref08_Same_refl hs, .inl ⟨rfl, _, fold_works, rfl⟩⟩⟩⟩
  · exact ⟨_, _, _, _, fold_Pow_go (.inl ⟨by omega, rfl, rfl, rfl, rfl⟩), _, _, _, ho, _, _, _, _, ref10_Pow_go (.inl ⟨by omega, rfl, rfl, rfl, rfl⟩), .inr ⟨by omega, .inl ⟨rfl, _, fold_works, rfl⟩⟩⟩
  · exact ⟨_, _, _, _, fold_Pow_go (.inr ⟨by omega, .inl ⟨by omega, rfl, rfl, rfl, rfl⟩⟩), _, _, _, ho, _, _, _, _, ref10_Pow_go (.inr ⟨by omega, .inl ⟨by omega, rfl, rfl, rfl, rfl⟩⟩), .inr ⟨by omega, .inl ⟨rfl, _, fold_works, rfl⟩⟩⟩
theorem FoldPowers_true {a0 : Bool} {a1 a2 : List Int} {n : Int} (h1 : ∀ x ∈ a1, 0 ≤ x) (h2 : ∀ x ∈ a2, 0 ≤ x) (g1 : -9223372036854775808 ≤ n) (g2 : n < 9223372036854775808) (s1 : a1.length ≤ 9223372036854775807) (s2 : a2.length ≤ 9223372036854775807) : law10_FoldPowers_R a0 a1 a2 n true := by
  obtain ⟨a, hc, ha⟩ := ref08_Clean_is (b := a0) h1 h2 (n := 1) (by omega) (by omega) s1 s2
  have ha := ha.mono (show 1 ≤ 2 by omega)
  refine law10_FoldPowers_go ⟨_, _, _, hc, ?_⟩
  have hm : -12 ≤ n.tmod 13 ∧ n.tmod 13 ≤ 12 := by
    have := Int.tmod_lt_of_pos n (show (0 : Int) < 13 by omega)
    have := Int.lt_tmod_of_pos n (show (0 : Int) < 13 by omega)
    omega
  by_cases c1 : 12 < n
  · by_cases c2 : n ≤ 2000
    · exact .inl ⟨c1, .inl ⟨by omega, .inl ⟨c2, pow_tail ha (by omega) (by omega) (.inl hm)⟩⟩⟩
    · exact .inl ⟨c1, .inl ⟨by omega, .inr ⟨c2, pow_tail ha g1 g2 (.inr (.inr (by omega)))⟩⟩⟩
  · by_cases c3 : n < -12
    · by_cases c4 : -2000 ≤ n
      · exact .inr ⟨c1, .inl ⟨c3, .inl ⟨c4, .inl ⟨by omega, pow_tail ha (by omega) (by omega) (.inl hm)⟩⟩⟩⟩
      · exact .inr ⟨c1, .inl ⟨c3, .inr ⟨c4, pow_tail ha g1 g2 (.inr (.inl (by omega)))⟩⟩⟩
    · exact .inr ⟨c1, .inr ⟨c3, pow_tail ha g1 g2 (.inl (by omega))⟩⟩
end Go.Proofs.YteepbjndbemcdaaA
