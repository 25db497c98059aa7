/- The law of chances: its function answers true, whatever the input. -/
import Derived.Test.YteepbjndbemcdaaGreatP22
import Derived.Test.YteepbjndbemcdaaGreatWlaw29FailChances
set_option linter.unusedVariables false
set_option linter.unusedSimpArgs false
namespace Go.Proofs.YteepbjndbemcdaaGreatA
open Go
theorem FailChances_true {L : List T_api_Rat} {live : Int} (hw : ∀ p ∈ L, RawQ p) (h0 : 0 ≤ live) (h1 : live < 18446744073709551616) : law29_FailChances_R L live true := by
  obtain ⟨n, rfl⟩ := Int.eq_ofNat_of_zero_le h0
  obtain ⟨qs, hf, hz, hl⟩ := few29_is hw (m := 10) (by omega) (by omega)
  have hlen : qs.length ≤ 10 := by omega
  have hL : (qs.map fT).length = qs.length := List.length_map _
  obtain ⟨c1, c2⟩ := fail_Chance_is hz (by omega) (n := n) (by omega)
  obtain ⟨d1, d2⟩ := fail_Chance_is hz (by omega) (n := 0) (by omega)
  have hr := ref29_Right_is (hz.mono (show 1 ≤ 10000 by omega)) (by omega)
  have hp := Nat.two_pow_pos qs.length
  have hsz := fun n => (SZ.ch (n := n) hz SZ1).mono (show 1 + qs.length * 3 ≤ 100000 by omega)
  by_cases h : Rgt qs
  · rw [decide_eq_true h] at hr
    have hn := fail_None_go ⟨_, _, _, _, d1 ⟨h, hp⟩, rfl, rfl, rfl, rfl⟩
    by_cases hlt : n < 2 ^ qs.length
    · refine law29_FailChances_go ⟨_, _, hf, _, _, _, _, c1 ⟨h, hlt⟩, _, _, _, _, hn, _, hr, .inl ⟨rfl, .inl ⟨rfl, _, _, _, ref29_Chance_is hz (by omega) (n := 0) (by omega), _, _, _, ref08_Back_is (hsz 0), _, ref08_Same_refl (hsz 0), .inl ⟨rfl, _, by rw [hL]; exact ref29_Cases_is (by omega), .inr ⟨by omega, .inl ⟨rfl, _, _, _, ref29_Chance_is hz (by omega) (by omega), _, _, _, ref08_Back_is (hsz n), _, ref08_Same_refl (hsz n), .inl ⟨rfl, _, fail_works, rfl⟩⟩⟩⟩⟩⟩⟩
    · refine law29_FailChances_go ⟨_, _, hf, _, _, _, _, c2 (fun g => hlt g.2), _, _, _, _, hn, _, hr, .inl ⟨rfl, .inl ⟨rfl, _, _, _, ref29_Chance_is hz (by omega) (n := 0) (by omega), _, _, _, ref08_Back_is (hsz 0), _, ref08_Same_refl (hsz 0), .inl ⟨rfl, _, by rw [hL]; exact ref29_Cases_is (by omega), .inl ⟨by omega, .inl ⟨rfl, _, fail_works, rfl⟩⟩⟩⟩⟩⟩
  · rw [decide_eq_false h] at hr
    exact law29_FailChances_go ⟨_, _, hf, _, _, _, _, c2 (fun g => h g.1), _, _, _, _, fail_None_go ⟨_, _, _, _, d2 (fun g => h g.1), rfl, rfl, rfl, rfl⟩, _, hr, .inr ⟨by simp, .inl ⟨rfl, .inl ⟨rfl, _, fail_works, rfl⟩⟩⟩⟩
end Go.Proofs.YteepbjndbemcdaaGreatA
