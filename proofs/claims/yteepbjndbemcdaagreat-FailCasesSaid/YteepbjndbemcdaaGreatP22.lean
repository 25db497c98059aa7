/- Links that fail, as the document has them. -/
import Derived.Test.YteepbjndbemcdaaGreatP20
set_option linter.unusedVariables false
set_option linter.unusedSimpArgs false
namespace Go.Proofs.YteepbjndbemcdaaGreatA
open Go
theorem ref29_Right_loop {qs : List Rat} (hz : AZ 10000 qs) (hl : qs.length ≤ 1000000) (d : Nat) : ∀ i : Nat, i + d = qs.length →
    ref29_Right_l0 (qs.map fT) (i : Int) (decide (qs.length ≤ 8 ∧ ∀ q ∈ qs.drop i, Unit q)) := by
  have hL : (qs.map fT).length = qs.length := List.length_map _
  induction d with
  | zero =>
    intro i hi
    refine ref29_Right_l0_go (.inr ⟨by omega, decide_eq_decide.2 ?_⟩)
    rw [List.drop_of_length_le (by omega), hL]
    constructor
    · intro g; omega
    · intro g; exact ⟨by omega, fun q hq => by cases hq⟩
  | succ d ih =>
    intro i hi
    have h : i < qs.length := by omega
    refine ref29_Right_l0_go (.inl ⟨by omega, by omega, _, _, _, getD_fT h _, _, ref08_Sign_is _, ?_⟩)
    rw [w_succ (by omega)]
    by_cases h1 : qs.getD i 0 < 0
    · exact .inl ⟨(sn_lt _).2 h1, decide_eq_false fun g => ((all_drop h).1 g.2).1.1 h1⟩
    · refine .inr ⟨fun g => h1 ((sn_lt _).1 g), _, _, _, getD_fT h _, _, _, _, ref_Num11, _, ref08_Cmp_is (hz.get h) (SZ1.mono (by omega)), ?_⟩
      by_cases h2 : 1 < qs.getD i 0
      · exact .inl ⟨cmp_pos.2 h2, decide_eq_false fun g => ((all_drop h).1 g.2).1.2 h2⟩
      · refine .inr ⟨fun g => h2 (cmp_pos.1 g), ?_⟩
        have e : (qs.length ≤ 8 ∧ ∀ q ∈ qs.drop i, Unit q) ↔ (qs.length ≤ 8 ∧ ∀ q ∈ qs.drop (i + 1), Unit q) := by
          rw [all_drop h]
          exact ⟨fun g => ⟨g.1, g.2.2⟩, fun g => ⟨g.1, ⟨h1, h2⟩, g.2⟩⟩
        rw [decide_eq_decide.2 e]
        exact ih (i + 1) (by omega)
theorem ref29_Right_is {qs : List Rat} (hz : AZ 10000 qs) (hl : qs.length ≤ 1000000) : ref29_Right_R (qs.map fT) (decide (Rgt qs)) := by
  have := ref29_Right_loop hz hl qs.length 0 (by omega)
  rw [List.drop_zero] at this
  exact ref29_Right_go this
theorem ref29_Cases_loop {n : Nat} (hn : n ≤ 60) (d : Nat) : ∀ i : Nat, i + d = n → ref29_Cases_l0 (n : Int) ((2 ^ i : Nat) : Int) (i : Int) ((2 ^ n : Nat) : Int) := by
  induction d with
  | zero =>
    intro i hi
    obtain rfl : i = n := by omega
    exact ref29_Cases_l0_go (.inr ⟨by omega, rfl⟩)
  | succ d ih =>
    intro i hi
    have hp : 2 ^ (i + 1) ≤ 2 ^ 60 := Nat.pow_le_pow_right (by omega) (by omega)
    have e : wu (2 * ((2 ^ i : Nat) : Int)) = ((2 ^ (i + 1) : Nat) : Int) := by
      rw [Nat.pow_succ] at hp ⊢
      generalize 2 ^ i = m at hp ⊢
      rw [w64i (by omega) (by omega)]; omega
    refine ref29_Cases_l0_go (.inl ⟨by omega, ?_⟩)
    rw [e, w_succ (by omega)]
    exact ih (i + 1) (by omega)
theorem ref29_Cases_is {n : Nat} (hn : n ≤ 60) : ref29_Cases_R (n : Int) ((2 ^ n : Nat) : Int) := ref29_Cases_go (ref29_Cases_loop hn n 0 (by omega))
theorem ref29_Chance_loop {qs : List Rat} (hz : AZ 1 qs) (hl : qs.length ≤ 20) {u : Bool} (d : Nat) : ∀ (i m n : Nat) (s : Rat), i + d = qs.length → SZ m s → m + (qs.length - i) * 3 ≤ 900 → n < 18446744073709551616 →
    ref29_Chance_l0 (qs.map fT) (n : Int) (i : Int) u (ng s.num) (tn s.num) (ten s.den) (ng (chQ s (qs.drop i) n).num) (tn (chQ s (qs.drop i) n).num) (ten (chQ s (qs.drop i) n).den) := by
  have hL : (qs.map fT).length = qs.length := List.length_map _
  induction d with
  | zero =>
    intro i m n s hi hs hm hn
    rw [List.drop_of_length_le (by omega)]
    exact ref29_Chance_l0_go (.inr ⟨by omega, rfl, rfl, rfl⟩)
  | succ d ih =>
    intro i m n s hi hs hm hn
    have h : i < qs.length := by omega
    have hq := hz.get h
    have hm2 : m + 3 + (qs.length - (i + 1)) * 3 ≤ 900 := by omega
    have key := ih (i + 1) (m + 3) (n / 2) _ (by omega) (hs.mul2 (ch_step (n := n) hq)) hm2 (by omega)
    have e1 : wu ((n : Int).tdiv 2) = ((n / 2 : Nat) : Int) := by rw [td (by omega), w64i (by omega) (by omega)]; omega
    have e2 : (n : Int).tmod 2 = ((n % 2 : Nat) : Int) := by rw [tm (by omega)]; omega
    refine ref29_Chance_l0_go (.inl ⟨by omega, ?_⟩)
    rw [e1, e2, w_succ (by omega), drop_getD h, chQ]
    by_cases hb : n % 2 = 1
    · rw [if_pos hb] at key ⊢
      exact .inl ⟨by omega, _, _, _, ref_Num11, by omega, _, _, _, getD_fT h _, _, _, _, ref08_Sub_is (SZ1.mono (by omega)) (hq.mono (by omega)), _, _, _, ref08_Mul_is (hs.mono (by omega)) (hq.not.mono (by omega)), key⟩
    · rw [if_neg hb] at key ⊢
      exact .inr ⟨by omega, by omega, _, _, _, getD_fT h _, _, _, _, ref08_Mul_is (hs.mono (by omega)) (hq.mono (by omega)), key⟩
theorem ref29_Chance_is {qs : List Rat} (hz : AZ 1 qs) (hl : qs.length ≤ 20) {n : Nat} (hn : n < 18446744073709551616) : ref29_Chance_R (qs.map fT) (n : Int) (ng (chQ 1 qs n).num) (tn (chQ 1 qs n).num) (ten (chQ 1 qs n).den) := by
  have := ref29_Chance_loop hz hl (u := false) qs.length 0 1 n 1 (by omega) SZ1 (by omega) hn
  exact ref29_Chance_go ⟨_, _, _, ref_Num11, this⟩
end Go.Proofs.YteepbjndbemcdaaGreatA
