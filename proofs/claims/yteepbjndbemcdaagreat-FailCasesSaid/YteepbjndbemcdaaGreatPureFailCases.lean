/- The law of cases: its function answers true, whatever the input. -/
import Derived.Test.YteepbjndbemcdaaGreatP22
import Derived.Test.YteepbjndbemcdaaGreatWlaw29FailCases
set_option linter.unusedVariables false
set_option linter.unusedSimpArgs false
namespace Go.Proofs.YteepbjndbemcdaaGreatA
open Go
theorem SameInts_refl (l : List Int) (hs : l.length ≤ 1000000) : triviumbase_SameInts_R l l true := by
  have loop : ∀ d i : Nat, i + d = l.length → triviumbase_SameInts_l0 l l (i : Int) true := by
    intro d
    induction d with
    | zero => intro i hi; exact triviumbase_SameInts_l0_go (.inr ⟨by omega, rfl⟩)
    | succ d ih =>
      intro i hi
      refine triviumbase_SameInts_l0_go (.inl ⟨by omega, by omega, by omega, .inl ⟨rfl, ?_⟩⟩)
      rw [w_succ (by omega)]
      exact ih (i + 1) (by omega)
  exact triviumbase_SameInts_go (.inl ⟨rfl, loop l.length 0 (by omega)⟩)
/-- Cases are told in their order. -/
theorem casesTo_prefix (qs : List Rat) {m n : Nat} (h : m ≤ n) : casesTo qs m <+: casesTo qs n := by
  induction n with
  | zero => obtain rfl : m = 0 := by omega
            exact List.prefix_rfl
  | succ n ih =>
    rcases Nat.lt_or_eq_of_le h with h1 | h1
    · refine (ih (by omega)).trans ?_
      rw [casesTo_succ]
      split
      · exact List.prefix_rfl
      · exact List.prefix_append ..
    · subst h1; exact List.prefix_rfl
theorem casesTo_at (qs : List Rat) {c n : Nat} (hc : c < n) (h : chQ 1 qs c ≠ 0) : (casesTo qs c).length < (casesTo qs n).length ∧ (casesTo qs n).getD (casesTo qs c).length (0, 0) = (c, chQ 1 qs c) := by
  have hp := casesTo_prefix qs (show c + 1 ≤ n by omega)
  rw [casesTo_succ, if_neg h] at hp
  obtain ⟨t, ht⟩ := hp
  rw [← ht]
  refine ⟨by simp, ?_⟩
  rw [List.getD_eq_getElem?_getD, List.append_assoc, List.getElem?_append_right (Nat.le_refl _), Nat.sub_self]
  rfl
theorem FailCases_loop {ps : List Rat} (hz : AZ 1 ps) (hl : ps.length ≤ 8) (d : Nat) : ∀ c : Nat, c + d = 2 ^ ps.length →
    law29_FailCases_l2 (ps.map fT) ((casesTo ps (2 ^ ps.length)).map fC) 0 ((casesTo ps c).length : Int) (c : Int) true := by
  have hL : (ps.map fT).length = ps.length := List.length_map _
  have hC : ((casesTo ps (2 ^ ps.length)).map fC).length = (casesTo ps (2 ^ ps.length)).length := List.length_map _
  have hp : 2 ^ ps.length ≤ 2 ^ 8 := Nat.pow_le_pow_right (by omega) hl
  have hcs := ref29_Cases_is (n := ps.length) (by omega)
  induction d with
  | zero =>
    intro c hc
    obtain rfl : c = 2 ^ ps.length := by omega
    exact law29_FailCases_l2_go ⟨_, by rw [hL]; exact hcs, .inr ⟨by omega, .inl ⟨rfl, .inl ⟨by rw [hC], _, fail_works, rfl⟩⟩⟩⟩
  | succ d ih =>
    intro c hc
    have hlt : c < 2 ^ ps.length := by omega
    have hw : wu ((c : Int) + 1) = ((c + 1 : Nat) : Int) := by rw [w64i (by omega) (by omega)]; rfl
    have key := ih (c + 1) (by omega)
    have hsz := (SZ.ch (n := c) hz SZ1).mono (show 1 + ps.length * 3 ≤ 100000 by omega)
    have hcl := casesTo_len ps c
    refine law29_FailCases_l2_go ⟨_, by rw [hL]; exact hcs, .inl ⟨by omega, _, _, _, ref29_Chance_is hz (by omega) (by omega), _, ref08_Zero_is _, ?_⟩⟩
    rw [hw]
    by_cases h0 : chQ 1 ps c = 0
    · rw [casesTo_succ, if_pos h0] at key
      exact .inl ⟨decide_eq_true h0, key⟩
    · obtain ⟨k1, k2⟩ := casesTo_at ps hlt h0
      have hg := getD_fC k1 (0, false, [], [])
      rw [k2] at hg
      rw [casesTo_succ, if_neg h0, List.length_append] at key
      refine .inr ⟨by rw [decide_eq_true_iff]; exact h0, .inr ⟨by omega, by omega, by omega, _, _, _, _, by rw [Int.toNat_natCast]; exact hg, .inl ⟨rfl, _, _, _, _, by rw [Int.toNat_natCast]; exact hg, _, _, _, ref08_Back_is hsz, _, ref08_Same_refl hsz, .inl ⟨rfl, ?_⟩⟩⟩⟩
      rw [w_succ (by omega)]
      exact key
/-- What is done with the fractions, whatever was wanted. -/
theorem cases_try {ps : List Rat} (hz : AZ 1 ps) (hl : ps.length ≤ 9) : ∃ c19t0 : List T_fail_Case, (∃ c19t1 : Int, (fail_All_R (ps.map fQ) c19t0 c19t1 ∧ (∃ c21 : Bool, (ref29_Right_R (ps.map fT) c21 ∧ ((c21 = true ∧ (law29_FailCases_l2 (ps.map fT) c19t0 c19t1 0 0 true)) ∨ (¬ c21 = true ∧ ((c19t1 = 2 ∧ (((c19t0.length : Int) = 0 ∧ (∃ c26 : Bool, (law29_works_R c26 ∧ (true = c26)))) ∨ (¬ (c19t0.length : Int) = 0 ∧ (true = false)))) ∨ (¬ c19t1 = 2 ∧ (true = false))))))))) := by
  obtain ⟨a1, a2⟩ := fail_All_is hz (by omega)
  have hr := ref29_Right_is (hz.mono (show 1 ≤ 10000 by omega)) (by omega)
  by_cases h : Rgt ps
  · exact ⟨_, _, a1 h, _, hr, .inl ⟨decide_eq_true h, FailCases_loop hz h.1 (2 ^ ps.length) 0 (by omega)⟩⟩
  · exact ⟨_, _, a2 h, _, hr, .inr ⟨by rw [decide_eq_true_iff]; exact h, .inl ⟨rfl, .inl ⟨rfl, _, fail_works, rfl⟩⟩⟩⟩
def CasesTail (x0 : List T_api_Rat) (x1 x2 : Int) (r34 : List Int) : Prop := (∃ c53 : List Int, (fail_Lives_R x1 x2 c53 ∧ (∃ c55 : Bool, (triviumbase_SameInts_R c53 r34 c55 ∧ ((c55 = true ∧ (∃ c58t0 : List T_api_Rat, (∃ c58t1 : List T_ref08_Q, (law29_few_R x0 9 c58t0 c58t1 ∧ ((5 < (c58t1.length : Int) ∧ (((c58t1.length : Int) < 9 ∧ (5 ≤ (c58t0.length : Int) ∧ (5 ≤ (c58t1.length : Int) ∧ (∃ c64t0 : List T_fail_Case, (∃ c64t1 : Int, (fail_All_R (c58t0.take 5) c64t0 c64t1 ∧ (∃ c66 : Bool, (ref29_Right_R (c58t1.take 5) c66 ∧ ((c66 = true ∧ (law29_FailCases_l2 (c58t1.take 5) c64t0 c64t1 0 0 true)) ∨ (¬ c66 = true ∧ ((c64t1 = 2 ∧ (((c64t0.length : Int) = 0 ∧ (∃ c71 : Bool, (law29_works_R c71 ∧ (true = c71)))) ∨ (¬ (c64t0.length : Int) = 0 ∧ (true = false)))) ∨ (¬ c64t1 = 2 ∧ (true = false))))))))))))) ∨ (¬ (c58t1.length : Int) < 9 ∧ (∃ c73t0 : List T_fail_Case, (∃ c73t1 : Int, (fail_All_R c58t0 c73t0 c73t1 ∧ (∃ c75 : Bool, (ref29_Right_R c58t1 c75 ∧ ((c75 = true ∧ (law29_FailCases_l2 c58t1 c73t0 c73t1 0 0 true)) ∨ (¬ c75 = true ∧ ((c73t1 = 2 ∧ (((c73t0.length : Int) = 0 ∧ (∃ c80 : Bool, (law29_works_R c80 ∧ (true = c80)))) ∨ (¬ (c73t0.length : Int) = 0 ∧ (true = false)))) ∨ (¬ c73t1 = 2 ∧ (true = false))))))))))))) ∨ (¬ 5 < (c58t1.length : Int) ∧ (∃ c82t0 : List T_fail_Case, (∃ c82t1 : Int, (fail_All_R c58t0 c82t0 c82t1 ∧ (∃ c84 : Bool, (ref29_Right_R c58t1 c84 ∧ ((c84 = true ∧ (law29_FailCases_l2 c58t1 c82t0 c82t1 0 0 true)) ∨ (¬ c84 = true ∧ ((c82t1 = 2 ∧ (((c82t0.length : Int) = 0 ∧ (∃ c89 : Bool, (law29_works_R c89 ∧ (true = c89)))) ∨ (¬ (c82t0.length : Int) = 0 ∧ (true = false)))) ∨ (¬ c82t1 = 2 ∧ (true = false)))))))))))))))) ∨ (¬ c55 = true ∧ (true = false)))))))
theorem cases_tail {L : List T_api_Rat} {live : Nat} {n : Int} (hw : ∀ p ∈ L, RawQ p) (hlive : live < 18446744073709551616) : CasesTail L (live : Int) n (livesTo live (min n.toNat 64)) := by
  obtain ⟨qs, hf, hz, hl⟩ := few29_is hw (m := 9) (by omega) (by omega)
  have hL : (qs.map fT).length = qs.length := List.length_map _
  have hQ : (qs.map fQ).length = qs.length := List.length_map _
  have hlv := livesTo_len live (min n.toNat 64)
  refine ⟨_, fail_Lives_is hlive n, _, SameInts_refl _ (by omega), .inl ⟨rfl, _, _, hf, ?_⟩⟩
  by_cases h5 : 5 < qs.length
  · by_cases h9 : qs.length < 9
    · have := cases_try (ps := qs.take 5) (fun q hq => hz q (List.mem_of_mem_take hq)) (by rw [List.length_take]; omega)
      rw [List.map_take, List.map_take] at this
      exact .inl ⟨by omega, .inl ⟨by omega, by omega, by omega, this⟩⟩
    · exact .inl ⟨by omega, .inr ⟨by omega, cases_try hz (by omega)⟩⟩
  · exact .inr ⟨by omega, cases_try hz (by omega)⟩
theorem livesTo_min {n k m : Nat} : livesTo n (min (k + 1) m) = if k < m ∧ n / 2 ^ k % 2 = 1 then livesTo n (min k m) ++ [(k : Int)] else livesTo n (min k m) := by
  by_cases h : k < m
  · rw [show min (k + 1) m = k + 1 by omega, show min k m = k by omega, livesTo_succ]
    by_cases h2 : n / 2 ^ k % 2 = 1
    · rw [if_pos h2, if_pos ⟨h, h2⟩]
    · rw [if_neg h2, if_neg (fun g => h2 g.2)]
  · rw [show min (k + 1) m = m by omega, show min k m = m by omega, if_neg (fun g => h g.1)]
theorem FailCases_want {L : List T_api_Rat} {live : Nat} {n : Int} (hw : ∀ p ∈ L, RawQ p) (hlive : live < 18446744073709551616) (d : Nat) : ∀ i : Nat, i + d = 64 →
    (livesTo live (min i (min n.toNat 64)) = [] → law29_FailCases_l0 L (live : Int) n ((live / 2 ^ i : Nat) : Int) (i : Int) true) ∧ law29_FailCases_l1 L (live : Int) n ((live / 2 ^ i : Nat) : Int) (i : Int) (livesTo live (min i (min n.toNat 64))) true := by
  induction d with
  | zero =>
    intro i hi
    have ht := cases_tail hw hlive (n := n)
    obtain rfl : i = 64 := by omega
    rw [show min 64 (min n.toNat 64) = min n.toNat 64 by omega]
    refine ⟨fun h => ?_, law29_FailCases_l1_go (.inr ⟨by omega, ht⟩)⟩
    rw [h] at ht
    exact law29_FailCases_l0_go (.inr ⟨by omega, ht⟩)
  | succ d ih =>
    intro i hi
    obtain ⟨i1, i2⟩ := ih (i + 1) (by omega)
    have hlv := livesTo_len live (min i (min n.toNat 64))
    have hd := Nat.div_le_self live (2 ^ i)
    have e0 : live / 2 ^ (i + 1) = live / 2 ^ i / 2 := by rw [Nat.pow_succ, Nat.div_div_eq_div_mul]
    rw [e0, livesTo_min] at i2
    rw [e0, livesTo_min] at i1
    generalize live / 2 ^ i = b at *
    have e1 : wu ((b : Int).tdiv 2) = ((b / 2 : Nat) : Int) := by rw [td (by omega), w64i (by omega) (by omega)]; omega
    have e2 : (b : Int).tmod 2 = ((b % 2 : Nat) : Int) := by rw [tm (by omega)]; omega
    have e3 : wi ((i : Int) + 1) = ((i + 1 : Nat) : Int) := w_succ (by omega)
    by_cases hb : b % 2 = 1
    · by_cases hn : (i : Int) < n
      · rw [if_pos ⟨by omega, hb⟩] at i1 i2
        refine ⟨fun h => law29_FailCases_l0_go (.inl ⟨by omega, ?_⟩), law29_FailCases_l1_go (.inl ⟨by omega, ?_⟩)⟩
        · rw [e1, e2, e3]
          rw [h, List.nil_append] at i2
          exact .inl ⟨by omega, .inl ⟨hn, by omega, _, rfl, i2⟩⟩
        · rw [e1, e2, e3]
          exact .inl ⟨by omega, .inl ⟨hn, by omega, _, rfl, i2⟩⟩
      · rw [if_neg (fun g => by omega)] at i1 i2
        refine ⟨fun h => law29_FailCases_l0_go (.inl ⟨by omega, ?_⟩), law29_FailCases_l1_go (.inl ⟨by omega, ?_⟩)⟩
        · rw [e1, e2, e3]
          exact .inl ⟨by omega, .inr ⟨hn, i1 h⟩⟩
        · rw [e1, e2, e3]
          exact .inl ⟨by omega, .inr ⟨hn, i2⟩⟩
    · rw [if_neg (fun g => hb g.2)] at i1 i2
      refine ⟨fun h => law29_FailCases_l0_go (.inl ⟨by omega, ?_⟩), law29_FailCases_l1_go (.inl ⟨by omega, ?_⟩)⟩
      · rw [e1, e2, e3]
        exact .inr ⟨by omega, i1 h⟩
      · rw [e1, e2, e3]
        exact .inr ⟨by omega, i2⟩
theorem FailCases_true {L : List T_api_Rat} {live n : Int} (hw : ∀ p ∈ L, RawQ p) (h0 : 0 ≤ live) (h1 : live < 18446744073709551616) (_h2 : -9223372036854775808 ≤ n) (_h3 : n < 9223372036854775808) : law29_FailCases_R L live n true := by
  obtain ⟨l, rfl⟩ := Int.eq_ofNat_of_zero_le h0
  have := (FailCases_want hw (live := l) (n := n) (by omega) 64 0 (by omega)).1 (by rw [Nat.zero_min]; rfl)
  rw [Nat.pow_zero, Nat.div_one] at this
  exact law29_FailCases_go this
end Go.Proofs.YteepbjndbemcdaaGreatA
