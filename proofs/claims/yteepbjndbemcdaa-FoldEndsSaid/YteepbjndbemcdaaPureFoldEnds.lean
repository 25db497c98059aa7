/- The law of the least and the greatest: its function answers true, whatever the input. -/
import Derived.Test.YteepbjndbemcdaaP19
import Derived.Test.YteepbjndbemcdaaWlaw10FoldEnds
set_option linter.unusedVariables false
set_option linter.unusedSimpArgs false
namespace Go.Proofs.YteepbjndbemcdaaA
open Go
theorem minQ_cons (x a : Rat) (qs : List Rat) : minQ x (a :: qs) = minQ (if a < x then a else x) qs := rfl
theorem maxQ_cons (x a : Rat) (qs : List Rat) : maxQ x (a :: qs) = maxQ (if x < a then a else x) qs := rfl
theorem FoldEnds_loop {qs : List Rat} (hz : AZ 2 qs) (hl : qs.length ≤ 8) {a b : Rat} (ha : SZ 2 a) (hb : SZ 2 b) (d : Nat) : ∀ (i : Nat) (lo hi : Rat), i + d = qs.length → SZ 2 lo → SZ 2 hi → minQ lo (qs.drop i) = a → maxQ hi (qs.drop i) = b →
    law10_FoldEnds_l0 (qs.map fT) 0 0 (i : Int) (ng a.num) (ab a.num) (lim a.den) (ng b.num) (ab b.num) (lim b.den) (ng lo.num) (tn lo.num) (ten lo.den) (ng hi.num) (tn hi.num) (ten hi.den) true := by
  have hL : (qs.map fT).length = qs.length := List.length_map _
  induction d with
  | zero =>
    intro i lo hi hi' hlo hhi h1 h2
    rw [List.drop_of_length_le (by omega)] at h1 h2
    have e1 : lo = a := h1
    have e2 : hi = b := h2
    subst e1 e2
    exact law10_FoldEnds_l0_go (.inr ⟨by omega, .inl ⟨rfl, .inl ⟨rfl, _, _, _, ref08_Back_is (hlo.mono (by omega)), _, ref08_Same_refl (hlo.mono (by omega)), .inl ⟨rfl, _, _, _, ref08_Back_is (hhi.mono (by omega)), _, ref08_Same_refl (hhi.mono (by omega)), .inl ⟨rfl, _, fold_works, rfl⟩⟩⟩⟩⟩)
  | succ d ih =>
    intro i lo hi hi' hlo hhi h1 h2
    have h : i < qs.length := by omega
    have hq := hz.get h
    rw [drop_getD h, minQ_cons] at h1
    rw [drop_getD h, maxQ_cons] at h2
    have c1 := ref08_Cmp_is (hq.mono (show 2 ≤ 1000 by omega)) (hlo.mono (show 2 ≤ 1000 by omega))
    have c2 := ref08_Cmp_is (hq.mono (show 2 ≤ 1000 by omega)) (hhi.mono (show 2 ≤ 1000 by omega))
    have g := getD_fT h (false, [], [])
    refine law10_FoldEnds_l0_go (.inl ⟨by omega, by omega, _, _, _, g, _, c1, ?_⟩)
    rw [w_succ (by omega)]
    by_cases k1 : qs.getD i 0 < lo
    · rw [if_pos k1] at h1
      refine .inl ⟨cmp_neg.2 k1, _, _, _, g, _, _, _, g, _, c2, ?_⟩
      by_cases k2 : hi < qs.getD i 0
      · rw [if_pos k2] at h2
        exact .inl ⟨cmp_pos.2 k2, _, _, _, g, ih (i + 1) _ _ (by omega) hq hq h1 h2⟩
      · rw [if_neg k2] at h2
        exact .inr ⟨fun k => k2 (cmp_pos.1 k), ih (i + 1) _ _ (by omega) hq hhi h1 h2⟩
    · rw [if_neg k1] at h1
      refine .inr ⟨fun k => k1 (cmp_neg.1 k), _, _, _, g, _, c2, ?_⟩
      by_cases k2 : hi < qs.getD i 0
      · rw [if_pos k2] at h2
        exact .inl ⟨cmp_pos.2 k2, _, _, _, g, ih (i + 1) _ _ (by omega) hlo hq h1 h2⟩
      · rw [if_neg k2] at h2
        exact .inr ⟨fun k => k2 (cmp_pos.1 k), ih (i + 1) _ _ (by omega) hlo hhi h1 h2⟩
theorem minQ_SZ {n : Nat} : ∀ {qs : List Rat} {x : Rat}, AZ n qs → SZ n x → SZ n (minQ x qs)
  | [], x, _, hx => hx
  | q :: qs, x, h, hx => by
    rw [minQ_cons]
    refine minQ_SZ (fun p hp => h p (List.mem_cons_of_mem _ hp)) ?_
    split
    · exact h q (List.mem_cons_self ..)
    · exact hx
theorem maxQ_SZ {n : Nat} : ∀ {qs : List Rat} {x : Rat}, AZ n qs → SZ n x → SZ n (maxQ x qs)
  | [], x, _, hx => hx
  | q :: qs, x, h, hx => by
    rw [maxQ_cons]
    refine maxQ_SZ (fun p hp => h p (List.mem_cons_of_mem _ hp)) ?_
    split
    · exact h q (List.mem_cons_self ..)
    · exact hx
theorem FoldEnds_true {L : List T_api_Rat} (hw : ∀ p ∈ L, RawQ p) : law10_FoldEnds_R L true := by
  obtain ⟨qs, h1, hz, hl⟩ := few10_is hw
  have hL : (qs.map fT).length = qs.length := List.length_map _
  by_cases h0 : qs.length = 0
  · have := List.length_eq_zero_iff.1 h0
    subst this
    exact law10_FoldEnds_go ⟨_, _, h1, _, _, _, _, fold_Least_nil, _, _, _, _, fold_Greatest_nil, .inl ⟨rfl, .inl ⟨rfl, .inl ⟨rfl, _, fold_works, rfl⟩⟩⟩⟩
  · have h : 0 < qs.length := by omega
    have hq := hz.get h
    have g := getD_fT h (false, [], [])
    have hd : AZ 2 (qs.drop 1) := fun q hq => hz q (List.mem_of_mem_drop hq)
    refine law10_FoldEnds_go ⟨_, _, h1, _, _, _, _, fold_Least_is (hz.mono (by omega)) (by omega) h, _, _, _, _, fold_Greatest_is (hz.mono (by omega)) (by omega) h, .inr ⟨by omega, by omega, _, _, _, g, _, _, _, g, ?_⟩⟩
    have e1 : minQ (qs.getD 0 0) (qs.drop 0) = minQ (qs.getD 0 0) (qs.drop 1) := by rw [drop_getD h, minQ_cons, if_neg (by rw [Rat.not_lt]; exact Rat.le_refl)]
    have e2 : maxQ (qs.getD 0 0) (qs.drop 0) = maxQ (qs.getD 0 0) (qs.drop 1) := by rw [drop_getD h, maxQ_cons, if_neg (by rw [Rat.not_lt]; exact Rat.le_refl)]
    exact FoldEnds_loop hz (by omega) (minQ_SZ hd hq) (maxQ_SZ hd hq) qs.length 0 _ _ (by omega) hq hq e1 e2
end Go.Proofs.YteepbjndbemcdaaA
