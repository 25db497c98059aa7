/- The law of means between: its function answers true, whatever the input. -/
import Derived.Test.YteepbjndbemcdaaP23
import Derived.Test.YteepbjndbemcdaaWlaw10FoldBetween
set_option linter.unusedVariables false
set_option linter.unusedSimpArgs false
namespace Go.Proofs.YteepbjndbemcdaaA
open Go
theorem sumQ_add (s : Rat) : ∀ qs : List Rat, sumQ s qs = s + sumQ 0 qs
  | [] => by simp only [sumQ, List.foldl_nil]; grind
  | q :: qs => by rw [sumQ_cons, sumQ_cons, sumQ_add (s + q), sumQ_add (0 + q)]; grind
theorem sum_cons (q : Rat) (qs : List Rat) : sumQ 0 (q :: qs) = q + sumQ 0 qs := by rw [sumQ_cons, sumQ_add]; grind
theorem sum_nn : ∀ {qs : List Rat}, (∀ q ∈ qs, 0 ≤ q) → 0 ≤ sumQ 0 qs
  | [], _ => Rat.le_refl
  | q :: qs, h => by
    rw [sum_cons]
    have h1 := h q (List.mem_cons_self ..)
    have h2 := sum_nn (qs := qs) (fun p hp => h p (List.mem_cons_of_mem _ hp))
    grind
theorem le_sum : ∀ {qs : List Rat}, (∀ q ∈ qs, 0 ≤ q) → ∀ q ∈ qs, q ≤ sumQ 0 qs
  | p :: qs, h, q, hq => by
    rw [sum_cons]
    have h0 := sum_nn (qs := qs) (fun p hp => h p (List.mem_cons_of_mem _ hp))
    have h1 := h p (List.mem_cons_self ..)
    rcases List.mem_cons.1 hq with rfl | hq
    · grind
    · have := le_sum (qs := qs) (fun p hp => h p (List.mem_cons_of_mem _ hp)) q hq
      grind
theorem sum_div (a : Rat) : ∀ qs : List Rat, sumQ 0 (qs.map (· / a)) = sumQ 0 qs / a
  | [] => by simp only [sumQ, List.map_nil, List.foldl_nil]; rw [Rat.div_def]; grind
  | q :: qs => by rw [List.map_cons, sum_cons, sum_cons, sum_div a qs, Rat.div_def, Rat.div_def, Rat.div_def]; grind
theorem div_nn {x a : Rat} (hx : 0 ≤ x) (ha : 0 < a) : 0 ≤ x / a := by
  rw [Rat.div_def]
  exact Rat.mul_nonneg hx (Rat.le_of_lt (Rat.inv_pos.2 ha))
theorem div_le {x a : Rat} (hx : x ≤ a) (ha : 0 < a) : x / a ≤ 1 := by
  have h1 : 0 ≤ (a - x) / a := div_nn (by grind) ha
  have h2 : a * a⁻¹ = 1 := Rat.mul_inv_cancel a (by grind)
  rw [Rat.div_def] at h1 ⊢
  grind
/-- The mean lies between. -/
theorem mean_lo {lo : Rat} : ∀ {ps qs : List Rat}, ps.length = qs.length → (∀ p ∈ ps, 0 ≤ p) → (∀ q ∈ qs, lo ≤ q) → lo * sumQ 0 ps ≤ sumQ 0 (List.zipWith (· * ·) ps qs)
  | [], [], _, _, _ => by simp only [sumQ, List.zipWith_nil_left, List.foldl_nil]; grind
  | p :: ps, q :: qs, hl, hp, hq => by
    rw [List.zipWith_cons_cons, sum_cons, sum_cons]
    have h1 := mean_lo (lo := lo) (ps := ps) (qs := qs) (by simpa using hl) (fun x hx => hp x (List.mem_cons_of_mem _ hx)) (fun x hx => hq x (List.mem_cons_of_mem _ hx))
    have h2 := Rat.mul_nonneg (hp p (List.mem_cons_self ..)) (show 0 ≤ q - lo by have := hq q (List.mem_cons_self ..); grind)
    grind
theorem mean_hi {hi : Rat} : ∀ {ps qs : List Rat}, ps.length = qs.length → (∀ p ∈ ps, 0 ≤ p) → (∀ q ∈ qs, q ≤ hi) → sumQ 0 (List.zipWith (· * ·) ps qs) ≤ hi * sumQ 0 ps
  | [], [], _, _, _ => by simp only [sumQ, List.zipWith_nil_left, List.foldl_nil]; grind
  | p :: ps, q :: qs, hl, hp, hq => by
    rw [List.zipWith_cons_cons, sum_cons, sum_cons]
    have h1 := mean_hi (hi := hi) (ps := ps) (qs := qs) (by simpa using hl) (fun x hx => hp x (List.mem_cons_of_mem _ hx)) (fun x hx => hq x (List.mem_cons_of_mem _ hx))
    have h2 := Rat.mul_nonneg (hp p (List.mem_cons_self ..)) (show 0 ≤ hi - q by have := hq q (List.mem_cons_self ..); grind)
    grind
theorem minQ_cons (x a : Rat) (qs : List Rat) : minQ x (a :: qs) = minQ (if a < x then a else x) qs := rfl
theorem maxQ_cons (x a : Rat) (qs : List Rat) : maxQ x (a :: qs) = maxQ (if x < a then a else x) qs := rfl
theorem min_le : ∀ (qs : List Rat) (x : Rat), minQ x qs ≤ x ∧ ∀ q ∈ qs, minQ x qs ≤ q
  | [], x => ⟨Rat.le_refl, fun q hq => by cases hq⟩
  | a :: qs, x => by
    rw [minQ_cons]
    obtain ⟨h1, h2⟩ := min_le qs (if a < x then a else x)
    refine ⟨?_, fun q hq => ?_⟩
    · split at h1 <;> grind
    · rcases List.mem_cons.1 hq with rfl | hq
      · split at h1 <;> grind
      · exact h2 q hq
theorem le_max : ∀ (qs : List Rat) (x : Rat), x ≤ maxQ x qs ∧ ∀ q ∈ qs, q ≤ maxQ x qs
  | [], x => ⟨Rat.le_refl, fun q hq => by cases hq⟩
  | a :: qs, x => by
    rw [maxQ_cons]
    obtain ⟨h1, h2⟩ := le_max qs (if x < a then a else x)
    refine ⟨?_, fun q hq => ?_⟩
    · split at h1 <;> grind
    · rcases List.mem_cons.1 hq with rfl | hq
      · split at h1 <;> grind
      · exact h2 q hq
theorem minQ_SZ {n : Nat} : ∀ {qs : List Rat} {x : Rat}, AZ n qs → SZ n x → SZ n (minQ x qs)
  | [], x, _, hx => hx
  | q :: qs, x, h, hx => by
    rw [minQ_cons]
    refine minQ_SZ (fun p hp => h p (List.mem_cons_of_mem _ hp)) ?_
    split
    · exact h q (List.mem_cons_self ..)
    · exact hx
theorem maxQ_SZ {n : Nat} : ∀ {qs : List Rat} {x : Rat}, AZ n qs → SZ n x → SZ n (maxQ x qs)
  | [], x, _, hx => hx
  | q :: qs, x, h, hx => by
    rw [maxQ_cons]
    refine maxQ_SZ (fun p hp => h p (List.mem_cons_of_mem _ hp)) ?_
    split
    · exact h q (List.mem_cons_self ..)
    · exact hx
theorem cast_nn {w : List Int} (h : ∀ x ∈ w, 0 ≤ x) : ∀ q ∈ cast w, 0 ≤ q := fun q hq => by
  obtain ⟨n, hn, rfl⟩ := List.mem_map.1 hq
  have := Rat.intCast_le_intCast.2 (h n hn)
  rwa [Rat.intCast_zero] at this
theorem shr_whole {w : List Int} {ps : List Rat} (hS : Shr w ps 0) : (∀ p ∈ ps, 0 ≤ p ∧ p ≤ 1) ∧ sumQ 0 ps = 1 ∧ 0 < w.length := by
  rcases hS with ⟨_, _, h⟩ | ⟨_, _, _, h⟩ | ⟨_, _, _, _, h⟩ | ⟨hne, hnn, ha, rfl, _⟩
  · omega
  · omega
  · omega
  · have h0 := sum_nn (cast_nn hnn)
    have hpos : 0 < sumQ 0 (cast w) := by grind
    refine ⟨fun p hp => ?_, ?_, List.length_pos_iff.2 hne⟩
    · obtain ⟨x, hx, rfl⟩ := List.mem_map.1 hp
      exact ⟨div_nn (cast_nn hnn x hx) hpos, div_le (le_sum (cast_nn hnn) x hx) hpos⟩
    · rw [sum_div, Rat.div_def]
      exact Rat.mul_inv_cancel _ ha
theorem W64.take {w : List Int} (h : W64 w) (n : Nat) : W64 (w.take n) := fun x hx => h x (List.mem_of_mem_take hx)
theorem FoldBetween_true {w : List Int} {L : List T_api_Rat} (hw : W64 w) (hr : ∀ p ∈ L, RawQ p) : law10_FoldBetween_R w L true := by
  obtain ⟨qs, hf, hz, hl⟩ := few10_is hr
  have hQ : (qs.map fQ).length = qs.length := List.length_map _
  have hm : mn (w.length : Int) ((qs.map fQ).length : Int) = ((min w.length qs.length : Nat) : Int) := by rw [hQ]; exact mn_nat w.length qs.length
  obtain ⟨n, hn⟩ : ∃ n, n = min w.length qs.length := ⟨_, rfl⟩
  have hwl : (w.take n).length = n := by rw [List.length_take]; omega
  have hql : (qs.take n).length = n := by rw [List.length_take]; omega
  have hzt : AZ 2 (qs.take n) := take_AZ hz
  have hwt := hw.take n
  obtain ⟨ps, e, hS, h1⟩ := fold_Shares_is hwt (by omega)
  refine law10_FoldBetween_go ⟨_, fold_works, .inl ⟨rfl, _, _, hf, ?_⟩⟩
  rw [hm, ← hn, Int.toNat_natCast, ← List.map_take]
  refine ⟨by omega, by omega, by omega, _, rfl, by omega, _, _, h1, ?_⟩
  by_cases he : e = 0
  · subst he
    obtain ⟨w1, w2, w3⟩ := shr_whole hS
    obtain ⟨z1, z2⟩ := shr_AZ hwt (by omega) hS
    have hpl : ps.length = (qs.take n).length := by omega
    have hmean := fold_Mean_is hwt hzt (by omega) (by omega) hS
    have h0 : 0 < (qs.take n).length := by omega
    have hle := fold_Least_is (hzt.mono (show 2 ≤ 10000 by omega)) (by omega) h0
    have hgr := fold_Greatest_is (hzt.mono (show 2 ≤ 10000 by omega)) (by omega) h0
    have hwh := fold_Whole_is (qs := ps) ⟨27, z1, by omega⟩
    rw [decide_eq_true ⟨fun p hp => ⟨by have := (w1 p hp).1; grind, by have := (w1 p hp).2; grind⟩, w2⟩] at hwh
    have hd : ∀ q ∈ qs.take n, q = (qs.take n).getD 0 0 ∨ q ∈ (qs.take n).drop 1 := fun q hq => by
      have e := drop_getD h0
      rw [List.drop_zero] at e
      rw [e] at hq
      exact List.mem_cons.1 hq
    have hmin := min_le ((qs.take n).drop 1) ((qs.take n).getD 0 0)
    have hmax := le_max ((qs.take n).drop 1) ((qs.take n).getD 0 0)
    have l1 := mean_lo (lo := minQ ((qs.take n).getD 0 0) ((qs.take n).drop 1)) hpl (fun p hp => (w1 p hp).1) (fun q hq => by
      rcases hd q hq with rfl | h
      · exact hmin.1
      · exact hmin.2 q h)
    have l2 := mean_hi (hi := maxQ ((qs.take n).getD 0 0) ((qs.take n).drop 1)) hpl (fun p hp => (w1 p hp).1) (fun q hq => by
      rcases hd q hq with rfl | h
      · exact hmax.1
      · exact hmax.2 q h)
    rw [w2, Rat.mul_one] at l1 l2
    have hdz : AZ 2 ((qs.take n).drop 1) := fun q hq => hzt q (List.mem_of_mem_drop hq)
    have s1 := (minQ_SZ hdz (hzt.get h0)).mono (show 2 ≤ 10000 by omega)
    have s2 := (maxQ_SZ hdz (hzt.get h0)).mono (show 2 ≤ 10000 by omega)
    have hzip : AZ 29 (List.zipWith (· * ·) ps (qs.take n)) := fun q hq' => by
      obtain ⟨j, hj, rfl⟩ := List.getElem_of_mem hq'
      rw [List.length_zipWith] at hj
      rw [List.getElem_zipWith]
      exact ((z1 _ (List.getElem_mem _)).mul2 (hzt _ (List.getElem_mem _))).mono (by omega)
    have sm := (SZ.sum hzip SZ0).mono (show _ ≤ 10000 by rw [List.length_zipWith]; omega)
    exact ⟨_, _, _, _, hmean, .inl ⟨rfl, .inl ⟨rfl, _, _, _, _, hle, _, _, _, _, hgr, _, hwh, .inl ⟨rfl, _, rat_Cmp_is s1 sm, .inl ⟨cmp_le.2 l1, _, rat_Cmp_is sm s2, (decide_eq_true (cmp_le.2 l2)).symm⟩⟩⟩⟩⟩
  · exact ⟨_, _, _, _, fold_Mean_err hwt (by omega) (.inr (by omega)) hS he, .inr ⟨he, (decide_eq_true rfl).symm⟩⟩
end Go.Proofs.YteepbjndbemcdaaA
