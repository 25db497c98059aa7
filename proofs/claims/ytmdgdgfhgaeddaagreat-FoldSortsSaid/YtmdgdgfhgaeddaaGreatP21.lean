/- Sums, products, ends and powers of fractions in rows. -/
import Derived.Test.YtmdgdgfhgaeddaaGreatP18
import Derived.Test.YtmdgdgfhgaeddaaGreatW8
set_option linter.unusedVariables false
set_option linter.unusedSimpArgs false
namespace Go.Proofs.YtmdgdgfhgaeddaaGreatA
open Go
/-! ### sums and products -/
def sumQ (s : Rat) (qs : List Rat) : Rat := qs.foldl (· + ·) s
def prodQ (s : Rat) (qs : List Rat) : Rat := qs.foldl (· * ·) s
theorem sumQ_cons (s q : Rat) (qs : List Rat) : sumQ s (q :: qs) = sumQ (s + q) qs := rfl
theorem prodQ_cons (s q : Rat) (qs : List Rat) : prodQ s (q :: qs) = prodQ (s * q) qs := rfl
theorem SZ.sum {c : Nat} : ∀ {qs : List Rat} {m : Nat} {s : Rat}, AZ c qs → SZ m s → SZ (m + qs.length * (c + 1)) (sumQ s qs)
  | [], m, s, _, hs => hs.mono (by omega)
  | q :: qs, m, s, h, hs => by
    have := SZ.sum (qs := qs) (m := m + c + 1) (fun p hp => h p (List.mem_cons_of_mem _ hp)) (hs.add2 (h q (List.mem_cons_self ..)))
    refine this.mono ?_
    rw [List.length_cons, Nat.add_mul]; omega
theorem SZ.prod {c : Nat} : ∀ {qs : List Rat} {m : Nat} {s : Rat}, AZ c qs → SZ m s → SZ (m + qs.length * c) (prodQ s qs)
  | [], m, s, _, hs => hs.mono (by omega)
  | q :: qs, m, s, h, hs => by
    have := SZ.prod (qs := qs) (m := m + c) (fun p hp => h p (List.mem_cons_of_mem _ hp)) (hs.mul2 (h q (List.mem_cons_self ..)))
    refine this.mono ?_
    rw [List.length_cons, Nat.add_mul]; omega
/-- How much room sums of these need. -/
def Fits (qs : List Rat) : Prop := ∃ c, AZ c qs ∧ 2 + qs.length * (c + 1) ≤ 900
theorem Fits.tail {i : Nat} {qs : List Rat} (h : i < qs.length) {m : Nat} {s : Rat} {c : Nat} (hz : AZ c qs) (hs : SZ m s) (hm : m + (qs.length - i) * (c + 1) ≤ 900) : SZ 10000 s ∧ SZ 10000 (qs.getD i 0) ∧ SZ (m + c + 1) (s + qs.getD i 0) ∧ SZ (m + c + 1) (s * qs.getD i 0) ∧ m + c + 1 + (qs.length - (i + 1)) * (c + 1) ≤ 900 := by
  obtain ⟨k, hk⟩ : ∃ k, qs.length - i = k + 1 := ⟨qs.length - i - 1, by omega⟩
  have hk' : qs.length - (i + 1) = k := by omega
  rw [hk, Nat.add_mul] at hm
  have hi := hz.get h
  refine ⟨hs.mono (by omega), hi.mono (by omega), hs.add2 hi, (hs.mul2 hi).mono (by omega), ?_⟩
  rw [hk']; omega
theorem fold_Sum_loop {qs : List Rat} {c : Nat} (hz : AZ c qs) (hl : qs.length ≤ 1000000) {u : Bool} (d : Nat) : ∀ (i m : Nat) (s : Rat), i + d = qs.length → SZ m s → m + (qs.length - i) * (c + 1) ≤ 900 →
    fold_Sum_l0 (qs.map fQ) ((qs.map fQ).length : Int) (i : Int) u (ng s.num) (ab s.num) (lim s.den) (ng (sumQ s (qs.drop i)).num) (ab (sumQ s (qs.drop i)).num) (lim (sumQ s (qs.drop i)).den) := by
  have hL : (qs.map fQ).length = qs.length := List.length_map _
  induction d with
  | zero =>
    intro i m s hi hs hm
    rw [List.drop_of_length_le (by omega)]
    exact fold_Sum_l0_go (.inr ⟨by omega, rfl, rfl, rfl⟩)
  | succ d ih =>
    intro i m s hi hs hm
    have h : i < qs.length := by omega
    obtain ⟨t1, t2, t3, _, t4⟩ := Fits.tail h hz hs hm
    refine fold_Sum_l0_go (.inl ⟨by omega, by omega, by omega, _, _, _, getD_fQ h _, _, _, _, rat_Add_is t1 t2, ?_⟩)
    rw [w_succ (by omega), drop_getD h, sumQ_cons]
    exact ih (i + 1) _ _ (by omega) t3 t4
theorem fold_Sum_is {qs : List Rat} (h : Fits qs) : fold_Sum_R (qs.map fQ) (ng (sumQ 0 qs).num) (ab (sumQ 0 qs).num) (lim (sumQ 0 qs).den) := by
  obtain ⟨c, hz, hc⟩ := h
  have hq : qs.length ≤ qs.length * (c + 1) := Nat.le_mul_of_pos_right _ (by omega)
  exact fold_Sum_go ⟨_, _, _, rat_Of0, fold_Sum_loop hz (by omega) qs.length 0 1 0 (by omega) SZ0 (by rw [Nat.sub_zero]; omega)⟩
theorem fold_Sum_S_loop {cb : Nat → Blk} {ver : Nat} {qs : List Rat} {c : Nat} (hz : AZ c qs) (hl : qs.length ≤ 1000000) {u : Bool} (d : Nat) : ∀ (i m : Nat) (s : Rat), i + d = qs.length → SZ m s → m + (qs.length - i) * (c + 1) ≤ 900 →
    fold_Sum_S_l1 cb ver ((qs.map fQ).length : Int) (i : Int) (qs.map fQ) u (ng s.num) (ab s.num) (lim s.den) (ng (sumQ s (qs.drop i)).num) (ab (sumQ s (qs.drop i)).num) (lim (sumQ s (qs.drop i)).den) (qs.map fQ) := by
  have hL : (qs.map fQ).length = qs.length := List.length_map _
  induction d with
  | zero =>
    intro i m s hi hs hm
    rw [List.drop_of_length_le (by omega)]
    exact fold_Sum_S_l1_go (.inr ⟨by omega, rfl, rfl, rfl, rfl⟩)
  | succ d ih =>
    intro i m s hi hs hm
    have h : i < qs.length := by omega
    obtain ⟨t1, t2, t3, _, t4⟩ := Fits.tail h hz hs hm
    refine fold_Sum_S_l1_go (.inl ⟨by omega, by omega, by omega, _, _, _, getD_fQ h _, _, _, _, rat_Add_is t1 t2, ?_⟩)
    rw [w_succ (by omega), drop_getD h, sumQ_cons]
    exact ih (i + 1) _ _ (by omega) t3 t4
theorem fold_Sum_S_is {qs : List Rat} (h : Fits qs) : fold_Sum_S_R (qs.map fQ) (ng (sumQ 0 qs).num) (ab (sumQ 0 qs).num) (lim (sumQ 0 qs).den) (qs.map fQ) := by
  obtain ⟨c, hz, hc⟩ := h
  have hq : qs.length ≤ qs.length * (c + 1) := Nat.le_mul_of_pos_right _ (by omega)
  have hL : (qs.map fQ).length = qs.length := List.length_map _
  refine fold_Sum_S_go fun cb ver => ⟨_, _, _, rat_Of0, ?_⟩
  rcases Nat.eq_zero_or_pos qs.length with h0 | h0
  · have := List.length_eq_zero_iff.1 h0
    subst this
    exact fold_Sum_S_l0_go (.inr ⟨by omega, rfl, rfl, rfl, rfl⟩)
  · obtain ⟨t1, t2, t3, _, t4⟩ := Fits.tail h0 hz SZ0 (by rw [Nat.sub_zero]; omega)
    refine fold_Sum_S_l0_go (.inl ⟨by omega, by omega, by omega, _, _, _, getD_fQ h0 _, _, _, _, rat_Add_is t1 t2, ?_⟩)
    have := fold_Sum_S_loop (cb := cb) (ver := ver) hz (by omega) (u := false) (qs.length - 1) 1 _ _ (by omega) t3 t4
    rw [s64i (n := 0 + 1) (by omega) (by omega)]
    rw [show sumQ 0 qs = sumQ (0 + qs.getD 0 0) (qs.drop 1) by rw [← sumQ_cons, ← drop_getD h0]; rfl]
    exact this
/-! ### a whole -/
theorem fold_Whole_loop {qs : List Rat} (hz : Fits qs) (hl : qs.length ≤ 1000000) (d : Nat) : ∀ i : Nat, i + d = qs.length →
    fold_Whole_l0 (qs.map fQ) (qs.map fQ) ((qs.map fQ).length : Int) (i : Int) (decide ((∀ q ∈ qs.drop i, Unit q) ∧ sumQ 0 qs = 1)) := by
  have hL : (qs.map fQ).length = qs.length := List.length_map _
  obtain ⟨c, hc, hcc⟩ := hz
  have hzz := SZ.sum hc SZ0
  induction d with
  | zero =>
    intro i hi
    refine fold_Whole_l0_go (.inr ⟨by omega, _, _, _, fold_Sum_is ⟨c, hc, hcc⟩, _, rat_One_is (hzz.mono (by omega)), decide_eq_decide.2 ?_⟩)
    rw [List.drop_of_length_le (by omega)]
    simp
  | succ d ih =>
    intro i hi
    have h : i < qs.length := by omega
    have hq : c + 1 ≤ qs.length * (c + 1) := Nat.le_mul_of_pos_left _ (by omega)
    have hi' := (hc.get h).mono (show c ≤ 10000 by omega)
    refine fold_Whole_l0_go (.inl ⟨by omega, by omega, by omega, _, _, _, getD_fQ h _, _, rat_Sign_is _, ?_⟩)
    rw [w_succ (by omega)]
    by_cases h1 : qs.getD i 0 < 0
    · refine .inl ⟨(sn_lt _).2 h1, decide_eq_false fun g => ?_⟩
      exact ((all_drop h).1 g.1).1.1 h1
    · refine .inr ⟨fun g => h1 ((sn_lt _).1 g), _, _, _, rat_Of1, _, rat_Cmp_is hi' (SZ1.mono (by omega)), ?_⟩
      by_cases h2 : 1 < qs.getD i 0
      · refine .inl ⟨cmp_pos.2 h2, decide_eq_false fun g => ?_⟩
        exact ((all_drop h).1 g.1).1.2 h2
      · refine .inr ⟨fun g => h2 (cmp_pos.1 g), ?_⟩
        have e : ((∀ q ∈ qs.drop i, Unit q) ∧ sumQ 0 qs = 1) ↔ ((∀ q ∈ qs.drop (i + 1), Unit q) ∧ sumQ 0 qs = 1) := by
          rw [all_drop h]
          exact ⟨fun g => ⟨g.1.2, g.2⟩, fun g => ⟨⟨⟨h1, h2⟩, g.1⟩, g.2⟩⟩
        rw [decide_eq_decide.2 e]
        exact ih (i + 1) (by omega)
theorem Fits.len {qs : List Rat} (h : Fits qs) : qs.length ≤ 900 := by
  obtain ⟨c, hz, hc⟩ := h
  have hq : qs.length ≤ qs.length * (c + 1) := Nat.le_mul_of_pos_right _ (by omega)
  omega
theorem fold_Whole_is {qs : List Rat} (h : Fits qs) : fold_Whole_R (qs.map fQ) (decide ((∀ q ∈ qs, Unit q) ∧ sumQ 0 qs = 1)) := by
  have := h.len
  exact fold_Whole_go (fold_Whole_loop h (by omega) qs.length 0 (by omega))
/-! ### the least and the greatest -/
def minQ (x : Rat) (qs : List Rat) : Rat := qs.foldl (fun x a => if a < x then a else x) x
def maxQ (x : Rat) (qs : List Rat) : Rat := qs.foldl (fun x a => if x < a then a else x) x
theorem fold_Least1 {a b : Rat} (ha : SZ 10000 a) (hb : SZ 10000 b) : fold_Least_1_R (ng a.num) (ab a.num) (lim a.den) (ng b.num) (ab b.num) (lim b.den) (decide (a < b)) := fold_Least_1_go ⟨_, rat_Cmp_is ha hb, decide_eq_decide.2 cmp_neg.symm⟩
theorem fold_Greatest1 {a b : Rat} (ha : SZ 10000 a) (hb : SZ 10000 b) : fold_Greatest_1_R (ng a.num) (ab a.num) (lim a.den) (ng b.num) (ab b.num) (lim b.den) (decide (b < a)) := fold_Greatest_1_go ⟨_, rat_Cmp_is ha hb, decide_eq_decide.2 cmp_pos.symm⟩
theorem fold_best0_loop {qs : List Rat} (hz : AZ 10000 qs) (hl : qs.length ≤ 1000000) {u : Bool} (d : Nat) : ∀ (i : Nat) (x : Rat), i + d = qs.length → SZ 10000 x →
    fold_best_v0_l0 (qs.map fQ) ((qs.map fQ).length : Int) (i : Int) u (ng x.num) (ab x.num) (lim x.den) (ng (minQ x (qs.drop i)).num) (ab (minQ x (qs.drop i)).num) (lim (minQ x (qs.drop i)).den) 0 := by
  have hL : (qs.map fQ).length = qs.length := List.length_map _
  induction d with
  | zero =>
    intro i x hi hx
    rw [List.drop_of_length_le (by omega)]
    have h2 := rat_Neg_is hx.neg
    rw [Rat.neg_neg] at h2
    exact fold_best_v0_l0_go (.inr ⟨by omega, _, _, _, rat_Neg_is hx, _, _, _, h2, rfl, rfl, rfl, rfl⟩)
  | succ d ih =>
    intro i x hi hx
    have h : i < qs.length := by omega
    have hq := hz.get h
    refine fold_best_v0_l0_go (.inl ⟨by omega, by omega, by omega, _, _, _, getD_fQ h _, _, fold_Least1 hq hx, ?_⟩)
    rw [w_succ (by omega), drop_getD h]
    by_cases h1 : qs.getD i 0 < x
    · refine .inl ⟨decide_eq_true h1, ?_⟩
      have := ih (i + 1) _ (by omega) hq
      rw [show minQ x (qs.getD i 0 :: qs.drop (i + 1)) = minQ (qs.getD i 0) (qs.drop (i + 1)) by simp only [minQ, List.foldl_cons, if_pos h1]]
      exact this
    · refine .inr ⟨by rw [decide_eq_true_iff]; exact h1, ?_⟩
      have := ih (i + 1) _ (by omega) hx
      rw [show minQ x (qs.getD i 0 :: qs.drop (i + 1)) = minQ x (qs.drop (i + 1)) by simp only [minQ, List.foldl_cons, if_neg h1]]
      exact this
theorem fold_best1_loop {qs : List Rat} (hz : AZ 10000 qs) (hl : qs.length ≤ 1000000) {u : Bool} (d : Nat) : ∀ (i : Nat) (x : Rat), i + d = qs.length → SZ 10000 x →
    fold_best_v1_l0 (qs.map fQ) ((qs.map fQ).length : Int) (i : Int) u (ng x.num) (ab x.num) (lim x.den) (ng (maxQ x (qs.drop i)).num) (ab (maxQ x (qs.drop i)).num) (lim (maxQ x (qs.drop i)).den) 0 := by
  have hL : (qs.map fQ).length = qs.length := List.length_map _
  induction d with
  | zero =>
    intro i x hi hx
    rw [List.drop_of_length_le (by omega)]
    have h2 := rat_Neg_is hx.neg
    rw [Rat.neg_neg] at h2
    exact fold_best_v1_l0_go (.inr ⟨by omega, _, _, _, rat_Neg_is hx, _, _, _, h2, rfl, rfl, rfl, rfl⟩)
  | succ d ih =>
    intro i x hi hx
    have h : i < qs.length := by omega
    have hq := hz.get h
    refine fold_best_v1_l0_go (.inl ⟨by omega, by omega, by omega, _, _, _, getD_fQ h _, _, fold_Greatest1 hq hx, ?_⟩)
    rw [w_succ (by omega), drop_getD h]
    by_cases h1 : x < qs.getD i 0
    · refine .inl ⟨decide_eq_true h1, ?_⟩
      have := ih (i + 1) _ (by omega) hq
      rw [show maxQ x (qs.getD i 0 :: qs.drop (i + 1)) = maxQ (qs.getD i 0) (qs.drop (i + 1)) by simp only [maxQ, List.foldl_cons, if_pos h1]]
      exact this
    · refine .inr ⟨by rw [decide_eq_true_iff]; exact h1, ?_⟩
      have := ih (i + 1) _ (by omega) hx
      rw [show maxQ x (qs.getD i 0 :: qs.drop (i + 1)) = maxQ x (qs.drop (i + 1)) by simp only [maxQ, List.foldl_cons, if_neg h1]]
      exact this
theorem one_le {qs : List Rat} (h : 0 < qs.length) : (1 : Int) ≤ ((qs.map fQ).length : Int) := by rw [List.length_map]; omega
theorem fold_Least_is {qs : List Rat} (hz : AZ 10000 qs) (hl : qs.length ≤ 1000000) (h : 0 < qs.length) : fold_Least_R (qs.map fQ) (ng (minQ (qs.getD 0 0) (qs.drop 1)).num) (ab (minQ (qs.getD 0 0) (qs.drop 1)).num) (lim (minQ (qs.getD 0 0) (qs.drop 1)).den) 0 := by
  have hL : (qs.map fQ).length = qs.length := List.length_map _
  have := fold_best0_loop (qs := qs.drop 1) (fun q hq => hz q (List.mem_of_mem_drop hq)) (by rw [List.length_drop]; omega) (u := false) (qs.drop 1).length 0 (qs.getD 0 0) (by omega) (hz.get h)
  rw [List.map_drop, List.drop_zero] at this
  exact fold_Least_go ⟨_, _, _, _, fold_best_v0_go (.inr ⟨by omega, by omega, _, _, _, getD_fQ h _, by omega, this⟩), rfl, rfl, rfl, rfl⟩
theorem fold_Greatest_is {qs : List Rat} (hz : AZ 10000 qs) (hl : qs.length ≤ 1000000) (h : 0 < qs.length) : fold_Greatest_R (qs.map fQ) (ng (maxQ (qs.getD 0 0) (qs.drop 1)).num) (ab (maxQ (qs.getD 0 0) (qs.drop 1)).num) (lim (maxQ (qs.getD 0 0) (qs.drop 1)).den) 0 := by
  have hL : (qs.map fQ).length = qs.length := List.length_map _
  have := fold_best1_loop (qs := qs.drop 1) (fun q hq => hz q (List.mem_of_mem_drop hq)) (by rw [List.length_drop]; omega) (u := false) (qs.drop 1).length 0 (qs.getD 0 0) (by omega) (hz.get h)
  rw [List.map_drop, List.drop_zero] at this
  exact fold_Greatest_go ⟨_, _, _, _, fold_best_v1_go (.inr ⟨by omega, by omega, _, _, _, getD_fQ h _, by omega, this⟩), rfl, rfl, rfl, rfl⟩
theorem fold_Least_nil : fold_Least_R [] false [] [] 9 := fold_Least_go ⟨_, _, _, _, fold_best_v0_go (.inl ⟨rfl, rfl, rfl, rfl, rfl⟩), rfl, rfl, rfl, rfl⟩
theorem fold_Greatest_nil : fold_Greatest_R [] false [] [] 9 := fold_Greatest_go ⟨_, _, _, _, fold_best_v1_go (.inl ⟨rfl, rfl, rfl, rfl, rfl⟩), rfl, rfl, rfl, rfl⟩
/-! ### powers -/
theorem sq_pow (b : Rat) : ∀ k : Nat, (b * b) ^ k = b ^ (2 * k)
  | 0 => by rw [Rat.pow_zero, Nat.mul_zero, Rat.pow_zero]
  | k + 1 => by rw [Rat.pow_succ, sq_pow b k, show 2 * (k + 1) = 2 * k + 1 + 1 by omega, Rat.pow_succ, Rat.pow_succ, Rat.mul_assoc]
theorem SZ.pow {a : Rat} (ha : SZ 2 a) : ∀ n : Nat, SZ (1 + n * 2) (a ^ n)
  | 0 => by rw [Rat.pow_zero]; exact SZ1
  | n + 1 => by rw [Rat.pow_succ]; exact ((SZ.pow ha n).mul2 ha).mono (by omega)
end Go.Proofs.YtmdgdgfhgaeddaaGreatA
