/- Fractions in rows: sums, products, ends, powers, shares. -/
import Derived.Test.YteepbjndbemcdaaP17
import Derived.Test.YteepbjndbemcdaaW8
set_option linter.unusedVariables false
set_option linter.unusedSimpArgs false
namespace Go.Proofs.YteepbjndbemcdaaA
open Go
/-- A fraction as the program, and as the document, has it in a row. -/
def fQ (q : Rat) : T_api_Rat := (ng q.num, ab q.num, lim q.den)
def fT (q : Rat) : T_ref08_Q := (ng q.num, tn q.num, ten q.den)
theorem map_getD {α β : Type} {f : α → β} {l : List α} {i : Nat} (h : i < l.length) (d : β) (e : α) : (l.map f).getD i d = f (l.getD i e) := by
  rw [List.getD_eq_getElem?_getD, List.getD_eq_getElem?_getD, List.getElem?_map, List.getElem?_eq_getElem h]; rfl
theorem getD_fQ {qs : List Rat} {i : Nat} (h : i < qs.length) (d : T_api_Rat) : (qs.map fQ).getD i d = (ng (qs.getD i 0).num, ab (qs.getD i 0).num, lim (qs.getD i 0).den) := map_getD h d 0
theorem getD_fT {qs : List Rat} {i : Nat} (h : i < qs.length) (d : T_ref08_Q) : (qs.map fT).getD i d = (ng (qs.getD i 0).num, tn (qs.getD i 0).num, ten (qs.getD i 0).den) := map_getD h d 0
def AZ (n : Nat) (qs : List Rat) : Prop := ∀ q ∈ qs, SZ n q
theorem getD_mem {qs : List Rat} {i : Nat} (h : i < qs.length) : qs.getD i 0 ∈ qs := by
  rw [List.getD_eq_getElem?_getD, List.getElem?_eq_getElem h]; exact List.getElem_mem h
theorem AZ.get {n i : Nat} {qs : List Rat} (h : AZ n qs) (hi : i < qs.length) : SZ n (qs.getD i 0) := h _ (getD_mem hi)
theorem AZ.mono {m n : Nat} {qs : List Rat} (h : AZ m qs) (hmn : m ≤ n) : AZ n qs := fun q hq => (h q hq).mono hmn
theorem AZ.append {n : Nat} {qs ps : List Rat} (h : AZ n qs) (g : AZ n ps) : AZ n (qs ++ ps) := fun q hq => by
  rcases List.mem_append.1 hq with k | k
  · exact h q k
  · exact g q k
theorem drop_getD {qs : List Rat} {i : Nat} (h : i < qs.length) : qs.drop i = qs.getD i 0 :: qs.drop (i + 1) := by
  rw [List.drop_eq_getElem_cons h, List.getD_eq_getElem?_getD, List.getElem?_eq_getElem h]; rfl
theorem take_getD {qs : List Rat} {i : Nat} (h : i < qs.length) : qs.take (i + 1) = qs.take i ++ [qs.getD i 0] := by
  rw [List.take_succ_eq_append_getElem h, List.getD_eq_getElem?_getD, List.getElem?_eq_getElem h]; rfl
theorem SZ.add2 {m n : Nat} {a b : Rat} (ha : SZ m a) (hb : SZ n b) : SZ (m + n + 1) (a + b) := by
  rw [add_eq]
  exact SZ.divInt (den_mul_ne a b) ((ha.1.mul (zl.nat hb.2)).add ((hb.1.mul (zl.nat ha.2)).mono (show n + m ≤ m + n by omega))) (((zl.nat ha.2).mul (zl.nat hb.2)).mono (by omega))
theorem SZ.mul2 {m n : Nat} {a b : Rat} (ha : SZ m a) (hb : SZ n b) : SZ (m + n) (a * b) := by
  rw [mul_eq]
  exact SZ.divInt (den_mul_ne a b) (ha.1.mul hb.1) ((zl.nat ha.2).mul (zl.nat hb.2))
theorem SZ.div2 {m n : Nat} {a b : Rat} (h : b ≠ 0) (ha : SZ m a) (hb : SZ n b) : SZ (m + n) (a / b) := by
  rw [Rat.div_def]; exact ha.mul2 (hb.inv h)
theorem SZ0 : SZ 1 (0 : Rat) := ⟨lim_len_one (by decide), lim_len_one (by decide)⟩
theorem SZ1 : SZ 1 (1 : Rat) := ⟨lim_len_one (by decide), lim_len_one (by decide)⟩
theorem rat_Of0 : rat_Of_R 0 (ng ((0 : Rat)).num) (ab ((0 : Rat)).num) (lim ((0 : Rat)).den) := by
  have := rat_Of_is (n := 0) (by omega) (by omega)
  rwa [Rat.intCast_zero] at this
theorem rat_Of1 : rat_Of_R 1 (ng ((1 : Rat)).num) (ab ((1 : Rat)).num) (lim ((1 : Rat)).den) := by
  have := rat_Of_is (n := 1) (by omega) (by omega)
  rwa [Rat.intCast_one] at this
theorem divInt_int' (n : Int) : Rat.divInt n 1 = (n : Rat) := by
  have := Rat.num_divInt_den (n : Rat)
  rw [Rat.num_intCast, Rat.den_intCast] at this
  exact this
theorem ref_Num1 {n : Int} (h0 : -9223372036854775807 ≤ n) (h1 : n ≤ 9223372036854775807) : ref08_Num_R n 1 (ng ((n : Rat)).num) (tn ((n : Rat)).num) (ten ((n : Rat)).den) := by
  have := ref08_Num_is (n := n) (d := 1) h0 h1 (by omega) (by omega)
  rwa [divInt_int'] at this
theorem ref_Num00 : ref08_Num_R 0 1 (ng ((0 : Rat)).num) (tn ((0 : Rat)).num) (ten ((0 : Rat)).den) := by
  have := ref_Num1 (n := 0) (by omega) (by omega)
  rwa [Rat.intCast_zero] at this
theorem ref_Num11 : ref08_Num_R 1 1 (ng ((1 : Rat)).num) (tn ((1 : Rat)).num) (ten ((1 : Rat)).den) := by
  have := ref_Num1 (n := 1) (by omega) (by omega)
  rwa [Rat.intCast_one] at this
/-! ### sums and products -/
def sumQ (s : Rat) (qs : List Rat) : Rat := qs.foldl (· + ·) s
def prodQ (s : Rat) (qs : List Rat) : Rat := qs.foldl (· * ·) s
theorem sumQ_cons (s q : Rat) (qs : List Rat) : sumQ s (q :: qs) = sumQ (s + q) qs := rfl
theorem prodQ_cons (s q : Rat) (qs : List Rat) : prodQ s (q :: qs) = prodQ (s * q) qs := rfl
theorem SZ.sum {c : Nat} : ∀ {qs : List Rat} {m : Nat} {s : Rat}, AZ c qs → SZ m s → SZ (m + qs.length * (c + 1)) (sumQ s qs)
  | [], m, s, _, hs => hs.mono (by omega)
  | q :: qs, m, s, h, hs => by
    have := SZ.sum (qs := qs) (m := m + c + 1) (fun p hp => h p (List.mem_cons_of_mem _ hp)) (hs.add2 (h q (List.mem_cons_self ..)))
    refine this.mono ?_
    rw [List.length_cons, Nat.add_mul]; omega
theorem SZ.prod {c : Nat} : ∀ {qs : List Rat} {m : Nat} {s : Rat}, AZ c qs → SZ m s → SZ (m + qs.length * c) (prodQ s qs)
  | [], m, s, _, hs => hs.mono (by omega)
  | q :: qs, m, s, h, hs => by
    have := SZ.prod (qs := qs) (m := m + c) (fun p hp => h p (List.mem_cons_of_mem _ hp)) (hs.mul2 (h q (List.mem_cons_self ..)))
    refine this.mono ?_
    rw [List.length_cons, Nat.add_mul]; omega
/-- How much room sums of these need. -/
def Fits (qs : List Rat) : Prop := ∃ c, AZ c qs ∧ 2 + qs.length * (c + 1) ≤ 900
theorem Fits.tail {i : Nat} {qs : List Rat} (h : i < qs.length) {m : Nat} {s : Rat} {c : Nat} (hz : AZ c qs) (hs : SZ m s) (hm : m + (qs.length - i) * (c + 1) ≤ 900) : SZ 1000 s ∧ SZ 1000 (qs.getD i 0) ∧ SZ (m + c + 1) (s + qs.getD i 0) ∧ SZ (m + c + 1) (s * qs.getD i 0) ∧ m + c + 1 + (qs.length - (i + 1)) * (c + 1) ≤ 900 := by
  obtain ⟨k, hk⟩ : ∃ k, qs.length - i = k + 1 := ⟨qs.length - i - 1, by omega⟩
  have hk' : qs.length - (i + 1) = k := by omega
  rw [hk, Nat.add_mul] at hm
  have hi := hz.get h
  refine ⟨hs.mono (by omega), hi.mono (by omega), hs.add2 hi, (hs.mul2 hi).mono (by omega), ?_⟩
  rw [hk']; omega
theorem fold_Sum_loop {qs : List Rat} {c : Nat} (hz : AZ c qs) (hl : qs.length ≤ 1000000) {u : Bool} (d : Nat) : ∀ (i m : Nat) (s : Rat), i + d = qs.length → SZ m s → m + (qs.length - i) * (c + 1) ≤ 900 →
    fold_Sum_l0 (qs.map fQ) ((qs.map fQ).length : Int) (i : Int) u (ng s.num) (ab s.num) (lim s.den) (ng (sumQ s (qs.drop i)).num) (ab (sumQ s (qs.drop i)).num) (lim (sumQ s (qs.drop i)).den) := by
  have hL : (qs.map fQ).length = qs.length := List.length_map _
  induction d with
  | zero =>
    intro i m s hi hs hm
    rw [List.drop_of_length_le (by omega)]
    exact fold_Sum_l0_go (.inr ⟨by omega, rfl, rfl, rfl⟩)
  | succ d ih =>
    intro i m s hi hs hm
    have h : i < qs.length := by omega
    obtain ⟨t1, t2, t3, _, t4⟩ := Fits.tail h hz hs hm
    refine fold_Sum_l0_go (.inl ⟨by omega, by omega, by omega, _, _, _, getD_fQ h _, _, _, _, rat_Add_is t1 t2, ?_⟩)
    rw [w_succ (by omega), drop_getD h, sumQ_cons]
    exact ih (i + 1) _ _ (by omega) t3 t4
theorem fold_Sum_is {qs : List Rat} (h : Fits qs) : fold_Sum_R (qs.map fQ) (ng (sumQ 0 qs).num) (ab (sumQ 0 qs).num) (lim (sumQ 0 qs).den) := by
  obtain ⟨c, hz, hc⟩ := h
  have hq : qs.length ≤ qs.length * (c + 1) := Nat.le_mul_of_pos_right _ (by omega)
  exact fold_Sum_go ⟨_, _, _, rat_Of0, fold_Sum_loop hz (by omega) qs.length 0 1 0 (by omega) SZ0 (by rw [Nat.sub_zero]; omega)⟩
theorem fold_Sum_S_loop {cb : Nat → Blk} {ver : Nat} {qs : List Rat} {c : Nat} (hz : AZ c qs) (hl : qs.length ≤ 1000000) {u : Bool} (d : Nat) : ∀ (i m : Nat) (s : Rat), i + d = qs.length → SZ m s → m + (qs.length - i) * (c + 1) ≤ 900 →
    fold_Sum_S_l1 cb ver ((qs.map fQ).length : Int) (i : Int) (qs.map fQ) u (ng s.num) (ab s.num) (lim s.den) (ng (sumQ s (qs.drop i)).num) (ab (sumQ s (qs.drop i)).num) (lim (sumQ s (qs.drop i)).den) (qs.map fQ) := by
  have hL : (qs.map fQ).length = qs.length := List.length_map _
  induction d with
  | zero =>
    intro i m s hi hs hm
    rw [List.drop_of_length_le (by omega)]
    exact fold_Sum_S_l1_go (.inr ⟨by omega, rfl, rfl, rfl, rfl⟩)
  | succ d ih =>
    intro i m s hi hs hm
    have h : i < qs.length := by omega
    obtain ⟨t1, t2, t3, _, t4⟩ := Fits.tail h hz hs hm
    refine fold_Sum_S_l1_go (.inl ⟨by omega, by omega, by omega, _, _, _, getD_fQ h _, _, _, _, rat_Add_is t1 t2, ?_⟩)
    rw [w_succ (by omega), drop_getD h, sumQ_cons]
    exact ih (i + 1) _ _ (by omega) t3 t4
theorem fold_Sum_S_is {qs : List Rat} (h : Fits qs) : fold_Sum_S_R (qs.map fQ) (ng (sumQ 0 qs).num) (ab (sumQ 0 qs).num) (lim (sumQ 0 qs).den) (qs.map fQ) := by
  obtain ⟨c, hz, hc⟩ := h
  have hq : qs.length ≤ qs.length * (c + 1) := Nat.le_mul_of_pos_right _ (by omega)
  have hL : (qs.map fQ).length = qs.length := List.length_map _
  refine fold_Sum_S_go fun cb ver => ⟨_, _, _, rat_Of0, ?_⟩
  rcases Nat.eq_zero_or_pos qs.length with h0 | h0
  · have := List.length_eq_zero_iff.1 h0
    subst this
    exact fold_Sum_S_l0_go (.inr ⟨by omega, rfl, rfl, rfl, rfl⟩)
  · obtain ⟨t1, t2, t3, _, t4⟩ := Fits.tail h0 hz SZ0 (by rw [Nat.sub_zero]; omega)
    refine fold_Sum_S_l0_go (.inl ⟨by omega, by omega, by omega, _, _, _, getD_fQ h0 _, _, _, _, rat_Add_is t1 t2, ?_⟩)
    have := fold_Sum_S_loop (cb := cb) (ver := ver) hz (by omega) (u := false) (qs.length - 1) 1 _ _ (by omega) t3 t4
    rw [s64i (n := 0 + 1) (by omega) (by omega)]
    rw [show sumQ 0 qs = sumQ (0 + qs.getD 0 0) (qs.drop 1) by rw [← sumQ_cons, ← drop_getD h0]; rfl]
    exact this
theorem fold_Not_is {a : Rat} (ha : SZ 1000 a) : fold_Not_R (ng a.num) (ab a.num) (lim a.den) (ng (1 - a).num) (ab (1 - a).num) (lim (1 - a).den) := fold_Not_go ⟨_, _, _, rat_Of1, _, _, _, rat_Sub_is (SZ1.mono (by omega)) ha, rfl, rfl, rfl⟩
/-! ### a whole -/
theorem sn_lt (a : Rat) : sn a.num < 0 ↔ a < 0 := by
  rw [← num_lt0]; unfold sn; split
  · omega
  · split <;> omega
theorem cmp_pos {a b : Rat} : 0 < (if a < b then -1 else if b < a then 1 else 0 : Int) ↔ b < a := by
  by_cases h : a < b
  · rw [if_pos h]; constructor <;> intro g <;> grind
  · rw [if_neg h]; split <;> simp_all
theorem cmp_neg {a b : Rat} : (if a < b then -1 else if b < a then 1 else 0 : Int) < 0 ↔ a < b := by
  by_cases h : a < b
  · rw [if_pos h]; simp [h]
  · rw [if_neg h]; split <;> simp_all
theorem cmp_le {a b : Rat} : (if a < b then -1 else if b < a then 1 else 0 : Int) ≤ 0 ↔ a ≤ b := by
  by_cases h : b < a
  · rw [if_neg (by grind), if_pos h]; constructor <;> intro g <;> grind
  · constructor
    · intro _; grind
    · intro _; split
      · omega
      · simp
def Unit (q : Rat) : Prop := ¬ q < 0 ∧ ¬ 1 < q
instance (q : Rat) : Decidable (Unit q) := inferInstanceAs (Decidable (_ ∧ _))
theorem all_drop {P : Rat → Prop} {qs : List Rat} {i : Nat} (h : i < qs.length) : (∀ q ∈ qs.drop i, P q) ↔ P (qs.getD i 0) ∧ ∀ q ∈ qs.drop (i + 1), P q := by
  rw [drop_getD h, List.forall_mem_cons]
theorem fold_Whole_loop {qs : List Rat} (hz : Fits qs) (hl : qs.length ≤ 1000000) (d : Nat) : ∀ i : Nat, i + d = qs.length →
    fold_Whole_l0 (qs.map fQ) (qs.map fQ) ((qs.map fQ).length : Int) (i : Int) (decide ((∀ q ∈ qs.drop i, Unit q) ∧ sumQ 0 qs = 1)) := by
  have hL : (qs.map fQ).length = qs.length := List.length_map _
  obtain ⟨c, hc, hcc⟩ := hz
  have hzz := SZ.sum hc SZ0
  induction d with
  | zero =>
    intro i hi
    refine fold_Whole_l0_go (.inr ⟨by omega, _, _, _, fold_Sum_is ⟨c, hc, hcc⟩, _, rat_One_is (hzz.mono (by omega)), decide_eq_decide.2 ?_⟩)
    rw [List.drop_of_length_le (by omega)]
    simp
  | succ d ih =>
    intro i hi
    have h : i < qs.length := by omega
    have hq : c + 1 ≤ qs.length * (c + 1) := Nat.le_mul_of_pos_left _ (by omega)
    have hi' := (hc.get h).mono (show c ≤ 1000 by omega)
    refine fold_Whole_l0_go (.inl ⟨by omega, by omega, by omega, _, _, _, getD_fQ h _, _, rat_Sign_is _, ?_⟩)
    rw [w_succ (by omega)]
    by_cases h1 : qs.getD i 0 < 0
    · refine .inl ⟨(sn_lt _).2 h1, decide_eq_false fun g => ?_⟩
      exact ((all_drop h).1 g.1).1.1 h1
    · refine .inr ⟨fun g => h1 ((sn_lt _).1 g), _, _, _, rat_Of1, _, rat_Cmp_is hi' (SZ1.mono (by omega)), ?_⟩
      by_cases h2 : 1 < qs.getD i 0
      · refine .inl ⟨cmp_pos.2 h2, decide_eq_false fun g => ?_⟩
        exact ((all_drop h).1 g.1).1.2 h2
      · refine .inr ⟨fun g => h2 (cmp_pos.1 g), ?_⟩
        have e : ((∀ q ∈ qs.drop i, Unit q) ∧ sumQ 0 qs = 1) ↔ ((∀ q ∈ qs.drop (i + 1), Unit q) ∧ sumQ 0 qs = 1) := by
          rw [all_drop h]
          exact ⟨fun g => ⟨g.1.2, g.2⟩, fun g => ⟨⟨⟨h1, h2⟩, g.1⟩, g.2⟩⟩
        rw [decide_eq_decide.2 e]
        exact ih (i + 1) (by omega)
theorem Fits.len {qs : List Rat} (h : Fits qs) : qs.length ≤ 900 := by
  obtain ⟨c, hz, hc⟩ := h
  have hq : qs.length ≤ qs.length * (c + 1) := Nat.le_mul_of_pos_right _ (by omega)
  omega
theorem fold_Whole_is {qs : List Rat} (h : Fits qs) : fold_Whole_R (qs.map fQ) (decide ((∀ q ∈ qs, Unit q) ∧ sumQ 0 qs = 1)) := by
  have := h.len
  exact fold_Whole_go (fold_Whole_loop h (by omega) qs.length 0 (by omega))
/-! ### the least and the greatest -/
def minQ (x : Rat) (qs : List Rat) : Rat := qs.foldl (fun x a => if a < x then a else x) x
def maxQ (x : Rat) (qs : List Rat) : Rat := qs.foldl (fun x a => if x < a then a else x) x
theorem fold_Least1 {a b : Rat} (ha : SZ 1000 a) (hb : SZ 1000 b) : fold_Least_1_R (ng a.num) (ab a.num) (lim a.den) (ng b.num) (ab b.num) (lim b.den) (decide (a < b)) := fold_Least_1_go ⟨_, rat_Cmp_is ha hb, decide_eq_decide.2 cmp_neg.symm⟩
theorem fold_Greatest1 {a b : Rat} (ha : SZ 1000 a) (hb : SZ 1000 b) : fold_Greatest_1_R (ng a.num) (ab a.num) (lim a.den) (ng b.num) (ab b.num) (lim b.den) (decide (b < a)) := fold_Greatest_1_go ⟨_, rat_Cmp_is ha hb, decide_eq_decide.2 cmp_pos.symm⟩
theorem fold_best0_loop {qs : List Rat} (hz : AZ 1000 qs) (hl : qs.length ≤ 1000000) {u : Bool} (d : Nat) : ∀ (i : Nat) (x : Rat), i + d = qs.length → SZ 1000 x →
    fold_best_v0_l0 (qs.map fQ) ((qs.map fQ).length : Int) (i : Int) u (ng x.num) (ab x.num) (lim x.den) (ng (minQ x (qs.drop i)).num) (ab (minQ x (qs.drop i)).num) (lim (minQ x (qs.drop i)).den) 0 := by
  have hL : (qs.map fQ).length = qs.length := List.length_map _
  induction d with
  | zero =>
    intro i x hi hx
    rw [List.drop_of_length_le (by omega)]
    have h2 := rat_Neg_is hx.neg
    rw [Rat.neg_neg] at h2
    exact fold_best_v0_l0_go (.inr ⟨by omega, _, _, _, rat_Neg_is hx, _, _, _, h2, rfl, rfl, rfl, rfl⟩)
  | succ d ih =>
    intro i x hi hx
    have h : i < qs.length := by omega
    have hq := hz.get h
    refine fold_best_v0_l0_go (.inl ⟨by omega, by omega, by omega, _, _, _, getD_fQ h _, _, fold_Least1 hq hx, ?_⟩)
    rw [w_succ (by omega), drop_getD h]
    by_cases h1 : qs.getD i 0 < x
    · refine .inl ⟨decide_eq_true h1, ?_⟩
      have := ih (i + 1) _ (by omega) hq
      rw [show minQ x (qs.getD i 0 :: qs.drop (i + 1)) = minQ (qs.getD i 0) (qs.drop (i + 1)) by simp only [minQ, List.foldl_cons, if_pos h1]]
      exact this
    · refine .inr ⟨by rw [decide_eq_true_iff]; exact h1, ?_⟩
      have := ih (i + 1) _ (by omega) hx
      rw [show minQ x (qs.getD i 0 :: qs.drop (i + 1)) = minQ x (qs.drop (i + 1)) by simp only [minQ, List.foldl_cons, if_neg h1]]
      exact this
theorem fold_best1_loop {qs : List Rat} (hz : AZ 1000 qs) (hl : qs.length ≤ 1000000) {u : Bool} (d : Nat) : ∀ (i : Nat) (x : Rat), i + d = qs.length → SZ 1000 x →
    fold_best_v1_l0 (qs.map fQ) ((qs.map fQ).length : Int) (i : Int) u (ng x.num) (ab x.num) (lim x.den) (ng (maxQ x (qs.drop i)).num) (ab (maxQ x (qs.drop i)).num) (lim (maxQ x (qs.drop i)).den) 0 := by
  have hL : (qs.map fQ).length = qs.length := List.length_map _
  induction d with
  | zero =>
    intro i x hi hx
    rw [List.drop_of_length_le (by omega)]
    have h2 := rat_Neg_is hx.neg
    rw [Rat.neg_neg] at h2
    exact fold_best_v1_l0_go (.inr ⟨by omega, _, _, _, rat_Neg_is hx, _, _, _, h2, rfl, rfl, rfl, rfl⟩)
  | succ d ih =>
    intro i x hi hx
    have h : i < qs.length := by omega
    have hq := hz.get h
    refine fold_best_v1_l0_go (.inl ⟨by omega, by omega, by omega, _, _, _, getD_fQ h _, _, fold_Greatest1 hq hx, ?_⟩)
    rw [w_succ (by omega), drop_getD h]
    by_cases h1 : x < qs.getD i 0
    · refine .inl ⟨decide_eq_true h1, ?_⟩
      have := ih (i + 1) _ (by omega) hq
      rw [show maxQ x (qs.getD i 0 :: qs.drop (i + 1)) = maxQ (qs.getD i 0) (qs.drop (i + 1)) by simp only [maxQ, List.foldl_cons, if_pos h1]]
      exact this
    · refine .inr ⟨by rw [decide_eq_true_iff]; exact h1, ?_⟩
      have := ih (i + 1) _ (by omega) hx
      rw [show maxQ x (qs.getD i 0 :: qs.drop (i + 1)) = maxQ x (qs.drop (i + 1)) by simp only [maxQ, List.foldl_cons, if_neg h1]]
      exact this
theorem one_le {qs : List Rat} (h : 0 < qs.length) : (1 : Int) ≤ ((qs.map fQ).length : Int) := by rw [List.length_map]; omega
theorem fold_Least_is {qs : List Rat} (hz : AZ 1000 qs) (hl : qs.length ≤ 1000000) (h : 0 < qs.length) : fold_Least_R (qs.map fQ) (ng (minQ (qs.getD 0 0) (qs.drop 1)).num) (ab (minQ (qs.getD 0 0) (qs.drop 1)).num) (lim (minQ (qs.getD 0 0) (qs.drop 1)).den) 0 := by
  have hL : (qs.map fQ).length = qs.length := List.length_map _
  have := fold_best0_loop (qs := qs.drop 1) (fun q hq => hz q (List.mem_of_mem_drop hq)) (by rw [List.length_drop]; omega) (u := false) (qs.drop 1).length 0 (qs.getD 0 0) (by omega) (hz.get h)
  rw [List.map_drop, List.drop_zero] at this
  exact fold_Least_go ⟨_, _, _, _, fold_best_v0_go (.inr ⟨by omega, by omega, _, _, _, getD_fQ h _, by omega, this⟩), rfl, rfl, rfl, rfl⟩
theorem fold_Greatest_is {qs : List Rat} (hz : AZ 1000 qs) (hl : qs.length ≤ 1000000) (h : 0 < qs.length) : fold_Greatest_R (qs.map fQ) (ng (maxQ (qs.getD 0 0) (qs.drop 1)).num) (ab (maxQ (qs.getD 0 0) (qs.drop 1)).num) (lim (maxQ (qs.getD 0 0) (qs.drop 1)).den) 0 := by
  have hL : (qs.map fQ).length = qs.length := List.length_map _
  have := fold_best1_loop (qs := qs.drop 1) (fun q hq => hz q (List.mem_of_mem_drop hq)) (by rw [List.length_drop]; omega) (u := false) (qs.drop 1).length 0 (qs.getD 0 0) (by omega) (hz.get h)
  rw [List.map_drop, List.drop_zero] at this
  exact fold_Greatest_go ⟨_, _, _, _, fold_best_v1_go (.inr ⟨by omega, by omega, _, _, _, getD_fQ h _, by omega, this⟩), rfl, rfl, rfl, rfl⟩
theorem fold_Least_nil : fold_Least_R [] false [] [] 9 := fold_Least_go ⟨_, _, _, _, fold_best_v0_go (.inl ⟨rfl, rfl, rfl, rfl, rfl⟩), rfl, rfl, rfl, rfl⟩
theorem fold_Greatest_nil : fold_Greatest_R [] false [] [] 9 := fold_Greatest_go ⟨_, _, _, _, fold_best_v1_go (.inl ⟨rfl, rfl, rfl, rfl, rfl⟩), rfl, rfl, rfl, rfl⟩
/-! ### powers -/
theorem sq_pow (b : Rat) : ∀ k : Nat, (b * b) ^ k = b ^ (2 * k)
  | 0 => by rw [Rat.pow_zero, Nat.mul_zero, Rat.pow_zero]
  | k + 1 => by rw [Rat.pow_succ, sq_pow b k, show 2 * (k + 1) = 2 * k + 1 + 1 by omega, Rat.pow_succ, Rat.pow_succ, Rat.mul_assoc]
theorem fold_Pow_loop : ∀ (n : Nat) {p b : Rat} {P B : Nat} {u : Bool}, SZ P p → SZ B b → P + n * B ≤ 900 → 1 ≤ B → n ≤ 100000 → fold_Pow_l0 (n : Int) u (ng p.num) (ab p.num) (lim p.den) (ng b.num) (ab b.num) (lim b.den) (ng (p * b ^ n).num) (ab (p * b ^ n).num) (lim (p * b ^ n).den) 0 := by
  intro n
  induction n using Nat.strongRecOn with
  | _ n ih =>
    intro p b P B u hp hb hs hB1 hn
    rcases Nat.eq_zero_or_pos n with h0 | h0
    · subst h0
      rw [Rat.pow_zero, Rat.mul_one]
      exact fold_Pow_l0_go (.inr ⟨by omega, rfl, rfl, rfl, rfl⟩)
    · have hB : B ≤ n * B := Nat.le_mul_of_pos_left B h0
      have hw : wi ((n : Int).tdiv 2) = ((n / 2 : Nat) : Int) := by rw [td (by omega), s64i (by omega) (by omega)]; omega
      have ht : (n : Int).tmod 2 = ((n % 2 : Nat) : Int) := by rw [tm (by omega)]; omega
      have hpb := hp.mul2 hb
      have hbb := hb.mul2 hb
      have h2 : (n / 2) * (B + B) = (2 * (n / 2)) * B := by grind
      have e1 : ∀ q : Rat, q * b ^ (2 * (n / 2)) = q * (b * b) ^ (n / 2) := fun q => by rw [sq_pow]
      refine fold_Pow_l0_go (.inl ⟨by omega, ?_⟩)
      rw [ht, hw]
      rcases Nat.mod_two_eq_zero_or_one n with hm | hm
      · refine .inr ⟨by omega, .inl ⟨by omega, _, _, _, rat_Mul_is (hb.mono (by omega)) (hb.mono (by omega)), ?_⟩⟩
        have h4 : n = 2 * (n / 2) := by omega
        have := ih (n / 2) (by omega) (P := P) (B := B + B) (u := u) hp hbb (by rw [h2, ← h4]; exact hs) (by omega) (by omega)
        rw [sq_pow, ← h4] at this
        exact this
      · have h4 : n = 2 * (n / 2) + 1 := by omega
        have e2 : p * b * (b * b) ^ (n / 2) = p * b ^ n := by
          rw [sq_pow]
          conv => rhs; rw [h4, Rat.pow_succ]
          rw [Rat.mul_comm (b ^ (2 * (n / 2))) b, Rat.mul_assoc]
        have hs2 : P + B + (n / 2) * (B + B) ≤ 900 := by
          rw [h2]
          have h5 : n * B = 2 * (n / 2) * B + B := by conv => lhs; rw [h4, Nat.add_mul, Nat.one_mul]
          omega
        refine .inl ⟨by omega, _, _, _, rat_Mul_is (hp.mono (by omega)) (hb.mono (by omega)), ?_⟩
        by_cases h1 : 1 < n
        · refine .inl ⟨by omega, _, _, _, rat_Mul_is (hb.mono (by omega)) (hb.mono (by omega)), ?_⟩
          have := ih (n / 2) (by omega) (P := P + B) (B := B + B) (u := u) hpb hbb hs2 (by omega) (by omega)
          rw [e2] at this
          exact this
        · refine .inr ⟨by omega, ?_⟩
          have h5 : n / 2 = 0 := by omega
          have := ih (n / 2) (by omega) (P := P + B) (B := B) (u := u) hpb hb (by rw [h5]; omega) (by omega) (by omega)
          rw [h5] at this e2
          rw [Rat.pow_zero, Rat.mul_one] at this e2
          rw [← e2, h5]
          exact this
/-- What a power is, or why it is refused. -/
theorem fold_Pow_nat {a : Rat} {n : Nat} (ha : SZ 2 a) (hn : n ≤ 100) : fold_Pow_R (ng a.num) (ab a.num) (lim a.den) (n : Int) (ng (a ^ n).num) (ab (a ^ n).num) (lim (a ^ n).den) 0 := by
  have := fold_Pow_loop n (p := 1) (b := a) (P := 1) (B := 2) (u := false) SZ1 ha (by omega) (by omega) (by omega)
  rw [Rat.one_mul] at this
  exact fold_Pow_go (.inr ⟨by omega, .inr ⟨by omega, .inr ⟨by omega, _, _, _, rat_Of1, this⟩⟩⟩)
theorem fold_Pow_neg {a : Rat} {n : Nat} (h0 : 0 < n) (hn : n ≤ 100) (h : a ≠ 0) (ha : SZ 2 a) : fold_Pow_R (ng a.num) (ab a.num) (lim a.den) (-(n : Int)) (ng (a⁻¹ ^ n).num) (ab (a⁻¹ ^ n).num) (lim (a⁻¹ ^ n).den) 0 := by
  have e : wi (0 - -(n : Int)) = (n : Int) := by rw [s64i (by omega) (by omega)]; omega
  refine fold_Pow_go (.inr ⟨by omega, .inr ⟨by omega, .inl ⟨by omega, _, _, _, _, rat_Inv_is h (ha.mono (by omega)), .inl ⟨rfl, _, _, _, _, ?_, rfl, rfl, rfl, rfl⟩⟩⟩⟩)
  rw [e]
  exact fold_Pow_nat (ha.inv h) hn
theorem fold_Pow_zero {n : Nat} (h0 : 0 < n) (hn : n ≤ 100) : fold_Pow_R (ng ((0 : Rat)).num) (ab ((0 : Rat)).num) (lim ((0 : Rat)).den) (-(n : Int)) false [] [] 3 :=
  fold_Pow_go (.inr ⟨by omega, .inr ⟨by omega, .inl ⟨by omega, _, _, _, _, rat_Inv_zero, .inr ⟨by omega, rfl, rfl, rfl, rfl⟩⟩⟩⟩)
theorem SZ.pow {a : Rat} (ha : SZ 2 a) : ∀ n : Nat, SZ (1 + n * 2) (a ^ n)
  | 0 => by rw [Rat.pow_zero]; exact SZ1
  | n + 1 => by rw [Rat.pow_succ]; exact ((SZ.pow ha n).mul2 ha).mono (by omega)
theorem ref10_Pow_loop {a : Rat} (ha : SZ 2 a) {n : Nat} (hn : n ≤ 100) {u : Bool} (d : Nat) : ∀ i : Nat, i + d = n → ref10_Pow_l0 (n : Int) (i : Int) (ng a.num) (tn a.num) (ten a.den) u (ng (a ^ i).num) (tn (a ^ i).num) (ten (a ^ i).den) (ng (a ^ n).num) (tn (a ^ n).num) (ten (a ^ n).den) 0 := by
  induction d with
  | zero =>
    intro i hi
    obtain rfl : i = n := by omega
    exact ref10_Pow_l0_go (.inr ⟨by omega, rfl, rfl, rfl, rfl⟩)
  | succ d ih =>
    intro i hi
    refine ref10_Pow_l0_go (.inl ⟨by omega, _, _, _, ref08_Mul_is ((SZ.pow ha i).mono (by omega)) (ha.mono (by omega)), ?_⟩)
    rw [w_succ (by omega), ← Rat.pow_succ]
    exact ih (i + 1) (by omega)
theorem ref10_Pow_nat {a : Rat} {n : Nat} (ha : SZ 2 a) (hn : n ≤ 100) : ref10_Pow_R (ng a.num) (tn a.num) (ten a.den) (n : Int) (ng (a ^ n).num) (tn (a ^ n).num) (ten (a ^ n).den) 0 := by
  have := ref10_Pow_loop ha hn (u := false) n 0 (by omega)
  rw [Rat.pow_zero] at this
  exact ref10_Pow_go (.inr ⟨by omega, .inr ⟨by omega, .inr ⟨by omega, _, _, _, ref_Num11, this⟩⟩⟩)
theorem ref10_Pow_neg {a : Rat} {n : Nat} (h0 : 0 < n) (hn : n ≤ 100) (h : a ≠ 0) (ha : SZ 2 a) : ref10_Pow_R (ng a.num) (tn a.num) (ten a.den) (-(n : Int)) (ng (a⁻¹ ^ n).num) (tn (a⁻¹ ^ n).num) (ten (a⁻¹ ^ n).den) 0 := by
  have e : wi (0 - -(n : Int)) = (n : Int) := by rw [s64i (by omega) (by omega)]; omega
  refine ref10_Pow_go (.inr ⟨by omega, .inr ⟨by omega, .inl ⟨by omega, _, ref08_Zero_is a, .inr ⟨by rw [decide_eq_true_iff]; exact h, _, _, _, ref08_Inv_is h, _, _, _, _, ?_, rfl, rfl, rfl, rfl⟩⟩⟩⟩)
  rw [e]
  exact ref10_Pow_nat (ha.inv h) hn
theorem ref10_Pow_zero {n : Nat} (h0 : 0 < n) (hn : n ≤ 100) : ref10_Pow_R (ng ((0 : Rat)).num) (tn ((0 : Rat)).num) (ten ((0 : Rat)).den) (-(n : Int)) false [] [] 3 :=
  ref10_Pow_go (.inr ⟨by omega, .inr ⟨by omega, .inl ⟨by omega, _, ref08_Zero_is 0, .inl ⟨decide_eq_true rfl, rfl, rfl, rfl, rfl⟩⟩⟩⟩)
end Go.Proofs.YteepbjndbemcdaaA
