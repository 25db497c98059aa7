/- Links that fail: their cases and chances. -/
import Derived.Test.YteepbjndbemcdaaGreatP18
import Derived.Test.YteepbjndbemcdaaGreatW9
set_option linter.unusedVariables false
set_option linter.unusedSimpArgs false
namespace Go.Proofs.YteepbjndbemcdaaGreatA
open Go
theorem few29_loop {L : List T_api_Rat} (hw : ∀ p ∈ L, RawQ p) {m : Nat} (hm : m ≤ 100) (d : Nat) : ∀ (i : Nat) (qs : List Rat), i + d = min L.length m → qs.length = i → AZ 1 qs →
    ∃ ps : List Rat, law29_few_l1 L (m : Int) (i : Int) (qs.map fQ) (qs.map fT) (ps.map fQ) (ps.map fT) ∧ AZ 1 ps ∧ ps.length = min L.length m := by
  induction d with
  | zero =>
    intro i qs hi hq hz
    refine ⟨qs, ?_, hz, by omega⟩
    by_cases h : (i : Int) < (L.length : Int)
    · exact law29_few_l1_go (.inl ⟨h, .inr ⟨by omega, rfl, rfl⟩⟩)
    · exact law29_few_l1_go (.inr ⟨h, rfl, rfl⟩)
  | succ d ih =>
    intro i qs hi hq hz
    have h : i < L.length := by omega
    obtain ⟨q, hc, hqz⟩ := raw_clean (raw_get hw h (false, [], [])) (n := 1) (by omega) (by omega)
    have hl1 : (qs.map fQ).length = i := by rw [List.length_map, hq]
    have hl2 : (qs.map fT).length = i := by rw [List.length_map, hq]
    obtain ⟨ps, h1, h2⟩ := ih (i + 1) (qs ++ [q]) (by omega) (by rw [List.length_append, hq]; rfl) (hz.append (fun p hp => by rw [List.mem_singleton.1 hp]; exact hqz))
    refine ⟨ps, law29_few_l1_go (.inl ⟨by omega, .inl ⟨by omega, by omega, _, _, _, rfl, _, _, _, hc, by omega, (qs ++ [q]).map fQ, by rw [List.map_append]; rfl, _, _, _, ref08_Of_is (hqz.mono (by omega)), by omega, (qs ++ [q]).map fT, by rw [List.map_append]; rfl, ?_⟩⟩), h2⟩
    rw [w_succ (by omega)]
    exact h1
theorem few29_is {L : List T_api_Rat} (hw : ∀ p ∈ L, RawQ p) {m : Nat} (hm : m ≤ 100) (hm1 : 1 ≤ m) : ∃ qs : List Rat, law29_few_R L (m : Int) (qs.map fQ) (qs.map fT) ∧ AZ 1 qs ∧ qs.length = min L.length m := by
  by_cases h0 : L.length = 0
  · exact ⟨[], law29_few_go (law29_few_l0_go (.inr ⟨by omega, rfl, rfl⟩)), fun _ h => (by cases h), by rw [h0]; simp⟩
  · have h : 0 < L.length := by omega
    obtain ⟨q, hc, hqz⟩ := raw_clean (raw_get hw h (false, [], [])) (n := 1) (by omega) (by omega)
    obtain ⟨ps, h1, h2⟩ := few29_loop hw hm (min L.length m - 1) 1 [q] (by omega) rfl (fun p hp => by rw [List.mem_singleton.1 hp]; exact hqz)
    refine ⟨ps, law29_few_go (law29_few_l0_go (.inl ⟨by omega, .inl ⟨by omega, by omega, _, _, _, rfl, _, _, _, hc, by omega, [q].map fQ, rfl, _, _, _, ref08_Of_is (hqz.mono (by omega)), [q].map fT, rfl, ?_⟩⟩)), h2⟩
    rw [s64i (n := 0 + 1) (by omega) (by omega)]
    exact h1
/-! ### may links be? -/
def Rgt (qs : List Rat) : Prop := qs.length ≤ 8 ∧ ∀ q ∈ qs, Unit q
instance (qs : List Rat) : Decidable (Rgt qs) := inferInstanceAs (Decidable (_ ∧ _))
theorem fail_right1 {a : Rat} (ha : SZ 10000 a) : fail_right_1_R (ng a.num) (ab a.num) (lim a.den) (decide (¬ Unit a)) := by
  refine fail_right_1_go ⟨_, rat_Sign_is a, ?_⟩
  by_cases h1 : a < 0
  · exact .inl ⟨(sn_lt a).2 h1, decide_eq_true fun g => g.1 h1⟩
  · refine .inr ⟨fun g => h1 ((sn_lt a).1 g), _, _, _, rat_Of1, _, rat_Cmp_is ha (SZ1.mono (by omega)), decide_eq_decide.2 ?_⟩
    rw [cmp_pos]
    constructor
    · intro g
      by_cases h2 : 1 < a
      · exact h2
      · exact absurd ⟨h1, h2⟩ g
    · intro g k; exact k.2 g
theorem fail_index_loop {qs : List Rat} (hz : AZ 10000 qs) (hl : qs.length ≤ 1000000) (d : Nat) : ∀ i : Nat, i + d = qs.length →
    ∃ z : Int, slices_IndexFunc___api_Rat_api_Rat__v0_l0 (qs.map fQ) ((qs.map fQ).length : Int) (i : Int) z ∧ (0 ≤ z ↔ ¬ ∀ q ∈ qs.drop i, Unit q) := by
  have hL : (qs.map fQ).length = qs.length := List.length_map _
  induction d with
  | zero =>
    intro i hi
    refine ⟨-1, slices_IndexFunc___api_Rat_api_Rat__v0_l0_go (.inr ⟨by omega, rfl⟩), ?_⟩
    rw [List.drop_of_length_le (by omega)]
    simp
  | succ d ih =>
    intro i hi
    have h : i < qs.length := by omega
    have hc := fail_right1 (hz.get h)
    by_cases hu : Unit (qs.getD i 0)
    · obtain ⟨z, h1, h2⟩ := ih (i + 1) (by omega)
      refine ⟨z, slices_IndexFunc___api_Rat_api_Rat__v0_l0_go (.inl ⟨by omega, by omega, by omega, _, _, _, getD_fQ h _, _, hc, .inr ⟨by rw [decide_eq_true_iff]; exact fun g => g hu, by rw [w_succ (by omega)]; exact h1⟩⟩), ?_⟩
      rw [h2, all_drop h]
      constructor
      · intro g k; exact g k.2
      · intro g k; exact g ⟨hu, k⟩
    · refine ⟨(i : Int), slices_IndexFunc___api_Rat_api_Rat__v0_l0_go (.inl ⟨by omega, by omega, by omega, _, _, _, getD_fQ h _, _, hc, .inl ⟨decide_eq_true hu, rfl⟩⟩), ?_⟩
      rw [all_drop h]
      constructor
      · intro _ k; exact hu k.1
      · intro _; omega
theorem fail_right_is {qs : List Rat} (hz : AZ 10000 qs) (hl : qs.length ≤ 1000000) : fail_right_R (qs.map fQ) (if Rgt qs then 0 else 2) := by
  have hL : (qs.map fQ).length = qs.length := List.length_map _
  refine fail_right_go ?_
  by_cases h8 : 8 < qs.length
  · rw [if_neg (fun g => by have := g.1; omega)]
    exact .inl ⟨by omega, rfl⟩
  · obtain ⟨z, h1, h2⟩ := fail_index_loop hz hl qs.length 0 (by omega)
    rw [List.drop_zero] at h2
    refine .inr ⟨by omega, _, slices_ContainsFunc___api_Rat_api_Rat__v0_go ⟨_, slices_IndexFunc___api_Rat_api_Rat__v0_go h1, rfl⟩, ?_⟩
    by_cases hu : ∀ q ∈ qs, Unit q
    · rw [if_pos ⟨by omega, hu⟩]
      exact .inr ⟨by rw [decide_eq_true_iff, h2]; exact fun g => g hu, rfl⟩
    · rw [if_neg (fun g => hu g.2)]
      exact .inl ⟨by rw [decide_eq_true_iff, h2]; exact hu, rfl⟩
/-! ### a case's chance -/
/-- How often a case is: link i lives where bit i of the case is 1. -/
def chQ (s : Rat) : List Rat → Nat → Rat
  | [], _ => s
  | q :: qs, n => chQ (s * (if n % 2 = 1 then 1 - q else q)) qs (n / 2)
theorem SZ.not {q : Rat} (h : SZ 1 q) : SZ 3 (1 - q) := (SZ1.sub h).mono (by omega)
theorem ch_step {n : Nat} {q : Rat} (h : SZ 1 q) : SZ 3 (if n % 2 = 1 then 1 - q else q) := by
  split
  · exact h.not
  · exact h.mono (by omega)
theorem SZ.ch : ∀ {qs : List Rat} {m n : Nat} {s : Rat}, AZ 1 qs → SZ m s → SZ (m + qs.length * 3) (chQ s qs n)
  | [], m, n, s, _, hs => hs.mono (by omega)
  | q :: qs, m, n, s, h, hs => by
    have := SZ.ch (qs := qs) (m := m + 3) (n := n / 2) (fun p hp => h p (List.mem_cons_of_mem _ hp)) (hs.mul2 (ch_step (n := n) (h q (List.mem_cons_self ..))))
    refine this.mono ?_
    rw [List.length_cons, Nat.add_mul]; omega
theorem bit_test (n i : Nat) (hn : n < 18446744073709551616) (hi : i < 64) : (Go.bits .and .u64 ((n : Int) / 2 ^ (min i 64)) 1) = ((n / 2 ^ i % 2 : Nat) : Int) := by
  have e : (n : Int) / 2 ^ (min i 64) = ((n / 2 ^ i : Nat) : Int) := by rw [Nat.min_eq_left (by omega), Int.natCast_ediv, Int.natCast_pow]; rfl
  have hd := Nat.div_le_self n (2 ^ i)
  rw [e]
  generalize n / 2 ^ i = m at hd ⊢
  rw [and1 (by omega) (by omega)]
  omega
theorem fail_chance_loop {qs : List Rat} (hz : AZ 1 qs) (hl : qs.length ≤ 20) {n : Nat} (hn : n < 18446744073709551616) {u : Bool} (d : Nat) : ∀ (i m : Nat) (s : Rat), i + d = qs.length → SZ m s → m + (qs.length - i) * 3 ≤ 900 →
    fail_chance_l0 (n : Int) (qs.map fQ) ((qs.map fQ).length : Int) (i : Int) u (ng s.num) (ab s.num) (lim s.den) (ng (chQ s (qs.drop i) (n / 2 ^ i)).num) (ab (chQ s (qs.drop i) (n / 2 ^ i)).num) (lim (chQ s (qs.drop i) (n / 2 ^ i)).den) := by
  have hL : (qs.map fQ).length = qs.length := List.length_map _
  induction d with
  | zero =>
    intro i m s hi hs hm
    rw [List.drop_of_length_le (by omega)]
    exact fail_chance_l0_go (.inr ⟨by omega, rfl, rfl, rfl⟩)
  | succ d ih =>
    intro i m s hi hs hm
    have h : i < qs.length := by omega
    have hq := hz.get h
    have hm2 : m + 3 + (qs.length - (i + 1)) * 3 ≤ 900 := by omega
    have key := ih (i + 1) (m + 3) _ (by omega) (hs.mul2 (ch_step (n := n / 2 ^ i) hq)) hm2
    rw [show n / 2 ^ (i + 1) = n / 2 ^ i / 2 by rw [Nat.pow_succ, Nat.div_div_eq_div_mul]] at key
    refine fail_chance_l0_go (.inl ⟨by omega, by omega, by omega, _, _, _, getD_fQ h _, ?_⟩)
    rw [Int.toNat_natCast, bit_test n i hn (by omega), w_succ (by omega), drop_getD h, chQ]
    by_cases hb : n / 2 ^ i % 2 = 1
    · rw [if_pos hb] at key ⊢
      exact .inl ⟨by omega, _, _, _, fold_Not_is (hq.mono (by omega)), _, _, _, rat_Mul_is (hs.mono (by omega)) (hq.not.mono (by omega)), key⟩
    · rw [if_neg hb] at key ⊢
      exact .inr ⟨by omega, _, _, _, rat_Mul_is (hs.mono (by omega)) (hq.mono (by omega)), key⟩
theorem fail_chance_is {qs : List Rat} (hz : AZ 1 qs) (hl : qs.length ≤ 20) {n : Nat} (hn : n < 18446744073709551616) : fail_chance_R (qs.map fQ) (n : Int) (ng (chQ 1 qs n).num) (ab (chQ 1 qs n).num) (lim (chQ 1 qs n).den) := by
  have := fail_chance_loop hz hl hn (u := false) qs.length 0 1 1 (by omega) SZ1 (by omega)
  rw [Nat.pow_zero, Nat.div_one] at this
  exact fail_chance_go ⟨_, _, _, rat_Of1, this⟩
theorem fail_Chance_is {qs : List Rat} (hz : AZ 1 qs) (hl : qs.length ≤ 20) {n : Nat} (hn : n < 18446744073709551616) :
    (Rgt qs ∧ n < 2 ^ qs.length → fail_Chance_R (qs.map fQ) (n : Int) (ng (chQ 1 qs n).num) (ab (chQ 1 qs n).num) (lim (chQ 1 qs n).den) 0) ∧ (¬ (Rgt qs ∧ n < 2 ^ qs.length) → fail_Chance_R (qs.map fQ) (n : Int) false [] [] 2) := by
  have hL : (qs.map fQ).length = qs.length := List.length_map _
  have hr := fail_right_is (hz.mono (show 1 ≤ 10000 by omega)) (by omega)
  have e : (n : Int) / 2 ^ (min (((qs.map fQ).length : Int)).toNat 64) = ((n / 2 ^ qs.length : Nat) : Int) := by
    rw [Int.toNat_natCast, hL, Nat.min_eq_left (by omega), Int.natCast_ediv, Int.natCast_pow]; rfl
  have hz0 : n / 2 ^ qs.length = 0 ↔ n < 2 ^ qs.length := Nat.div_eq_zero_iff_lt (Nat.two_pow_pos _)
  refine ⟨fun h => ?_, fun h => ?_⟩
  · rw [if_pos h.1] at hr
    refine fail_Chance_go ⟨_, hr, .inl ⟨rfl, by omega, ?_⟩⟩
    rw [e]
    exact .inl ⟨by rw [hz0.2 h.2]; rfl, _, _, _, fail_chance_is hz hl hn, rfl, rfl, rfl, rfl⟩
  · by_cases h1 : Rgt qs
    · rw [if_pos h1] at hr
      refine fail_Chance_go ⟨_, hr, .inl ⟨rfl, by omega, ?_⟩⟩
      rw [e]
      exact .inr ⟨fun g => h ⟨h1, hz0.1 (by omega)⟩, rfl, rfl, rfl, rfl⟩
    · rw [if_neg h1] at hr
      exact fail_Chance_go ⟨_, hr, .inr ⟨by omega, rfl, rfl, rfl, rfl⟩⟩
/-! ### all cases -/
def fC (x : Nat × Rat) : T_fail_Case := ((x.1 : Int), ng x.2.num, ab x.2.num, lim x.2.den)
theorem getD_fC {cs : List (Nat × Rat)} {i : Nat} (h : i < cs.length) (d : T_fail_Case) : (cs.map fC).getD i d = (((cs.getD i (0, 0)).1 : Int), ng (cs.getD i (0, 0)).2.num, ab (cs.getD i (0, 0)).2.num, lim (cs.getD i (0, 0)).2.den) := map_getD h d (0, 0)
/-- The cases up to a number that are not of chance 0. -/
def casesTo (qs : List Rat) (k : Nat) : List (Nat × Rat) := ((List.range k).filter fun n => chQ 1 qs n ≠ 0).map fun n => (n, chQ 1 qs n)
theorem casesTo_succ (qs : List Rat) (k : Nat) : casesTo qs (k + 1) = if chQ 1 qs k = 0 then casesTo qs k else casesTo qs k ++ [(k, chQ 1 qs k)] := by
  unfold casesTo
  rw [List.range_succ, List.filter_append, List.map_append]
  by_cases h : chQ 1 qs k = 0
  · rw [if_pos h]; simp [h]
  · rw [if_neg h]; simp [h]
theorem casesTo_len (qs : List Rat) (k : Nat) : (casesTo qs k).length ≤ k := by
  unfold casesTo
  rw [List.length_map]
  exact Nat.le_trans (List.length_filter_le ..) (by rw [List.length_range]; exact Nat.le_refl _)
theorem sn_zero (a : Rat) : sn a.num = 0 ↔ a = 0 := by
  rw [← Rat.num_eq_zero]; unfold sn; split
  · omega
  · split <;> omega
theorem fail_All_loop {qs : List Rat} (hz : AZ 1 qs) (hl : qs.length ≤ 8) (d : Nat) : ∀ k : Nat, k + d = 2 ^ qs.length →
    (casesTo qs k = [] → fail_All_l0 (qs.map fQ) ((2 ^ qs.length : Nat) : Int) (k : Int) ((casesTo qs (2 ^ qs.length)).map fC) 0) ∧
    fail_All_l1 (qs.map fQ) ((2 ^ qs.length : Nat) : Int) (k : Int) ((casesTo qs k).map fC) ((casesTo qs (2 ^ qs.length)).map fC) 0 := by
  have hp : 2 ^ qs.length ≤ 2 ^ 8 := Nat.pow_le_pow_right (by omega) hl
  induction d with
  | zero =>
    intro k hk
    obtain rfl : k = 2 ^ qs.length := by omega
    refine ⟨fun h => ?_, fail_All_l1_go (.inr ⟨by omega, rfl, rfl⟩)⟩
    rw [h]
    exact fail_All_l0_go (.inr ⟨by omega, rfl, rfl⟩)
  | succ d ih =>
    intro k hk
    have hw : wu (k : Int) = (k : Int) := w64i (by omega) (by omega)
    have hc := fail_chance_is hz (by omega) (n := k) (by omega)
    have hs := rat_Sign_is (chQ 1 qs k)
    obtain ⟨i1, i2⟩ := ih (k + 1) (by omega)
    have hcl := casesTo_len qs k
    have hL : ((casesTo qs k).map fC).length = (casesTo qs k).length := List.length_map _
    by_cases h : chQ 1 qs k = 0
    · rw [casesTo_succ, if_pos h] at i1 i2
      refine ⟨fun h0 => fail_All_l0_go (.inl ⟨by omega, _, _, _, by rw [hw]; exact hc, _, hs, .inl ⟨(sn_zero _).2 h, ?_⟩⟩), fail_All_l1_go (.inl ⟨by omega, _, _, _, by rw [hw]; exact hc, _, hs, .inl ⟨(sn_zero _).2 h, ?_⟩⟩)⟩
      · rw [w_succ (by omega)]; exact i1 h0
      · rw [w_succ (by omega)]; exact i2
    · rw [casesTo_succ, if_neg h] at i2
      refine ⟨fun h0 => fail_All_l0_go (.inl ⟨by omega, _, _, _, by rw [hw]; exact hc, _, hs, .inr ⟨fun g => h ((sn_zero _).1 g), by omega, ([(k, chQ 1 qs k)] : List (Nat × Rat)).map fC, by rw [hw]; rfl, ?_⟩⟩), fail_All_l1_go (.inl ⟨by omega, _, _, _, by rw [hw]; exact hc, _, hs, .inr ⟨fun g => h ((sn_zero _).1 g), by omega, (casesTo qs k ++ [(k, chQ 1 qs k)]).map fC, by rw [hw, List.map_append]; rfl, ?_⟩⟩)⟩
      · rw [w_succ (by omega)]
        rw [h0, List.nil_append] at i2
        exact i2
      · rw [w_succ (by omega)]; exact i2
theorem fail_All_is {qs : List Rat} (hz : AZ 1 qs) (hl : qs.length ≤ 20) : (Rgt qs → fail_All_R (qs.map fQ) ((casesTo qs (2 ^ qs.length)).map fC) 0) ∧ (¬ Rgt qs → fail_All_R (qs.map fQ) [] 2) := by
  have hL : (qs.map fQ).length = qs.length := List.length_map _
  have hr := fail_right_is (hz.mono (show 1 ≤ 10000 by omega)) (by omega)
  refine ⟨fun h => ?_, fun h => ?_⟩
  · rw [if_pos h] at hr
    have hp : 2 ^ qs.length ≤ 2 ^ 8 := Nat.pow_le_pow_right (by omega) h.1
    refine fail_All_go ⟨_, hr, .inl ⟨rfl, by omega, ?_⟩⟩
    have e : wi (1 * 2 ^ (min (((qs.map fQ).length : Int)).toNat 64)) = ((2 ^ qs.length : Nat) : Int) := by
      rw [Int.toNat_natCast, hL, Nat.min_eq_left (by omega), Int.one_mul]
      have e1 : (2 : Int) ^ qs.length = ((2 ^ qs.length : Nat) : Int) := by rw [Int.natCast_pow]; rfl
      rw [e1]
      generalize (2 ^ qs.length : Nat) = m at hp ⊢
      exact s64i (by omega) (by omega)
    rw [e]
    exact (fail_All_loop hz h.1 (2 ^ qs.length) 0 (by omega)).1 rfl
  · rw [if_neg h] at hr
    exact fail_All_go ⟨_, hr, .inr ⟨by omega, rfl, rfl⟩⟩
/-- The chapter's example. -/
theorem fail_works : law29_works_R true := by
  have hz : SZ 1 (Rat.divInt 1 3) := SZ.divInt (by omega) (lim_len_one (by decide)) (lim_len_one (by decide))
  have h1 := rat_Frac_is (n := 1) (d := 3) (by omega) (by omega) (by omega) (by omega) (by omega)
  have ha := (fail_All_is (qs := [Rat.divInt 1 3]) (fun q hq => by rw [List.mem_singleton.1 hq]; exact hz) (by simp)).1 (by
    refine ⟨by simp, fun q hq => ?_⟩
    rw [List.mem_singleton.1 hq]; decide +kernel)
  have e : casesTo [Rat.divInt 1 3] (2 ^ [Rat.divInt 1 3].length) = [(0, Rat.divInt 1 3), (1, 1 - Rat.divInt 1 3)] := by decide +kernel
  rw [e] at ha
  have s1 := rat_Same_is (hz.mono (show 1 ≤ 10000 by omega)) (hz.mono (show 1 ≤ 10000 by omega))
  have s2 := rat_Same_is (hz.not.mono (show 3 ≤ 10000 by omega)) (hz.not.mono (show 3 ≤ 10000 by omega))
  rw [decide_eq_true rfl] at s1 s2
  exact law29_works_go ⟨_, _, _, _, h1, _, _, ha, .inl ⟨rfl, .inl ⟨rfl, by simp, _, _, _, _, rfl, .inl ⟨rfl, _, _, _, _, rfl, _, s1, .inl ⟨rfl, by simp, _, _, _, _, rfl, .inl ⟨rfl, _, _, _, _, rfl, _, _, _, fold_Not_is (hz.mono (by omega)), _, s2, rfl⟩⟩⟩⟩⟩⟩
/-! ### which links live -/
theorem bit_of {n i : Nat} : (n / 2 ^ i % 2 = 1) ↔ n.testBit i = true := by
  rw [Nat.testBit_eq_decide_div_mod_eq]; simp
def livesTo (n k : Nat) : List Int := ((List.range k).filter fun i => n / 2 ^ i % 2 = 1).map fun i : Nat => (i : Int)
theorem livesTo_succ (n k : Nat) : livesTo n (k + 1) = if n / 2 ^ k % 2 = 1 then livesTo n k ++ [(k : Int)] else livesTo n k := by
  unfold livesTo
  rw [List.range_succ, List.filter_append, List.map_append]
  by_cases h : n / 2 ^ k % 2 = 1
  · rw [if_pos h]; simp [h]
  · rw [if_neg h]; simp [h]
theorem livesTo_len (n k : Nat) : (livesTo n k).length ≤ k := by
  unfold livesTo
  rw [List.length_map]
  exact Nat.le_trans (List.length_filter_le ..) (by rw [List.length_range]; exact Nat.le_refl _)
theorem fail_Lives_loop {n m : Nat} (hn : n < 18446744073709551616) (hm : m ≤ 64) (d : Nat) : ∀ k : Nat, k + d = m →
    (livesTo n k = [] → fail_Lives_l0 (n : Int) (m : Int) (k : Int) (livesTo n m)) ∧ fail_Lives_l1 (n : Int) (m : Int) (k : Int) (livesTo n k) (livesTo n m) := by
  induction d with
  | zero =>
    intro k hk
    obtain rfl : k = m := by omega
    refine ⟨fun h => ?_, fail_Lives_l1_go (.inr ⟨by omega, rfl⟩)⟩
    rw [h]
    exact fail_Lives_l0_go (.inr ⟨by omega, rfl⟩)
  | succ d ih =>
    intro k hk
    obtain ⟨i1, i2⟩ := ih (k + 1) (by omega)
    have hb := bit_test n k hn (by omega)
    have hcl := livesTo_len n k
    by_cases h : n / 2 ^ k % 2 = 1
    · rw [livesTo_succ, if_pos h] at i2
      refine ⟨fun h0 => fail_Lives_l0_go (.inl ⟨by omega, by omega, ?_⟩), fail_Lives_l1_go (.inl ⟨by omega, by omega, ?_⟩)⟩
      · rw [Int.toNat_natCast, hb, w_succ (by omega)]
        rw [h0, List.nil_append] at i2
        exact .inl ⟨by omega, by omega, _, rfl, i2⟩
      · rw [Int.toNat_natCast, hb, w_succ (by omega)]
        exact .inl ⟨by omega, by omega, _, rfl, i2⟩
    · rw [livesTo_succ, if_neg h] at i1 i2
      refine ⟨fun h0 => fail_Lives_l0_go (.inl ⟨by omega, by omega, ?_⟩), fail_Lives_l1_go (.inl ⟨by omega, by omega, ?_⟩)⟩
      · rw [Int.toNat_natCast, hb, w_succ (by omega)]
        exact .inr ⟨by omega, i1 h0⟩
      · rw [Int.toNat_natCast, hb, w_succ (by omega)]
        exact .inr ⟨by omega, i2⟩
theorem fail_Lives_is {n : Nat} (hn : n < 18446744073709551616) (m : Int) : fail_Lives_R (n : Int) m (livesTo n (min m.toNat 64)) := by
  have e : mn (mx m 0) 64 = ((min m.toNat 64 : Nat) : Int) := by unfold mn mx; split <;> split <;> omega
  refine fail_Lives_go ?_
  rw [e]
  exact (fail_Lives_loop hn (by omega) (min m.toNat 64) 0 (by omega)).1 rfl
end Go.Proofs.YteepbjndbemcdaaGreatA
