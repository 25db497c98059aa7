/- The law of the whole: its function answers true, whatever the input. -/
import Derived.Test.YteepbjndbemcdaaP20
import Derived.Test.YteepbjndbemcdaaWlaw29FailWhole
set_option linter.unusedVariables false
set_option linter.unusedSimpArgs false
namespace Go.Proofs.YteepbjndbemcdaaA
open Go
/-! ### sums over all cases -/
def rsum (f : Nat → Rat) : Nat → Rat
  | 0 => 0
  | n + 1 => rsum f n + f n
theorem rsum_congr {f g : Nat → Rat} : ∀ n : Nat, (∀ k, k < n → f k = g k) → rsum f n = rsum g n
  | 0, _ => rfl
  | n + 1, h => by rw [rsum, rsum, rsum_congr n (fun k hk => h k (by omega)), h n (by omega)]
theorem rsum_double (f : Nat → Rat) : ∀ m : Nat, rsum f (2 * m) = rsum (fun k => f (2 * k)) m + rsum (fun k => f (2 * k + 1)) m
  | 0 => by simp only [Nat.mul_zero, rsum]; grind
  | m + 1 => by
    rw [show 2 * (m + 1) = 2 * m + 1 + 1 by omega, rsum, rsum, rsum_double f m, rsum, rsum]
    grind
theorem rsum_mul (s : Rat) (f : Nat → Rat) : ∀ m : Nat, rsum (fun k => s * f k) m = s * rsum f m
  | 0 => by simp only [rsum]; grind
  | m + 1 => by rw [rsum, rsum, rsum_mul s f m]; grind
theorem chQ_mul : ∀ (qs : List Rat) (s t : Rat) (n : Nat), chQ (s * t) qs n = s * chQ t qs n
  | [], s, t, n => rfl
  | q :: qs, s, t, n => by rw [chQ, chQ, Rat.mul_assoc, chQ_mul qs]
theorem chQ_one (qs : List Rat) (s : Rat) (n : Nat) : chQ s qs n = s * chQ 1 qs n := by
  have := chQ_mul qs s 1 n
  rwa [Rat.mul_one] at this
theorem ch_even (q : Rat) (qs : List Rat) (k : Nat) : chQ 1 (q :: qs) (2 * k) = q * chQ 1 qs k := by
  rw [chQ, if_neg (by omega), Nat.mul_div_cancel_left _ (by omega), Rat.one_mul, chQ_one]
theorem ch_odd (q : Rat) (qs : List Rat) (k : Nat) : chQ 1 (q :: qs) (2 * k + 1) = (1 - q) * chQ 1 qs k := by
  rw [chQ, if_pos (by omega), show (2 * k + 1) / 2 = k by omega, Rat.one_mul, chQ_one]
theorem whole_sum : ∀ qs : List Rat, rsum (chQ 1 qs) (2 ^ qs.length) = 1
  | [] => by simp only [List.length_nil, Nat.pow_zero, rsum, chQ]; grind
  | q :: qs => by
    rw [List.length_cons, Nat.pow_succ, Nat.mul_comm, rsum_double]
    rw [rsum_congr (g := fun k => q * chQ 1 qs k) _ (fun k _ => ch_even q qs k), rsum_congr (f := fun k => chQ 1 (q :: qs) (2 * k + 1)) (g := fun k => (1 - q) * chQ 1 qs k) _ (fun k _ => ch_odd q qs k), rsum_mul, rsum_mul, whole_sum qs]
    grind
/-- The chances of the cases in which link j lives. -/
def bitc (qs : List Rat) (j n : Nat) : Rat := if n / 2 ^ j % 2 = 1 then chQ 1 qs n else 0
theorem bit_sum : ∀ (qs : List Rat) (j : Nat), j < qs.length → rsum (bitc qs j) (2 ^ qs.length) = 1 - qs.getD j 0
  | q :: qs, 0, _ => by
    rw [List.length_cons, Nat.pow_succ, Nat.mul_comm, rsum_double]
    rw [rsum_congr (g := fun k => 0 * chQ 1 qs k) _ (fun k _ => by simp only [bitc]; rw [Nat.pow_zero, Nat.div_one, if_neg (by omega)]; grind), rsum_congr (f := fun k => bitc (q :: qs) 0 (2 * k + 1)) (g := fun k => (1 - q) * chQ 1 qs k) _ (fun k _ => by simp only [bitc]; rw [Nat.pow_zero, Nat.div_one, if_pos (by omega), ch_odd]), rsum_mul, rsum_mul, whole_sum qs]
    show 0 * 1 + (1 - q) * 1 = 1 - q
    grind
  | q :: qs, j + 1, h => by
    have hj : j < qs.length := by rw [List.length_cons] at h; omega
    have e : ∀ k : Nat, 2 * k / 2 ^ (j + 1) = k / 2 ^ j := fun k => by rw [Nat.pow_succ, Nat.mul_comm (2 ^ j), ← Nat.div_div_eq_div_mul, Nat.mul_div_cancel_left _ (by omega)]
    have e' : ∀ k : Nat, (2 * k + 1) / 2 ^ (j + 1) = k / 2 ^ j := fun k => by rw [Nat.pow_succ, Nat.mul_comm (2 ^ j), ← Nat.div_div_eq_div_mul, show (2 * k + 1) / 2 = k by omega]
    rw [List.length_cons, Nat.pow_succ, Nat.mul_comm, rsum_double]
    rw [rsum_congr (g := fun k => q * bitc qs j k) _ (fun k _ => by simp only [bitc]; rw [e, ch_even]; split <;> grind), rsum_congr (f := fun k => bitc (q :: qs) (j + 1) (2 * k + 1)) (g := fun k => (1 - q) * bitc qs j k) _ (fun k _ => by simp only [bitc]; rw [e', ch_odd]; split <;> grind), rsum_mul, rsum_mul, bit_sum qs j hj]
    show q * (1 - qs.getD j 0) + (1 - q) * (1 - qs.getD j 0) = 1 - qs.getD j 0
    grind
/-! ### the same over the cases that are told -/
def tot (cs : List (Nat × Rat)) : Rat := cs.foldl (fun s x => s + x.2) 0
def totb (j : Nat) (cs : List (Nat × Rat)) : Rat := cs.foldl (fun s x => if x.1 / 2 ^ j % 2 = 1 then s + x.2 else s) 0
theorem tot_snoc (cs : List (Nat × Rat)) (x : Nat × Rat) : tot (cs ++ [x]) = tot cs + x.2 := by simp [tot]
theorem totb_snoc (j : Nat) (cs : List (Nat × Rat)) (x : Nat × Rat) : totb j (cs ++ [x]) = if x.1 / 2 ^ j % 2 = 1 then totb j cs + x.2 else totb j cs := by simp [totb]
theorem tot_cases (qs : List Rat) : ∀ k : Nat, tot (casesTo qs k) = rsum (chQ 1 qs) k
  | 0 => rfl
  | k + 1 => by
    rw [casesTo_succ, rsum, ← tot_cases qs k]
    split
    · rename_i h; rw [h]; grind
    · rw [tot_snoc]
theorem totb_cases (qs : List Rat) (j : Nat) : ∀ k : Nat, totb j (casesTo qs k) = rsum (bitc qs j) k
  | 0 => rfl
  | k + 1 => by
    rw [casesTo_succ, rsum, ← totb_cases qs j k, bitc]
    by_cases h : chQ 1 qs k = 0
    · rw [if_pos h, h]; split <;> grind
    · rw [if_neg h, totb_snoc]
      show (if k / 2 ^ j % 2 = 1 then _ else _) = _
      split <;> grind
theorem HasInt_is (l : List Int) (n : Int) (hs : l.length ≤ 1000000) : triviumbase_HasInt_R l n (decide (n ∈ l)) := by
  have loop : ∀ d i : Nat, i + d = l.length → triviumbase_HasInt_l0 l n (i : Int) (decide (n ∈ l.drop i)) := by
    intro d
    induction d with
    | zero =>
      intro i hi
      rw [List.drop_of_length_le (by omega)]
      exact triviumbase_HasInt_l0_go (.inr ⟨by omega, by simp⟩)
    | succ d ih =>
      intro i hi
      have h : i < l.length := by omega
      have e : l.drop i = l.getD i 0 :: l.drop (i + 1) := by rw [List.drop_eq_getElem_cons h, List.getD_eq_getElem?_getD, List.getElem?_eq_getElem h]; rfl
      refine triviumbase_HasInt_l0_go (.inl ⟨by omega, by omega, ?_⟩)
      rw [Int.toNat_natCast, w_succ (by omega)]
      by_cases h1 : l.getD i 0 = n
      · exact .inl ⟨h1, decide_eq_true (by rw [e, h1]; exact List.mem_cons_self ..)⟩
      · refine .inr ⟨h1, ?_⟩
        have := ih (i + 1) (by omega)
        rw [decide_eq_decide.2 (show n ∈ l.drop i ↔ n ∈ l.drop (i + 1) by rw [e, List.mem_cons]; exact ⟨fun g => g.resolve_left (fun k => h1 k.symm), .inr⟩)]
        exact this
  have := loop l.length 0 (by omega)
  rw [List.drop_zero] at this
  exact triviumbase_HasInt_go this
theorem lives_mem {n m j : Nat} : ((j : Int) ∈ livesTo n m) ↔ j < m ∧ n / 2 ^ j % 2 = 1 := by
  unfold livesTo
  rw [List.mem_map]
  constructor
  · rintro ⟨a, ha, he⟩
    obtain rfl : a = j := by omega
    rw [List.mem_filter, List.mem_range] at ha
    exact ⟨ha.1, by simpa using ha.2⟩
  · rintro ⟨h1, h2⟩
    exact ⟨j, List.mem_filter.2 ⟨List.mem_range.2 h1, by simpa using h2⟩, rfl⟩
theorem Among_is {x : Int} {n : Nat} (hn : 1 ≤ n) (hn2 : n ≤ 1000) : ∃ j : Nat, triviumbase_Among_R x (n : Int) (j : Int) ∧ j < n := by
  have e : wu (n : Int) = (n : Int) := w64i (by omega) (by omega)
  have h0 : 0 ≤ wu x := by rw [w64]; omega
  have hm : 0 ≤ wu x % (n : Int) ∧ wu x % (n : Int) < (n : Int) := ⟨Int.emod_nonneg _ (by omega), Int.emod_lt_of_pos _ (by omega)⟩
  obtain ⟨j, hj⟩ := Int.eq_ofNat_of_zero_le hm.1
  refine ⟨j, triviumbase_Among_go (.inr ⟨by omega, by rw [e]; omega, ?_⟩), by omega⟩
  rw [e, tm h0, hj, s64i (by omega) (by omega)]
theorem case_get {cs : List (Nat × Rat)} {i : Nat} (h : i < cs.length) : cs.getD i (0, 0) ∈ cs := by
  rw [List.getD_eq_getElem?_getD, List.getElem?_eq_getElem h]; exact List.getElem_mem h
theorem case_take {cs : List (Nat × Rat)} {i : Nat} (h : i < cs.length) : cs.take (i + 1) = cs.take i ++ [cs.getD i (0, 0)] := by
  rw [List.take_succ_eq_append_getElem h, List.getD_eq_getElem?_getD, List.getElem?_eq_getElem h]; rfl
theorem bit_lt {n j l : Nat} (hn : n < 2 ^ l) (h : n / 2 ^ j % 2 = 1) : j < l := by
  rcases Nat.lt_or_ge j l with h1 | h1
  · exact h1
  · have : 2 ^ l ≤ 2 ^ j := Nat.pow_le_pow_right (by omega) h1
    rw [Nat.div_eq_of_lt (by omega)] at h
    simp at h
theorem FailWhole_loop {qs : List Rat} (hz : AZ 1 qs) (hl : qs.length ≤ 6) {j : Nat} {cs : List (Nat × Rat)} (hcs : ∀ x ∈ cs, SZ 20 x.2 ∧ x.1 < 2 ^ qs.length) (hcl : cs.length ≤ 64) (hj : qs.length ≠ 0 → j < qs.length) (h1 : tot cs = 1) (h2 : j < qs.length → totb j cs = 1 - qs.getD j 0) (d : Nat) : ∀ i : Nat, i + d = cs.length → SZ (1 + i * 21) (tot (cs.take i)) → SZ (1 + i * 21) (totb j (cs.take i)) →
    law29_FailWhole_l0 (qs.map fQ) (cs.map fC) (j : Int) (i : Int) (ng (tot (cs.take i)).num) (ab (tot (cs.take i)).num) (lim (tot (cs.take i)).den) (ng (totb j (cs.take i)).num) (ab (totb j (cs.take i)).num) (lim (totb j (cs.take i)).den) true := by
  have hQ : (qs.map fQ).length = qs.length := List.length_map _
  have hC : (cs.map fC).length = cs.length := List.length_map _
  have hp : 2 ^ qs.length ≤ 2 ^ 6 := Nat.pow_le_pow_right (by omega) hl
  induction d with
  | zero =>
    intro i hi s1 s2
    rw [List.take_of_length_le (by omega)] at s1 s2 ⊢
    have ho := rat_One_is (s1.mono (show 1 + i * 21 ≤ 10000 by omega))
    rw [decide_eq_true h1] at ho
    refine law29_FailWhole_l0_go (.inr ⟨by omega, _, ho, .inl ⟨rfl, ?_⟩⟩)
    by_cases h0 : qs.length = 0
    · exact .inl ⟨by omega, rfl⟩
    · have hj' := hj h0
      have hq := hz.get hj'
      have hs := rat_Same_is (s2.mono (show 1 + i * 21 ≤ 10000 by omega)) ((SZ.not hq).mono (show 3 ≤ 10000 by omega))
      rw [decide_eq_true (h2 hj')] at hs
      exact .inr ⟨by omega, by omega, by omega, _, _, _, getD_fQ hj' _, _, _, _, fold_Not_is (hq.mono (by omega)), _, hs, rfl⟩
  | succ d ih =>
    intro i hi s1 s2
    have h : i < cs.length := by omega
    have hx := hcs _ (case_get h)
    have g := getD_fC h (0, false, [], [])
    have key := ih (i + 1) (by omega)
    rw [case_take h, tot_snoc, totb_snoc] at key
    have hs1 := s1.add2 hx.1
    have e1 : 1 + i * 21 + 20 + 1 = 1 + (i + 1) * 21 := by omega
    rw [e1] at hs1
    have hlv := fail_Lives_is (n := (cs.getD i (0, 0)).1) (by omega) ((qs.map fQ).length : Int)
    rw [hQ, Int.toNat_natCast, Nat.min_eq_left (by omega)] at hlv
    have hll := livesTo_len (cs.getD i (0, 0)).1 qs.length
    have hh := HasInt_is (livesTo (cs.getD i (0, 0)).1 qs.length) (j : Int) (by omega)
    refine law29_FailWhole_l0_go (.inl ⟨by omega, by omega, _, _, _, _, g, _, _, _, rat_Add_is (s1.mono (by omega)) (hx.1.mono (by omega)), _, _, _, _, g, _, by rw [hQ]; exact hlv, _, hh, ?_⟩)
    rw [w_succ (by omega)]
    by_cases hb : (cs.getD i (0, 0)).1 / 2 ^ j % 2 = 1
    · rw [if_pos hb] at key
      have hs2 := s2.add2 hx.1
      rw [e1] at hs2
      exact .inl ⟨decide_eq_true (lives_mem.2 ⟨bit_lt hx.2 hb, hb⟩), _, _, _, _, g, _, _, _, rat_Add_is (s2.mono (by omega)) (hx.1.mono (by omega)), key hs1 hs2⟩
    · rw [if_neg hb] at key
      exact .inr ⟨by rw [decide_eq_true_iff, lives_mem]; exact fun k => hb k.2, key hs1 (s2.mono (by omega))⟩
theorem cases_mem {qs : List Rat} {k : Nat} {x : Nat × Rat} (h : x ∈ casesTo qs k) : x.1 < k ∧ x.2 = chQ 1 qs x.1 := by
  unfold casesTo at h
  obtain ⟨a, ha, rfl⟩ := List.mem_map.1 h
  exact ⟨List.mem_range.1 (List.mem_filter.1 ha).1, rfl⟩
theorem FailWhole_true {L : List T_api_Rat} {n : Int} (hw : ∀ p ∈ L, RawQ p) (_h2 : -9223372036854775808 ≤ n) (_h3 : n < 9223372036854775808) : law29_FailWhole_R L n true := by
  obtain ⟨qs, hf, hz, hl⟩ := few29_is hw (m := 6) (by omega) (by omega)
  have hlen : qs.length ≤ 6 := by omega
  have hQ : (qs.map fQ).length = qs.length := List.length_map _
  have hp : 2 ^ qs.length ≤ 2 ^ 6 := Nat.pow_le_pow_right (by omega) hlen
  obtain ⟨a1, a2⟩ := fail_All_is hz (by omega)
  by_cases h : Rgt qs
  · obtain ⟨j, hj, hj2⟩ := Among_is (x := n) (n := max qs.length 1) (by omega) (by omega)
    have hcl := casesTo_len qs (2 ^ qs.length)
    have := FailWhole_loop hz hlen (j := j) (cs := casesTo qs (2 ^ qs.length)) (fun x hx => by
      obtain ⟨k1, k2⟩ := cases_mem hx
      refine ⟨?_, k1⟩
      rw [k2]
      exact (SZ.ch hz SZ1).mono (by omega)) (by omega) (fun h0 => by omega) (by rw [tot_cases, whole_sum]) (fun hj3 => by rw [totb_cases, bit_sum qs j hj3]) (casesTo qs (2 ^ qs.length)).length 0 (by omega) SZ0 SZ0
    refine law29_FailWhole_go ⟨_, fail_works, .inl ⟨rfl, _, _, hf, _, _, a1 h, .inl ⟨rfl, _, _, _, rat_Of0, _, _, _, rat_Of0, _, ?_, this⟩⟩⟩
    rw [hQ, show (1 : Int) = ((1 : Nat) : Int) from rfl, mx_nat]
    exact hj
  · exact law29_FailWhole_go ⟨_, fail_works, .inl ⟨rfl, _, _, hf, _, _, a2 h, .inr ⟨by omega, rfl⟩⟩⟩
end Go.Proofs.YteepbjndbemcdaaA
