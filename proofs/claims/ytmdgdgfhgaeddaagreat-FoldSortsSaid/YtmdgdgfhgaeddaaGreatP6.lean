/- The reference's Clean, Same and Mul, and the powers: what the functions answer. -/
import Derived.Test.YtmdgdgfhgaeddaaGreatP5
set_option linter.unusedVariables false
set_option linter.unusedSimpArgs false
namespace Go.Proofs.YtmdgdgfhgaeddaaGreatA
open Go
def cleaned (l : List Int) (n : Nat) : Nat := (val 4294967296 ((l.take n).map (· % 4294967296))).toNat
theorem cleaned_dig (l : List Int) : Dig 4294967296 (l.map (· % 4294967296)) := fun x hx => by
  obtain ⟨y, _, rfl⟩ := List.mem_map.1 hx
  omega
theorem ref_Clean_l4 : ∀ (n : Nat) (l : List Int), l.length ≤ 1000000000 → n ≤ l.length → Dig 4294967296 l → {x : Nat} → (hx : val 4294967296 (l.take n) = (x : Int)) → ref02_Clean_l4 n l (lim x) := by
  intro n
  induction n with
  | zero =>
    intro l hl hn hd x hx
    refine ref02_Clean_l4_go (.inr ⟨by simp, ?_⟩)
    have : (x : Int) = 0 := by rw [← hx]; rfl
    rw [show lim x = [] from lim_nil.2 (by omega)]; rfl
  | succ n ih =>
    intro l hl hn hd x hx
    have hw : wi (((n + 1 : Nat) : Int) - 1) = (n : Int) := w_pred (by omega)
    refine ref02_Clean_l4_go (.inl ⟨by omega, ?_⟩)
    rw [hw]
    refine ⟨by omega, by omega, ?_⟩
    rw [Int.toNat_natCast]
    by_cases h : l.getD n 0 = 0
    · refine .inl ⟨h, by omega, ih l hl (by omega) hd ?_⟩
      have := val_take_succ 4294967296 l n (by omega)
      rw [h, Int.mul_zero, Int.add_zero] at this
      rw [← this, hx]
    · refine .inr ⟨h, ?_⟩
      refine (eq_lim (hd.take _) (norm_take (by omega) h) hx).symm
theorem ref_Clean_l3 (l : List Int) (hl : l.length ≤ 1000000) (hd : Dig 4294967296 l) {x : Nat} (hx : val 4294967296 l = (x : Int)) : ref02_Clean_l3 l (lim x) := by
  rcases Nat.eq_zero_or_pos l.length with h0 | h0
  · obtain rfl : l = [] := List.eq_nil_of_length_eq_zero h0
    refine ref02_Clean_l3_go (.inr ⟨by simp, ?_⟩)
    rw [val_nil] at hx
    exact lim_nil.2 (by omega)
  · obtain ⟨n, hn⟩ : ∃ n, l.length = n + 1 := ⟨l.length - 1, by omega⟩
    have hw : wi ((l.length : Int) - 1) = (n : Int) := by rw [hn]; exact w_pred (by omega)
    refine ref02_Clean_l3_go (.inl ⟨by omega, ?_⟩)
    rw [hw]
    refine ⟨by omega, by omega, ?_⟩
    rw [Int.toNat_natCast]
    by_cases h : l.getD n 0 = 0
    · refine .inl ⟨h, by omega, ref_Clean_l4 n l (by omega) (by omega) hd ?_⟩
      have := val_take_succ 4294967296 l n (by omega)
      rw [List.take_of_length_le (by omega), h, Int.mul_zero, Int.add_zero] at this
      rw [← this, hx]
    · refine .inr ⟨h, ?_⟩
      have := take_digs (b := 4294967296) (by omega) hd (n := n) (by omega) (fun j hj => getD_ge (by omega)) h hx
      rw [List.take_of_length_le (by omega)] at this
      exact this.symm
theorem ref_Clean_l0 (l : List Int) (hw : ∀ x ∈ l, 0 ≤ x) (n : Nat) (hn : n ≤ 1000) (hs : l.length ≤ 9223372036854775807) (d : Nat) : ∀ i : Nat, i + d = min l.length n →
    (i = 0 → ref02_Clean_l0 l (n : Int) (i : Int) (lim (cleaned l n))) ∧ (0 < i → ref02_Clean_l1 l (n : Int) (i : Int) ((l.take i).map (· % 4294967296)) (lim (cleaned l n))) := by
  have cl : ∀ i : Nat, i = min l.length n → val 4294967296 ((l.take i).map (· % 4294967296)) = (cleaned l n : Int) := by
    intro i hi
    have e : l.take n = l.take i := by
      rcases Nat.le_total n l.length with h | h
      · rw [hi, Nat.min_eq_right h]
      · rw [hi, Nat.min_eq_left h, List.take_of_length_le h, List.take_of_length_le (Nat.le_refl _)]
    unfold cleaned
    rw [e, toNat_val (by omega) (cleaned_dig _)]
  have last3 : ∀ i : Nat, i = min l.length n → ref02_Clean_l3 ((l.take i).map (· % 4294967296)) (lim (cleaned l n)) := fun i hi =>
    ref_Clean_l3 _ (by rw [List.length_map, List.length_take]; omega) (cleaned_dig _) (cl i hi)
  have last2 : 0 = min l.length n → ref02_Clean_l2 (lim (cleaned l n)) := fun hi => by
    have := cl 0 hi
    refine ref02_Clean_l2_go (lim_nil.2 ?_)
    have h0 : val 4294967296 ((l.take 0).map (· % 4294967296)) = 0 := rfl
    omega
  induction d with
  | zero =>
    intro i hi
    refine ⟨fun h => ?_, fun h => ?_⟩
    · subst h
      by_cases h : ((0 : Nat) : Int) < (l.length : Int)
      · exact ref02_Clean_l0_go (.inl ⟨h, .inr ⟨by omega, last2 (by omega)⟩⟩)
      · exact ref02_Clean_l0_go (.inr ⟨h, last2 (by omega)⟩)
    · by_cases h : (i : Int) < (l.length : Int)
      · exact ref02_Clean_l1_go (.inl ⟨h, .inr ⟨by omega, last3 i (by omega)⟩⟩)
      · exact ref02_Clean_l1_go (.inr ⟨h, last3 i (by omega)⟩)
  | succ d ih =>
    intro i hi
    have hi1 : i + 1 < 9223372036854775808 := by omega
    have hil : i < l.length := by omega
    have h0 : 0 ≤ l.getD i 0 := by
      rw [List.getD_eq_getElem?_getD, List.getElem?_eq_getElem hil]
      exact hw _ (List.getElem_mem hil)
    have e : (l.take i).map (· % 4294967296) ++ [l.getD i 0 % 4294967296] = (l.take (i + 1)).map (· % 4294967296) := by
      rw [take_snoc_getD l i hil, List.map_append]; rfl
    have key := (ih (i + 1) (by omega)).2 (by omega)
    refine ⟨fun h => ?_, fun h => ?_⟩
    · subst h
      refine ref02_Clean_l0_go (.inl ⟨by omega, .inl ⟨by omega, by omega, by omega, _, rfl, ?_⟩⟩)
      rw [w_succ hi1, Int.toNat_natCast, tm h0]
      rw [← e] at key
      exact key
    · refine ref02_Clean_l1_go (.inl ⟨by omega, .inl ⟨by omega, by omega, by rw [List.length_map, List.length_take]; omega, _, rfl, ?_⟩⟩)
      rw [w_succ hi1, Int.toNat_natCast, tm h0, e]
      exact key
theorem ref_Clean_is {l : List Int} (hw : ∀ x ∈ l, 0 ≤ x) {n : Nat} (hn : n ≤ 1000) (hs : l.length ≤ 9223372036854775807) : ref02_Clean_R l (n : Int) (lim (cleaned l n)) :=
  ref02_Clean_go ((ref_Clean_l0 l hw n hn hs (min l.length n) 0 (by omega)).1 rfl)
theorem cleaned_len (l : List Int) (n : Nat) : (lim (cleaned l n)).length ≤ n := by
  refine lim_len.2 ?_
  have h := val_lt (b := 4294967296) (by omega) (cleaned_dig (l.take n))
  rw [List.length_map, List.length_take] at h
  have h2 : (4294967296 : Int) ^ (min n l.length) ≤ 4294967296 ^ n := powb_mono (by omega) (Nat.min_le_left _ _)
  have h3 := toNat_val (b := 4294967296) (by omega) (cleaned_dig (l.take n))
  unfold cleaned
  have h4 : ((val 4294967296 ((l.take n).map (· % 4294967296))).toNat : Int) < (4294967296 : Int) ^ n := by omega
  rw [← pow32] at h4
  omega
theorem ref_Same_loop (l m : List Int) (hl : l.length = m.length) (hs : l.length ≤ 1000000000000000) (d : Nat) : ∀ i : Nat, i + d = l.length → l.take i = m.take i → ref02_Same_l0 l m (i : Int) (decide (l = m)) := by
  induction d with
  | zero =>
    intro i hi he
    rw [List.take_of_length_le (by omega), List.take_of_length_le (by omega)] at he
    rw [decide_eq_true he]
    exact ref02_Same_l0_go (.inr ⟨by omega, rfl⟩)
  | succ d ih =>
    intro i hi he
    have hi1 : i + 1 < 9223372036854775808 := by omega
    refine ref02_Same_l0_go (.inl ⟨by omega, by omega, by omega, ?_⟩)
    rw [Int.toNat_natCast, w_succ hi1]
    by_cases h : l.getD i 0 = m.getD i 0
    · refine .inl ⟨h, ih (i + 1) (by omega) ?_⟩
      rw [take_snoc_getD l i (by omega), take_snoc_getD m i (by omega), he, h]
    · exact .inr ⟨h, decide_eq_false (fun hlm => h (by rw [hlm]))⟩
theorem ref_Same_is (l m : List Int) (hs : l.length ≤ 1000000000000000) : ref02_Same_R l m (decide (l = m)) := by
  by_cases h : (l.length : Int) = (m.length : Int)
  · exact ref02_Same_go (.inl ⟨h, ref_Same_loop l m (by omega) hs l.length 0 (by omega) rfl⟩)
  · exact ref02_Same_go (.inr ⟨h, decide_eq_false (fun hlm => h (by rw [hlm]))⟩)
theorem ref_Same_refl (l : List Int) (hs : l.length ≤ 1000000000000000) : ref02_Same_R l l true := by
  have := ref_Same_is l l hs
  rwa [decide_eq_true rfl] at this
theorem alg_rmul (vp P R u v z x y c v0 V T : Int) (e : u + 10000 * v = T) (hT : c + z + x * y = T) (hv : vp + P * R * c = v0 + P * (x * V)) : vp + P * R * (u - z) + P * R * 10000 * v = v0 + P * (x * (V + R * y)) := by grind
theorem ref_Mul_carry {a b : List Int} (ha : Dig 10000 a) (hb : Dig 10000 b) (hs : a.length + b.length ≤ 100000000000) {r : List Int} {i : Nat} (hi : i < a.length) (T : Int) (hT : T < 10000 ^ (i + 1 + b.length))
    (hend : ∀ q : List Int, q.length = a.length + b.length + 1 → Dig 10000 q → val 10000 q = T → ref02_Mul_l0 a b ((i + 1 : Nat) : Int) q r) (d : Nat) : ∀ (n : Nat) (p : List Int) (c : Int),
    n + d = a.length + b.length + 1 → p.length = a.length + b.length + 1 → Dig 10000 p → 0 ≤ c → c < 10000 → val 10000 p + 10000 ^ n * c = T →
    ref02_Mul_l2 a b (i : Int) c (n : Int) p r := by
  induction d with
  | zero =>
    intro n p c hn hl hp h0 h1 hv
    have hv0 := val_nonneg (by omega) hp
    have hc : c = 0 := by
      rcases (show c = 0 ∨ 1 ≤ c by omega) with h | h
      · exact h
      · have h2 : (10000 : Int) ^ n * 1 ≤ 10000 ^ n * c := Int.mul_le_mul_of_nonneg_left h (Int.le_of_lt (powb_pos (by omega) n))
        have h3 : (10000 : Int) ^ (i + 1 + b.length) ≤ 10000 ^ n := powb_mono (by omega) (by omega)
        omega
    subst hc
    refine ref02_Mul_l2_go (.inr ⟨by omega, ?_⟩)
    have h3 : i + 1 < 9223372036854775808 := by omega
    rw [w_succ h3]
    exact hend p hl hp (by rw [← hv]; simp)
  | succ d ih =>
    intro n p c hn hl hp h0 h1 hv
    by_cases hc : c = 0
    · subst hc
      refine ref02_Mul_l2_go (.inr ⟨by omega, ?_⟩)
      have h3 : i + 1 < 9223372036854775808 := by omega
      rw [w_succ h3]
      exact hend p hl hp (by rw [← hv]; simp)
    · have gp := Dig.getD (by omega) hp n
      have h3 : n + 1 < 9223372036854775808 := by omega
      refine ref02_Mul_l2_go (.inl ⟨by omega, by omega, by omega, _, rfl, ?_⟩)
      rw [w_succ h3, Int.toNat_natCast, s64i (n := c + p.getD n 0) (by omega) (by omega), td (by omega), tm (by omega), s64i (by omega) (by omega)]
      refine ih (n + 1) _ _ (by omega) (by rw [List.length_set]; exact hl) (hp.set (by omega) _) (by omega) (by omega) ?_
      rw [val_set _ _ _ _ (by omega), Int.pow_succ]
      have e : (c + p.getD n 0) % 10000 + 10000 * ((c + p.getD n 0) / 10000) = c + p.getD n 0 := by omega
      generalize (c + p.getD n 0) % 10000 = u at e ⊢
      generalize (c + p.getD n 0) / 10000 = v at e ⊢
      generalize (10000 : Int) ^ n = P at hv ⊢
      generalize p.getD n 0 = z at e ⊢
      rw [← hv, Int.mul_assoc, Int.add_assoc, ← Int.mul_add, show u - z + 10000 * v = c by omega]
theorem ref_Mul_inner {a b : List Int} (ha : Dig 10000 a) (hb : Dig 10000 b) (hs : a.length + b.length ≤ 100000000000) {r : List Int} {i : Nat} (hi : i < a.length) (p0 : List Int) (hT : val 10000 p0 + 10000 ^ i * (a.getD i 0 * val 10000 b) < 10000 ^ (i + 1 + b.length))
    (hend : ∀ q : List Int, q.length = a.length + b.length + 1 → Dig 10000 q → val 10000 q = val 10000 p0 + 10000 ^ i * (a.getD i 0 * val 10000 b) → ref02_Mul_l0 a b ((i + 1 : Nat) : Int) q r) (d : Nat) : ∀ (j : Nat) (p : List Int) (c : Int),
    j + d = b.length → p.length = a.length + b.length + 1 → Dig 10000 p → 0 ≤ c → c < 10000 → val 10000 p + 10000 ^ (i + j) * c = val 10000 p0 + 10000 ^ i * (a.getD i 0 * val 10000 (b.take j)) →
    ref02_Mul_l1 a b (i : Int) c (j : Int) p r := by
  induction d with
  | zero =>
    intro j p c hj hl hp h0 h1 hv
    obtain rfl : j = b.length := by omega
    have hij : i + b.length < 9223372036854775808 := by omega
    rw [List.take_of_length_le (Nat.le_refl _)] at hv
    refine ref02_Mul_l1_go (.inr ⟨by omega, ?_⟩)
    rw [w_add hij]
    exact (ref_Mul_carry ha hb hs hi _ hT hend (a.length + b.length + 1 - (i + b.length)) (i + b.length) p c (by omega) hl hp h0 h1 hv)
  | succ d ih =>
    intro j p c hj hl hp h0 h1 hv
    have hij : i + j < p.length := by omega
    have hij2 : i + j < 9223372036854775808 := by omega
    have hj2 : j + 1 < 9223372036854775808 := by omega
    refine ref02_Mul_l1_go (.inl ⟨by omega, w_add_nn hij2, w_add_lt hij2 hij, by omega, by omega, by omega, _, rfl, _, rfl, ?_⟩)
    rw [w_add hij2, w_succ hj2, Int.toNat_natCast, Int.toNat_natCast, Int.toNat_natCast]
    have ga := Dig.getD (by omega) ha i
    have gb := Dig.getD (by omega) hb j
    have gp := Dig.getD (by omega) hp (i + j)
    have hxy0 := mul_nn ga.1 gb.1
    have hxy1 : a.getD i 0 * b.getD j 0 ≤ 9999 * 9999 := mul_le_ ga.1 (by omega) gb.1 (by omega)
    obtain ⟨T, hT'⟩ : ∃ T, c + p.getD (i + j) 0 + a.getD i 0 * b.getD j 0 = T := ⟨_, rfl⟩
    rw [s64i (n := a.getD i 0 * b.getD j 0) (by omega) (by omega), s64i (n := c + p.getD (i + j) 0) (by omega) (by omega), hT']
    have hT0 : 0 ≤ T ∧ T < 100000000 := by omega
    clear hxy0 hxy1
    rw [s64i (n := T) (by omega) (by omega), td hT0.1, tm hT0.1, s64i (by omega) (by omega)]
    refine ih (j + 1) _ _ (by omega) (by rw [List.length_set]; exact hl) (hp.set (by omega) _) (by omega) (by omega) ?_
    rw [val_set _ _ _ _ hij, val_take_succ', ← Nat.add_assoc, Int.pow_succ]
    have e : T % 10000 + 10000 * (T / 10000) = T := by omega
    have hpw : (10000 : Int) ^ (i + j) = 10000 ^ i * 10000 ^ j := Int.pow_add ..
    rw [hpw] at hv ⊢
    exact alg_rmul _ _ _ _ _ _ _ _ _ _ _ _ e hT' hv
theorem ref_Mul_loop {a b : List Int} (ha : Dig 10000 a) (hb : Dig 10000 b) (hs : a.length + b.length ≤ 100000000000) {x : Nat} (hx : val 10000 a * val 10000 b = (x : Int)) (d : Nat) : ∀ (i : Nat) (p : List Int),
    i + d = a.length → p.length = a.length + b.length + 1 → Dig 10000 p → val 10000 p = val 10000 (a.take i) * val 10000 b →
    ref02_Mul_l0 a b (i : Int) p (ten x) := by
  induction d with
  | zero =>
    intro i p hi hl hp hv
    refine ref02_Mul_l0_go (.inr ⟨by omega, _, ref_Trim_is hp (by omega) ?_, rfl⟩)
    rw [hv, List.take_of_length_le (by omega), hx]
  | succ d ih =>
    intro i p hi hl hp hv
    refine ref02_Mul_l0_go (.inl ⟨by omega, ?_⟩)
    have hnew : val 10000 p + 10000 ^ i * (a.getD i 0 * val 10000 b) = val 10000 (a.take (i + 1)) * val 10000 b := by
      rw [hv, val_take_succ', Int.add_mul, Int.mul_assoc]
    refine ref_Mul_inner ha hb hs (i := i) (by omega) p ?_ ?_ b.length 0 p 0 (by omega) hl hp (by omega) (by omega) (by simp [val])
    · rw [hnew, Int.pow_add]
      have h1 := val_lt (b := 10000) (by omega) (ha.take (i + 1))
      rw [List.length_take, Nat.min_eq_left (by omega)] at h1
      have h2 := val_lt (b := 10000) (by omega) hb
      have h3 := val_nonneg (b := 10000) (by omega) (ha.take (i + 1))
      have h4 := val_nonneg (b := 10000) (by omega) hb
      exact mul_lt2 h3 h1 h4 h2
    · intro q hq hqd hqv
      exact ih (i + 1) q (by omega) hq hqd (by rw [hqv, hnew])
theorem ref_Mul_is {x y : Nat} (hs : (ten x).length + (ten y).length ≤ 100000000000) : ref02_Mul_R (ten x) (ten y) (ten (x * y)) := by
  have h1 : (ten x).length + (ten y).length < 9223372036854775808 := by omega
  have h2 : (ten x).length + (ten y).length + 1 < 9223372036854775808 := by omega
  refine ref02_Mul_go ?_
  rw [w_add h1, w_succ h2, Int.toNat_natCast]
  refine ⟨by omega, by omega, _, rfl, ?_⟩
  refine ref_Mul_loop (ten_dig x) (ten_dig y) hs (by rw [ten_val, ten_val, Int.natCast_mul]) (ten x).length 0 _ (by omega) (by rw [List.length_replicate]) (Dig.zeros (by omega) _) ?_
  rw [val_zeros]; simp [val]
end Go.Proofs.YtmdgdgfhgaeddaaGreatA
