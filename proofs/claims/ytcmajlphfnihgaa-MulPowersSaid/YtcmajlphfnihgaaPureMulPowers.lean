/- The law of powers and products: its function answers true, whatever the input. -/
import Derived.Test.YtcmajlphfnihgaaP7
import Derived.Test.YtcmajlphfnihgaaWlaw03MulPowers
set_option linter.unusedVariables false
set_option linter.unusedSimpArgs false
namespace Go.Proofs.YtcmajlphfnihgaaA
open Go
def Words (l : List Int) : Prop := l.length ≤ 9223372036854775807 ∧ ∀ x ∈ l, 0 ≤ x
theorem getD_words {l : List (List Int)} (hl : ∀ m ∈ l, Words m) (i : Nat) (h : i < l.length) : Words (l.getD i []) := by
  rw [List.getD_eq_getElem?_getD, List.getElem?_eq_getElem h]; exact hl _ (List.getElem_mem h)
theorem mp_loop {l : List (List Int)} (hl : ∀ m ∈ l, Words m) {c : List Int} {e : Int} (hc : c.length ≤ 1000000000000000) (d : Nat) : ∀ (i : Nat) (ys : List Nat), i + d = min l.length 6 → ys.length = i → (∀ y ∈ ys, (lim y).length ≤ 6) → (lim (prodN 1 ys)).length ≤ 1 + 6 * i →
    law03_MulPowers_l1 l c e c e (lim (prodN 1 ys)) (i : Int) (ys.map lim) true := by
  induction d with
  | zero =>
    intro i ys hi hy hs hw
    have t1 := ref_Same_refl c hc
    have t2 := mul_Product_is hs (by omega)
    have t3 := ref_Same_refl (lim (prodN 1 ys)) (by omega)
    by_cases h : (i : Int) < (l.length : Int)
    · exact law03_MulPowers_l1_go (.inl ⟨h, .inr ⟨by omega, true, t1, .inl ⟨rfl, .inl ⟨rfl, _, t2, true, t3, .inl ⟨rfl, true, mul_works, rfl⟩⟩⟩⟩⟩)
    · exact law03_MulPowers_l1_go (.inr ⟨h, true, t1, .inl ⟨rfl, .inl ⟨rfl, _, t2, true, t3, .inl ⟨rfl, true, mul_works, rfl⟩⟩⟩⟩)
  | succ d ih =>
    intro i ys hi hy hs hw
    have hil : i < l.length := by omega
    have hi1 : i + 1 < 9223372036854775808 := by omega
    have hm := getD_words hl i hil
    have hcl := ref_Clean_is (l := l.getD i []) hm.2 (n := 6) (by omega) hm.1
    have hlen := cleaned_len (l.getD i []) 6
    generalize cleaned (l.getD i []) 6 = y at hcl hlen
    have hmul := ref03_Mul_is (x := prodN 1 ys) (y := y) (N := 100) (by omega) (by omega) (by omega)
    rw [← prodN_snoc] at hmul
    have hnew := lim_mul_len hw hlen
    rw [← prodN_snoc] at hnew
    refine law03_MulPowers_l1_go (.inl ⟨by omega, .inl ⟨by omega, by omega, lim y, by rw [Int.toNat_natCast]; exact hcl, by rw [List.length_map]; omega, _, rfl, _, hmul, ?_⟩⟩)
    rw [w_succ hi1, show ys.map lim ++ [lim y] = (ys ++ [y]).map lim by rw [List.map_append]; rfl]
    refine ih (i + 1) (ys ++ [y]) (by omega) (by rw [List.length_append, hy]; rfl) ?_ (by omega)
    intro z hz
    rcases List.mem_append.1 hz with h | h
    · exact hs z h
    · rw [List.mem_singleton.1 h]; exact hlen
theorem mp_start {l : List (List Int)} (hl : ∀ m ∈ l, Words m) {c : List Int} {e : Int} (hc : c.length ≤ 1000000000000000) : law03_MulPowers_l0 l c e c e [1] 0 true := by
  have h1 : lim 1 = ([1] : List Int) := digs_one (b := 4294967296) (x := 1) (by decide) (by decide) (by decide)
  have t1 := ref_Same_refl c hc
  by_cases h : 0 < l.length
  · have hm := getD_words hl 0 h
    have hcl := ref_Clean_is (l := l.getD 0 []) hm.2 (n := 6) (by omega) hm.1
    have hlen := cleaned_len (l.getD 0 []) 6
    generalize cleaned (l.getD 0 []) 6 = y at hcl hlen
    have hmul := ref03_Mul_is (x := 1) (y := y) (N := 100) (Nat.le_trans (lim_len_one (by omega)) (by omega)) (by omega) (by omega)
    rw [h1] at hmul
    refine law03_MulPowers_l0_go (.inl ⟨by omega, .inl ⟨by omega, by omega, lim y, hcl, by omega, _, rfl, _, hmul, ?_⟩⟩)
    rw [s64i (n := 0 + 1) (by omega) (by omega)]
    exact mp_loop hl hc (min l.length 6 - 1) 1 [y] (by omega) rfl (fun z hz => by rw [List.mem_singleton.1 hz]; exact hlen) (by
      show (lim (1 * y)).length ≤ 1 + 6 * 1
      rw [Nat.one_mul]; omega)
  · have t2 := mul_Product_is (ys := []) (fun y hy => by cases hy) (by simp)
    have t3 := ref_Same_refl (lim (prodN 1 [])) (by rw [show prodN 1 [] = 1 from rfl, h1]; simp)
    have e1 : lim (prodN 1 []) = [1] := h1
    rw [e1] at t2 t3
    exact law03_MulPowers_l0_go (.inr ⟨by omega, true, t1, .inl ⟨rfl, .inl ⟨rfl, _, t2, true, t3, .inl ⟨rfl, true, mul_works, rfl⟩⟩⟩⟩)
theorem MulPowers_true {a : List Int} {n : Int} {l : List (List Int)} (ha : Words a) (hl : ∀ m ∈ l, Words m) : law03_MulPowers_R a n l true := by
  refine law03_MulPowers_go ⟨_, ref_Clean_is ha.2 (n := 3) (by omega) ha.1, ?_⟩
  have hx := cleaned_len a 3
  generalize cleaned a 3 = x at hx ⊢
  have small : ∀ k : Nat, k ≤ 30 → mul_Pow_R (lim x) (k : Int) (lim (x ^ k)) 0 ∧ ref03_Pow_R (lim x) (k : Int) (lim (x ^ k)) 0 ∧ (lim (x ^ k)).length ≤ 1000000000000000 := fun k hk => by
    have := lim_pow_len hx k
    exact ⟨mul_Pow_is hx (by omega) (by omega), ref03_Pow_is hx (by omega) (by omega) (by omega), by omega⟩
  by_cases h1 : 30 < n
  · by_cases h2 : n ≤ 10000
    · have e : n.tmod 31 = ((n.toNat % 31 : Nat) : Int) := by rw [tm (by omega)]; omega
      rw [e]
      obtain ⟨s1, s2, s3⟩ := small (n.toNat % 31) (by omega)
      exact .inl ⟨h1, .inl ⟨h2, _, _, s1, _, _, s2, mp_start hl s3⟩⟩
    · exact .inl ⟨h1, .inr ⟨h2, [], 2, mul_Pow_go (.inr ⟨by omega, .inl ⟨by omega, rfl, rfl⟩⟩), [], 2, ref03_Pow_go (.inr ⟨by omega, .inl ⟨by omega, rfl, rfl⟩⟩), mp_start hl (by simp)⟩⟩
  · by_cases h2 : n < 0
    · exact .inr ⟨h1, [], 2, mul_Pow_go (.inl ⟨h2, rfl, rfl⟩), [], 2, ref03_Pow_go (.inl ⟨h2, rfl, rfl⟩), mp_start hl (by simp)⟩
    · obtain ⟨k, hk⟩ := Int.eq_ofNat_of_zero_le (show 0 ≤ n by omega)
      subst hk
      obtain ⟨s1, s2, s3⟩ := small k (by omega)
      exact .inr ⟨h1, _, _, s1, _, _, s2, mp_start hl s3⟩
end Go.Proofs.YtcmajlphfnihgaaA
