/- The bits of any limb are counted, and the greatest common divisor of any two is told, as the document says. No condition. -/
import Derived.Test.YthcgncopgbcjcaaPLimbBitsx1
import Derived.Test.YthcgncopgbcjcaaBase
set_option linter.unusedVariables false
set_option linter.unusedSimpArgs false
namespace Go.Proofs.Ythcgncopgbcjcaa.Pure
open Go Go.RowKit Go.Proofs.Ythcgncopgbcjcaa.PLimbBits Go.Proofs.YthcgncopgbcjcaaW.PrintWords Go.Proofs.YthcgncopgbcjcaaW.PrintLast Go.Proofs.YthcgncopgbcjcaaW.PrintMore Go.Proofs.Ythcgncopgbcjcaa.B

theorem limb_Mul_is {a b c d : Int} (ha : 0 ≤ a ∧ a < 18446744073709551616) (hb : 0 ≤ b ∧ b < 18446744073709551616) (hc : 0 ≤ c ∧ c < 18446744073709551616) (hd : 0 ≤ d ∧ d < 18446744073709551616) :
    limb_Mul.f a b c d = some ((a % 4294967296 * (b % 4294967296) + c % 4294967296 + d % 4294967296) % 4294967296, (a % 4294967296 * (b % 4294967296) + c % 4294967296 + d % 4294967296) / 4294967296) := by
  unfold limb_Mul.f
  rw [and32 ha.1 ha.2, and32 hb.1 hb.2, and32 hc.1 hc.2, and32 hd.1 hd.2]
  have hp := prod32 (x := a % 4294967296) (y := b % 4294967296) (by omega) (by omega) (by omega) (by omega)
  rw [w64i (n := a % 4294967296 * (b % 4294967296)) (by omega) (by omega), w64i (n := a % 4294967296 * (b % 4294967296) + c % 4294967296) (by omega) (by omega), w64i (n := a % 4294967296 * (b % 4294967296) + c % 4294967296 + d % 4294967296) (by omega) (by omega), and32 (by omega) (by omega)]

theorem limb_Div_is {hi lo d : Int} (ha : 0 ≤ hi ∧ hi < 18446744073709551616) (hb : 0 ≤ lo ∧ lo < 18446744073709551616) (hc : 0 ≤ d ∧ d < 18446744073709551616) :
    limb_Div.f hi lo d = if d % 4294967296 = 0 then some (0, 0, 3) else if hi % 4294967296 ≥ d % 4294967296 then some (0, 0, 2) else
      some ((hi % 4294967296 * 4294967296 + lo % 4294967296) / (d % 4294967296), (hi % 4294967296 * 4294967296 + lo % 4294967296) % (d % 4294967296), 0) := by
  unfold limb_Div.f
  rw [and32 ha.1 ha.2, and32 hb.1 hb.2, and32 hc.1 hc.2]
  by_cases h0 : d % 4294967296 = 0
  · rw [if_pos h0, if_pos h0]
  · rw [if_neg h0, if_neg h0]
    by_cases h1 : hi % 4294967296 ≥ d % 4294967296
    · rw [if_pos h1, if_pos h1]
    · rw [if_neg h1, if_neg h1, w64i (n := hi % 4294967296 * 4294967296) (by omega) (by omega), or32 (by omega) (by omega) (by omega) (by omega) (by omega)]
      have hn : 0 ≤ hi % 4294967296 * 4294967296 + lo % 4294967296 := by omega
      rw [Int.tdiv_eq_ediv_of_nonneg hn, Int.tmod_eq_emod_of_nonneg hn]
      have hd : 0 < d % 4294967296 := by omega
      have hq := Int.ediv_nonneg hn (Int.le_of_lt hd)
      have hl := Int.ediv_le_self (d % 4294967296) hn
      rw [w64i hq (by omega)]

theorem works_true : triviumlaw01_works.f = some true := by
  unfold triviumlaw01_works.f
  rw [limb_Mul_is (by omega) (by omega) (by omega) (by omega), limb_Div_is (by omega) (by omega) (by omega)]
  decide


/-- m is how many bits v needs. -/
def Len (v : Int) (m : Nat) : Prop := v < 2 ^ m ∧ (m = 0 ∨ 2 ^ (m - 1) ≤ v)
theorem Len.unique {v : Int} {m n : Nat} (h : Len v m) (g : Len v n) (hv : 0 ≤ v) : m = n := by
  have aux : ∀ {m n : Nat}, Len v m → Len v n → ¬ m < n := by
    intro m n h g hlt
    have h1 := h.1
    rcases g.2 with h2 | h2
    · omega
    · have := pow_mono' (m := m) (n := n - 1) (by omega)
      omega
  have := aux h g
  have := aux g h
  omega
theorem limb_Bits_loop (a : Int) (ha : 0 ≤ a ∧ a < 18446744073709551616) (d : Nat) : ∀ (k i m : Nat), i + d = 32 → d < k → m ≤ i → Len (a % 2 ^ i) m →
    ∃ n : Nat, limb_Bits.l0 k a m i = some (n : Int) ∧ n ≤ 32 ∧ Len (a % 4294967296) n := by
  induction d with
  | zero =>
    intro k i m hi hk hm h
    obtain ⟨k, rfl⟩ : ∃ m, k = m + 1 := ⟨k - 1, by omega⟩
    obtain rfl : i = 32 := by omega
    refine ⟨m, ?_, hm, by simpa using h⟩
    simp only [limb_Bits.l0]
    rw [if_neg (by omega)]
  | succ d ih =>
    intro k i m hi hk hm h
    obtain ⟨k, rfl⟩ : ∃ m, k = m + 1 := ⟨k - 1, by omega⟩
    simp only [limb_Bits.l0]
    have hs : shr .u64 a (i : Int) = a / 2 ^ i := by
      unfold shr
      rw [shr_nat a i (by omega) (by omega)]; rfl
    have hp := pow_pos' i
    have hq0 : 0 ≤ a / 2 ^ i := Int.ediv_nonneg ha.1 (Int.le_of_lt hp)
    have hq1 : a / 2 ^ i ≤ a := Int.ediv_le_self _ ha.1
    rw [if_pos (by omega), if_pos (by omega), hs, and1 hq0 (by omega), s64i (n := (i : Int) + 1) (by omega) (by omega)]
    have hr0 := Int.emod_nonneg a (show (2 : Int) ^ i ≠ 0 by omega)
    have hr1 := Int.emod_lt_of_pos a hp
    have hsplit : a % 2 ^ (i + 1) = a / 2 ^ i % 2 * 2 ^ i + a % 2 ^ i := by
      refine (divmod_unique (q := a / 2 ^ i / 2) ?_ ?_ ?_).2
      · have h1 := Int.mul_ediv_add_emod a (2 ^ i)
        have h2 := Int.mul_ediv_add_emod (a / 2 ^ i) 2
        rw [Int.pow_succ]
        grind
      · have := mul_nn (x := a / 2 ^ i % 2) (y := 2 ^ i) (by omega) (by omega)
        omega
      · rw [Int.pow_succ]
        have : a / 2 ^ i % 2 * 2 ^ i ≤ 1 * 2 ^ i := Int.mul_le_mul_of_nonneg_right (by omega) (by omega)
        omega
    have hi1 : ((i : Int) + 1) = ((i + 1 : Nat) : Int) := by omega
    by_cases hb : a / 2 ^ i % 2 = 1
    · rw [if_pos hb, hi1]
      refine ih k (i + 1) (i + 1) (by omega) (by omega) (by omega) ⟨?_, .inr ?_⟩
      · rw [hsplit, hb, Int.pow_succ]; omega
      · rw [hsplit, hb]; simp only [Nat.add_sub_cancel]; omega
    · rw [if_neg hb, hi1]
      have hb0 : a / 2 ^ i % 2 = 0 := by omega
      refine ih k (i + 1) m (by omega) (by omega) (by omega) ?_
      rw [hsplit, hb0, Int.zero_mul, Int.zero_add]; exact h
theorem limb_Bits_is (k : Nat) (hk : 32 < k) {a : Int} (ha : 0 ≤ a ∧ a < 18446744073709551616) : ∃ n : Nat, limb_Bits.f k a = some (n : Int) ∧ n ≤ 32 ∧ Len (a % 4294967296) n := by
  unfold limb_Bits.f
  exact limb_Bits_loop a ha 32 k 0 0 (by omega) hk (by omega) ⟨by simp [Int.emod_one], .inl rfl⟩

theorem ref_Bits_loop (d : Nat) : ∀ (k : Nat) (a n : Int), 0 ≤ a → a < 2 ^ d → a < 4294967296 → d < k → 0 ≤ n → n + d ≤ 1000 →
    ∃ m : Nat, triviumref01_Bits.l0 k a n = some (n + m) ∧ Len a m := by
  induction d with
  | zero =>
    intro k a n ha0 ha ha2 hk hn hn2
    obtain ⟨k, rfl⟩ : ∃ m, k = m + 1 := ⟨k - 1, by omega⟩
    have : a = 0 := by simp at ha; omega
    subst this
    refine ⟨0, ?_, by simp [Len]⟩
    simp only [triviumref01_Bits.l0]; simp
  | succ d ih =>
    intro k a n ha0 ha ha2 hk hn hn2
    obtain ⟨k, rfl⟩ : ∃ m, k = m + 1 := ⟨k - 1, by omega⟩
    simp only [triviumref01_Bits.l0]
    by_cases h : a > 0
    · rw [Int.pow_succ] at ha
      obtain ⟨m, e, h1, h2⟩ := ih k (a / 2) (n + 1) (by omega) (by omega) (by omega) (by omega) (by omega) (by omega)
      rw [if_pos h, td ha0, w64i (n := a / 2) (by omega) (by omega), s64i (n := n + 1) (by omega) (by omega), e]
      refine ⟨m + 1, by congr 1; omega, ?_, .inr ?_⟩
      · rw [Int.pow_succ]; omega
      · simp only [Nat.add_sub_cancel]
        rcases h2 with rfl | h2
        · simp; omega
        · have e2 : (2 : Int) ^ m = 2 ^ (m - 1) * 2 ∨ m = 0 := by
            cases m with
            | zero => exact .inr rfl
            | succ m => left; simp [Int.pow_succ]
          rcases e2 with e2 | rfl
          · omega
          · simp; omega
    · have : a = 0 := by omega
      subst this
      refine ⟨0, ?_, by simp [Len]⟩
      rw [if_neg h]; simp
/-- Below place r all bits are 0, and there is a 1 there, or r is 32. -/
def Low (a : Int) (r : Nat) : Prop := r ≤ 32 ∧ a % 2 ^ r = 0 ∧ (r = 32 ∨ a / 2 ^ r % 2 = 1)
theorem pow_split {i j : Nat} (h : i < j) : ∃ c : Int, (2 : Int) ^ j = 2 ^ i * 2 * c := ⟨2 ^ (j - i - 1), by rw [Int.mul_assoc, ← Int.pow_succ', ← Int.pow_add]; congr 1; omega⟩
theorem Low.unique {a : Int} {r s : Nat} (h : Low a r) (g : Low a s) : r = s := by
  have aux : ∀ {r s : Nat}, Low a r → Low a s → ¬ r < s := by
    intro r s h g hlt
    obtain ⟨c, hc⟩ := pow_split hlt
    have hp := pow_pos' r
    have h1 := Int.mul_ediv_add_emod a (2 ^ s)
    rw [g.2.1, hc, Int.add_zero, Int.mul_assoc, Int.mul_assoc] at h1
    have h2 : a / 2 ^ r = 2 * (c * (a / 2 ^ s)) := by
      conv => lhs; rw [← h1]
      rw [hc]
      exact Int.mul_ediv_cancel_left _ (by omega)
    rcases h.2.2 with h3 | h3
    · have := g.1; omega
    · omega
  have := aux h g
  have := aux g h
  omega
theorem limb_Zeros_loop (a : Int) (ha : 0 ≤ a ∧ a < 18446744073709551616) (d : Nat) : ∀ (k i : Nat), i + d = 32 → d < k → a % 2 ^ i = 0 →
    ∃ n : Nat, limb_Zeros.l0 k a i = some (n : Int) ∧ Low a n := by
  induction d with
  | zero =>
    intro k i hi hk h
    obtain ⟨k, rfl⟩ : ∃ m, k = m + 1 := ⟨k - 1, by omega⟩
    obtain rfl : i = 32 := by omega
    refine ⟨32, ?_, by omega, h, .inl rfl⟩
    simp only [limb_Zeros.l0]
    rw [if_neg (by omega)]; rfl
  | succ d ih =>
    intro k i hi hk h
    obtain ⟨k, rfl⟩ : ∃ m, k = m + 1 := ⟨k - 1, by omega⟩
    simp only [limb_Zeros.l0]
    have hs : shr .u64 a (i : Int) = a / 2 ^ i := by
      unfold shr
      rw [shr_nat a i (by omega) (by omega)]; rfl
    have hp := pow_pos' i
    have hq0 : 0 ≤ a / 2 ^ i := Int.ediv_nonneg ha.1 (Int.le_of_lt hp)
    have hq1 : a / 2 ^ i ≤ a := Int.ediv_le_self _ ha.1
    rw [if_pos (by omega), if_pos (by omega), hs, and1 hq0 (by omega)]
    by_cases hb : a / 2 ^ i % 2 = 1
    · rw [if_pos hb]
      exact ⟨i, rfl, by omega, h, .inr hb⟩
    · rw [if_neg hb, s64i (n := (i : Int) + 1) (by omega) (by omega)]
      have hi1 : ((i : Int) + 1) = ((i + 1 : Nat) : Int) := by omega
      rw [hi1]
      refine ih k (i + 1) (by omega) (by omega) ?_
      have h1 := Int.mul_ediv_add_emod a (2 ^ i)
      have h2 := Int.mul_ediv_add_emod (a / 2 ^ i) 2
      have hb0 : a / 2 ^ i % 2 = 0 := by omega
      rw [h, Int.add_zero] at h1
      rw [hb0, Int.add_zero] at h2
      refine (divmod_unique (q := a / 2 ^ i / 2) ?_ (by omega) (by rw [Int.pow_succ]; omega)).2
      rw [Int.pow_succ]; grind
theorem ref_Zeros_loop (a : Int) (ha : 0 ≤ a ∧ a < 18446744073709551616) (d : Nat) : ∀ (k i : Nat), i + d = 32 → d < k → a % 2 ^ i = 0 →
    ∃ n : Nat, triviumref01_Zeros.l0 k (a / 2 ^ i) i = some (n : Int) ∧ Low a n := by
  induction d with
  | zero =>
    intro k i hi hk h
    obtain ⟨k, rfl⟩ : ∃ m, k = m + 1 := ⟨k - 1, by omega⟩
    obtain rfl : i = 32 := by omega
    refine ⟨32, ?_, by omega, h, .inl rfl⟩
    simp only [triviumref01_Zeros.l0]
    rw [if_neg (by omega)]
  | succ d ih =>
    intro k i hi hk h
    obtain ⟨k, rfl⟩ : ∃ m, k = m + 1 := ⟨k - 1, by omega⟩
    simp only [triviumref01_Zeros.l0]
    have hp := pow_pos' i
    have hq0 : 0 ≤ a / 2 ^ i := Int.ediv_nonneg ha.1 (Int.le_of_lt hp)
    have hq1 : a / 2 ^ i ≤ a := Int.ediv_le_self _ ha.1
    rw [if_pos (by omega), tm hq0]
    by_cases hb : a / 2 ^ i % 2 = 0
    · rw [if_pos hb, td hq0, w64i (n := a / 2 ^ i / 2) (by omega) (by omega), s64i (n := (i : Int) + 1) (by omega) (by omega)]
      have hi1 : ((i : Int) + 1) = ((i + 1 : Nat) : Int) := by omega
      have hq : a / 2 ^ i / 2 = a / 2 ^ (i + 1) := by rw [Int.pow_succ, Int.ediv_ediv_of_nonneg (by omega)]
      rw [hi1, hq]
      refine ih k (i + 1) (by omega) (by omega) ?_
      have h1 := Int.mul_ediv_add_emod a (2 ^ i)
      have h2 := Int.mul_ediv_add_emod (a / 2 ^ i) 2
      rw [h, Int.add_zero] at h1
      rw [hb, Int.add_zero] at h2
      refine (divmod_unique (q := a / 2 ^ i / 2) ?_ (by omega) (by rw [Int.pow_succ]; omega)).2
      rw [Int.pow_succ]; grind
    · rw [if_neg hb]
      exact ⟨i, rfl, by omega, h, .inr (by omega)⟩
theorem Gcd_loops (d : Nat) : ∀ (k : Nat) (a b : Int), 0 ≤ a → a < 4294967296 → 0 ≤ b → b < 4294967296 → b.toNat ≤ d → d < k → ∃ g, limb_Gcd.l0 k a b = some g ∧ triviumref01_Gcd.l0 k a b = some g := by
  induction d with
  | zero =>
    intro k a b ha0 ha hb0 hb hd hk
    obtain ⟨k, rfl⟩ : ∃ m, k = m + 1 := ⟨k - 1, by omega⟩
    have : b = 0 := by omega
    subst this
    exact ⟨a, by simp [limb_Gcd.l0], by simp [triviumref01_Gcd.l0]⟩
  | succ d ih =>
    intro k a b ha0 ha hb0 hb hd hk
    obtain ⟨k, rfl⟩ : ∃ m, k = m + 1 := ⟨k - 1, by omega⟩
    by_cases h : b = 0
    · subst h
      exact ⟨a, by simp [limb_Gcd.l0], by simp [triviumref01_Gcd.l0]⟩
    · have hb1 : 0 < b := by omega
      have hr0 := Int.emod_nonneg a h
      have hr1 := Int.emod_lt_of_pos a hb1
      obtain ⟨g, e1, e2⟩ := ih k b (a % b) hb0 hb hr0 (by omega) (by omega) (by omega)
      refine ⟨g, ?_, ?_⟩
      · simp only [limb_Gcd.l0]
        simp only [tm ha0, h, hb1, if_true, if_false, ne_eq, not_false_eq_true, gt_iff_lt]
        exact e1
      · simp only [triviumref01_Gcd.l0]
        simp only [tm ha0, h, hb1, if_true, if_false, ne_eq, not_false_eq_true, gt_iff_lt]
        exact e2
theorem LimbBits : triviumlaw01_LimbBits.Pure := by
  intro a b ha hb
  have ha := wf_u64 ha
  have hb := wf_u64 hb
  obtain ⟨K, hK⟩ : ∃ K : Nat, 4294967296 < K := ⟨4294967296 + 1, Nat.lt_succ_self _⟩
  refine ⟨K, ?_⟩
  obtain ⟨n, e1, _, e2⟩ := limb_Bits_is K (by omega) ha
  have hlt : a % 4294967296 < 2 ^ 32 := by
    have : (2 : Int) ^ 32 = 4294967296 := by decide
    rw [this]; omega
  obtain ⟨m, e3, e4⟩ := ref_Bits_loop 32 K (a % 4294967296) 0 (by omega) (show a % 4294967296 < 2 ^ 32 from hlt) (by omega) (by omega) (by omega) (by omega)
  have h1 : n = m := e2.unique e4 (by omega)
  subst h1
  obtain ⟨r, e5, e6⟩ := limb_Zeros_loop a ha 32 K 0 (by omega) (by omega) (by simp [Int.emod_one])
  obtain ⟨s, e7, e8⟩ := ref_Zeros_loop a ha 32 K 0 (by omega) (by omega) (by simp [Int.emod_one])
  have h2 : r = s := e6.unique e8
  subst h2
  obtain ⟨g, e9, e10⟩ := Gcd_loops 4294967296 K (a % 4294967296) (b % 4294967296) (by omega) (by omega) (by omega) (by omega) (by omega) (by omega)
  unfold triviumlaw01_LimbBits.f triviumref01_Bits.f limb_Zeros.f triviumref01_Zeros.f limb_Gcd.f triviumref01_Gcd.f
  have e5 : limb_Zeros.l0 K a 0 = some (r : Int) := e5
  have e7 : triviumref01_Zeros.l0 K a 0 = some (r : Int) := by simpa using e7
  rw [e1]
  simp only [Option.bind_some]
  rw [tm ha.1, tm hb.1, e3, and32 ha.1 ha.2, and32 hb.1 hb.2, e9, e10]
  simp only [Option.bind_some]
  rw [if_pos (by omega)]
  rw [e5, e7]
  simp only [Option.bind_some, if_true, works_true]

end Go.Proofs.Ythcgncopgbcjcaa.Pure
