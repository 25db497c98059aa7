/- Any two limbs are divided by a third one as the document says, or refused: the program's quotient, rest and error equal the reference's. No condition. -/
import Derived.Test.YthcgncopgbcjcaaPLimbDivsx1
import Derived.Test.YthcgncopgbcjcaaBase
set_option linter.unusedVariables false
set_option linter.unusedSimpArgs false
namespace Go.Proofs.Ythcgncopgbcjcaa.Pure
open Go Go.RowKit Go.Proofs.Ythcgncopgbcjcaa.PLimbDivs Go.Proofs.YthcgncopgbcjcaaW.PrintWords Go.Proofs.YthcgncopgbcjcaaW.PrintLast Go.Proofs.YthcgncopgbcjcaaW.PrintMore Go.Proofs.Ythcgncopgbcjcaa.B

theorem limb_Mul_is {a b c d : Int} (ha : 0 ≤ a ∧ a < 18446744073709551616) (hb : 0 ≤ b ∧ b < 18446744073709551616) (hc : 0 ≤ c ∧ c < 18446744073709551616) (hd : 0 ≤ d ∧ d < 18446744073709551616) :
    limb_Mul.f a b c d = some ((a % 4294967296 * (b % 4294967296) + c % 4294967296 + d % 4294967296) % 4294967296, (a % 4294967296 * (b % 4294967296) + c % 4294967296 + d % 4294967296) / 4294967296) := by
  unfold limb_Mul.f
  rw [and32 ha.1 ha.2, and32 hb.1 hb.2, and32 hc.1 hc.2, and32 hd.1 hd.2]
  have hp := prod32 (x := a % 4294967296) (y := b % 4294967296) (by omega) (by omega) (by omega) (by omega)
  rw [w64i (n := a % 4294967296 * (b % 4294967296)) (by omega) (by omega), w64i (n := a % 4294967296 * (b % 4294967296) + c % 4294967296) (by omega) (by omega), w64i (n := a % 4294967296 * (b % 4294967296) + c % 4294967296 + d % 4294967296) (by omega) (by omega), and32 (by omega) (by omega)]

theorem limb_Div_is {hi lo d : Int} (ha : 0 ≤ hi ∧ hi < 18446744073709551616) (hb : 0 ≤ lo ∧ lo < 18446744073709551616) (hc : 0 ≤ d ∧ d < 18446744073709551616) :
    limb_Div.f hi lo d = if d % 4294967296 = 0 then some (0, 0, 3) else if hi % 4294967296 ≥ d % 4294967296 then some (0, 0, 2) else
      some ((hi % 4294967296 * 4294967296 + lo % 4294967296) / (d % 4294967296), (hi % 4294967296 * 4294967296 + lo % 4294967296) % (d % 4294967296), 0) := by
  unfold limb_Div.f
  rw [and32 ha.1 ha.2, and32 hb.1 hb.2, and32 hc.1 hc.2]
  by_cases h0 : d % 4294967296 = 0
  · rw [if_pos h0, if_pos h0]
  · rw [if_neg h0, if_neg h0]
    by_cases h1 : hi % 4294967296 ≥ d % 4294967296
    · rw [if_pos h1, if_pos h1]
    · rw [if_neg h1, if_neg h1, w64i (n := hi % 4294967296 * 4294967296) (by omega) (by omega), or32 (by omega) (by omega) (by omega) (by omega) (by omega)]
      have hn : 0 ≤ hi % 4294967296 * 4294967296 + lo % 4294967296 := by omega
      rw [Int.tdiv_eq_ediv_of_nonneg hn, Int.tmod_eq_emod_of_nonneg hn]
      have hd : 0 < d % 4294967296 := by omega
      have hq := Int.ediv_nonneg hn (Int.le_of_lt hd)
      have hl := Int.ediv_le_self (d % 4294967296) hn
      rw [w64i hq (by omega)]

theorem works_true : triviumlaw01_works.f = some true := by
  unfold triviumlaw01_works.f
  rw [limb_Mul_is (by omega) (by omega) (by omega) (by omega), limb_Div_is (by omega) (by omega) (by omega)]
  decide


/-- M = 2^i steps are done, P = 2^j are left: M*P is 2^32; lo holds t, what is left of the lower limb, at its top. -/
theorem ref_Div_loop (d : Int) (hd0 : 0 < d) (hd : d < 4294967296) (j : Nat) : ∀ (k : Nat) (M P lo t q r i : Int), j < k → i + j = 32 → 0 ≤ i → P = 2 ^ j → M * P = 4294967296 → 0 < M → lo = t * M → 0 ≤ t → t < P →
    0 ≤ r → r < d → 0 ≤ q → q < M → ∃ Q R, triviumref01_Div.l0 k lo d q r i = some (Q, R, 0) ∧ Q * d + R = (q * d + r) * P + t ∧ 0 ≤ R ∧ R < d ∧ 0 ≤ Q := by
  induction j with
  | zero =>
    intro k M P lo t q r i hk hi hi0 hP hM hM0 hlo ht0 ht hr0 hr hq0 hq
    obtain ⟨k, rfl⟩ : ∃ m, k = m + 1 := ⟨k - 1, by omega⟩
    refine ⟨q, r, ?_, ?_, hr0, hr, hq0⟩
    · simp only [triviumref01_Div.l0]
      rw [if_neg (by omega)]
    · have : P = 1 := by simpa using hP
      subst this
      rw [Int.mul_one]; omega
  | succ j ih =>
    intro k M P lo t q r i hk hi hi0 hP hM hM0 hlo ht0 ht hr0 hr hq0 hq
    obtain ⟨k, rfl⟩ : ∃ m, k = m + 1 := ⟨k - 1, by omega⟩
    have hp0 : (0 : Int) < 2 ^ j := pow_pos' j
    obtain ⟨p, hp⟩ : ∃ p : Int, p = 2 ^ j := ⟨_, rfl⟩
    rw [← hp] at hp0
    have hPp : P = 2 * p := by rw [hP, Int.pow_succ, ← hp, Int.mul_comm]
    subst hPp
    have hMp : M * p = 2147483648 := by
      have : M * (2 * p) = 2 * (M * p) := by rw [← Int.mul_assoc, Int.mul_comm M 2, Int.mul_assoc]
      omega
    have hMle : M ≤ 2147483648 := by
      have : M * 1 ≤ M * p := Int.mul_le_mul_of_nonneg_left (by omega) (by omega)
      omega
    -- t's highest bit
    obtain ⟨b, hb⟩ : ∃ b : Int, b = t / p := ⟨_, rfl⟩
    obtain ⟨s, hs⟩ : ∃ s : Int, s = t % p := ⟨_, rfl⟩
    have hts : b * p + s = t := by rw [hb, hs, Int.mul_comm]; exact Int.mul_ediv_add_emod t p
    have hs0 : 0 ≤ s := by rw [hs]; exact Int.emod_nonneg t (by omega)
    have hs1 : s < p := by rw [hs]; exact Int.emod_lt_of_pos t hp0
    have hb0 : 0 ≤ b := by rw [hb]; exact Int.ediv_nonneg ht0 (by omega)
    have hb1 : b < 2 := by rw [hb]; exact Int.ediv_lt_of_lt_mul hp0 (by omega)
    have hlo' : lo = b * 2147483648 + s * M := by
      rw [hlo, ← hts, Int.add_mul, Int.mul_assoc, Int.mul_comm p M, hMp]
    have hsM0 : 0 ≤ s * M := mul_nn hs0 (by omega)
    have hsM : s * M < 2147483648 := by
      have h1 : s * M ≤ (p - 1) * M := Int.mul_le_mul_of_nonneg_right (by omega) (by omega)
      have h2 : (p - 1) * M = M * p - M := by rw [Int.sub_mul, Int.one_mul, Int.mul_comm]
      omega
    have hlo0 : 0 ≤ lo := by omega
    have hlo1 : lo < 4294967296 := by omega
    have hbit : lo / 2147483648 = b := by omega
    have hlow : 2 * lo % 4294967296 = s * (2 * M) := by
      have : s * (2 * M) = 2 * (s * M) := by rw [← Int.mul_assoc, Int.mul_comm s 2, Int.mul_assoc]
      rw [this]; omega
    simp only [triviumref01_Div.l0]
    rw [if_pos (by omega), td hlo0, hbit, w64i (n := 2 * r) (by omega) (by omega), w64i (n := b) (by omega) (by omega), w64i (n := 2 * r + b) (by omega) (by omega), w64i (n := 2 * lo) (by omega) (by omega), tm (by omega), hlow,
      w64i (n := 2 * q) (by omega) (by omega), s64i (n := i + 1) (by omega) (by omega)]
    have hM2 : 2 * M * p = 4294967296 := by rw [Int.mul_assoc]; omega
    by_cases hc : 2 * r + b ≥ d
    · rw [if_pos hc, w64i (n := 2 * q + 1) (by omega) (by omega), w64i (n := 2 * r + b - d) (by omega) (by omega)]
      obtain ⟨Q, R, e1, e2, e3, e4, e5⟩ := ih k (2 * M) p (s * (2 * M)) s (2 * q + 1) (2 * r + b - d) (i + 1) (by omega) (by omega) (by omega) hp hM2 (by omega) rfl hs0 hs1 (by omega) (by omega) (by omega) (by omega)
      refine ⟨Q, R, e1, ?_, e3, e4, e5⟩
      rw [e2, ← hts]
      grind
    · rw [if_neg hc]
      obtain ⟨Q, R, e1, e2, e3, e4, e5⟩ := ih k (2 * M) p (s * (2 * M)) s (2 * q) (2 * r + b) (i + 1) (by omega) (by omega) (by omega) hp hM2 (by omega) rfl hs0 hs1 (by omega) (by omega) (by omega) (by omega)
      refine ⟨Q, R, e1, ?_, e3, e4, e5⟩
      rw [e2, ← hts]
      grind

theorem LimbDivs : triviumlaw01_LimbDivs.Pure := by
  intro hi lo d ha hb hc
  have ha := wf_u64 ha
  have hb := wf_u64 hb
  have hc := wf_u64 hc
  obtain ⟨K, hK⟩ : ∃ K : Nat, 32 < K := ⟨33, by omega⟩
  refine ⟨K, ?_⟩
  unfold triviumlaw01_LimbDivs.f triviumref01_Div.f
  rw [limb_Div_is ha hb hc, tm ha.1, tm hb.1, tm hc.1]
  by_cases h0 : d % 4294967296 = 0
  · rw [if_pos h0, if_pos h0]; simp [works_true]
  · rw [if_neg h0, if_neg h0]
    by_cases h1 : hi % 4294967296 ≥ d % 4294967296
    · rw [if_pos h1, if_pos h1]; simp [works_true]
    · rw [if_neg h1, if_neg h1]
      obtain ⟨Q, R, e1, e2, e3, e4, e5⟩ := ref_Div_loop (d % 4294967296) (by omega) (by omega) 32 K 1 4294967296 (lo % 4294967296) (lo % 4294967296) 0 (hi % 4294967296) 0 (by omega) (by omega) (by omega) (by decide) (by decide) (by decide) (by rw [Int.mul_one]) (by omega) (by omega) (by omega) (by omega) (by omega) (by omega)
      have hu := divmod_unique (n := hi % 4294967296 * 4294967296 + lo % 4294967296) (d := d % 4294967296) (q := Q) (r := R) (by rw [e2, Int.zero_mul, Int.zero_add]) e3 e4
      rw [e1, hu.1, hu.2]; simp [works_true]

end Go.Proofs.Ythcgncopgbcjcaa.Pure
