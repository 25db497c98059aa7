/- Any limbs are multiplied as the document says: the program's product equals the reference's for all four words. No condition. -/
import Derived.Test.YthcgncopgbcjcaaPLimbMulsx1
import Derived.Test.YthcgncopgbcjcaaBase
set_option linter.unusedVariables false
set_option linter.unusedSimpArgs false
namespace Go.Proofs.Ythcgncopgbcjcaa.Pure
open Go Go.RowKit Go.Proofs.Ythcgncopgbcjcaa.PLimbMuls Go.Proofs.YthcgncopgbcjcaaW.PrintWords Go.Proofs.YthcgncopgbcjcaaW.PrintLast Go.Proofs.YthcgncopgbcjcaaW.PrintMore Go.Proofs.Ythcgncopgbcjcaa.B

theorem limb_Mul_is {a b c d : Int} (ha : 0 ≤ a ∧ a < 18446744073709551616) (hb : 0 ≤ b ∧ b < 18446744073709551616) (hc : 0 ≤ c ∧ c < 18446744073709551616) (hd : 0 ≤ d ∧ d < 18446744073709551616) :
    limb_Mul.f a b c d = some ((a % 4294967296 * (b % 4294967296) + c % 4294967296 + d % 4294967296) % 4294967296, (a % 4294967296 * (b % 4294967296) + c % 4294967296 + d % 4294967296) / 4294967296) := by
  unfold limb_Mul.f
  rw [and32 ha.1 ha.2, and32 hb.1 hb.2, and32 hc.1 hc.2, and32 hd.1 hd.2]
  have hp := prod32 (x := a % 4294967296) (y := b % 4294967296) (by omega) (by omega) (by omega) (by omega)
  rw [w64i (n := a % 4294967296 * (b % 4294967296)) (by omega) (by omega), w64i (n := a % 4294967296 * (b % 4294967296) + c % 4294967296) (by omega) (by omega), w64i (n := a % 4294967296 * (b % 4294967296) + c % 4294967296 + d % 4294967296) (by omega) (by omega), and32 (by omega) (by omega)]

theorem limb_Div_is {hi lo d : Int} (ha : 0 ≤ hi ∧ hi < 18446744073709551616) (hb : 0 ≤ lo ∧ lo < 18446744073709551616) (hc : 0 ≤ d ∧ d < 18446744073709551616) :
    limb_Div.f hi lo d = if d % 4294967296 = 0 then some (0, 0, 3) else if hi % 4294967296 ≥ d % 4294967296 then some (0, 0, 2) else
      some ((hi % 4294967296 * 4294967296 + lo % 4294967296) / (d % 4294967296), (hi % 4294967296 * 4294967296 + lo % 4294967296) % (d % 4294967296), 0) := by
  unfold limb_Div.f
  rw [and32 ha.1 ha.2, and32 hb.1 hb.2, and32 hc.1 hc.2]
  by_cases h0 : d % 4294967296 = 0
  · rw [if_pos h0, if_pos h0]
  · rw [if_neg h0, if_neg h0]
    by_cases h1 : hi % 4294967296 ≥ d % 4294967296
    · rw [if_pos h1, if_pos h1]
    · rw [if_neg h1, if_neg h1, w64i (n := hi % 4294967296 * 4294967296) (by omega) (by omega), or32 (by omega) (by omega) (by omega) (by omega) (by omega)]
      have hn : 0 ≤ hi % 4294967296 * 4294967296 + lo % 4294967296 := by omega
      rw [Int.tdiv_eq_ediv_of_nonneg hn, Int.tmod_eq_emod_of_nonneg hn]
      have hd : 0 < d % 4294967296 := by omega
      have hq := Int.ediv_nonneg hn (Int.le_of_lt hd)
      have hl := Int.ediv_le_self (d % 4294967296) hn
      rw [w64i hq (by omega)]

theorem works_true : triviumlaw01_works.f = some true := by
  unfold triviumlaw01_works.f
  rw [limb_Mul_is (by omega) (by omega) (by omega) (by omega), limb_Div_is (by omega) (by omega) (by omega)]
  decide


theorem ref_Add_is {a b c : Int} (ha : 0 ≤ a ∧ a < 18446744073709551616) (hb : 0 ≤ b ∧ b < 18446744073709551616) (hc : 0 ≤ c ∧ c < 18446744073709551616) :
    triviumref01_Add.f a b c = some ((a % 4294967296 + b % 4294967296 + c % 4294967296) % 4294967296, (a % 4294967296 + b % 4294967296 + c % 4294967296) / 4294967296) := by
  unfold triviumref01_Add.f
  rw [tm ha.1, tm hb.1, tm hc.1, w64i (n := a % 4294967296 + b % 4294967296) (by omega) (by omega), w64i (n := a % 4294967296 + b % 4294967296 + c % 4294967296) (by omega) (by omega), tm (by omega), td (by omega), w64i (by omega) (by omega)]


/-- What is left to do: lo + hi*B + (x + y*B)*b does not change, and is T, below B*B. -/
theorem ref_Mul_loop (T : Int) (hT : T < 18446744073709551616) (d : Nat) : ∀ (k : Nat) (b lo hi x y : Int), b < 2 ^ d → d < k → 0 ≤ b → b < 4294967296 → 0 ≤ lo → lo < 4294967296 → 0 ≤ hi → 0 ≤ x → x < 4294967296 → 0 ≤ y →
    (0 < b → y < 4294967296) → lo + hi * 4294967296 + (x + y * 4294967296) * b = T → triviumref01_Mul.l0 k b lo hi x y = some (T % 4294967296, T / 4294967296) := by
  induction d with
  | zero =>
    intro k b lo hi x y hd hk hb0 hb1 hl0 hl1 hh hx0 hx1 hy hyb he
    obtain ⟨k, rfl⟩ : ∃ m, k = m + 1 := ⟨k - 1, by omega⟩
    have : b = 0 := by rw [Int.pow_zero] at hd; omega
    subst this
    rw [Int.mul_zero] at he
    simp only [triviumref01_Mul.l0]
    rw [if_neg (by omega)]
    congr 2 <;> omega
  | succ d ih =>
    intro k b lo hi x y hd hk hb0 hb1 hl0 hl1 hh hx0 hx1 hy hyb he
    obtain ⟨k, rfl⟩ : ∃ m, k = m + 1 := ⟨k - 1, by omega⟩
    rw [Int.pow_succ] at hd
    by_cases hb : b = 0
    · subst hb
      rw [Int.mul_zero] at he
      simp only [triviumref01_Mul.l0]
      rw [if_neg (by omega)]
      congr 2 <;> omega
    · have hX : 0 ≤ (x + y * 4294967296) * (b - 1) := mul_nn (by omega) (by omega)
      have hX' : (x + y * 4294967296) * (b - 1) = (x + y * 4294967296) * b - (x + y * 4294967296) := by rw [Int.mul_sub, Int.mul_one]
      have hyl : y < 4294967296 := by omega
      have hhl : hi < 4294967296 := by omega
      have hb2 : 2 * (b / 2) + b % 2 = b := by omega
      have hsplit : (x + y * 4294967296) * b = (2 * (x + y * 4294967296)) * (b / 2) + (x + y * 4294967296) * (b % 2) := by
        conv => lhs; rw [← hb2]
        rw [Int.mul_add, ← Int.mul_assoc, Int.mul_comm (x + y * 4294967296) 2]
      have hover : 0 < b / 2 → 2 * y + (x + x) / 4294967296 < 4294967296 := by
        intro hpos
        have h2 : 0 ≤ (2 * (x + y * 4294967296)) * (b / 2 - 1) := mul_nn (by omega) (by omega)
        have h3 : (2 * (x + y * 4294967296)) * (b / 2 - 1) = (2 * (x + y * 4294967296)) * (b / 2) - 2 * (x + y * 4294967296) := by rw [Int.mul_sub, Int.mul_one]
        have h4 : 0 ≤ (x + y * 4294967296) * (b % 2) := mul_nn (by omega) (by omega)
        omega
      simp only [triviumref01_Mul.l0]
      rw [if_pos (by omega), tm (by omega), td (by omega), w64i (n := b / 2) (by omega) (by omega)]
      by_cases hodd : b % 2 = 1
      · rw [if_pos hodd, ref_Add_is (by omega) (by omega) (by omega)]
        simp only [Option.bind_some]
        rw [ref_Add_is (by omega) (by omega) (by omega)]
        simp only [Option.bind_some]
        rw [hodd, Int.mul_one] at hsplit
        rw [w64i (n := hi + y) (by omega) (by omega), w64i (n := hi + y + _) (by omega) (by omega), w64i (n := 2 * y) (by omega) (by omega), w64i (n := 2 * y + _) (by omega) (by omega)]
        refine ih k _ _ _ _ _ (by omega) (by omega) (by omega) (by omega) (by omega) (by omega) (by omega) (by omega) (by omega) (by omega) ?_ ?_
        · intro hpos; have := hover hpos; omega
        · have e : (x % 4294967296 + x % 4294967296 + 0 % 4294967296) % 4294967296 + (2 * y + (x % 4294967296 + x % 4294967296 + 0 % 4294967296) / 4294967296) * 4294967296 = 2 * (x + y * 4294967296) := by omega
          rw [e]; omega
      · rw [if_neg hodd, ref_Add_is (by omega) (by omega) (by omega)]
        simp only [Option.bind_some]
        have hev : b % 2 = 0 := by omega
        rw [hev, Int.mul_zero] at hsplit
        rw [w64i (n := 2 * y) (by omega) (by omega), w64i (n := 2 * y + _) (by omega) (by omega)]
        refine ih k _ _ _ _ _ (by omega) (by omega) (by omega) (by omega) (by omega) (by omega) (by omega) (by omega) (by omega) (by omega) ?_ ?_
        · intro hpos; have := hover hpos; omega
        · have e : (x % 4294967296 + x % 4294967296 + 0 % 4294967296) % 4294967296 + (2 * y + (x % 4294967296 + x % 4294967296 + 0 % 4294967296) / 4294967296) * 4294967296 = 2 * (x + y * 4294967296) := by omega
          rw [e]; omega

theorem ref_Mul_is {a b c d : Int} (ha : 0 ≤ a ∧ a < 18446744073709551616) (hb : 0 ≤ b ∧ b < 18446744073709551616) (hc : 0 ≤ c ∧ c < 18446744073709551616) (hd : 0 ≤ d ∧ d < 18446744073709551616) (T : Int) (k : Nat) (hk : 32 < k)
    (hT : a % 4294967296 * (b % 4294967296) + c % 4294967296 + d % 4294967296 = T) : triviumref01_Mul.f k a b c d = some (T % 4294967296, T / 4294967296) := by
  have hp := prod32 (x := a % 4294967296) (y := b % 4294967296) (by omega) (by omega) (by omega) (by omega)
  have hl : b % 4294967296 < 2 ^ 32 := by
    have : (2 : Int) ^ 32 = 4294967296 := by decide
    rw [this]; omega
  unfold triviumref01_Mul.f
  rw [ref_Add_is hc hd (by omega)]
  simp only [Option.bind_some]
  rw [tm ha.1, tm hb.1]
  refine ref_Mul_loop T (by omega) 32 k _ _ _ _ _ hl hk (by omega) (by omega) (by omega) (by omega) (by omega) (by omega) (by omega) (by omega) (by omega) ?_
  rw [Int.zero_mul, Int.add_zero]; omega

theorem LimbMuls : triviumlaw01_LimbMuls.Pure := by
  intro a b c d ha hb hc hd
  have ha := wf_u64 ha
  have hb := wf_u64 hb
  have hc := wf_u64 hc
  have hd := wf_u64 hd
  obtain ⟨K, hK⟩ : ∃ K : Nat, 32 < K := ⟨33, by omega⟩
  refine ⟨K, ?_⟩
  unfold triviumlaw01_LimbMuls.f
  rw [limb_Mul_is ha hb hc hd]
  generalize hT : a % 4294967296 * (b % 4294967296) + c % 4294967296 + d % 4294967296 = T
  rw [ref_Mul_is ha hb hc hd T K hK hT]
  simp only [Option.bind_some, works_true, if_true]

end Go.Proofs.Ythcgncopgbcjcaa.Pure
