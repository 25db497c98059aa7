/- Any limbs are added, and taken off, as the document says: the program's sum and difference equal the reference's for all three words. No condition. -/
import Derived.Test.YthcgncopgbcjcaaPLimbAddsx1
import Derived.Test.YthcgncopgbcjcaaBase
set_option linter.unusedVariables false
set_option linter.unusedSimpArgs false
namespace Go.Proofs.Ythcgncopgbcjcaa.Pure
open Go Go.RowKit Go.Proofs.Ythcgncopgbcjcaa.PLimbAdds Go.Proofs.YthcgncopgbcjcaaW.PrintWords Go.Proofs.YthcgncopgbcjcaaW.PrintLast Go.Proofs.YthcgncopgbcjcaaW.PrintMore Go.Proofs.Ythcgncopgbcjcaa.B

theorem limb_Mul_is {a b c d : Int} (ha : 0 ≤ a ∧ a < 18446744073709551616) (hb : 0 ≤ b ∧ b < 18446744073709551616) (hc : 0 ≤ c ∧ c < 18446744073709551616) (hd : 0 ≤ d ∧ d < 18446744073709551616) :
    limb_Mul.f a b c d = some ((a % 4294967296 * (b % 4294967296) + c % 4294967296 + d % 4294967296) % 4294967296, (a % 4294967296 * (b % 4294967296) + c % 4294967296 + d % 4294967296) / 4294967296) := by
  unfold limb_Mul.f
  rw [and32 ha.1 ha.2, and32 hb.1 hb.2, and32 hc.1 hc.2, and32 hd.1 hd.2]
  have hp := prod32 (x := a % 4294967296) (y := b % 4294967296) (by omega) (by omega) (by omega) (by omega)
  rw [w64i (n := a % 4294967296 * (b % 4294967296)) (by omega) (by omega), w64i (n := a % 4294967296 * (b % 4294967296) + c % 4294967296) (by omega) (by omega), w64i (n := a % 4294967296 * (b % 4294967296) + c % 4294967296 + d % 4294967296) (by omega) (by omega), and32 (by omega) (by omega)]

theorem limb_Div_is {hi lo d : Int} (ha : 0 ≤ hi ∧ hi < 18446744073709551616) (hb : 0 ≤ lo ∧ lo < 18446744073709551616) (hc : 0 ≤ d ∧ d < 18446744073709551616) :
    limb_Div.f hi lo d = if d % 4294967296 = 0 then some (0, 0, 3) else if hi % 4294967296 ≥ d % 4294967296 then some (0, 0, 2) else
      some ((hi % 4294967296 * 4294967296 + lo % 4294967296) / (d % 4294967296), (hi % 4294967296 * 4294967296 + lo % 4294967296) % (d % 4294967296), 0) := by
  unfold limb_Div.f
  rw [and32 ha.1 ha.2, and32 hb.1 hb.2, and32 hc.1 hc.2]
  by_cases h0 : d % 4294967296 = 0
  · rw [if_pos h0, if_pos h0]
  · rw [if_neg h0, if_neg h0]
    by_cases h1 : hi % 4294967296 ≥ d % 4294967296
    · rw [if_pos h1, if_pos h1]
    · rw [if_neg h1, if_neg h1, w64i (n := hi % 4294967296 * 4294967296) (by omega) (by omega), or32 (by omega) (by omega) (by omega) (by omega) (by omega)]
      have hn : 0 ≤ hi % 4294967296 * 4294967296 + lo % 4294967296 := by omega
      rw [Int.tdiv_eq_ediv_of_nonneg hn, Int.tmod_eq_emod_of_nonneg hn]
      have hd : 0 < d % 4294967296 := by omega
      have hq := Int.ediv_nonneg hn (Int.le_of_lt hd)
      have hl := Int.ediv_le_self (d % 4294967296) hn
      rw [w64i hq (by omega)]

theorem works_true : triviumlaw01_works.f = some true := by
  unfold triviumlaw01_works.f
  rw [limb_Mul_is (by omega) (by omega) (by omega) (by omega), limb_Div_is (by omega) (by omega) (by omega)]
  decide


theorem limb_Add_is {a b c : Int} (ha : 0 ≤ a ∧ a < 18446744073709551616) (hb : 0 ≤ b ∧ b < 18446744073709551616) (hc : 0 ≤ c ∧ c < 18446744073709551616) :
    limb_Add.f a b c = some ((a % 4294967296 + b % 4294967296 + c % 4294967296) % 4294967296, (a % 4294967296 + b % 4294967296 + c % 4294967296) / 4294967296) := by
  unfold limb_Add.f
  rw [and32 ha.1 ha.2, and32 hb.1 hb.2, and32 hc.1 hc.2, w64i (n := a % 4294967296 + b % 4294967296) (by omega) (by omega), w64i (n := a % 4294967296 + b % 4294967296 + c % 4294967296) (by omega) (by omega), and32 (by omega) (by omega)]
theorem limb_Sub_is {a b c : Int} (ha : 0 ≤ a ∧ a < 18446744073709551616) (hb : 0 ≤ b ∧ b < 18446744073709551616) (hc : 0 ≤ c ∧ c < 18446744073709551616) :
    limb_Sub.f a b c = if a % 4294967296 < b % 4294967296 + c % 4294967296 then
        some (a % 4294967296 + (b % 4294967296 + c % 4294967296 - a % 4294967296 + 4294967295) / 4294967296 * 4294967296 - (b % 4294967296 + c % 4294967296), (b % 4294967296 + c % 4294967296 - a % 4294967296 + 4294967295) / 4294967296)
      else some (a % 4294967296 - (b % 4294967296 + c % 4294967296), 0) := by
  unfold limb_Sub.f
  rw [and32 ha.1 ha.2, and32 hb.1 hb.2, and32 hc.1 hc.2, w64i (n := b % 4294967296 + c % 4294967296) (by omega) (by omega)]
  by_cases h : a % 4294967296 < b % 4294967296 + c % 4294967296
  · rw [if_pos h, if_pos h, w64i (n := b % 4294967296 + c % 4294967296 - a % 4294967296) (by omega) (by omega), w64i (n := b % 4294967296 + c % 4294967296 - a % 4294967296 + 4294967295) (by omega) (by omega),
      w64i (n := (b % 4294967296 + c % 4294967296 - a % 4294967296 + 4294967295) / 4294967296 * 4294967296) (by omega) (by omega), w64i (n := a % 4294967296 + _) (by omega) (by omega), w64i (by omega) (by omega)]
  · rw [if_neg h, if_neg h, Int.zero_mul, Int.add_zero, w64i (n := a % 4294967296) (by omega) (by omega), w64i (by omega) (by omega)]

theorem ref_Add_is {a b c : Int} (ha : 0 ≤ a ∧ a < 18446744073709551616) (hb : 0 ≤ b ∧ b < 18446744073709551616) (hc : 0 ≤ c ∧ c < 18446744073709551616) :
    triviumref01_Add.f a b c = some ((a % 4294967296 + b % 4294967296 + c % 4294967296) % 4294967296, (a % 4294967296 + b % 4294967296 + c % 4294967296) / 4294967296) := by
  unfold triviumref01_Add.f
  rw [tm ha.1, tm hb.1, tm hc.1, w64i (n := a % 4294967296 + b % 4294967296) (by omega) (by omega), w64i (n := a % 4294967296 + b % 4294967296 + c % 4294967296) (by omega) (by omega), tm (by omega), td (by omega), w64i (by omega) (by omega)]


theorem LimbAdds : triviumlaw01_LimbAdds.Pure := by
  intro a b c ha hb hc
  have ha := wf_u64 ha
  have hb := wf_u64 hb
  have hc := wf_u64 hc
  obtain ⟨K, hK⟩ : ∃ K : Nat, K = K := ⟨0, rfl⟩
  refine ⟨K + 3, ?_⟩
  unfold triviumlaw01_LimbAdds.f triviumref01_Sub.f
  rw [limb_Add_is ha hb hc, ref_Add_is ha hb hc, limb_Sub_is ha hb hc, tm ha.1, tm hb.1, tm hc.1, w64i (n := b % 4294967296 + c % 4294967296) (by omega) (by omega)]
  simp only [Option.bind_some, if_true]
  simp only [triviumref01_Sub.l0]
  by_cases h : a % 4294967296 < b % 4294967296 + c % 4294967296
  · rw [if_pos h, if_pos h, w64i (n := a % 4294967296 + 4294967296) (by omega) (by omega), w64i (n := (0 : Int) + 1) (by omega) (by omega)]
    by_cases h2 : a % 4294967296 + 4294967296 < b % 4294967296 + c % 4294967296
    · rw [if_pos h2, w64i (n := a % 4294967296 + 4294967296 + 4294967296) (by omega) (by omega), w64i (n := (0 : Int) + 1 + 1) (by omega) (by omega), if_neg (by omega), w64i (by omega) (by omega)]
      simp only [Option.bind_some, works_true]
      rw [if_pos (by omega), if_pos (by omega)]
    · rw [if_neg h2, w64i (by omega) (by omega)]
      simp only [Option.bind_some, works_true]
      rw [if_pos (by omega), if_pos (by omega)]
  · rw [if_neg h, if_neg h, w64i (by omega) (by omega)]
    simp only [Option.bind_some, works_true, if_true]

end Go.Proofs.Ythcgncopgbcjcaa.Pure
