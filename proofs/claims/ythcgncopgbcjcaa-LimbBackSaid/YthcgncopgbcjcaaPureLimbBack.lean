/- What was added is taken off again, and what was multiplied is divided again, for all limbs. No condition. -/
import Derived.Test.YthcgncopgbcjcaaPLimbBackx1
import Derived.Test.YthcgncopgbcjcaaBase
set_option linter.unusedVariables false
set_option linter.unusedSimpArgs false
namespace Go.Proofs.Ythcgncopgbcjcaa.Pure
open Go Go.RowKit Go.Proofs.Ythcgncopgbcjcaa.PLimbBack Go.Proofs.YthcgncopgbcjcaaW.PrintWords Go.Proofs.YthcgncopgbcjcaaW.PrintLast Go.Proofs.YthcgncopgbcjcaaW.PrintMore Go.Proofs.Ythcgncopgbcjcaa.B

theorem limb_Mul_is {a b c d : Int} (ha : 0 ≤ a ∧ a < 18446744073709551616) (hb : 0 ≤ b ∧ b < 18446744073709551616) (hc : 0 ≤ c ∧ c < 18446744073709551616) (hd : 0 ≤ d ∧ d < 18446744073709551616) :
    limb_Mul.f a b c d = some ((a % 4294967296 * (b % 4294967296) + c % 4294967296 + d % 4294967296) % 4294967296, (a % 4294967296 * (b % 4294967296) + c % 4294967296 + d % 4294967296) / 4294967296) := by
  unfold limb_Mul.f
  rw [and32 ha.1 ha.2, and32 hb.1 hb.2, and32 hc.1 hc.2, and32 hd.1 hd.2]
  have hp := prod32 (x := a % 4294967296) (y := b % 4294967296) (by omega) (by omega) (by omega) (by omega)
  rw [w64i (n := a % 4294967296 * (b % 4294967296)) (by omega) (by omega), w64i (n := a % 4294967296 * (b % 4294967296) + c % 4294967296) (by omega) (by omega), w64i (n := a % 4294967296 * (b % 4294967296) + c % 4294967296 + d % 4294967296) (by omega) (by omega), and32 (by omega) (by omega)]

theorem limb_Div_is {hi lo d : Int} (ha : 0 ≤ hi ∧ hi < 18446744073709551616) (hb : 0 ≤ lo ∧ lo < 18446744073709551616) (hc : 0 ≤ d ∧ d < 18446744073709551616) :
    limb_Div.f hi lo d = if d % 4294967296 = 0 then some (0, 0, 3) else if hi % 4294967296 ≥ d % 4294967296 then some (0, 0, 2) else
      some ((hi % 4294967296 * 4294967296 + lo % 4294967296) / (d % 4294967296), (hi % 4294967296 * 4294967296 + lo % 4294967296) % (d % 4294967296), 0) := by
  unfold limb_Div.f
  rw [and32 ha.1 ha.2, and32 hb.1 hb.2, and32 hc.1 hc.2]
  by_cases h0 : d % 4294967296 = 0
  · rw [if_pos h0, if_pos h0]
  · rw [if_neg h0, if_neg h0]
    by_cases h1 : hi % 4294967296 ≥ d % 4294967296
    · rw [if_pos h1, if_pos h1]
    · rw [if_neg h1, if_neg h1, w64i (n := hi % 4294967296 * 4294967296) (by omega) (by omega), or32 (by omega) (by omega) (by omega) (by omega) (by omega)]
      have hn : 0 ≤ hi % 4294967296 * 4294967296 + lo % 4294967296 := by omega
      rw [Int.tdiv_eq_ediv_of_nonneg hn, Int.tmod_eq_emod_of_nonneg hn]
      have hd : 0 < d % 4294967296 := by omega
      have hq := Int.ediv_nonneg hn (Int.le_of_lt hd)
      have hl := Int.ediv_le_self (d % 4294967296) hn
      rw [w64i hq (by omega)]

theorem works_true : triviumlaw01_works.f = some true := by
  unfold triviumlaw01_works.f
  rw [limb_Mul_is (by omega) (by omega) (by omega) (by omega), limb_Div_is (by omega) (by omega) (by omega)]
  decide


theorem limb_Add_is {a b c : Int} (ha : 0 ≤ a ∧ a < 18446744073709551616) (hb : 0 ≤ b ∧ b < 18446744073709551616) (hc : 0 ≤ c ∧ c < 18446744073709551616) :
    limb_Add.f a b c = some ((a % 4294967296 + b % 4294967296 + c % 4294967296) % 4294967296, (a % 4294967296 + b % 4294967296 + c % 4294967296) / 4294967296) := by
  unfold limb_Add.f
  rw [and32 ha.1 ha.2, and32 hb.1 hb.2, and32 hc.1 hc.2, w64i (n := a % 4294967296 + b % 4294967296) (by omega) (by omega), w64i (n := a % 4294967296 + b % 4294967296 + c % 4294967296) (by omega) (by omega), and32 (by omega) (by omega)]
theorem limb_Sub_is {a b c : Int} (ha : 0 ≤ a ∧ a < 18446744073709551616) (hb : 0 ≤ b ∧ b < 18446744073709551616) (hc : 0 ≤ c ∧ c < 18446744073709551616) :
    limb_Sub.f a b c = if a % 4294967296 < b % 4294967296 + c % 4294967296 then
        some (a % 4294967296 + (b % 4294967296 + c % 4294967296 - a % 4294967296 + 4294967295) / 4294967296 * 4294967296 - (b % 4294967296 + c % 4294967296), (b % 4294967296 + c % 4294967296 - a % 4294967296 + 4294967295) / 4294967296)
      else some (a % 4294967296 - (b % 4294967296 + c % 4294967296), 0) := by
  unfold limb_Sub.f
  rw [and32 ha.1 ha.2, and32 hb.1 hb.2, and32 hc.1 hc.2, w64i (n := b % 4294967296 + c % 4294967296) (by omega) (by omega)]
  by_cases h : a % 4294967296 < b % 4294967296 + c % 4294967296
  · rw [if_pos h, if_pos h, w64i (n := b % 4294967296 + c % 4294967296 - a % 4294967296) (by omega) (by omega), w64i (n := b % 4294967296 + c % 4294967296 - a % 4294967296 + 4294967295) (by omega) (by omega),
      w64i (n := (b % 4294967296 + c % 4294967296 - a % 4294967296 + 4294967295) / 4294967296 * 4294967296) (by omega) (by omega), w64i (n := a % 4294967296 + _) (by omega) (by omega), w64i (by omega) (by omega)]
  · rw [if_neg h, if_neg h, Int.zero_mul, Int.add_zero, w64i (n := a % 4294967296) (by omega) (by omega), w64i (by omega) (by omega)]

theorem LimbBack : triviumlaw01_LimbBack.Pure := by
  intro a b c ha hb hc
  have ha := wf_u64 ha
  have hb := wf_u64 hb
  have hc := wf_u64 hc
  obtain ⟨K, hK⟩ : ∃ K : Nat, K = K := ⟨0, rfl⟩
  refine ⟨K + 3, ?_⟩
  unfold triviumlaw01_LimbBack.f
  rw [works_true, tm ha.1, tm hb.1, tm hc.1]
  simp only [Option.bind_some, if_true]
  obtain ⟨x, hx⟩ : ∃ x, x = a % 4294967296 := ⟨_, rfl⟩
  obtain ⟨y, hy⟩ : ∃ y, y = b % 4294967296 := ⟨_, rfl⟩
  obtain ⟨z, hz⟩ : ∃ z, z = c % 4294967296 := ⟨_, rfl⟩
  rw [← hx, ← hy, ← hz]
  have hx0 : 0 ≤ x ∧ x < 4294967296 := by omega
  have hy0 : 0 ≤ y ∧ y < 4294967296 := by omega
  have hz0 : 0 ≤ z ∧ z < 4294967296 := by omega
  clear hx hy hz
  rw [limb_Add_is (by omega) (by omega) (by omega)]
  simp only [Option.bind_some]
  rw [limb_Sub_is (by omega) (by omega) (by omega)]
  have hxm : x % 4294967296 = x := by omega
  have hym : y % 4294967296 = y := by omega
  have hzm : z % 4294967296 = z := by omega
  rw [hxm, hym]
  have key : (if (x + y + 0 % 4294967296) % 4294967296 % 4294967296 < y + 0 % 4294967296 then
        some ((x + y + 0 % 4294967296) % 4294967296 % 4294967296 + (y + 0 % 4294967296 - (x + y + 0 % 4294967296) % 4294967296 % 4294967296 + 4294967295) / 4294967296 * 4294967296 - (y + 0 % 4294967296), (y + 0 % 4294967296 - (x + y + 0 % 4294967296) % 4294967296 % 4294967296 + 4294967295) / 4294967296)
      else some ((x + y + 0 % 4294967296) % 4294967296 % 4294967296 - (y + 0 % 4294967296), 0)) = some (x, (x + y) / 4294967296) := by
    split
    · congr 2 <;> omega
    · congr 2 <;> omega
  rw [key]
  simp only [Option.bind_some, if_true]
  have e : ((x + y + 0 % 4294967296) / 4294967296 != (x + y) / 4294967296) = false := by
    rw [bne_eq_false_iff_eq]; omega
  rw [e]
  simp only [triviumlaw01_LimbBack.j0, triviumlaw01_LimbBack.j1]
  by_cases h0 : y = 0
  · rw [if_neg (by decide), if_pos h0]; simp
  · rw [if_neg (by decide), if_neg h0]
    by_cases h1 : z ≥ y
    · rw [if_pos (by simpa using h1)]
    · rw [if_neg (by simpa using h1), limb_Mul_is (by omega) (by omega) (by omega) (by omega)]
      simp only [Option.bind_some]
      rw [hxm, hym, hzm]
      have hp := prod32 (x := x) (y := y) (by omega) (by omega) (by omega) (by omega)
      rw [limb_Div_is (by omega) (by omega) (by omega), hym, if_neg h0]
      have hlt : x * y + z < y * 4294967296 := by
        have h2 : (x + 1) * y ≤ 4294967296 * y := Int.mul_le_mul_of_nonneg_right (by omega) (by omega)
        have h3 : (x + 1) * y = x * y + y := by rw [Int.add_mul, Int.one_mul]
        omega
      rw [if_neg (by omega)]
      have hn : (x * y + z + 0 % 4294967296) / 4294967296 % 4294967296 * 4294967296 + (x * y + z + 0 % 4294967296) % 4294967296 % 4294967296 = x * y + z := by omega
      rw [hn]
      have hu := divmod_unique (n := x * y + z) (d := y) (q := x) (r := z) rfl (by omega) (by omega)
      rw [hu.1, hu.2]; simp

end Go.Proofs.Ythcgncopgbcjcaa.Pure
