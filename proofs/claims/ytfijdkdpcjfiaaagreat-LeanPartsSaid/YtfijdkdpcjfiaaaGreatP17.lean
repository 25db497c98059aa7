/- Whole numbers and fractions: what the reference's functions answer. -/
import Derived.Test.YtfijdkdpcjfiaaaGreatP15
import Derived.Test.YtfijdkdpcjfiaaaGreatP16
import Derived.Test.YtfijdkdpcjfiaaaGreatWX
set_option linter.unusedVariables false
set_option linter.unusedSimpArgs false
namespace Go.Proofs.YtfijdkdpcjfiaaaGreatA
open Go
def tn (z : Int) : List Int := ten z.natAbs
theorem ten_pos {n : Nat} : (0 < ((ten n).length : Int)) ↔ 0 < n := by
 constructor
 ·intro h
  rcases Nat.eq_zero_or_pos n with rfl | h1
  ·rw [ten_nil.2 rfl] at h; simp at h
  ·exact h1
 ·intro h
  have : (ten n).length ≠ 0 := fun h1 => by have := ten_nil.1 (List.length_eq_zero_iff.1 h1); omega
  omega
theorem rmade_is {b : Bool} {n : Nat} {z : Int} (hz : z = sg b n) : ref07_made_R b (ten n) (ng z) (tn z) := by
 refine ref07_made_go ?_
 subst hz
 have e : ∀ m : Int, m.natAbs = n → ten m.natAbs = ten n := fun m h => by rw [h]
 cases b with
 | true => exact .inl ⟨rfl, decide_eq_decide.2 (by rw [ten_pos]; simp [sg]), e _ (by simp [sg])⟩
 | false => exact .inr ⟨by simp, ng_pos (by simp [sg]), e _ (by simp [sg])⟩
theorem sg_self (x : Int) : x = sg (ng x) x.natAbs := by
 by_cases h : x < 0
 ·rw [sg_neg h]; omega
 ·rw [sg_pos h]; omega
theorem tenl {n : Nat} {x : Nat} (h : (lim x).length ≤ 100000) : (ten x).length ≤ 300000 := Nat.le_trans (ten_of_lim h) (by omega)
theorem ref07_Of_is {x : Int} (hx : zl 100000 x) : ref07_Of_R (ng x) (ab x) (ng x) (tn x) := by
 have hx' : (lim x.natAbs).length ≤ 100000 := hx
 have h1 := tenl (n := 0) hx'
 exact ref07_Of_go ⟨_, ref_Of_is (by omega) (by omega), _, _, rmade_is (sg_self x), rfl, rfl⟩
theorem ref07_Back_is {x : Int} (hx : zl 100000 x) : ref07_Back_R (ng x) (tn x) (ng x) (ab x) := by
 have hx' : (lim x.natAbs).length ≤ 100000 := hx
 have h1 := tenl (n := 0) hx'
 exact ref07_Back_go ⟨_, ref_Back_is (by omega) (by omega), rfl, rfl⟩
theorem ref08_Low_is {n : Int} {d : Nat} (hd : d ≠ 0) (hn : zl 100000 n) (hdl : (lim d).length ≤ 100000) : ref08_Low_R (ng n) (tn n) (ten d) (ng (Rat.normalize n d hd).num) (tn (Rat.normalize n d hd).num) (ten (Rat.normalize n d hd).den) := by
 have h1 := tenl (n := 0) hn
 have h2 := tenl (n := 0) hdl
 have hg : 0 < Nat.gcd n.natAbs d := Nat.gcd_pos_of_pos_right _ (by omega)
 have hgl : (ten (Nat.gcd n.natAbs d)).length ≤ 100000000 := Nat.le_trans (ten_len_mono (Nat.gcd_le_right _ (by omega))) (by omega)
 refine ref08_Low_go ⟨_, ref_Gcd_is (by omega) (by omega), _, _, ref_Div_is (by omega) hgl hg, _, _, ref_Div_is (by omega) hgl hg, ?_⟩
 have e1 : tn (Rat.normalize n d hd).num = ten (n.natAbs / Nat.gcd n.natAbs d) := by rw [tn, norm_natAbs]
 have e2 : ten (Rat.normalize n d hd).den = ten (d / Nat.gcd n.natAbs d) := by rw [Rat.den_normalize]
 have e3 := norm_num n d hd
 by_cases h : n < 0
 ·refine .inl ⟨ng_neg h, ?_, e1, e2⟩
  rw [e3, sg_neg h]
  refine decide_eq_decide.2 ?_
  rw [ten_pos]; omega
 ·refine .inr ⟨ng_ne h, ?_, e1, e2⟩
  rw [e3, sg_pos h, ng_nat]
theorem ref08_Back_is {a : Rat} (ha : SZ 100000 a) : ref08_Back_R (ng a.num) (tn a.num) (ten a.den) (ng a.num) (ab a.num) (lim a.den) := by
 have h2 := tenl (n := 0) ha.2
 have h3 := ha.2
 exact ref08_Back_go ⟨_, _, ref07_Back_is ha.1, _, ref_Back_is (by omega) (by omega), rfl, rfl, rfl⟩
theorem ref07_Clean_is {b : Bool} {l : List Int} (hw : ∀ x ∈ l, 0 ≤ x) {n : Nat} (hn : n ≤ 1000) (hs : l.length ≤ 9223372036854775807) : ∃ z : Int, ref07_Clean_R b l (n : Int) (ng z) (ab z) ∧ zl n z := by
 refine ⟨sg b (cleaned l n), ref07_Clean_go ⟨_, ref_Clean_is hw hn hs, ?_⟩, ?_⟩
 ·cases b with
  | true => exact .inl ⟨rfl, decide_eq_decide.2 (by rw [lim_pos]; simp [sg]), by simp [ab, sg]⟩
  | false => exact .inr ⟨by simp, ng_pos (by simp [sg]), by simp [ab, sg]⟩
 ·have : ab (sg b (cleaned l n)) = lim (cleaned l n) := by cases b <;> simp [ab, sg]
  unfold zl
  rw [this]; exact cleaned_len l n
theorem ref08_Clean_is {b : Bool} {l m : List Int} (hl : ∀ x ∈ l, 0 ≤ x) (hm : ∀ x ∈ m, 0 ≤ x) {n : Nat} (hn : n ≤ 1000) (hn1 : 1 ≤ n) (hs : l.length ≤ 9223372036854775807) (hs' : m.length ≤ 9223372036854775807) : ∃ q : Rat, ref08_Clean_R b l m (n : Int) (ng q.num) (ab q.num) (lim q.den) ∧ SZ n q := by
 obtain ⟨z, hz, hzl⟩ := ref07_Clean_is (b := b) hl hn hs
 have hzl' := hzl.mono (show n ≤ 100000 by omega)
 have hml := cleaned_len m n
 by_cases h : cleaned m n = 0
 ·have h1 : (lim 1).length ≤ n := Nat.le_trans (lim_len_one (by omega)) hn1
  have hq := SZ.normalize (d := 1) (by omega) hzl h1
  refine ⟨Rat.normalize z 1, ref08_Clean_go ⟨_, ref_Clean_is hm hn hs', .inl ⟨by rw [h, lim_nil.2 rfl]; rfl, _, _, hz, _, _, ref07_Of_is hzl', _, ?_, _, _, _, ref08_Low_is (d := 1) (by omega) hzl' (by omega), _, _, _, ref08_Back_is (hq.mono (by omega)), rfl, rfl, rfl⟩⟩, hq⟩
  have := ref_Of_is (x := 1) (by omega) (Nat.le_trans (tenl (n := 0) (by omega)) (by omega))
  rwa [show lim 1 = [((1 : Nat) : Int)] from digs_one (by omega) (by omega) (by omega)] at this
 ·have hq := SZ.normalize h hzl hml
  have h2 := tenl (n := 0) (x := cleaned m n) (by omega)
  refine ⟨Rat.normalize z (cleaned m n) h, ref08_Clean_go ⟨_, ref_Clean_is hm hn hs', .inr ⟨?_, _, _, hz, _, _, ref07_Of_is hzl', _, ref_Of_is (by omega) (by omega), _, _, _, ref08_Low_is h hzl' (by omega), _, _, _, ref08_Back_is (hq.mono (by omega)), rfl, rfl, rfl⟩⟩, hq⟩
  have := lim_pos (n := cleaned m n)
  omega
end Go.Proofs.YtfijdkdpcjfiaaaGreatA
