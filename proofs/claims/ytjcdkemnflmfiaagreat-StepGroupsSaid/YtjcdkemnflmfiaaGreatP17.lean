/- Whole numbers and fractions: what the reference's functions answer. -/
import Derived.Test.YtjcdkemnflmfiaaGreatP15
import Derived.Test.YtjcdkemnflmfiaaGreatP16
import Derived.Test.YtjcdkemnflmfiaaGreatW7
set_option linter.unusedVariables false
set_option linter.unusedSimpArgs false
namespace Go.Proofs.YtjcdkemnflmfiaaGreatA
open Go
def tn (z : Int) : List Int := ten z.natAbs
theorem tn_nat (d : Nat) : tn (d : Int) = ten d := by rw [tn, Int.natAbs_natCast]
theorem ten_pos {n : Nat} : (0 < ((ten n).length : Int)) ↔ 0 < n := by
 constructor
 ·intro h
  rcases Nat.eq_zero_or_pos n with rfl | h1
  ·rw [ten_nil.2 rfl] at h; simp at h
  ·exact h1
 ·intro h
  have : (ten n).length ≠ 0 := fun h1 => by have := ten_nil.1 (List.length_eq_zero_iff.1 h1); omega
  omega
theorem rmade_is {b : Bool} {n : Nat} {z : Int} (hz : z = sg b n) : ref07_made_R b (ten n) (ng z) (tn z) := by
 refine ref07_made_go ?_
 subst hz
 have e : ∀ m : Int, m.natAbs = n → ten m.natAbs = ten n := fun m h => by rw [h]
 cases b with
 | true => exact .inl ⟨rfl, decide_eq_decide.2 (by rw [ten_pos]; simp [sg]), e _ (by simp [sg])⟩
 | false => exact .inr ⟨by simp, ng_pos (by simp [sg]), e _ (by simp [sg])⟩
theorem tenl {n : Nat} {x : Nat} (h : (lim x).length ≤ 100000) : (ten x).length ≤ 300000 := Nat.le_trans (ten_of_lim h) (by omega)
theorem ref07_Back_is {x : Int} (hx : zl 100000 x) : ref07_Back_R (ng x) (tn x) (ng x) (ab x) := by
 have hx' : (lim x.natAbs).length ≤ 100000 := hx
 have h1 := tenl (n := 0) hx'
 exact ref07_Back_go ⟨_, ref_Back_is (by omega) (by omega), rfl, rfl⟩
theorem ref07_Mul_is {x y : Int} (hx : zl 100000 x) (hy : zl 100000 y) : ref07_Mul_R (ng x) (tn x) (ng y) (tn y) (ng (x * y)) (tn (x * y)) := by
 have h1 := tenl (n := 0) hx
 have h2 := tenl (n := 0) hy
 exact ref07_Mul_go ⟨_, ref_Mul_is (by omega), _, _, rmade_is (sg_mul x y), rfl, rfl⟩
theorem ref07_Add_is {x y : Int} (hx : zl 100000 x) (hy : zl 100000 y) : ref07_Add_R (ng x) (tn x) (ng y) (tn y) (ng (x + y)) (tn (x + y)) := by
 have h1 := tenl (n := 0) hx
 have h2 := tenl (n := 0) hy
 have hc := ref_Cmp_is (x := x.natAbs) (y := y.natAbs) (by omega) (by omega)
 refine ref07_Add_go ?_
 by_cases h1 : x < 0
 ·refine .inl ⟨ng_neg h1, ?_⟩
  by_cases h2 : y < 0
  ·exact .inl ⟨ng_neg h2, _, ref_Add_is (by omega) (by omega), _, _, rmade_is (z := x + y) (by rw [sg_neg h1]; omega), rfl, rfl⟩
  ·refine .inr ⟨ng_ne h2, _, hc, ?_⟩
   by_cases h3 : y.natAbs ≤ x.natAbs
   ·exact .inl ⟨by split <;> (try split) <;> omega, _, ref_Sub_is (by omega) h3, _, _, rmade_is (z := x + y) (by rw [sg_neg h1]; omega), rfl, rfl⟩
   ·exact .inr ⟨by split <;> (try split) <;> omega, _, ref_Sub_is (by omega) (by omega), _, _, rmade_is (z := x + y) (by rw [sg_pos h2]; omega), rfl, rfl⟩
 ·refine .inr ⟨ng_ne h1, ?_⟩
  by_cases h2 : y < 0
  ·refine .inl ⟨ng_neg h2, _, hc, ?_⟩
   by_cases h3 : y.natAbs ≤ x.natAbs
   ·exact .inl ⟨by split <;> (try split) <;> omega, _, ref_Sub_is (by omega) h3, _, _, rmade_is (z := x + y) (by rw [sg_pos h1]; omega), rfl, rfl⟩
   ·exact .inr ⟨by split <;> (try split) <;> omega, _, ref_Sub_is (by omega) (by omega), _, _, rmade_is (z := x + y) (by rw [sg_neg h2]; omega), rfl, rfl⟩
  ·exact .inr ⟨ng_ne h2, _, ref_Add_is (by omega) (by omega), _, _, rmade_is (z := x + y) (by rw [sg_pos h1]; omega), rfl, rfl⟩
theorem ref08_Low_is {n : Int} {d : Nat} (hd : d ≠ 0) (hn : zl 100000 n) (hdl : (lim d).length ≤ 100000) : ref08_Low_R (ng n) (tn n) (ten d) (ng (Rat.normalize n d hd).num) (tn (Rat.normalize n d hd).num) (ten (Rat.normalize n d hd).den) := by
 have h1 := tenl (n := 0) hn
 have h2 := tenl (n := 0) hdl
 have hg : 0 < Nat.gcd n.natAbs d := Nat.gcd_pos_of_pos_right _ (by omega)
 have hgl : (ten (Nat.gcd n.natAbs d)).length ≤ 100000000 := Nat.le_trans (ten_len_mono (Nat.gcd_le_right _ (by omega))) (by omega)
 refine ref08_Low_go ⟨_, ref_Gcd_is (by omega) (by omega), _, _, ref_Div_is (by omega) hgl hg, _, _, ref_Div_is (by omega) hgl hg, ?_⟩
 have e1 : tn (Rat.normalize n d hd).num = ten (n.natAbs / Nat.gcd n.natAbs d) := by rw [tn, norm_natAbs]
 have e2 : ten (Rat.normalize n d hd).den = ten (d / Nat.gcd n.natAbs d) := by rw [Rat.den_normalize]
 have e3 := norm_num n d hd
 by_cases h : n < 0
 ·refine .inl ⟨ng_neg h, ?_, e1, e2⟩
  rw [e3, sg_neg h]
  refine decide_eq_decide.2 ?_
  rw [ten_pos]; omega
 ·refine .inr ⟨ng_ne h, ?_, e1, e2⟩
  rw [e3, sg_pos h, ng_nat]
theorem ref08_Back_is {a : Rat} (ha : SZ 100000 a) : ref08_Back_R (ng a.num) (tn a.num) (ten a.den) (ng a.num) (ab a.num) (lim a.den) := by
 have h2 := tenl (n := 0) ha.2
 have h3 := ha.2
 exact ref08_Back_go ⟨_, _, ref07_Back_is ha.1, _, ref_Back_is (by omega) (by omega), rfl, rfl, rfl⟩
theorem natdiv (n : Int) {d : Nat} (hd : d ≠ 0) : Rat.divInt n (d : Int) = Rat.normalize n d hd := by
 rw [Rat.divInt_ofNat, Rat.mkRat_def, dif_neg hd]
theorem ref08_Mul_is {a b : Rat} (ha : SZ 10000 a) (hb : SZ 10000 b) : ref08_Mul_R (ng a.num) (tn a.num) (ten a.den) (ng b.num) (tn b.num) (ten b.den) (ng (a * b).num) (tn (a * b).num) (ten (a * b).den) := by
 have h1 := tenl (n := 0) (Nat.le_trans ha.2 (by omega))
 have h2 := tenl (n := 0) (Nat.le_trans hb.2 (by omega))
 have hd : a.den * b.den ≠ 0 := Nat.mul_ne_zero a.den_nz b.den_nz
 have := ref08_Low_is hd ((ha.1.mul hb.1).mono (by omega)) (Nat.le_trans (lim_mul_len ha.2 hb.2) (by omega))
 rw [← natdiv, Int.natCast_mul, ← mul_eq] at this
 exact ref08_Mul_go ⟨_, _, ref07_Mul_is (ha.1.mono (by omega)) (hb.1.mono (by omega)), _, ref_Mul_is (by omega), _, _, _, this, rfl, rfl, rfl⟩
theorem ref07_Mul_nat {x : Int} {d : Nat} (hx : zl 100000 x) (hd : (lim d).length ≤ 100000) : ref07_Mul_R (ng x) (tn x) false (ten d) (ng (x * (d : Int))) (tn (x * (d : Int))) := by
 have := ref07_Mul_is hx (zl.nat hd)
 rwa [ng_nat, tn_nat] at this
theorem ref08_Add_is {a b : Rat} (ha : SZ 10000 a) (hb : SZ 10000 b) : ref08_Add_R (ng a.num) (tn a.num) (ten a.den) (ng b.num) (tn b.num) (ten b.den) (ng (a + b).num) (tn (a + b).num) (ten (a + b).den) := by
 have h1 := tenl (n := 0) (Nat.le_trans ha.2 (by omega))
 have h2 := tenl (n := 0) (Nat.le_trans hb.2 (by omega))
 have hd : a.den * b.den ≠ 0 := Nat.mul_ne_zero a.den_nz b.den_nz
 have z1 := ha.1.mul (zl.nat hb.2)
 have z2 := hb.1.mul (zl.nat ha.2)
 have := ref08_Low_is hd ((z1.add z2).mono (by omega)) (Nat.le_trans (lim_mul_len ha.2 hb.2) (by omega))
 rw [← natdiv, Int.natCast_mul, ← add_eq] at this
 exact ref08_Add_go ⟨_, _, ref07_Mul_nat (ha.1.mono (by omega)) (Nat.le_trans hb.2 (by omega)), _, _, ref07_Mul_nat (hb.1.mono (by omega)) (Nat.le_trans ha.2 (by omega)), _, _, ref07_Add_is (z1.mono (by omega)) (z2.mono (by omega)), _, ref_Mul_is (by omega), _, _, _, this, rfl, rfl, rfl⟩
theorem ref08_Inv_is {a : Rat} (h : a ≠ 0) : ref08_Inv_R (ng a.num) (tn a.num) (ten a.den) (ng (a⁻¹).num) (tn (a⁻¹).num) (ten (a⁻¹).den) := by
 have h0 := num_ne h
 have hd := a.den_nz
 refine ref08_Inv_go ⟨?_, ?_, ?_⟩
 ·rw [Rat.num_inv]
  by_cases h1 : a.num < 0
  ·rw [ng_neg h1, Int.sign_eq_neg_one_of_neg h1, ng_neg (by omega)]
  ·rw [ng_pos h1, Int.sign_eq_one_of_pos (by omega), ng_pos (by omega)]
 ·rw [tn, Rat.num_inv, Int.natAbs_mul, Int.natAbs_sign_of_ne_zero h0, Nat.one_mul, Int.natAbs_natCast]
 ·rw [Rat.den_inv, if_neg h0]; rfl
theorem ref08_Div_is {a b : Rat} (h : b ≠ 0) (ha : SZ 10000 a) (hb : SZ 10000 b) : ref08_Div_R (ng a.num) (tn a.num) (ten a.den) (ng b.num) (tn b.num) (ten b.den) (ng (a / b).num) (tn (a / b).num) (ten (a / b).den) := by
 rw [Rat.div_def]
 exact ref08_Div_go ⟨_, _, _, ref08_Inv_is h, _, _, _, ref08_Mul_is ha (hb.inv h), rfl, rfl, rfl⟩
theorem ref07_Num_is {n : Int} (h0 : -9223372036854775807 ≤ n) (h1 : n ≤ 9223372036854775807) : ref07_Num_R n (ng n) (tn n) := by
 refine ref07_Num_go ?_
 by_cases h : n < 0
 ·refine .inl ⟨h, ?_⟩
  rw [s64i (by omega) (by omega), show 0 - n = ((n.natAbs : Nat) : Int) by omega]
  exact ⟨_, ref_Num_is (by omega), _, _, rmade_is (z := n) (by simp [sg]; omega), rfl, rfl⟩
 ·refine .inr ⟨h, ?_⟩
  have hn : n = ((n.natAbs : Nat) : Int) := by omega
  have := ref_Num_is (n := n.natAbs) (by omega)
  rw [← hn] at this
  exact ⟨_, this, _, _, rmade_is (z := n) (by simp [sg]; omega), rfl, rfl⟩
theorem lim_eq {x y : Nat} : lim x = lim y ↔ x = y := ⟨lim_inj, fun h => by rw [h]⟩
theorem ref07_Same_is {x y : Int} (hx : zl 100000 x) : ref07_Same_R (ng x) (ab x) (ng y) (ab y) (decide (x = y)) := by
 have h := ref_Same_is (ab x) (ab y) (Nat.le_trans hx (by omega))
 have e : decide (ab x = ab y) = decide (x.natAbs = y.natAbs) := decide_eq_decide.2 lim_eq
 refine ref07_Same_go ?_
 by_cases ga : x < 0 <;> by_cases gb : y < 0
 ·exact .inl ⟨ng_neg ga, .inl ⟨ng_neg gb, _, h, by rw [e]; exact decide_eq_decide.2 (by omega)⟩⟩
 ·exact .inl ⟨ng_neg ga, .inr ⟨ng_ne gb, decide_eq_false (by omega)⟩⟩
 ·exact .inr ⟨ng_ne ga, .inl ⟨ng_neg gb, decide_eq_false (by omega)⟩⟩
 ·exact .inr ⟨ng_ne ga, .inr ⟨ng_ne gb, _, h, by rw [e]; exact decide_eq_decide.2 (by omega)⟩⟩
theorem ref08_Same_parts {x y : Int} {d e : Nat} (hx : zl 100000 x) (hd : (lim d).length ≤ 100000) : ref08_Same_R (ng x) (ab x) (lim d) (ng y) (ab y) (lim e) (decide (x = y ∧ d = e)) := by
 refine ref08_Same_go ⟨_, ref07_Same_is hx, ?_⟩
 by_cases h : x = y
 ·refine .inl ⟨decide_eq_true h, _, ref_Same_is _ _ (Nat.le_trans hd (by omega)), decide_eq_decide.2 ?_⟩
  rw [lim_eq]
  exact ⟨fun g => g.2, fun g => ⟨h, g⟩⟩
 ·refine .inr ⟨by simp [h], decide_eq_false fun g => h g.1⟩
theorem ref08_Same_is {a b : Rat} (ha : SZ 100000 a) : ref08_Same_R (ng a.num) (ab a.num) (lim a.den) (ng b.num) (ab b.num) (lim b.den) (decide (a = b)) := by
 have h := ref08_Same_parts (y := b.num) (e := b.den) ha.1 ha.2
 have e : decide (a = b) = decide (a.num = b.num ∧ a.den = b.den) := decide_eq_decide.2 ⟨fun g => by subst g; exact ⟨rfl, rfl⟩, fun g => Rat.ext g.1 g.2⟩
 rw [e]; exact h
theorem ref08_Same_refl {a : Rat} (ha : SZ 100000 a) : ref08_Same_R (ng a.num) (ab a.num) (lim a.den) (ng a.num) (ab a.num) (lim a.den) true := by
 have := ref08_Same_is (b := a) ha
 rwa [decide_eq_true rfl] at this
theorem ref08_Num_is {n d : Int} (h0 : -9223372036854775807 ≤ n) (h1 : n ≤ 9223372036854775807) (g0 : 0 < d) (g1 : d ≤ 9223372036854775807) : ref08_Num_R n d (ng (Rat.divInt n d).num) (tn (Rat.divInt n d).num) (ten (Rat.divInt n d).den) := by
 obtain ⟨e, rfl⟩ := Int.eq_ofNat_of_zero_le (Int.le_of_lt g0)
 have he : e ≠ 0 := by omega
 rw [natdiv n he]
 exact ref08_Num_go ⟨_, _, ref07_Num_is h0 h1, _, ref_Num_is (by omega), _, _, _, ref08_Low_is he ((zl_word (by omega) (by omega)).mono (by omega)) (Nat.le_trans ((lim_len (n := 2)).2 (by omega)) (by omega)), rfl, rfl, rfl⟩
end Go.Proofs.YtjcdkemnflmfiaaGreatA
