/- Whole numbers and fractions: what the program's functions answer. -/
import Derived.Test.YtjcdkemnflmfiaaGreatP14
import Derived.Test.YtjcdkemnflmfiaaGreatW5
import Derived.Test.YtjcdkemnflmfiaaGreatW6
set_option linter.unusedVariables false
set_option linter.unusedSimpArgs false
namespace Go.Proofs.YtjcdkemnflmfiaaGreatA
open Go
def ng (z : Int) : Bool := decide (z < 0)
def ab (z : Int) : List Int := lim z.natAbs
def sg (b : Bool) (n : Nat) : Int := if b = true then -(n : Int) else n
def sn (x : Int) : Int := if x < 0 then -1 else if 0 < x then 1 else 0
theorem ng_neg {z : Int} (h : z < 0) : ng z = true := decide_eq_true h
theorem ng_pos {z : Int} (h : ¬ z < 0) : ng z = false := decide_eq_false h
theorem ng_ne {z : Int} (h : ¬ z < 0) : ¬ ng z = true := by rw [ng_pos h]; simp
theorem sg_neg {z : Int} (h : z < 0) (n : Nat) : sg (ng z) n = -(n : Int) := by rw [ng_neg h]; rfl
theorem sg_pos {z : Int} (h : ¬ z < 0) (n : Nat) : sg (ng z) n = (n : Int) := by rw [ng_pos h]; rfl
theorem ng_nat (d : Nat) : ng (d : Int) = false := ng_pos (by omega)
theorem ab_nat (d : Nat) : ab (d : Int) = lim d := by rw [ab, Int.natAbs_natCast]
theorem lim_pos {n : Nat} : (0 < ((lim n).length : Int)) ↔ 0 < n := by
 constructor
 ·intro h
  rcases Nat.eq_zero_or_pos n with rfl | h1
  ·rw [lim_nil.2 rfl] at h; simp at h
  ·exact h1
 ·intro h
  have : (lim n).length ≠ 0 := fun h1 => by have := lim_nil.1 (List.length_eq_zero_iff.1 h1); omega
  omega
theorem ab_zero {x : Int} : ((ab x).length : Int) = 0 ↔ x = 0 := by
 have := lim_pos (n := x.natAbs)
 constructor <;> intro h <;> (unfold ab at *; omega)
theorem made_is {b : Bool} {n : Nat} {z : Int} (hz : z = sg b n) (hn : (lim n).length ≤ 1000000) : whole_Made_R b (lim n) (ng z) (ab z) := by
 refine whole_Made_go ⟨_, _, nat_Make_lim (by omega), ?_⟩
 subst hz
 have e : ∀ m : Int, m.natAbs = n → lim m.natAbs = lim n := fun m h => by rw [h]
 cases b with
 | true => exact .inl ⟨rfl, decide_eq_decide.2 (by rw [lim_pos]; simp [sg]), e _ (by simp [sg])⟩
 | false => exact .inr ⟨by simp, ng_pos (by simp [sg]), e _ (by simp [sg])⟩
def zl (n : Nat) (x : Int) : Prop := (ab x).length ≤ n
theorem zl.mono {m n : Nat} {x : Int} (h : zl m x) (hmn : m ≤ n) : zl n x := Nat.le_trans h hmn
theorem zl.add {n : Nat} {x y : Int} (hx : zl n x) (hy : zl n y) : zl (n + 1) (x + y) := Nat.le_trans (lim_len_mono (by omega)) (lim_add_len hx hy)
theorem zl.mul {m n : Nat} {x y : Int} (hx : zl m x) (hy : zl n y) : zl (m + n) (x * y) := by
 unfold zl ab
 rw [Int.natAbs_mul]; exact lim_mul_len hx hy
theorem zl.neg {n : Nat} {x : Int} (hx : zl n x) : zl n (-x) := by
 unfold zl ab
 rw [Int.natAbs_neg]; exact hx
theorem zl.nat {n d : Nat} (h : (lim d).length ≤ n) : zl n (d : Int) := by
 unfold zl
 rw [ab_nat]; exact h
theorem whole_Sign_is (x : Int) : whole_Sign_R (ng x) (ab x) (sn x) := by
 refine whole_Sign_go ?_
 by_cases h0 : x = 0
 ·exact .inl ⟨ab_zero.2 h0, by rw [h0]; rfl⟩
 ·refine .inr ⟨fun h => h0 (ab_zero.1 h), ?_⟩
  by_cases h : x < 0
  ·exact .inl ⟨ng_neg h, if_pos h⟩
  ·exact .inr ⟨ng_ne h, by unfold sn; rw [if_neg h, if_pos (by omega)]⟩
theorem whole_Add_is {x y : Int} (hx : zl 100000 x) (hy : zl 100000 y) : whole_Add_R (ng x) (ab x) (ng y) (ab y) (ng (x + y)) (ab (x + y)) := by
 have hx' : (lim x.natAbs).length ≤ 100000 := hx
 have hy' : (lim y.natAbs).length ≤ 100000 := hy
 have hS : ∀ n : Nat, n ≤ x.natAbs + y.natAbs → (lim n).length ≤ 1000000 := fun n h => Nat.le_trans (lim_len_mono h) (Nat.le_trans (lim_add_len hx' hy') (by omega))
 refine whole_Add_go ?_
 by_cases h1 : x < 0
 ·refine .inl ⟨ng_neg h1, ?_⟩
  by_cases h2 : y < 0
  ·exact .inl ⟨ng_neg h2, _, nat_Add_is (Nat.le_trans hx' (by omega)) (Nat.le_trans hy' (by omega)), _, _, made_is (z := x + y) (by rw [sg_neg h1]; omega) (hS _ (by omega)), rfl, rfl⟩
  ·refine .inr ⟨ng_ne h2, ?_⟩
   by_cases h3 : y.natAbs ≤ x.natAbs
   ·exact ⟨_, _, nat_Sub_ge (Nat.le_trans hx' (by omega)) (Nat.le_trans hy' (by omega)) h3, .inl ⟨rfl, _, _, made_is (z := x + y) (by rw [sg_neg h1]; omega) (hS _ (by omega)), rfl, rfl⟩⟩
   ·exact ⟨_, _, nat_Sub_lt (Nat.le_trans hx' (by omega)) (Nat.le_trans hy' (by omega)) (by omega), .inr ⟨by omega, _, _, nat_Sub_ge (Nat.le_trans hy' (by omega)) (Nat.le_trans hx' (by omega)) (by omega), _, _, made_is (z := x + y) (by rw [sg_pos h2]; omega) (hS _ (by omega)), rfl, rfl⟩⟩
 ·refine .inr ⟨ng_ne h1, ?_⟩
  by_cases h2 : y < 0
  ·refine .inl ⟨ng_neg h2, ?_⟩
   by_cases h3 : y.natAbs ≤ x.natAbs
   ·exact ⟨_, _, nat_Sub_ge (Nat.le_trans hx' (by omega)) (Nat.le_trans hy' (by omega)) h3, .inl ⟨rfl, _, _, made_is (z := x + y) (by rw [sg_pos h1]; omega) (hS _ (by omega)), rfl, rfl⟩⟩
   ·exact ⟨_, _, nat_Sub_lt (Nat.le_trans hx' (by omega)) (Nat.le_trans hy' (by omega)) (by omega), .inr ⟨by omega, _, _, nat_Sub_ge (Nat.le_trans hy' (by omega)) (Nat.le_trans hx' (by omega)) (by omega), _, _, made_is (z := x + y) (by rw [sg_neg h2]; omega) (hS _ (by omega)), rfl, rfl⟩⟩
  ·exact .inr ⟨ng_ne h2, _, nat_Add_is (Nat.le_trans hx' (by omega)) (Nat.le_trans hy' (by omega)), _, _, made_is (z := x + y) (by rw [sg_pos h1]; omega) (hS _ (by omega)), rfl, rfl⟩
theorem sg_mul (x y : Int) : x * y = sg (!(ng x == ng y)) (x.natAbs * y.natAbs) := by
 by_cases h1 : x < 0
 ·by_cases h2 : y < 0
  ·rw [ng_neg h1, ng_neg h2]
   show x * y = ((x.natAbs * y.natAbs : Nat) : Int)
   rw [Int.natCast_mul, show (x.natAbs : Int) = -x by omega, show (y.natAbs : Int) = -y by omega, Int.neg_mul_neg]
  ·rw [ng_neg h1, ng_pos h2]
   show x * y = -((x.natAbs * y.natAbs : Nat) : Int)
   rw [Int.natCast_mul, show (x.natAbs : Int) = -x by omega, show (y.natAbs : Int) = y by omega, Int.neg_mul, Int.neg_neg]
 ·by_cases h2 : y < 0
  ·rw [ng_pos h1, ng_neg h2]
   show x * y = -((x.natAbs * y.natAbs : Nat) : Int)
   rw [Int.natCast_mul, show (x.natAbs : Int) = x by omega, show (y.natAbs : Int) = -y by omega, Int.mul_neg, Int.neg_neg]
  ·rw [ng_pos h1, ng_pos h2]
   show x * y = ((x.natAbs * y.natAbs : Nat) : Int)
   rw [Int.natCast_mul, show (x.natAbs : Int) = x by omega, show (y.natAbs : Int) = y by omega]
theorem whole_Mul_is {x y : Int} (hx : zl 100000 x) (hy : zl 100000 y) : whole_Mul_R (ng x) (ab x) (ng y) (ab y) (ng (x * y)) (ab (x * y)) :=
 whole_Mul_go ⟨_, mul_Mul_is hx hy (by omega), _, _, made_is (sg_mul x y) (Nat.le_trans (lim_mul_len hx hy) (by omega)), rfl, rfl⟩
theorem whole_Of_is {n : Int} (h0 : -9223372036854775808 ≤ n) (h1 : n < 9223372036854775808) : whole_Of_R n (ng n) (ab n) := by
 have hs : ∀ m : Nat, m < 18446744073709551616 → (lim m).length ≤ 1000000 := fun m h => Nat.le_trans ((lim_len (n := 2)).2 (by omega)) (by omega)
 refine whole_Of_go ?_
 by_cases h : n < 0
 ·refine .inl ⟨h, ?_⟩
  rw [s64i (n := n + 1) (by omega) (by omega), s64i (n := 0 - (n + 1)) (by omega) (by omega), w64i (by omega) (by omega), show 0 - (n + 1) = ((n.natAbs - 1 : Nat) : Int) by omega]
  refine ⟨_, nat_Of_is (by omega), _, nat_Of_is (n := 1) (by omega), _, nat_Add_is (Nat.le_trans (hs _ (by omega)) (by omega)) (Nat.le_trans (hs _ (by omega)) (by omega)), _, _, made_is (z := n) ?_ (hs _ (by omega)), rfl, rfl⟩
  simp [sg]; omega
 ·refine .inr ⟨h, ?_⟩
  rw [w64i (by omega) (by omega), show n = ((n.natAbs : Nat) : Int) by omega]
  exact ⟨_, nat_Of_is (by omega), _, _, made_is (z := ((n.natAbs : Nat) : Int)) (by simp [sg]) (hs _ (by omega)), rfl, rfl⟩
def SZ (n : Nat) (q : Rat) : Prop := zl n q.num ∧ (lim q.den).length ≤ n
theorem SZ.mono {m n : Nat} {q : Rat} (h : SZ m q) (hmn : m ≤ n) : SZ n q := ⟨h.1.mono hmn, Nat.le_trans h.2 hmn⟩
theorem norm_num (n : Int) (d : Nat) (hd : d ≠ 0) : (Rat.normalize n d hd).num = sg (ng n) (n.natAbs / Nat.gcd n.natAbs d) := by
 rw [Rat.num_normalize]
 by_cases h : n < 0
 ·rw [sg_neg h, show n = -((n.natAbs : Nat) : Int) by omega, Int.natAbs_neg, Int.natAbs_natCast, Int.neg_ediv_of_dvd (Int.natCast_dvd_natCast.2 (Nat.gcd_dvd_left _ _)), Int.natCast_ediv]
 ·rw [sg_pos h, Int.natCast_ediv]
  congr 1
  omega
theorem norm_natAbs (n : Int) (d : Nat) (hd : d ≠ 0) : (Rat.normalize n d hd).num.natAbs = n.natAbs / Nat.gcd n.natAbs d := by
 rw [norm_num]
 by_cases h : n < 0
 ·rw [sg_neg h, Int.natAbs_neg, Int.natAbs_natCast]
 ·rw [sg_pos h, Int.natAbs_natCast]
theorem SZ.normalize {n : Nat} {x : Int} {d : Nat} (hd : d ≠ 0) (hx : zl n x) (hdl : (lim d).length ≤ n) : SZ n (Rat.normalize x d hd) := by
 refine ⟨?_, ?_⟩
 ·unfold zl ab
  rw [norm_natAbs]
  exact Nat.le_trans (lim_len_mono (Nat.div_le_self _ _)) hx
 ·rw [Rat.den_normalize]
  exact Nat.le_trans (lim_len_mono (Nat.div_le_self _ _)) hdl
theorem divInt_norm (a b : Int) (hb : b.natAbs ≠ 0) : Rat.divInt a b = Rat.normalize (if b < 0 then -a else a) b.natAbs hb := by
 cases b with
 | ofNat n =>
  have hb' : n ≠ 0 := hb
  show Rat.divInt a ((n : Nat) : Int) = Rat.normalize (if ((n : Nat) : Int) < 0 then -a else a) n hb'
  rw [Rat.divInt_ofNat, Rat.mkRat_def, dif_neg hb']
  congr 1
 | negSucc n =>
  rw [if_pos (by omega)]
  rfl
theorem SZ.divInt {n : Nat} {x y : Int} (hy : y ≠ 0) (hx : zl n x) (hyl : zl n y) : SZ n (Rat.divInt x y) := by
 rw [divInt_norm x y (by omega)]
 refine SZ.normalize _ ?_ hyl
 split
 ·exact hx.neg
 ·exact hx
theorem add_eq (a b : Rat) : a + b = Rat.divInt (a.num * (b.den : Int) + b.num * (a.den : Int)) ((a.den : Int) * (b.den : Int)) := by
 have h1 : (a.den : Int) ≠ 0 := by have := a.den_nz; omega
 have h2 : (b.den : Int) ≠ 0 := by have := b.den_nz; omega
 have := Rat.divInt_add_divInt a.num b.num h1 h2
 rw [Rat.num_divInt_den, Rat.num_divInt_den] at this
 exact this
theorem mul_eq (a b : Rat) : a * b = Rat.divInt (a.num * b.num) ((a.den : Int) * (b.den : Int)) := by
 have := Rat.divInt_mul_divInt a.num b.num (d₁ := (a.den : Int)) (d₂ := (b.den : Int))
 rw [Rat.num_divInt_den, Rat.num_divInt_den] at this
 exact this
theorem den_ne (a : Rat) : (a.den : Int) ≠ 0 := by have := a.den_nz; omega
theorem den_mul_ne (a b : Rat) : (a.den : Int) * (b.den : Int) ≠ 0 := Int.mul_ne_zero (den_ne a) (den_ne b)
theorem rat_low_is {n : Int} {d : Nat} (hd : d ≠ 0) (hn : zl 100000 n) (hdl : (lim d).length ≤ 100000) : rat_low_R (ng n) (ab n) (lim d) (ng (Rat.normalize n d hd).num) (ab (Rat.normalize n d hd).num) (lim (Rat.normalize n d hd).den) := by
 have hn' : (lim n.natAbs).length ≤ 100000 := hn
 have hg : 0 < Nat.gcd n.natAbs d := Nat.gcd_pos_of_pos_right _ (by omega)
 have hgl : (lim (Nat.gcd n.natAbs d)).length ≤ 500000000 := Nat.le_trans (lim_len_mono (Nat.gcd_le_right _ (by omega))) (by omega)
 refine rat_low_go ⟨_, gcd_Euclid_is (by omega) (by omega), _, _, divide_Exact_is (by omega) hgl hg (Nat.mod_eq_zero_of_dvd (Nat.gcd_dvd_left _ _)), _, _, divide_Exact_is (by omega) hgl hg (Nat.mod_eq_zero_of_dvd (Nat.gcd_dvd_right _ _)), _, _, made_is (norm_num n d hd) (Nat.le_trans (lim_len_mono (Nat.div_le_self _ _)) (by omega)), rfl, rfl, ?_⟩
 rw [Rat.den_normalize]
theorem rat_Make_is {a b : Int} (hb : b ≠ 0) (ha : zl 100000 a) (hbl : zl 100000 b) : rat_Make_R (ng a) (ab a) (ng b) (ab b) (ng (Rat.divInt a b).num) (ab (Rat.divInt a b).num) (lim (Rat.divInt a b).den) 0 := by
 refine rat_Make_go ⟨_, whole_Sign_is b, .inr ⟨by unfold sn; split <;> (try split) <;> omega, _, _, made_is (z := if b < 0 then -a else a) ?_ (Nat.le_trans ha (by omega)), _, _, _, rat_low_is (d := b.natAbs) (by omega) ?_ hbl, ?_⟩⟩
 ·by_cases h1 : a < 0 <;> by_cases h2 : b < 0
  ·rw [ng_neg h1, ng_neg h2, if_pos h2]; simp [sg]; omega
  ·rw [ng_neg h1, ng_pos h2, if_neg h2]; simp [sg]; omega
  ·rw [ng_pos h1, ng_neg h2, if_pos h2]; simp [sg]; omega
  ·rw [ng_pos h1, ng_pos h2, if_neg h2]; simp [sg]; omega
 ·split
  ·exact ha.neg
  ·exact ha
 ·rw [divInt_norm a b (by omega)]
  exact ⟨rfl, rfl, rfl, rfl⟩
theorem rat_Make_zero {a : Int} : rat_Make_R (ng a) (ab a) (ng (0)) (ab (0)) false [] [] 3 := rat_Make_go ⟨_, whole_Sign_is 0, .inl ⟨rfl, rfl, rfl, rfl, rfl⟩⟩
theorem rat_up_is {b : Bool} {l : List Int} {d : Nat} (hd : (lim d).length ≤ 100000) : rat_up_R b l (lim d) (ng ((d : Int))) (ab ((d : Int))) :=
 rat_up_go ⟨_, _, made_is (b := false) (z := (d : Int)) (by simp [sg]) (by omega), rfl, rfl⟩
theorem rat_Add_is {a b : Rat} (ha : SZ 10000 a) (hb : SZ 10000 b) : rat_Add_R (ng a.num) (ab a.num) (lim a.den) (ng b.num) (ab b.num) (lim b.den) (ng (a + b).num) (ab (a + b).num) (lim (a + b).den) := by
 have z1 := ha.1.mul (zl.nat hb.2)
 have z2 := hb.1.mul (zl.nat ha.2)
 have z3 := (zl.nat ha.2).mul (zl.nat hb.2)
 refine rat_Add_go ⟨_, _, rat_up_is (Nat.le_trans hb.2 (by omega)), _, _, whole_Mul_is (ha.1.mono (by omega)) ((zl.nat hb.2).mono (by omega)), _, _, rat_up_is (Nat.le_trans ha.2 (by omega)), _, _, whole_Mul_is (hb.1.mono (by omega)) ((zl.nat ha.2).mono (by omega)), _, _, whole_Add_is (z1.mono (by omega)) (z2.mono (by omega)), _, _, rat_up_is (Nat.le_trans ha.2 (by omega)), _, _, rat_up_is (Nat.le_trans hb.2 (by omega)), _, _, whole_Mul_is ((zl.nat ha.2).mono (by omega)) ((zl.nat hb.2).mono (by omega)), _, _, _, _, rat_Make_is (den_mul_ne a b) ((z1.add z2).mono (by omega)) (z3.mono (by omega)), ?_⟩
 rw [add_eq]
 exact ⟨rfl, rfl, rfl⟩
theorem rat_Mul_is {a b : Rat} (ha : SZ 10000 a) (hb : SZ 10000 b) : rat_Mul_R (ng a.num) (ab a.num) (lim a.den) (ng b.num) (ab b.num) (lim b.den) (ng (a * b).num) (ab (a * b).num) (lim (a * b).den) := by
 refine rat_Mul_go ⟨_, _, whole_Mul_is (ha.1.mono (by omega)) (hb.1.mono (by omega)), _, _, rat_up_is (Nat.le_trans ha.2 (by omega)), _, _, rat_up_is (Nat.le_trans hb.2 (by omega)), _, _, whole_Mul_is ((zl.nat ha.2).mono (by omega)) ((zl.nat hb.2).mono (by omega)), _, _, _, _, rat_Make_is (den_mul_ne a b) ((ha.1.mul hb.1).mono (by omega)) (((zl.nat ha.2).mul (zl.nat hb.2)).mono (by omega)), ?_⟩
 rw [mul_eq]
 exact ⟨rfl, rfl, rfl⟩
theorem num_ne {a : Rat} (h : a ≠ 0) : a.num ≠ 0 := fun h1 => h (Rat.num_eq_zero.1 h1)
theorem rat_Inv_is {a : Rat} (h : a ≠ 0) (ha : SZ 10000 a) : rat_Inv_R (ng a.num) (ab a.num) (lim a.den) (ng (a⁻¹).num) (ab (a⁻¹).num) (lim (a⁻¹).den) 0 := by
 refine rat_Inv_go ⟨_, _, rat_up_is (Nat.le_trans ha.2 (by omega)), _, _, _, _, rat_Make_is (num_ne h) ((zl.nat ha.2).mono (by omega)) (ha.1.mono (by omega)), ?_⟩
 rw [Rat.inv_def]
 exact ⟨rfl, rfl, rfl, rfl⟩
theorem rat_Inv_zero : rat_Inv_R (ng ((0 : Rat)).num) (ab ((0 : Rat)).num) (lim ((0 : Rat)).den) false [] [] 3 := rat_Inv_go ⟨_, _, rat_up_is (d := 1) (Nat.le_trans (lim_len_one (by omega)) (by omega)), _, _, _, _, rat_Make_zero, rfl, rfl, rfl, rfl⟩
theorem SZ.inv {n : Nat} {a : Rat} (h : a ≠ 0) (ha : SZ n a) : SZ n a⁻¹ := by
 rw [Rat.inv_def]
 exact SZ.divInt (num_ne h) (zl.nat ha.2) ha.1
theorem rat_Div_is {a b : Rat} (h : b ≠ 0) (ha : SZ 10000 a) (hb : SZ 10000 b) : rat_Div_R (ng a.num) (ab a.num) (lim a.den) (ng b.num) (ab b.num) (lim b.den) (ng (a / b).num) (ab (a / b).num) (lim (a / b).den) 0 := by
 rw [Rat.div_def]
 exact rat_Div_go ⟨_, _, _, _, rat_Inv_is h hb, .inl ⟨rfl, _, _, _, rat_Mul_is ha (hb.inv h), rfl, rfl, rfl, rfl⟩⟩
theorem rat_Div_zero {a : Rat} : rat_Div_R (ng a.num) (ab a.num) (lim a.den) (ng ((0 : Rat)).num) (ab ((0 : Rat)).num) (lim ((0 : Rat)).den) false [] [] 3 := rat_Div_go ⟨_, _, _, _, rat_Inv_zero, .inr ⟨by omega, rfl, rfl, rfl, rfl⟩⟩
theorem rat_Of_is {n : Int} (h0 : -9223372036854775808 ≤ n) (h1 : n < 9223372036854775808) : rat_Of_R n (ng ((n : Rat)).num) (ab ((n : Rat)).num) (lim ((n : Rat)).den) := by
 rw [Rat.num_intCast, Rat.den_intCast]
 exact rat_Of_go ⟨_, _, whole_Of_is h0 h1, _, rat_one_go ⟨_, nat_Of_is (n := 1) (by omega), rfl⟩, rfl, rfl, rfl⟩
theorem zl_word {n : Int} (h0 : -9223372036854775808 ≤ n) (h1 : n < 9223372036854775808) : zl 2 n := lim_len.2 (by omega)
theorem SZ_int {n : Int} (h0 : -9223372036854775808 ≤ n) (h1 : n < 9223372036854775808) : SZ 2 (n : Rat) := by
 refine ⟨?_, ?_⟩
 ·rw [Rat.num_intCast]; exact zl_word h0 h1
 ·rw [Rat.den_intCast]; exact Nat.le_trans (lim_len_one (by omega)) (by omega)
end Go.Proofs.YtjcdkemnflmfiaaGreatA
