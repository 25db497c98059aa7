/- Limbs and natural numbers: what the functions answer. -/
import Derived.Test.YtjcdkemnflmfiaaGreatP1
import Derived.Test.YtjcdkemnflmfiaaGreatW1
set_option linter.unusedVariables false
set_option linter.unusedSimpArgs false
namespace Go.Proofs.YtjcdkemnflmfiaaGreatA
open Go
theorem limb_Add_is {a b c : Int} (ha : 0 ≤ a ∧ a < 18446744073709551616) (hb : 0 ≤ b ∧ b < 18446744073709551616) (hc : 0 ≤ c ∧ c < 18446744073709551616) :
  limb_Add_R a b c ((a % 4294967296 + b % 4294967296 + c % 4294967296) % 4294967296) ((a % 4294967296 + b % 4294967296 + c % 4294967296) / 4294967296) := by
 refine limb_Add_go ⟨_, rfl, ?_⟩
 rw [and32 ha.1 ha.2, and32 hb.1 hb.2, and32 hc.1 hc.2, w64i (n := a % 4294967296 + b % 4294967296) (by omega) (by omega), w64i (n := a % 4294967296 + b % 4294967296 + c % 4294967296) (by omega) (by omega), and32 (by omega) (by omega)]
 exact ⟨rfl, rfl⟩
theorem limb_Sub_lt {a b c : Int} (ha : 0 ≤ a ∧ a < 18446744073709551616) (hb : 0 ≤ b ∧ b < 18446744073709551616) (hc : 0 ≤ c ∧ c < 18446744073709551616) (h : a % 4294967296 < b % 4294967296 + c % 4294967296) :
  limb_Sub_R a b c (a % 4294967296 + (b % 4294967296 + c % 4294967296 - a % 4294967296 + 4294967295) / 4294967296 * 4294967296 - (b % 4294967296 + c % 4294967296)) ((b % 4294967296 + c % 4294967296 - a % 4294967296 + 4294967295) / 4294967296) := by
 refine limb_Sub_go ?_
 rw [and32 ha.1 ha.2, and32 hb.1 hb.2, and32 hc.1 hc.2, w64i (n := b % 4294967296 + c % 4294967296) (by omega) (by omega)]
 refine .inl ⟨h, _, rfl, _, rfl, _, rfl, ?_⟩
 rw [w64i (n := b % 4294967296 + c % 4294967296 - a % 4294967296) (by omega) (by omega), w64i (n := b % 4294967296 + c % 4294967296 - a % 4294967296 + 4294967295) (by omega) (by omega)]
 show _ = wu (wu (a % 4294967296 + wu ((b % 4294967296 + c % 4294967296 - a % 4294967296 + 4294967295) / 4294967296 * 4294967296)) - (b % 4294967296 + c % 4294967296)) ∧ _ = (b % 4294967296 + c % 4294967296 - a % 4294967296 + 4294967295) / 4294967296
 rw [w64i (n := (b % 4294967296 + c % 4294967296 - a % 4294967296 + 4294967295) / 4294967296 * 4294967296) (by omega) (by omega), w64i (n := a % 4294967296 + _) (by omega) (by omega), w64i (by omega) (by omega)]
 exact ⟨rfl, rfl⟩
theorem limb_Sub_ge {a b c : Int} (ha : 0 ≤ a ∧ a < 18446744073709551616) (hb : 0 ≤ b ∧ b < 18446744073709551616) (hc : 0 ≤ c ∧ c < 18446744073709551616) (h : ¬ a % 4294967296 < b % 4294967296 + c % 4294967296) :
  limb_Sub_R a b c (a % 4294967296 - (b % 4294967296 + c % 4294967296)) 0 := by
 refine limb_Sub_go ?_
 rw [and32 ha.1 ha.2, and32 hb.1 hb.2, and32 hc.1 hc.2, w64i (n := b % 4294967296 + c % 4294967296) (by omega) (by omega)]
 refine .inr ⟨h, _, rfl, ?_, rfl⟩
 rw [Int.add_zero, w64i (n := a % 4294967296) (by omega) (by omega), w64i (by omega) (by omega)]
theorem limb_Mul_is {a b c d : Int} (ha : 0 ≤ a ∧ a < 18446744073709551616) (hb : 0 ≤ b ∧ b < 18446744073709551616) (hc : 0 ≤ c ∧ c < 18446744073709551616) (hd : 0 ≤ d ∧ d < 18446744073709551616) :
  limb_Mul_R a b c d ((a % 4294967296 * (b % 4294967296) + c % 4294967296 + d % 4294967296) % 4294967296) ((a % 4294967296 * (b % 4294967296) + c % 4294967296 + d % 4294967296) / 4294967296) := by
 refine limb_Mul_go ⟨_, rfl, ?_⟩
 rw [and32 ha.1 ha.2, and32 hb.1 hb.2, and32 hc.1 hc.2, and32 hd.1 hd.2]
 have hp := prod32 (x := a % 4294967296) (y := b % 4294967296) (by omega) (by omega) (by omega) (by omega)
 rw [w64i (n := a % 4294967296 * (b % 4294967296)) (by omega) (by omega), w64i (n := a % 4294967296 * (b % 4294967296) + c % 4294967296) (by omega) (by omega), w64i (n := a % 4294967296 * (b % 4294967296) + c % 4294967296 + d % 4294967296) (by omega) (by omega), and32 (by omega) (by omega)]
 exact ⟨rfl, rfl⟩
theorem nat_trim_loop {l : List Int} (hl : Dig 4294967296 l) (hs : l.length ≤ 1099511627776) {x : Nat} (hx : val 4294967296 l = (x : Int)) : ∀ n : Nat, n ≤ l.length → (∀ j, n ≤ j → l.getD j 0 = 0) → nat_trim_l0 l (n : Int) (lim x) := by
 intro n
 induction n with
 | zero =>
  intro hn hz
  have hx0 : x = 0 := by
   have := val_all_zeros 4294967296 l (fun j => hz j (by omega))
   omega
  refine nat_trim_l0_go (.inr ⟨by omega, by omega, by omega, ?_⟩)
  rw [hx0, show lim 0 = [] from lim_nil.2 rfl]; rfl
 | succ n ih =>
  intro hn hz
  have hw : wi (((n + 1 : Nat) : Int) - 1) = (n : Int) := by rw [s64i (by omega) (by omega)]; omega
  refine nat_trim_l0_go (.inl ⟨by omega, ?_⟩)
  rw [hw]
  refine ⟨by omega, by omega, ?_⟩
  rw [Int.toNat_natCast]
  by_cases h : l.getD n 0 = 0
  ·refine .inl ⟨h, ih (by omega) (fun j hj => ?_)⟩
   rcases Nat.lt_or_ge n j with h1 | h1
   ·exact hz j h1
   ·rw [show j = n by omega]; exact h
  ·refine .inr ⟨h, by omega, by omega, ?_⟩
   rw [Int.toNat_natCast, take_digs (b := 4294967296) (by omega) hl (by omega) hz h hx]
theorem nat_trim_is {l : List Int} (hl : Dig 4294967296 l) (hs : l.length ≤ 1099511627776) {x : Nat} (hx : val 4294967296 l = (x : Int)) : nat_trim_R l (lim x) :=
 nat_trim_go (nat_trim_loop hl hs hx l.length (Nat.le_refl _) (fun j hj => getD_ge hj))
theorem nat_Make_loop {l : List Int} (hl : Dig 4294967296 l) (hs : l.length ≤ 1099511627776) {x : Nat} (hx : val 4294967296 l = (x : Int)) (d : Nat) : ∀ i : Nat, i + d = l.length → nat_Make_l1 l (l.length : Int) (i : Int) (l.take i) (lim x) 0 := by
 induction d with
 | zero =>
  intro i hi
  refine nat_Make_l1_go (.inr ⟨by omega, lim x, ?_, rfl, rfl⟩)
  rw [List.take_of_length_le (by omega)]
  exact nat_trim_is hl hs hx
 | succ d ih =>
  intro i hi
  have hg := Dig.getD (by omega) hl i
  refine nat_Make_l1_go (.inl ⟨by omega, by omega, by omega, .inr ⟨by rw [Int.toNat_natCast]; omega, by rw [List.length_take]; omega, _, rfl, ?_⟩⟩)
  rw [Int.toNat_natCast, s64i (by omega) (by omega), ← take_snoc_getD l i (by omega)]
  exact ih (i + 1) (by omega)
theorem nat_Make_is {l : List Int} (hl : Dig 4294967296 l) (hs : l.length ≤ 1099511627776) {x : Nat} (hx : val 4294967296 l = (x : Int)) : nat_Make_R l (lim x) 0 := by
 refine nat_Make_go ⟨by omega, by omega, _, rfl, ?_⟩
 rcases Nat.eq_zero_or_pos l.length with h | h
 ·refine nat_Make_l0_go (.inr ⟨by omega, lim x, ?_, rfl, rfl⟩)
  have : l = [] := List.eq_nil_of_length_eq_zero h
  subst this
  exact nat_trim_is hl hs hx
 ·have hg := Dig.getD (by omega) hl 0
  refine nat_Make_l0_go (.inl ⟨by omega, by omega, by omega, .inr ⟨by rw [show (0 : Int).toNat = 0 from rfl]; omega, by simp, _, rfl, ?_⟩⟩)
  have := nat_Make_loop hl hs hx (l.length - 1) 1 (by omega)
  rw [take_snoc_getD l 0 h] at this
  exact this
theorem nat_Make_lim {x : Nat} (hs : (lim x).length ≤ 1099511627776) : nat_Make_R (lim x) (lim x) 0 := nat_Make_is (lim_dig x) hs (lim_val x)
theorem nat_at_is (l : List Int) (i : Nat) : nat_at_R l (i : Int) (l.getD i 0) := by
 by_cases h : (l.length : Int) ≤ (i : Int)
 ·exact nat_at_go (.inl ⟨h, getD_ge (by omega)⟩)
 ·exact nat_at_go (.inr ⟨h, by omega, by omega, rfl⟩)
theorem nat_Add_loop {a b : List Int} (ha : Dig 4294967296 a) (hb : Dig 4294967296 b) {n x : Nat} (hn : n ≤ 1000000000000) (hna : a.length ≤ n) (hnb : b.length ≤ n) (hx : val 4294967296 a + val 4294967296 b = (x : Int)) (d : Nat) : ∀ (i : Nat) (s : List Int) (c : Int),
  i + d = n → s.length = n + 1 → Dig 4294967296 s → 0 ≤ c → c ≤ 1 → (∀ j, i ≤ j → s.getD j 0 = 0) → val 4294967296 s + c * 4294967296 ^ i = val 4294967296 (a.take i) + val 4294967296 (b.take i) →
  nat_Add_l0 a b (n : Int) c (n : Int) (i : Int) s (lim x) := by
 induction d with
 | zero =>
  intro i s c hi hl hs h0 h1 hz hv
  obtain rfl : i = n := by omega
  refine nat_Add_l0_go (.inr ⟨by omega, by omega, by omega, _, rfl, lim x, ?_, rfl⟩)
  rw [Int.toNat_natCast]
  refine nat_trim_is (hs.set (by omega) _) (by rw [List.length_set]; omega) ?_
  rw [val_set _ _ _ _ (by omega), hz i (Nat.le_refl _), Int.sub_zero, ← hx]
  rw [List.take_of_length_le hna, List.take_of_length_le hnb, Int.mul_comm c] at hv
  exact hv
 | succ d ih =>
  intro i s c hi hl hs h0 h1 hz hv
  have ga := Dig.getD (by omega) ha i
  have gb := Dig.getD (by omega) hb i
  refine nat_Add_l0_go (.inl ⟨by omega, _, nat_at_is a i, _, nat_at_is b i, _, _, limb_Add_is (by omega) (by omega) (by omega), by omega, by omega, _, rfl, ?_⟩)
  rw [s64i (by omega) (by omega), Int.toNat_natCast]
  refine ih (i + 1) _ _ (by omega) (by rw [List.length_set]; exact hl) (hs.set (by omega) _) (by omega) (by omega) (fun j hj => ?_) ?_
  ·rw [getD_set_ne (by omega)]; exact hz j (by omega)
  ·rw [val_set _ _ _ _ (by omega), hz i (Nat.le_refl _), val_take_succ', val_take_succ', Int.sub_zero, Int.pow_succ]
   have e : (a.getD i 0 % 4294967296 + b.getD i 0 % 4294967296 + c % 4294967296) % 4294967296 + 4294967296 * ((a.getD i 0 % 4294967296 + b.getD i 0 % 4294967296 + c % 4294967296) / 4294967296) = a.getD i 0 + b.getD i 0 + c := by omega
   generalize (a.getD i 0 % 4294967296 + b.getD i 0 % 4294967296 + c % 4294967296) % 4294967296 = p at e ⊢
   generalize (a.getD i 0 % 4294967296 + b.getD i 0 % 4294967296 + c % 4294967296) / 4294967296 = q at e ⊢
   generalize (4294967296 : Int) ^ i = P at hv ⊢
   grind
theorem mx_nat (a b : Nat) : mx (a : Int) (b : Int) = ((max a b : Nat) : Int) := by unfold mx; split <;> omega
theorem mn_nat (a b : Nat) : mn (a : Int) (b : Int) = ((min a b : Nat) : Int) := by unfold mn; split <;> omega
theorem nat_Add_is {x y : Nat} (hx : (lim x).length ≤ 1000000000000) (hy : (lim y).length ≤ 1000000000000) : nat_Add_R (lim x) (lim y) (lim (x + y)) := by
 refine nat_Add_go ?_
 rw [mx_nat, s64i (n := ((max (lim x).length (lim y).length : Nat) : Int) + 1) (by omega) (by omega)]
 refine ⟨by omega, by omega, _, rfl, ?_⟩
 refine nat_Add_loop (lim_dig x) (lim_dig y) (n := max (lim x).length (lim y).length) (by omega) (by omega) (by omega) (by rw [lim_val, lim_val]; omega) (max (lim x).length (lim y).length) 0 _ 0 (by omega) ?_ (Dig.zeros (by omega) _) (by omega) (by omega) (fun j _ => getD_zeros _ j) ?_
 ·rw [List.length_replicate]; omega
 ·rw [val_zeros]; rfl
end Go.Proofs.YtjcdkemnflmfiaaGreatA
