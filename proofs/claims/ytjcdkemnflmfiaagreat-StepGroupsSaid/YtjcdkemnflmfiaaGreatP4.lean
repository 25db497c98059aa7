/- Products by Karatsuba's way: what the functions answer. -/
import Derived.Test.YtjcdkemnflmfiaaGreatP3
set_option linter.unusedVariables false
set_option linter.unusedSimpArgs false
namespace Go.Proofs.YtjcdkemnflmfiaaGreatA
open Go
theorem mul_cut_is {x n : Nat} (hs : (lim x).length ≤ 100000000000) (hn : n ≤ 100000000000) : mul_cut_R (lim x) (n : Int) (lim (x % 4294967296 ^ n)) (lim (x / 4294967296 ^ n)) := by
 refine mul_cut_go ?_
 rw [mn_nat]
 refine ⟨by omega, by omega, ?_⟩
 rw [Int.toNat_natCast]
 have h1 : (lim x).take (min n (lim x).length) = (lim x).take n := by
  rcases Nat.le_total n (lim x).length with h | h
  ·rw [Nat.min_eq_left h]
  ·rw [Nat.min_eq_right h, List.take_of_length_le (Nat.le_refl _), List.take_of_length_le h]
 have h2 : (lim x).drop (min n (lim x).length) = (lim x).drop n := by
  rcases Nat.le_total n (lim x).length with h | h
  ·rw [Nat.min_eq_left h]
  ·rw [Nat.min_eq_right h, List.drop_eq_nil_of_le (Nat.le_refl _), List.drop_eq_nil_of_le h]
 rw [h1, h2]
 exact ⟨_, mul_made_is ((lim_dig x).take n) (by rw [List.length_take]; omega) (lim_take x n).1, _, mul_made_is ((lim_dig x).drop n) (by rw [List.length_drop]; omega) (lim_take x n).2, rfl, rfl⟩
theorem mul_up_is {x n : Nat} (hs : (lim x).length ≤ 1000000000) (hn : n ≤ 1000000000) : mul_up_R (lim x) (n : Int) (lim (x * 4294967296 ^ n)) := by
 have h1 : n + (lim x).length < 9223372036854775808 := by omega
 refine mul_up_go ?_
 rw [w_add h1, Int.toNat_natCast]
 refine ⟨by omega, by omega, _, rfl, by omega, by rw [List.length_replicate]; omega, _, rfl, lim (x * 4294967296 ^ n), ?_, rfl⟩
 rw [Int.toNat_natCast, List.length_replicate, List.take_replicate, List.drop_replicate, Nat.min_eq_left (by omega), Nat.add_sub_cancel_left, Nat.min_self, Nat.sub_self, List.replicate_zero, List.append_nil, List.take_of_length_le (Nat.le_refl _)]
 refine mul_made_is ((Dig.zeros (by omega) _).append (lim_dig x)) (by rw [List.length_append, List.length_replicate]; omega) ?_
 rw [val_append, val_zeros, List.length_replicate, lim_val, Int.zero_add, Int.mul_comm, Int.natCast_mul, pow32]
theorem nat_Sum3 {x y z : Nat} (hx : (lim x).length ≤ 100000000000) (hxy : (lim (x + y)).length ≤ 100000000000) (hy : (lim y).length ≤ 100000000000) (hz : (lim z).length ≤ 100000000000) : nat_Sum_R [lim x, lim y, lim z] (lim (x + y + z)) := by
 have h0 : ([] : List Int) = lim 0 := (lim_nil.2 rfl).symm
 have a1 := nat_Add_is (x := 0) (y := x) (by rw [← h0]; simp) (by omega)
 rw [← h0, Nat.zero_add] at a1
 refine nat_Sum_go (nat_Sum_l0_go (.inl ⟨show (0 : Int) < ((3 : Nat) : Int) by decide, by decide, show (0 : Int) < ((3 : Nat) : Int) by decide, _, a1, ?_⟩))
 rw [show wi ((0 : Int) + 1) = 1 from s64i (by decide) (by decide)]
 refine nat_Sum_l1_go (.inl ⟨show (1 : Int) < ((3 : Nat) : Int) by decide, by decide, show (1 : Int) < ((3 : Nat) : Int) by decide, _, nat_Add_is (x := x) (y := y) (by omega) (by omega), ?_⟩)
 rw [show wi ((1 : Int) + 1) = 2 from s64i (by decide) (by decide)]
 refine nat_Sum_l1_go (.inl ⟨show (2 : Int) < ((3 : Nat) : Int) by decide, by decide, show (2 : Int) < ((3 : Nat) : Int) by decide, _, nat_Add_is (x := x + y) (y := z) (by omega) (by omega), ?_⟩)
 rw [show wi ((2 : Int) + 1) = 3 from s64i (by decide) (by decide)]
 exact nat_Sum_l1_go (.inr ⟨show ¬ (3 : Int) < ((3 : Nat) : Int) by decide, rfl⟩)
theorem alg_kara (xl xh yl yh P : Nat) : xl * yl + ((xl + xh) * (yl + yh) - xl * yl - xh * yh) * P + xh * yh * (P * P) = (xl + P * xh) * (yl + P * yh) := by
 have h : (xl + xh) * (yl + yh) = xl * yl + (xh * yh + (xl * yh + xh * yl)) := by grind
 rw [h, Nat.add_sub_cancel_left, Nat.add_sub_cancel_left]
 grind
theorem mul_Short_is (M : Nat) : ∀ {x y : Nat}, (lim x).length ≤ M → (lim y).length ≤ M → M ≤ 1000000 → mul_Short_R (lim x) (lim y) (lim (x * y)) := by
 induction M using Nat.strongRecOn with
 | _ M ih =>
  intro x y hx hy hM
  refine mul_Short_go ?_
  rw [mn_nat, mx_nat]
  by_cases hsm : min (lim x).length (lim y).length < 4
  ·exact .inl ⟨by omega, _, mul_Long_is (by omega), rfl⟩
  ·refine .inr ⟨by omega, ?_⟩
   obtain ⟨L, hL⟩ : ∃ L, L = max (lim x).length (lim y).length := ⟨_, rfl⟩
   have hL4 : 4 ≤ L := by omega
   have hLM : L ≤ M := by omega
   obtain ⟨n, hn⟩ : ∃ n, n = (L + 1) / 2 := ⟨_, rfl⟩
   have hw : wi (Int.tdiv (wi (((max (lim x).length (lim y).length : Nat) : Int) + 1)) 2) = (n : Int) := by
    rw [w_succ (by omega), td (by omega), s64i (by omega) (by omega)]; omega
   have hw2 : wi (2 * (n : Int)) = ((2 * n : Nat) : Int) := by rw [s64i (by omega) (by omega)]; omega
   rw [hw, hw2]
   clear hw hw2
   have hxl : x < 4294967296 ^ L := lim_len.1 (by omega)
   have hyl : y < 4294967296 ^ L := lim_len.1 (by omega)
   have hPpos : 0 < 4294967296 ^ n := Nat.pow_pos (by omega)
   have hLn : 4294967296 ^ L ≤ 4294967296 ^ (n + n) := Nat.pow_le_pow_right (by omega) (by omega)
   rw [Nat.pow_add] at hLn
   have hx1 : x / 4294967296 ^ n < 4294967296 ^ n := Nat.div_lt_of_lt_mul (by omega)
   have hy1 : y / 4294967296 ^ n < 4294967296 ^ n := Nat.div_lt_of_lt_mul (by omega)
   have hx0 : x % 4294967296 ^ n < 4294967296 ^ n := Nat.mod_lt _ hPpos
   have hy0 : y % 4294967296 ^ n < 4294967296 ^ n := Nat.mod_lt _ hPpos
   have hxe := Nat.mod_add_div x (4294967296 ^ n)
   have hye := Nat.mod_add_div y (4294967296 ^ n)
   obtain ⟨xl, hxl'⟩ : ∃ a, a = x % 4294967296 ^ n := ⟨_, rfl⟩
   obtain ⟨xh, hxh'⟩ : ∃ a, a = x / 4294967296 ^ n := ⟨_, rfl⟩
   obtain ⟨yl, hyl'⟩ : ∃ a, a = y % 4294967296 ^ n := ⟨_, rfl⟩
   obtain ⟨yh, hyh'⟩ : ∃ a, a = y / 4294967296 ^ n := ⟨_, rfl⟩
   refine ⟨_, _, mul_cut_is (x := x) (n := n) (by omega) (by omega), _, _, mul_cut_is (x := y) (n := n) (by omega) (by omega), ?_⟩
   rw [← hxl', ← hxh', ← hyl', ← hyh']
   rw [← hxl'] at hx0 hxe
   rw [← hxh'] at hx1 hxe
   rw [← hyl'] at hy0 hye
   rw [← hyh'] at hy1 hye
   have l0 : (lim xl).length ≤ n := lim_len.2 hx0
   have l1 : (lim xh).length ≤ n := lim_len.2 hx1
   have l2 : (lim yl).length ≤ n := lim_len.2 hy0
   have l3 : (lim yh).length ≤ n := lim_len.2 hy1
   have hP1 : 4294967296 ^ (n + 1) = 4294967296 ^ n * 4294967296 := Nat.pow_succ ..
   have l4 : (lim (xl + xh)).length ≤ n + 1 := lim_len.2 (by omega)
   have l5 : (lim (yl + yh)).length ≤ n + 1 := lim_len.2 (by omega)
   have hn1 : n + 1 < M := by omega
   have hprod : ∀ {a b m p : Nat}, (lim a).length ≤ m → (lim b).length ≤ p → (lim (a * b)).length ≤ m + p := by
    intro a b m p h1 h2
    have h1 := lim_len.1 h1
    have h2 := lim_len.1 h2
    refine lim_len.2 ?_
    rw [Nat.pow_add]
    exact Nat.mul_lt_mul'' h1 h2
   have m1 := hprod l0 l2
   have m2 := hprod l1 l3
   have m3 := hprod l4 l5
   have hsum : (xl + xh) * (yl + yh) = xl * yl + (xh * yh + (xl * yh + xh * yl)) := by grind
   have s1 : ¬ (xl + xh) * (yl + yh) < xl * yl := by omega
   have s2 : ¬ (xl + xh) * (yl + yh) - xl * yl < xh * yh := by omega
   have m4 : (lim ((xl + xh) * (yl + yh) - xl * yl)).length ≤ n + 1 + (n + 1) := Nat.le_trans (digs_len_mono (by omega) (by omega)) m3
   have m5 : (lim ((xl + xh) * (yl + yh) - xl * yl - xh * yh)).length ≤ n + 1 + (n + 1) := Nat.le_trans (digs_len_mono (by omega) (by omega)) m3
   clear hsum
   refine ⟨_, ih n (by omega) l0 l2 (by omega), ?_⟩
   refine ⟨_, ih n (by omega) l1 l3 (by omega), ?_⟩
   refine ⟨_, nat_Add_is (by omega) (by omega), ?_⟩
   refine ⟨_, nat_Add_is (by omega) (by omega), ?_⟩
   refine ⟨_, ih (n + 1) hn1 l4 l5 (by omega), ?_⟩
   have sub1 := nat_Sub_ge (x := (xl + xh) * (yl + yh)) (y := xl * yl) (by omega) (by omega) (by omega)
   have sub2 := nat_Sub_ge (x := (xl + xh) * (yl + yh) - xl * yl) (y := xh * yh) (by omega) (by omega) (by omega)
   refine ⟨_, _, sub1, _, _, sub2, _, mul_up_is (n := n) (by omega) (by omega), _, rfl, _, mul_up_is (n := 2 * n) (by omega) (by omega), ?_⟩
   have p1 : (lim (((xl + xh) * (yl + yh) - xl * yl - xh * yh) * 4294967296 ^ n)).length ≤ n + 1 + (n + 1) + (n + 1) := hprod m5 (lim_len.2 (by omega))
   have p2 : (lim (xh * yh * 4294967296 ^ (2 * n))).length ≤ n + n + (2 * n + 1) := hprod m2 (lim_len.2 (Nat.pow_lt_pow_right (by omega) (by omega)))
   have p3 : (lim (xl * yl + ((xl + xh) * (yl + yh) - xl * yl - xh * yh) * 4294967296 ^ n)).length ≤ n + n + (n + 1 + (n + 1) + (n + 1)) + 1 := by
    have q1 := lim_len.1 m1
    have q2 := lim_len.1 p1
    refine lim_len.2 ?_
    have e1 : 4294967296 ^ (n + n) ≤ 4294967296 ^ (n + n + (n + 1 + (n + 1) + (n + 1))) := Nat.pow_le_pow_right (by omega) (by omega)
    have e2 : 4294967296 ^ (n + 1 + (n + 1) + (n + 1)) ≤ 4294967296 ^ (n + n + (n + 1 + (n + 1) + (n + 1))) := Nat.pow_le_pow_right (by omega) (by omega)
    rw [Nat.pow_succ]
    omega
   refine ⟨_, nat_Sum3 (by omega) (by omega) (by omega) (by omega), ?_⟩
   have hPP : 4294967296 ^ (2 * n) = 4294967296 ^ n * 4294967296 ^ n := by rw [Nat.two_mul, Nat.pow_add]
   rw [hPP, alg_kara, hxe, hye]
theorem mul_Mul_is {x y M : Nat} (hx : (lim x).length ≤ M) (hy : (lim y).length ≤ M) (hM : M ≤ 1000000) : mul_Mul_R (lim x) (lim y) (lim (x * y)) :=
 mul_Mul_go ⟨_, mul_Short_is M hx hy hM, rfl⟩
theorem lim_mul_len {x y m p : Nat} (h1 : (lim x).length ≤ m) (h2 : (lim y).length ≤ p) : (lim (x * y)).length ≤ m + p := by
 have h1 := lim_len.1 h1
 have h2 := lim_len.1 h2
 refine lim_len.2 ?_
 rw [Nat.pow_add]
 exact Nat.mul_lt_mul'' h1 h2
theorem lim_add_len {x y m : Nat} (h1 : (lim x).length ≤ m) (h2 : (lim y).length ≤ m) : (lim (x + y)).length ≤ m + 1 := by
 have h1 := lim_len.1 h1
 have h2 := lim_len.1 h2
 refine lim_len.2 ?_
 rw [Nat.pow_succ]
 omega
theorem lim_len_mono {x y : Nat} (h : x ≤ y) : (lim x).length ≤ (lim y).length := digs_len_mono (by omega) h
theorem lim_len_one {x : Nat} (h : x < 4294967296) : (lim x).length ≤ 1 := lim_len.2 (by rw [Nat.pow_one]; exact h)
end Go.Proofs.YtjcdkemnflmfiaaGreatA
