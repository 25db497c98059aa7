/- Powers and products of many: what the functions answer. -/
import Derived.Test.YtcmajlphfnihgaaP6
set_option linter.unusedVariables false
set_option linter.unusedSimpArgs false
namespace Go.Proofs.YtcmajlphfnihgaaA
open Go
theorem nat_Of_is {n : Nat} (h : n < 18446744073709551616) : nat_Of_R (n : Int) (lim n) := by
  refine nat_Of_go ⟨lim n, ?_, rfl⟩
  rw [tm (by omega), show (2 : Int) ^ 32 = 4294967296 from rfl]
  refine nat_trim_is (Dig.cons (by omega) (Dig.cons (by omega) (Dig.nil _))) (by simp) ?_
  rw [val_cons, val_cons, val_nil]; omega
theorem ref_Num_is {n : Nat} (h : n ≤ 4611686018427387904) : ref02_Num_R (n : Int) (ten n) := ref02_Num_go ⟨_, ref02_MulAdd_go (ref02_MulAdd_l0_go (.inr ⟨by simp, ref_MulAdd_tail2 h⟩)), rfl⟩
theorem mul_Pow_loop : ∀ (n : Nat) {p b P B : Nat}, (lim p).length ≤ P → (lim b).length ≤ B → P + n * B ≤ 100000 → n ≤ 100000 → mul_Pow_l0 (n : Int) (lim p) (lim b) (lim (p * b ^ n)) 0 := by
  intro n
  induction n using Nat.strongRecOn with
  | _ n ih =>
    intro p b P B hp hb hs hn
    rcases Nat.eq_zero_or_pos n with h0 | h0
    · subst h0
      exact mul_Pow_l0_go (.inr ⟨by omega, by rw [Nat.pow_zero, Nat.mul_one], rfl⟩)
    · have hB : B ≤ n * B := Nat.le_mul_of_pos_left B h0
      have hw : wi ((n : Int).tdiv 2) = ((n / 2 : Nat) : Int) := by rw [td (by omega), s64i (by omega) (by omega)]; omega
      have ht : (n : Int).tmod 2 = ((n % 2 : Nat) : Int) := by rw [tm (by omega)]; omega
      have hpb := lim_mul_len hp hb
      have hbb := lim_mul_len hb hb
      have h2 : (n / 2) * (B + B) = (2 * (n / 2)) * B := by grind
      have h3 : n = 2 * (n / 2) + n % 2 := by omega
      have e2 : (b * b) ^ (n / 2) = b ^ (2 * (n / 2)) := by rw [Nat.pow_mul, Nat.pow_two]
      refine mul_Pow_l0_go (.inl ⟨by omega, ?_⟩)
      rw [ht, hw]
      rcases Nat.mod_two_eq_zero_or_one n with hm | hm
      · refine .inr ⟨by omega, .inl ⟨by omega, _, mul_Square_is (M := 100000) (x := b) (by omega) (by omega), ?_⟩⟩
        have := ih (n / 2) (by omega) (P := P) (B := B + B) hp hbb (by rw [h2, show 2 * (n / 2) = n by omega]; exact hs) (by omega)
        rw [e2, show 2 * (n / 2) = n by omega] at this
        exact this
      · refine .inl ⟨by omega, _, mul_Mul_is (M := 100000) (x := p) (y := b) (by omega) (by omega) (by omega), ?_⟩
        have hsum : n * B = (2 * (n / 2)) * B + B := by rw [← Nat.succ_mul]; congr 1; omega
        by_cases h1 : 1 < n
        · refine .inl ⟨by omega, _, mul_Square_is (M := 100000) (x := b) (by omega) (by omega), ?_⟩
          have := ih (n / 2) (by omega) (P := P + B) (B := B + B) hpb hbb (by rw [h2]; omega) (by omega)
          rw [e2, Nat.mul_assoc, Nat.mul_comm b (b ^ _), ← Nat.pow_succ, show (2 * (n / 2)).succ = n by omega] at this
          exact this
        · have h1' : n = 1 := by omega
          subst h1'
          refine .inr ⟨by omega, ?_⟩
          have := ih 0 (by omega) (p := p * b) (b := b) (P := P + B) (B := B) hpb hb (by omega) (by omega)
          rw [Nat.pow_zero, Nat.mul_one] at this
          rw [Nat.pow_one]
          exact this
theorem mul_Pow_is {x n L : Nat} (hx : (lim x).length ≤ L) (hs : 1 + n * L ≤ 100000) (hn : n ≤ 10000) : mul_Pow_R (lim x) (n : Int) (lim (x ^ n)) 0 := by
  have h1 : (lim 1).length ≤ 1 := lim_len_one (by omega)
  have := mul_Pow_loop n (p := 1) (b := x) h1 hx hs (by omega)
  rw [Nat.one_mul] at this
  exact mul_Pow_go (.inr ⟨by omega, .inr ⟨by omega, _, nat_Of_is (n := 1) (by omega), this⟩⟩)
theorem lim_pow_len {x L : Nat} (hx : (lim x).length ≤ L) (i : Nat) : (lim (x ^ i)).length ≤ i * L + 1 := by
  induction i with
  | zero => rw [Nat.pow_zero]; exact Nat.le_trans (lim_len_one (by omega)) (by omega)
  | succ i ih =>
    have := lim_mul_len ih hx
    rw [Nat.pow_succ, Nat.succ_mul]
    omega
theorem ref03_Pow_loop {x n L : Nat} (hx : (lim x).length ≤ L) (hs : n * L + 1 ≤ 100000) (hL : L ≤ 100000) (hn : n ≤ 10000) (d : Nat) : ∀ i : Nat, i + d = n → ref03_Pow_l0 (n : Int) (ten x) (ten (x ^ i)) (i : Int) (lim (x ^ n)) 0 := by
  have tx := ten_of_lim hx
  induction d with
  | zero =>
    intro i hi
    obtain rfl : i = n := by omega
    have hl := lim_pow_len hx i
    have tl := ten_of_lim hl
    exact ref03_Pow_l0_go (.inr ⟨by omega, _, ref_Back_is (by omega) (by omega), rfl, rfl⟩)
  | succ d ih =>
    intro i hi
    have hi1 : i + 1 < 9223372036854775808 := by omega
    have hl := lim_pow_len hx i
    have tl := ten_of_lim hl
    have hiL : i * L ≤ n * L := Nat.mul_le_mul_right L (by omega)
    refine ref03_Pow_l0_go (.inl ⟨by omega, _, ref_Mul_is (x := x ^ i) (y := x) (by omega), ?_⟩)
    rw [w_succ hi1, ← Nat.pow_succ]
    exact ih (i + 1) (by omega)
theorem ref03_Pow_is {x n L : Nat} (hx : (lim x).length ≤ L) (hs : n * L + 1 ≤ 100000) (hL : L ≤ 100000) (hn : n ≤ 10000) : ref03_Pow_R (lim x) (n : Int) (lim (x ^ n)) 0 := by
  have tx := ten_of_lim hx
  have := ref03_Pow_loop hx hs hL hn n 0 (by omega)
  rw [Nat.pow_zero] at this
  exact ref03_Pow_go (.inr ⟨by omega, .inr ⟨by omega, _, ref_Of_is (by omega) (by omega), _, ref_Num_is (n := 1) (by omega), this⟩⟩)
/-- The product of many numbers. -/
def prodN (p : Nat) (ys : List Nat) : Nat := ys.foldl (· * ·) p
theorem getD_map_lim (ys : List Nat) (i : Nat) (h : i < ys.length) : (ys.map lim).getD i [] = lim (ys.getD i 0) := by
  rw [List.getD_eq_getElem?_getD, List.getD_eq_getElem?_getD, List.getElem?_map, List.getElem?_eq_getElem h]; rfl
theorem mul_Product_loop {ys : List Nat} (hy : ∀ y ∈ ys, (lim y).length ≤ 6) (hn : ys.length ≤ 100) (d : Nat) : ∀ (i p : Nat), i + d = ys.length → (lim p).length ≤ 1 + 6 * i → mul_Product_l0 (lim p) (ys.map lim) (ys.length : Int) (i : Int) (lim (prodN p (ys.drop i))) := by
  induction d with
  | zero =>
    intro i p hi hp
    rw [List.drop_eq_nil_of_le (by omega)]
    exact mul_Product_l0_go (.inr ⟨by omega, rfl⟩)
  | succ d ih =>
    intro i p hi hp
    have hil : i < ys.length := by omega
    have hi1 : i + 1 < 9223372036854775808 := by omega
    have hm : ys.getD i 0 ∈ ys := by rw [List.getD_eq_getElem?_getD, List.getElem?_eq_getElem hil]; exact List.getElem_mem hil
    have hl := hy _ hm
    have hd : ys.drop i = ys.getD i 0 :: ys.drop (i + 1) := by rw [List.getD_eq_getElem?_getD, List.getElem?_eq_getElem hil]; exact List.drop_eq_getElem_cons hil
    refine mul_Product_l0_go (.inl ⟨by omega, by omega, by rw [List.length_map]; omega, lim (p * ys.getD i 0), ?_, ?_⟩)
    · rw [Int.toNat_natCast, getD_map_lim ys i hil]
      exact mul_Mul_is (M := 1000) (by omega) (by omega) (by omega)
    · rw [w_succ hi1, hd]
      have := lim_mul_len hp hl
      exact ih (i + 1) _ (by omega) (by omega)
theorem mul_Product_is {ys : List Nat} (hy : ∀ y ∈ ys, (lim y).length ≤ 6) (hn : ys.length ≤ 100) : mul_Product_R (ys.map lim) (lim (prodN 1 ys)) := by
  have := mul_Product_loop hy hn ys.length 0 1 (by omega) (lim_len_one (by omega))
  refine mul_Product_go ⟨_, nat_Of_is (n := 1) (by omega), ?_⟩
  rw [List.length_map]
  exact this
theorem prodN_snoc (p : Nat) (ys : List Nat) (y : Nat) : prodN p (ys ++ [y]) = prodN p ys * y := by simp [prodN, List.foldl_append]
end Go.Proofs.YtcmajlphfnihgaaA
