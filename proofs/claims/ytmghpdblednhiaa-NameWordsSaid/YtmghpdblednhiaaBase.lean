/- Plain lemmas on 64-bit words, products and quotients of whole numbers. No program, no memory. -/
import Derived.Laws.BitsLemmas
import Derived.Laws.Bits64
import Derived.RowKit
namespace Go.Proofs.Ytmghpdblednhiaa.B
open Go

theorem w64 (n : Int) : IntKind.u64.wrap n = n % 18446744073709551616 := IntKind.wrap_u64 n
theorem w64i {n : Int} (h0 : 0 ≤ n) (h1 : n < 18446744073709551616) : IntKind.u64.wrap n = n := by rw [w64]; omega
theorem s64i {n : Int} (h0 : -9223372036854775808 ≤ n) (h1 : n < 9223372036854775808) : Go.RowKit.wrap64 n = n := by unfold Go.RowKit.wrap64; omega
theorem w_add {i j : Nat} (h : i + j < 9223372036854775808) : Go.RowKit.wrap64 ((i : Int) + (j : Int)) = ((i + j : Nat) : Int) := by rw [s64i (by omega) (by omega)]; omega
theorem w_succ {i : Nat} (h : i + 1 < 9223372036854775808) : Go.RowKit.wrap64 ((i : Int) + 1) = ((i + 1 : Nat) : Int) := by rw [s64i (by omega) (by omega)]; omega
theorem w_pred {i : Nat} (h : i < 9223372036854775808) : Go.RowKit.wrap64 (((i + 1 : Nat) : Int) - 1) = (i : Int) := by rw [s64i (by omega) (by omega)]; omega
theorem w_add_nn {i j : Nat} (h : i + j < 9223372036854775808) : 0 ≤ Go.RowKit.wrap64 ((i : Int) + (j : Int)) := by rw [w_add h]; exact Int.natCast_nonneg _
theorem w_add_lt {i j n : Nat} (h : i + j < 9223372036854775808) (hn : i + j < n) : Go.RowKit.wrap64 ((i : Int) + (j : Int)) < (n : Int) := by rw [w_add h]; exact Int.ofNat_lt.2 hn
theorem wf_u64 {x : Int} (h : (Lit.int .u64 x).wf = true) : 0 ≤ x ∧ x < 18446744073709551616 := by
  simp [Lit.wf, IntKind.min, IntKind.max, IntKind.signed, IntKind.bits] at h; omega
theorem wf_i64 {x : Int} (h : (Lit.int .i64 x).wf = true) : -9223372036854775808 ≤ x ∧ x < 9223372036854775808 := by
  simp [Lit.wf, IntKind.min, IntKind.max, IntKind.signed, IntKind.bits] at h; omega
theorem wf_u8 {x : Int} (h : (Lit.int .u8 x).wf = true) : 0 ≤ x ∧ x < 256 := by
  simp [Lit.wf, IntKind.min, IntKind.max, IntKind.signed, IntKind.bits] at h; omega
theorem wf_u32 {x : Int} (h : (Lit.int .u32 x).wf = true) : 0 ≤ x ∧ x < 4294967296 := by
  simp [Lit.wf, IntKind.min, IntKind.max, IntKind.signed, IntKind.bits] at h; omega
theorem wraps_u64' (n : Int) (h0 : 0 ≤ n) (h1 : n < 2 ^ 64) : IntKind.u64.wrap n = n := w64i h0 (by simpa using h1)
theorem and32 {x : Int} (h0 : 0 ≤ x) (h1 : x < 18446744073709551616) : Go.bits .and .u64 x 4294967295 = x % 4294967296 :=
  bits_mask .u64 64 (by decide) wraps_u64' 32 (by decide) x h0 (by simpa using h1)
theorem and1 {x : Int} (h0 : 0 ≤ x) (h1 : x < 18446744073709551616) : Go.bits .and .u64 x 1 = x % 2 :=
  bits_mask .u64 64 (by decide) wraps_u64' 1 (by decide) x h0 (by simpa using h1)
theorem or32 {x y : Int} (hx0 : 0 ≤ x) (hx : x % 4294967296 = 0) (hx1 : x < 18446744073709551616) (hy0 : 0 ≤ y) (hy : y < 4294967296) : Go.bits .or .u64 x y = x + y :=
  bits_join .u64 64 (by decide) wraps_u64' 32 x y hx0 (by simpa using hx) (by simpa using hx1) hy0 (by simpa using hy) (Int.lt_trans hy (by decide))
theorem shr_nat (x i : Int) (h0 : 0 ≤ i) (h1 : i < 64) : x / 2 ^ min i.toNat (IntKind.bits .u64) = x / 2 ^ i.toNat := by
  rw [Nat.min_eq_left (by show i.toNat ≤ 64; omega)]

theorem tm {a b : Int} (h : 0 ≤ a) : Int.tmod a b = a % b := Int.tmod_eq_emod_of_nonneg h
theorem td {a b : Int} (h : 0 ≤ a) : Int.tdiv a b = a / b := Int.tdiv_eq_ediv_of_nonneg h
theorem mul_nn {x y : Int} (hx : 0 ≤ x) (hy : 0 ≤ y) : 0 ≤ x * y := Int.mul_nonneg hx hy
theorem mul_le_ {x y a b : Int} (hx0 : 0 ≤ x) (hx : x ≤ a) (hy0 : 0 ≤ y) (hy : y ≤ b) : x * y ≤ a * b :=
  Int.mul_le_mul hx hy hy0 (Int.le_trans hx0 hx)
theorem mul_lt2 {a b A B : Int} (ha0 : 0 ≤ a) (ha : a < A) (hb0 : 0 ≤ b) (hb : b < B) : a * b < A * B := by
  have h1 : a * b ≤ (A - 1) * (B - 1) := mul_le_ ha0 (by omega) hb0 (by omega)
  have h2 : (A - 1) * (B - 1) = A * B - A - B + 1 := by grind
  omega
theorem prod32 {x y : Int} (hx0 : 0 ≤ x) (hx : x < 4294967296) (hy0 : 0 ≤ y) (hy : y < 4294967296) : 0 ≤ x * y ∧ x * y ≤ 18446744065119617025 :=
  ⟨mul_nn hx0 hy0, mul_le_ hx0 (show x ≤ 4294967295 by omega) hy0 (show y ≤ 4294967295 by omega)⟩
theorem pow_pos' (n : Nat) : (0 : Int) < 2 ^ n := by
  induction n with
  | zero => decide
  | succ n ih => rw [Int.pow_succ]; omega
theorem pow_mono' {m n : Nat} (h : m ≤ n) : (2 : Int) ^ m ≤ 2 ^ n := by
  induction h with
  | refl => exact Int.le_refl _
  | step h ih => rename_i k; have := pow_pos' k; rw [Int.pow_succ]; omega
/-- A quotient and a remainder are what they are. -/
theorem divmod_unique {n d q r : Int} (h : q * d + r = n) (h0 : 0 ≤ r) (h1 : r < d) : n / d = q ∧ n % d = r := by
  subst h
  have hd : 0 < d := by omega
  constructor
  · rw [Int.add_comm, Int.add_mul_ediv_right _ _ (by omega), Int.ediv_eq_zero_of_lt h0 h1]; omega
  · rw [Int.add_comm, Int.add_mul_emod_self_right, Int.emod_eq_of_lt h0 h1]
end Go.Proofs.Ytmghpdblednhiaa.B
