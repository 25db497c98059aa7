/- Powers and products of many: what the functions answer. -/
import Derived.Test.YtmdgdgfhgaeddaaGreatP6
set_option linter.unusedVariables false
set_option linter.unusedSimpArgs false
namespace Go.Proofs.YtmdgdgfhgaeddaaGreatA
open Go
theorem nat_Of_is {n : Nat} (h : n < 18446744073709551616) : nat_Of_R (n : Int) (lim n) := by
  refine nat_Of_go ⟨lim n, ?_, rfl⟩
  rw [tm (by omega), show (2 : Int) ^ 32 = 4294967296 from rfl]
  refine nat_trim_is (Dig.cons (by omega) (Dig.cons (by omega) (Dig.nil _))) (by simp) ?_
  rw [val_cons, val_cons, val_nil]; omega
theorem ref_Num_is {n : Nat} (h : n ≤ 9223372036854775807) : ref02_Num_R (n : Int) (ten n) := ref02_Num_go ⟨_, ref02_MulAdd_go (ref02_MulAdd_l0_go (.inr ⟨by simp, ref_MulAdd_tail2 h⟩)), rfl⟩
theorem lim_pow_len {x L : Nat} (hx : (lim x).length ≤ L) (i : Nat) : (lim (x ^ i)).length ≤ i * L + 1 := by
  induction i with
  | zero => rw [Nat.pow_zero]; exact Nat.le_trans (lim_len_one (by omega)) (by omega)
  | succ i ih =>
    have := lim_mul_len ih hx
    rw [Nat.pow_succ, Nat.succ_mul]
    omega
/-- The product of many numbers. -/
def prodN (p : Nat) (ys : List Nat) : Nat := ys.foldl (· * ·) p
theorem getD_map_lim (ys : List Nat) (i : Nat) (h : i < ys.length) : (ys.map lim).getD i [] = lim (ys.getD i 0) := by
  rw [List.getD_eq_getElem?_getD, List.getD_eq_getElem?_getD, List.getElem?_map, List.getElem?_eq_getElem h]; rfl
theorem prodN_snoc (p : Nat) (ys : List Nat) (y : Nat) : prodN p (ys ++ [y]) = prodN p ys * y := by simp [prodN, List.foldl_append]
end Go.Proofs.YtmdgdgfhgaeddaaGreatA
