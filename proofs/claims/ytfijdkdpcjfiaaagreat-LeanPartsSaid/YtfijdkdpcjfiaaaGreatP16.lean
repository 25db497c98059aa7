/- Whole numbers and fractions: what the program's functions answer. -/
import Derived.Test.YtfijdkdpcjfiaaaGreatP14
import Derived.Test.YtfijdkdpcjfiaaaGreatWX
set_option linter.unusedVariables false
set_option linter.unusedSimpArgs false
namespace Go.Proofs.YtfijdkdpcjfiaaaGreatA
open Go
def ng (z : Int) : Bool := decide (z < 0)
def ab (z : Int) : List Int := lim z.natAbs
def sg (b : Bool) (n : Nat) : Int := if b = true then -(n : Int) else n
theorem ng_neg {z : Int} (h : z < 0) : ng z = true := decide_eq_true h
theorem ng_pos {z : Int} (h : ¬ z < 0) : ng z = false := decide_eq_false h
theorem ng_ne {z : Int} (h : ¬ z < 0) : ¬ ng z = true := by rw [ng_pos h]; simp
theorem sg_neg {z : Int} (h : z < 0) (n : Nat) : sg (ng z) n = -(n : Int) := by rw [ng_neg h]; rfl
theorem sg_pos {z : Int} (h : ¬ z < 0) (n : Nat) : sg (ng z) n = (n : Int) := by rw [ng_pos h]; rfl
theorem ng_nat (d : Nat) : ng (d : Int) = false := ng_pos (by omega)
theorem lim_pos {n : Nat} : (0 < ((lim n).length : Int)) ↔ 0 < n := by
 constructor
 ·intro h
  rcases Nat.eq_zero_or_pos n with rfl | h1
  ·rw [lim_nil.2 rfl] at h; simp at h
  ·exact h1
 ·intro h
  have : (lim n).length ≠ 0 := fun h1 => by have := lim_nil.1 (List.length_eq_zero_iff.1 h1); omega
  omega
def zl (n : Nat) (x : Int) : Prop := (ab x).length ≤ n
theorem zl.mono {m n : Nat} {x : Int} (h : zl m x) (hmn : m ≤ n) : zl n x := Nat.le_trans h hmn
def SZ (n : Nat) (q : Rat) : Prop := zl n q.num ∧ (lim q.den).length ≤ n
theorem SZ.mono {m n : Nat} {q : Rat} (h : SZ m q) (hmn : m ≤ n) : SZ n q := ⟨h.1.mono hmn, Nat.le_trans h.2 hmn⟩
theorem norm_num (n : Int) (d : Nat) (hd : d ≠ 0) : (Rat.normalize n d hd).num = sg (ng n) (n.natAbs / Nat.gcd n.natAbs d) := by
 rw [Rat.num_normalize]
 by_cases h : n < 0
 ·rw [sg_neg h, show n = -((n.natAbs : Nat) : Int) by omega, Int.natAbs_neg, Int.natAbs_natCast, Int.neg_ediv_of_dvd (Int.natCast_dvd_natCast.2 (Nat.gcd_dvd_left _ _)), Int.natCast_ediv]
 ·rw [sg_pos h, Int.natCast_ediv]
  congr 1
  omega
theorem norm_natAbs (n : Int) (d : Nat) (hd : d ≠ 0) : (Rat.normalize n d hd).num.natAbs = n.natAbs / Nat.gcd n.natAbs d := by
 rw [norm_num]
 by_cases h : n < 0
 ·rw [sg_neg h, Int.natAbs_neg, Int.natAbs_natCast]
 ·rw [sg_pos h, Int.natAbs_natCast]
theorem SZ.normalize {n : Nat} {x : Int} {d : Nat} (hd : d ≠ 0) (hx : zl n x) (hdl : (lim d).length ≤ n) : SZ n (Rat.normalize x d hd) := by
 refine ⟨?_, ?_⟩
 ·unfold zl ab
  rw [norm_natAbs]
  exact Nat.le_trans (lim_len_mono (Nat.div_le_self _ _)) hx
 ·rw [Rat.den_normalize]
  exact Nat.le_trans (lim_len_mono (Nat.div_le_self _ _)) hdl
end Go.Proofs.YtfijdkdpcjfiaaaGreatA
