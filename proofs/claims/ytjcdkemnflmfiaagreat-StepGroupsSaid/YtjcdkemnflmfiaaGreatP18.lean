/- Fractions in rows. -/
import Derived.Test.YtjcdkemnflmfiaaGreatP17
set_option linter.unusedVariables false
set_option linter.unusedSimpArgs false
namespace Go.Proofs.YtjcdkemnflmfiaaGreatA
open Go
def fQ (q : Rat) : T_api_Rat := (ng q.num, ab q.num, lim q.den)
theorem map_getD {α β : Type} {f : α → β} {l : List α} {i : Nat} (h : i < l.length) (d : β) (e : α) : (l.map f).getD i d = f (l.getD i e) := by
 rw [List.getD_eq_getElem?_getD, List.getD_eq_getElem?_getD, List.getElem?_map, List.getElem?_eq_getElem h]; rfl
theorem getD_fQ {qs : List Rat} {i : Nat} (h : i < qs.length) (d : T_api_Rat) : (qs.map fQ).getD i d = (ng (qs.getD i 0).num, ab (qs.getD i 0).num, lim (qs.getD i 0).den) := map_getD h d 0
def AZ (n : Nat) (qs : List Rat) : Prop := ∀ q ∈ qs, SZ n q
theorem getD_mem {qs : List Rat} {i : Nat} (h : i < qs.length) : qs.getD i 0 ∈ qs := by
 rw [List.getD_eq_getElem?_getD, List.getElem?_eq_getElem h]; exact List.getElem_mem h
theorem AZ.get {n i : Nat} {qs : List Rat} (h : AZ n qs) (hi : i < qs.length) : SZ n (qs.getD i 0) := h _ (getD_mem hi)
theorem drop_getD {qs : List Rat} {i : Nat} (h : i < qs.length) : qs.drop i = qs.getD i 0 :: qs.drop (i + 1) := by
 rw [List.drop_eq_getElem_cons h, List.getD_eq_getElem?_getD, List.getElem?_eq_getElem h]; rfl
theorem SZ.add2 {m n : Nat} {a b : Rat} (ha : SZ m a) (hb : SZ n b) : SZ (m + n + 1) (a + b) := by
 rw [add_eq]
 exact SZ.divInt (den_mul_ne a b) ((ha.1.mul (zl.nat hb.2)).add ((hb.1.mul (zl.nat ha.2)).mono (show n + m ≤ m + n by omega))) (((zl.nat ha.2).mul (zl.nat hb.2)).mono (by omega))
theorem SZ.mul2 {m n : Nat} {a b : Rat} (ha : SZ m a) (hb : SZ n b) : SZ (m + n) (a * b) := by
 rw [mul_eq]
 exact SZ.divInt (den_mul_ne a b) (ha.1.mul hb.1) ((zl.nat ha.2).mul (zl.nat hb.2))
theorem SZ.div2 {m n : Nat} {a b : Rat} (h : b ≠ 0) (ha : SZ m a) (hb : SZ n b) : SZ (m + n) (a / b) := by
 rw [Rat.div_def]; exact ha.mul2 (hb.inv h)
theorem SZ0 : SZ 1 (0 : Rat) := ⟨lim_len_one (by decide), lim_len_one (by decide)⟩
theorem rat_Of0 : rat_Of_R 0 (ng ((0 : Rat)).num) (ab ((0 : Rat)).num) (lim ((0 : Rat)).den) := by
 have := rat_Of_is (n := 0) (by omega) (by omega)
 rwa [Rat.intCast_zero] at this
theorem divInt_int' (n : Int) : Rat.divInt n 1 = (n : Rat) := by
 have := Rat.num_divInt_den (n : Rat)
 rw [Rat.num_intCast, Rat.den_intCast] at this
 exact this
theorem ref_Num1 {n : Int} (h0 : -9223372036854775807 ≤ n) (h1 : n ≤ 9223372036854775807) : ref08_Num_R n 1 (ng ((n : Rat)).num) (tn ((n : Rat)).num) (ten ((n : Rat)).den) := by
 have := ref08_Num_is (n := n) (d := 1) h0 h1 (by omega) (by omega)
 rwa [divInt_int'] at this
theorem ref_Num00 : ref08_Num_R 0 1 (ng ((0 : Rat)).num) (tn ((0 : Rat)).num) (ten ((0 : Rat)).den) := by
 have := ref_Num1 (n := 0) (by omega) (by omega)
 rwa [Rat.intCast_zero] at this
end Go.Proofs.YtjcdkemnflmfiaaGreatA
