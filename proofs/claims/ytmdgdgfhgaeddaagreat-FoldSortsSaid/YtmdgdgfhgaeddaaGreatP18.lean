/- Fractions in rows. -/
import Derived.Test.YtmdgdgfhgaeddaaGreatP17
set_option linter.unusedVariables false
set_option linter.unusedSimpArgs false
namespace Go.Proofs.YtmdgdgfhgaeddaaGreatA
open Go
/-- A fraction as the program, and as the document, has it in a row. -/
def fQ (q : Rat) : T_api_Rat := (ng q.num, ab q.num, lim q.den)
def fT (q : Rat) : T_ref08_Q := (ng q.num, tn q.num, ten q.den)
theorem map_getD {α β : Type} {f : α → β} {l : List α} {i : Nat} (h : i < l.length) (d : β) (e : α) : (l.map f).getD i d = f (l.getD i e) := by
  rw [List.getD_eq_getElem?_getD, List.getD_eq_getElem?_getD, List.getElem?_map, List.getElem?_eq_getElem h]; rfl
theorem getD_fQ {qs : List Rat} {i : Nat} (h : i < qs.length) (d : T_api_Rat) : (qs.map fQ).getD i d = (ng (qs.getD i 0).num, ab (qs.getD i 0).num, lim (qs.getD i 0).den) := map_getD h d 0
theorem getD_fT {qs : List Rat} {i : Nat} (h : i < qs.length) (d : T_ref08_Q) : (qs.map fT).getD i d = (ng (qs.getD i 0).num, tn (qs.getD i 0).num, ten (qs.getD i 0).den) := map_getD h d 0
def AZ (n : Nat) (qs : List Rat) : Prop := ∀ q ∈ qs, SZ n q
theorem getD_mem {qs : List Rat} {i : Nat} (h : i < qs.length) : qs.getD i 0 ∈ qs := by
  rw [List.getD_eq_getElem?_getD, List.getElem?_eq_getElem h]; exact List.getElem_mem h
theorem AZ.get {n i : Nat} {qs : List Rat} (h : AZ n qs) (hi : i < qs.length) : SZ n (qs.getD i 0) := h _ (getD_mem hi)
theorem AZ.mono {m n : Nat} {qs : List Rat} (h : AZ m qs) (hmn : m ≤ n) : AZ n qs := fun q hq => (h q hq).mono hmn
theorem AZ.append {n : Nat} {qs ps : List Rat} (h : AZ n qs) (g : AZ n ps) : AZ n (qs ++ ps) := fun q hq => by
  rcases List.mem_append.1 hq with k | k
  · exact h q k
  · exact g q k
theorem drop_getD {qs : List Rat} {i : Nat} (h : i < qs.length) : qs.drop i = qs.getD i 0 :: qs.drop (i + 1) := by
  rw [List.drop_eq_getElem_cons h, List.getD_eq_getElem?_getD, List.getElem?_eq_getElem h]; rfl
theorem take_getD {qs : List Rat} {i : Nat} (h : i < qs.length) : qs.take (i + 1) = qs.take i ++ [qs.getD i 0] := by
  rw [List.take_succ_eq_append_getElem h, List.getD_eq_getElem?_getD, List.getElem?_eq_getElem h]; rfl
theorem SZ.add2 {m n : Nat} {a b : Rat} (ha : SZ m a) (hb : SZ n b) : SZ (m + n + 1) (a + b) := by
  rw [add_eq]
  exact SZ.divInt (den_mul_ne a b) ((ha.1.mul (zl.nat hb.2)).add ((hb.1.mul (zl.nat ha.2)).mono (show n + m ≤ m + n by omega))) (((zl.nat ha.2).mul (zl.nat hb.2)).mono (by omega))
theorem SZ.mul2 {m n : Nat} {a b : Rat} (ha : SZ m a) (hb : SZ n b) : SZ (m + n) (a * b) := by
  rw [mul_eq]
  exact SZ.divInt (den_mul_ne a b) (ha.1.mul hb.1) ((zl.nat ha.2).mul (zl.nat hb.2))
theorem SZ.div2 {m n : Nat} {a b : Rat} (h : b ≠ 0) (ha : SZ m a) (hb : SZ n b) : SZ (m + n) (a / b) := by
  rw [Rat.div_def]; exact ha.mul2 (hb.inv h)
theorem SZ0 : SZ 1 (0 : Rat) := ⟨lim_len_one (by decide), lim_len_one (by decide)⟩
theorem SZ1 : SZ 1 (1 : Rat) := ⟨lim_len_one (by decide), lim_len_one (by decide)⟩
theorem rat_Of0 : rat_Of_R 0 (ng ((0 : Rat)).num) (ab ((0 : Rat)).num) (lim ((0 : Rat)).den) := by
  have := rat_Of_is (n := 0) (by omega) (by omega)
  rwa [Rat.intCast_zero] at this
theorem rat_Of1 : rat_Of_R 1 (ng ((1 : Rat)).num) (ab ((1 : Rat)).num) (lim ((1 : Rat)).den) := by
  have := rat_Of_is (n := 1) (by omega) (by omega)
  rwa [Rat.intCast_one] at this
theorem divInt_int' (n : Int) : Rat.divInt n 1 = (n : Rat) := by
  have := Rat.num_divInt_den (n : Rat)
  rw [Rat.num_intCast, Rat.den_intCast] at this
  exact this
theorem ref_Num1 {n : Int} (h0 : -9223372036854775807 ≤ n) (h1 : n ≤ 9223372036854775807) : ref08_Num_R n 1 (ng ((n : Rat)).num) (tn ((n : Rat)).num) (ten ((n : Rat)).den) := by
  have := ref08_Num_is (n := n) (d := 1) h0 h1 (by omega) (by omega)
  rwa [divInt_int'] at this
theorem ref_Num00 : ref08_Num_R 0 1 (ng ((0 : Rat)).num) (tn ((0 : Rat)).num) (ten ((0 : Rat)).den) := by
  have := ref_Num1 (n := 0) (by omega) (by omega)
  rwa [Rat.intCast_zero] at this
theorem ref_Num11 : ref08_Num_R 1 1 (ng ((1 : Rat)).num) (tn ((1 : Rat)).num) (ten ((1 : Rat)).den) := by
  have := ref_Num1 (n := 1) (by omega) (by omega)
  rwa [Rat.intCast_one] at this
theorem sn_lt (a : Rat) : sn a.num < 0 ↔ a < 0 := by
  rw [← num_lt0]; unfold sn; split
  · omega
  · split <;> omega
theorem cmp_pos {a b : Rat} : 0 < (if a < b then -1 else if b < a then 1 else 0 : Int) ↔ b < a := by
  by_cases h : a < b
  · rw [if_pos h]; constructor <;> intro g <;> grind
  · rw [if_neg h]; split <;> simp_all
theorem cmp_neg {a b : Rat} : (if a < b then -1 else if b < a then 1 else 0 : Int) < 0 ↔ a < b := by
  by_cases h : a < b
  · rw [if_pos h]; simp [h]
  · rw [if_neg h]; split <;> simp_all
theorem cmp_le {a b : Rat} : (if a < b then -1 else if b < a then 1 else 0 : Int) ≤ 0 ↔ a ≤ b := by
  by_cases h : b < a
  · rw [if_neg (by grind), if_pos h]; constructor <;> intro g <;> grind
  · constructor
    · intro _; grind
    · intro _; split
      · omega
      · simp
def Unit (q : Rat) : Prop := ¬ q < 0 ∧ ¬ 1 < q
instance (q : Rat) : Decidable (Unit q) := inferInstanceAs (Decidable (_ ∧ _))
theorem all_drop {P : Rat → Prop} {qs : List Rat} {i : Nat} (h : i < qs.length) : (∀ q ∈ qs.drop i, P q) ↔ P (qs.getD i 0) ∧ ∀ q ∈ qs.drop (i + 1), P q := by
  rw [drop_getD h, List.forall_mem_cons]
/-- Raw parts: words, and not too many. -/
def RawQ (p : T_api_Rat) : Prop := ((p.2.1.length ≤ 9223372036854775807) ∧ ∀ x ∈ p.2.1, 0 ≤ x) ∧ p.2.2.length ≤ 9223372036854775807 ∧ ∀ x ∈ p.2.2, 0 ≤ x
theorem raw_get {L : List T_api_Rat} (h : ∀ p ∈ L, RawQ p) {i : Nat} (hi : i < L.length) (d : T_api_Rat) : RawQ (L.getD i d) := by
  rw [List.getD_eq_getElem?_getD, List.getElem?_eq_getElem hi]; exact h _ (List.getElem_mem hi)
theorem raw_clean {p : T_api_Rat} (h : RawQ p) {n : Nat} (hn : n ≤ 1000) (h1 : 1 ≤ n) : ∃ q : Rat, ref08_Clean_R p.1 p.2.1 p.2.2 (n : Int) (ng q.num) (ab q.num) (lim q.den) ∧ SZ n q := ref08_Clean_is h.1.2 h.2.2 hn h1 h.1.1 h.2.1
end Go.Proofs.YtmdgdgfhgaeddaaGreatA
