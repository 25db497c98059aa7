/- The reference's numbers, digits of base 10000: what the functions answer. -/
import Derived.Test.YtfijdkdpcjfiaaaGreatP4
import Derived.Test.YtfijdkdpcjfiaaaGreatW3
set_option linter.unusedVariables false
set_option linter.unusedSimpArgs false
namespace Go.Proofs.YtfijdkdpcjfiaaaGreatA
open Go
theorem ref_Trim_loop {l : List Int} (hl : Dig 10000 l) (hs : l.length ≤ 1099511627776) {x : Nat} (hx : val 10000 l = (x : Int)) : ∀ n : Nat, n ≤ l.length → (∀ j, n ≤ j → l.getD j 0 = 0) → ref02_Trim_l0 l (n : Int) (ten x) := by
 intro n
 induction n with
 | zero =>
  intro hn hz
  have hx0 : x = 0 := by
   have := val_all_zeros 10000 l (fun j => hz j (by omega))
   omega
  refine ref02_Trim_l0_go (.inr ⟨by omega, by omega, by omega, by simp, _, rfl, ?_⟩)
  rw [hx0, show ten 0 = [] from ten_nil.2 rfl]; rfl
 | succ n ih =>
  intro hn hz
  have hn2 : n < 9223372036854775808 := by omega
  refine ref02_Trim_l0_go (.inl ⟨by omega, ?_⟩)
  rw [w_pred hn2]
  refine ⟨by omega, by omega, ?_⟩
  rw [Int.toNat_natCast]
  by_cases h : l.getD n 0 = 0
  ·refine .inl ⟨h, ih (by omega) (fun j hj => ?_)⟩
   rcases Nat.lt_or_ge n j with h1 | h1
   ·exact hz j h1
   ·rw [show j = n by omega]; exact h
  ·refine .inr ⟨h, by omega, by omega, by rw [List.length_take]; omega, _, rfl, ?_⟩
   rw [Int.toNat_natCast, take_digs (b := 10000) (by omega) hl (by omega) hz h hx]
theorem ref_Trim_is {l : List Int} (hl : Dig 10000 l) (hs : l.length ≤ 1099511627776) {x : Nat} (hx : val 10000 l = (x : Int)) : ref02_Trim_R l (ten x) :=
 ref02_Trim_go (ref_Trim_loop hl hs hx l.length (Nat.le_refl _) (fun j hj => getD_ge hj))
theorem ref_Trim_nil : ref02_Trim_R [] [] := by
 have := ref_Trim_is (l := []) (x := 0) (Dig.nil _) (by simp) rfl
 rwa [show ten 0 = [] from ten_nil.2 rfl] at this
theorem ref_MulAdd_tail {x : Nat} (d : Nat) : ∀ (c : Nat) (o : List Int), c < 10000 ^ d → c ≤ 9223372036854775807 → o.length + d ≤ 1000000000000 → Dig 10000 o → val 10000 o + 10000 ^ o.length * (c : Int) = (x : Int) → ref02_MulAdd_l4 (c : Int) o (ten x) := by
 induction d with
 | zero =>
  intro c o hc hc2 ho hdg hv
  obtain rfl : c = 0 := by rw [Nat.pow_zero] at hc; omega
  refine ref02_MulAdd_l4_go (.inr ⟨by omega, _, ref_Trim_is hdg (by omega) ?_, rfl⟩)
  rw [← hv]; simp
 | succ d ih =>
  intro c o hc hc2 ho hdg hv
  by_cases h0 : c = 0
  ·subst h0
   refine ref02_MulAdd_l4_go (.inr ⟨by omega, _, ref_Trim_is hdg (by omega) ?_, rfl⟩)
   rw [← hv]; simp
  ·rw [Nat.pow_succ] at hc
   refine ref02_MulAdd_l4_go (.inl ⟨by omega, by omega, _, rfl, ?_⟩)
   rw [td (by omega), tm (by omega), s64i (by omega) (by omega)]
   have e1 : (c : Int) / 10000 = ((c / 10000 : Nat) : Int) := by omega
   rw [e1]
   refine ih (c / 10000) _ (by omega) (by omega) (by rw [List.length_append]; simp; omega) (hdg.append (Dig.cons (by omega) (Dig.nil _))) ?_
   rw [val_snoc, List.length_append, List.length_cons, List.length_nil, Int.pow_succ, ← hv]
   have e2 : (c : Int) = (c : Int) % 10000 + 10000 * ((c / 10000 : Nat) : Int) := by omega
   generalize (10000 : Int) ^ o.length = P
   generalize (c : Int) % 10000 = u at e2 ⊢
   generalize ((c / 10000 : Nat) : Int) = v at e2 ⊢
   rw [e2, Int.mul_add, Int.mul_assoc, Int.add_assoc]
theorem ref_MulAdd_tail3 {x : Nat} (c : Nat) (o : List Int) (hc : c ≤ 900000000000) (ho : o.length + 4 ≤ 1000000000000) (hdg : Dig 10000 o) (hv : val 10000 o + 10000 ^ o.length * (c : Int) = (x : Int)) : ref02_MulAdd_l3 (c : Int) o (ten x) := by
 by_cases h0 : c = 0
 ·subst h0
  refine ref02_MulAdd_l3_go (.inr ⟨by omega, _, ref_Trim_is hdg (by omega) ?_, rfl⟩)
  rw [← hv]; simp
 ·refine ref02_MulAdd_l3_go (.inl ⟨by omega, by omega, _, rfl, ?_⟩)
  rw [td (by omega), tm (by omega), s64i (by omega) (by omega)]
  have e1 : (c : Int) / 10000 = ((c / 10000 : Nat) : Int) := by omega
  rw [e1]
  refine ref_MulAdd_tail 3 (c / 10000) _ (by omega) (by omega) (by rw [List.length_append]; simp; omega) (hdg.append (Dig.cons (by omega) (Dig.nil _))) ?_
  rw [val_snoc, List.length_append, List.length_cons, List.length_nil, Int.pow_succ, ← hv]
  have e2 : (c : Int) = (c : Int) % 10000 + 10000 * ((c / 10000 : Nat) : Int) := by omega
  generalize (10000 : Int) ^ o.length = P
  generalize (c : Int) % 10000 = u at e2 ⊢
  generalize ((c / 10000 : Nat) : Int) = v at e2 ⊢
  rw [e2, Int.mul_add, Int.mul_assoc, Int.add_assoc]
theorem ref_MulAdd_tail2 {x : Nat} (hc : x ≤ 9223372036854775807) : ref02_MulAdd_l2 (x : Int) (ten x) := by
 by_cases h0 : x = 0
 ·subst h0
  rw [show ten 0 = [] from ten_nil.2 rfl]
  exact ref02_MulAdd_l2_go (.inr ⟨by omega, _, ref_Trim_nil, rfl⟩)
 ·refine ref02_MulAdd_l2_go (.inl ⟨by omega, by omega, _, rfl, ?_⟩)
  rw [td (by omega), tm (by omega), s64i (by omega) (by omega)]
  have e1 : (x : Int) / 10000 = ((x / 10000 : Nat) : Int) := by omega
  rw [e1]
  refine ref_MulAdd_tail 4 (x / 10000) _ (by omega) (by omega) (by simp) (Dig.cons (by omega) (Dig.nil _)) ?_
  rw [val_cons, val_nil, List.length_singleton]; omega
theorem alg_muladd (vo P A m c u v V c0 : Int) (e : u + 10000 * v = c + A * m) (hv : vo + P * c = V * m + c0) : vo + P * u + P * 10000 * v = (V + P * A) * m + c0 := by grind
theorem ref_MulAdd_loop {a : List Int} (ha : Dig 10000 a) {m : Nat} (hm : m ≤ 4294967296) (hs : a.length ≤ 100000000000) {c0 : Int} {x : Nat} (hx : val 10000 a * (m : Int) + c0 = (x : Int)) (d : Nat) : ∀ (i : Nat) (o : List Int) (c : Nat),
  i + d = a.length → o.length = i → Dig 10000 o → c ≤ 8589934592 → val 10000 o + 10000 ^ i * (c : Int) = val 10000 (a.take i) * (m : Int) + c0 →
  (o = [] → ref02_MulAdd_l0 a (m : Int) (c : Int) (i : Int) (ten x)) ∧ (o ≠ [] → ref02_MulAdd_l1 a (m : Int) (c : Int) (i : Int) o (ten x)) := by
 induction d with
 | zero =>
  intro i o c hi ho hdg hc hv
  rw [List.take_of_length_le (by omega), hx] at hv
  refine ⟨fun h => ?_, fun h => ?_⟩
  ·subst h
   refine ref02_MulAdd_l0_go (.inr ⟨by omega, ?_⟩)
   have h0 : i = 0 := by rw [← ho]; rfl
   subst h0
   rw [val_nil] at hv
   have : c = x := by omega
   subst this
   exact ref_MulAdd_tail2 (by omega)
  ·exact ref02_MulAdd_l1_go (.inr ⟨by omega, ref_MulAdd_tail3 c o (by omega) (by omega) hdg (by rw [ho, hv])⟩)
 | succ d ih =>
  intro i o c hi ho hdg hc hv
  have hi1 : i + 1 < 9223372036854775808 := by omega
  have ga := Dig.getD (by omega) ha i
  obtain ⟨A, hA⟩ := Int.eq_ofNat_of_zero_le ga.1
  have hA' := hA
  rw [hA] at ga
  have hAm : A * m ≤ 9999 * 4294967296 := Nat.mul_le_mul (by omega) hm
  have e1 : a.getD i 0 * (m : Int) = ((A * m : Nat) : Int) := by rw [hA, Int.natCast_mul]
  have e2 : ((c : Int) + ((A * m : Nat) : Int)) / 10000 = (((c + A * m) / 10000 : Nat) : Int) := by omega
  have e3 : ((c : Int) + ((A * m : Nat) : Int)) % 10000 = (((c + A * m) % 10000 : Nat) : Int) := by omega
  have key := ih (i + 1) (o ++ [(((c + A * m) % 10000 : Nat) : Int)]) ((c + A * m) / 10000) (by omega) (by rw [List.length_append]; simp; omega) (hdg.append (Dig.cons (by omega) (Dig.nil _))) (by omega) (by
   rw [val_snoc, ho, val_take_succ', Int.pow_succ]
   refine alg_muladd _ _ _ _ _ _ _ _ _ ?_ hv
   rw [e1]; omega)
  refine ⟨fun h => ?_, fun h => ?_⟩
  ·subst h
   refine ref02_MulAdd_l0_go (.inl ⟨by omega, by omega, by omega, _, rfl, ?_⟩)
   rw [Int.toNat_natCast, w_succ hi1, e1, s64i (n := ((A * m : Nat) : Int)) (by omega) (by omega), s64i (n := (c : Int) + ((A * m : Nat) : Int)) (by omega) (by omega), td (by omega), tm (by omega), s64i (by omega) (by omega), e2, e3]
   exact key.2 (by simp)
  ·refine ref02_MulAdd_l1_go (.inl ⟨by omega, by omega, by omega, _, rfl, ?_⟩)
   rw [Int.toNat_natCast, w_succ hi1, e1, s64i (n := ((A * m : Nat) : Int)) (by omega) (by omega), s64i (n := (c : Int) + ((A * m : Nat) : Int)) (by omega) (by omega), td (by omega), tm (by omega), s64i (by omega) (by omega), e2, e3]
   exact key.2 (by simp)
theorem ref_MulAdd_is {x m c : Nat} (hx : (ten x).length ≤ 100000000000) (hm : m ≤ 4294967296) (hc : c ≤ 4294967296) : ref02_MulAdd_R (ten x) (m : Int) (c : Int) (ten (x * m + c)) := by
 refine ref02_MulAdd_go ((ref_MulAdd_loop (ten_dig x) hm hx (c0 := (c : Int)) ?_ (ten x).length 0 [] c (by omega) rfl (Dig.nil _) (by omega) (by simp [val])).1 rfl)
 rw [ten_val, Int.natCast_add, Int.natCast_mul]
theorem alg_divs (A m v u r V : Int) (h : u + m * v = 10000 * r + A) : A + 10000 * (V * m + r) = (v + 10000 * V) * m + u := by grind
theorem ref_DivSmall_loop {a : List Int} (ha : Dig 10000 a) {m : Nat} (hm0 : 0 < m) (hm : m ≤ 4294967296) (hs : a.length ≤ 100000000000) {x : Nat} (hx : val 10000 a = (x : Int)) : ∀ (i : Nat) (o : List Int) (r : Nat),
    i ≤ a.length → o.length = a.length → Dig 10000 o → r < m → val 10000 (a.drop i) = val 10000 (o.drop i) * (m : Int) + (r : Int) → ref02_DivSmall_l0 a (m : Int) (r : Int) ((i : Int) - 1) o (ten (x / m)) ((x % m : Nat) : Int) := by
  intro i
  induction i with
  | zero =>
    intro o r hi ho hdg hr hv
    rw [List.drop_zero, List.drop_zero, hx] at hv
    have hu := divmod_unique (n := (x : Int)) (d := (m : Int)) (q := val 10000 o) (r := (r : Int)) hv.symm (by omega) (by omega)
    refine ref02_DivSmall_l0_go (.inr ⟨by omega, ten (x / m), ref_Trim_is hdg (by omega) ?_, rfl, ?_⟩)
    · rw [← hu.1, Int.natCast_ediv]
    · rw [← hu.2, Int.natCast_emod]
  | succ i ih =>
    intro o r hi ho hdg hr hv
    have hw : ((i + 1 : Nat) : Int) - 1 = (i : Int) := by omega
    rw [hw]
    have ga := Dig.getD (by omega) ha i
    obtain ⟨A, hA⟩ := Int.eq_ofNat_of_zero_le ga.1
    have hA' := hA
    rw [hA] at ga
    refine ref02_DivSmall_l0_go (.inl ⟨by omega, by omega, by omega, by omega, _, rfl, ?_⟩)
    rw [Int.toNat_natCast, hA', s64i (n := (10000 : Int) * (r : Int)) (by omega) (by omega), s64i (n := (10000 : Int) * (r : Int) + (A : Int)) (by omega) (by omega), td (by omega), tm (by omega)]
    have e0 : (10000 : Int) * (r : Int) + (A : Int) = ((10000 * r + A : Nat) : Int) := by omega
    have hq : (10000 * r + A) / m < 10000 := Nat.div_lt_of_lt_mul (by have : 10000 * (r + 1) ≤ 10000 * m := Nat.mul_le_mul_left _ hr
                                                                      rw [Nat.mul_comm m]; omega)
    have hrm := Nat.mod_lt (10000 * r + A) hm0
    have hdm := Nat.mod_add_div (10000 * r + A) m
    have e1 : ((10000 * r + A : Nat) : Int) / (m : Int) = (((10000 * r + A) / m : Nat) : Int) := (Int.natCast_ediv _ _).symm
    have e2 : ((10000 * r + A : Nat) : Int) % (m : Int) = (((10000 * r + A) % m : Nat) : Int) := (Int.natCast_emod _ _).symm
    rw [e0, e1, e2, s64i (n := (i : Int) - 1) (by omega) (by omega)]
    clear e0 e1 e2
    generalize (10000 * r + A) / m = q at hq hdm ⊢
    generalize (10000 * r + A) % m = u at hrm hdm ⊢
    rw [s64i (by omega) (by omega)]
    refine ih _ _ (by omega) (by rw [List.length_set]; exact ho) (hdg.set (by omega) _) hrm ?_
    rw [val_drop _ a i (by omega), val_drop _ (o.set i _) i (by rw [List.length_set]; omega), hv, getD_set_eq (by omega), List.drop_set_of_lt (by omega), hA']
    refine alg_divs _ _ _ _ _ _ ?_
    rw [← Int.natCast_mul, ← Int.natCast_add, hdm]; omega
theorem ref_DivSmall_is {x m : Nat} (hx : (ten x).length ≤ 100000000000) (hm0 : 0 < m) (hm : m ≤ 4294967296) : ref02_DivSmall_R (ten x) (m : Int) (ten (x / m)) ((x % m : Nat) : Int) := by
 refine ref02_DivSmall_go ⟨by omega, by omega, _, rfl, ?_⟩
 rw [s64i (by omega) (by omega), Int.toNat_natCast]
 refine ref_DivSmall_loop (ten_dig x) hm0 hm hx (ten_val x) (ten x).length _ 0 (Nat.le_refl _) (by rw [List.length_replicate]) (Dig.zeros (by omega) _) hm0 ?_
 rw [List.drop_eq_nil_of_le (Nat.le_refl _), List.drop_eq_nil_of_le (by rw [List.length_replicate]; exact Nat.le_refl _)]
 simp [val]
theorem ref_Back_loop {N : Nat} (hN : N ≤ 100000000000) (x : Nat) : ∀ (o : List Int), (ten x).length ≤ N → o.length + (lim x).length ≤ N → (o = [] → ref02_Back_l0 (ten x) (o ++ lim x)) ∧ (o ≠ [] → ref02_Back_l1 (ten x) o (o ++ lim x)) := by
 refine digs_ind (P := fun x => ∀ (o : List Int), (ten x).length ≤ N → o.length + (lim x).length ≤ N → (o = [] → ref02_Back_l0 (ten x) (o ++ lim x)) ∧ (o ≠ [] → ref02_Back_l1 (ten x) o (o ++ lim x))) 4294967296 (by omega) ?_ ?_ x
 ·intro o h1 h2
  rw [show ten 0 = [] from ten_nil.2 rfl, show lim 0 = [] from lim_nil.2 rfl, List.append_nil]
  refine ⟨fun h => ?_, fun h => ?_⟩
  ·subst h; exact ref02_Back_l0_go (.inr ⟨by simp, rfl⟩)
  ·exact ref02_Back_l1_go (.inr ⟨by simp, rfl⟩)
 ·intro x hx ih o h1 h2
  have hne : ten x ≠ [] := fun h => by have := ten_nil.1 h; omega
  have hpos : 0 < (ten x).length := List.length_pos_iff.2 hne
  have hlx : lim x = ((x % 4294967296 : Nat) : Int) :: lim (x / 4294967296) := digs_pos (by omega) hx
  rw [hlx, List.length_cons] at h2
  have hw : wu ((x % 4294967296 : Nat) : Int) = ((x % 4294967296 : Nat) : Int) := w64i (by omega) (by omega)
  have key := (ih (o ++ [((x % 4294967296 : Nat) : Int)]) (Nat.le_trans (digs_len_mono (by omega) (Nat.div_le_self _ _)) h1) (by rw [List.length_append, List.length_singleton]; omega)).2 (by simp)
  have hd := ref_DivSmall_is (x := x) (m := 4294967296) (by omega) (by omega) (by omega)
  rw [hlx, List.append_cons o _ (lim (x / 4294967296))]
  refine ⟨fun h => ?_, fun h => ?_⟩
  ·subst h
   exact ref02_Back_l0_go (.inl ⟨by omega, _, _, hd, by omega, _, rfl, by rw [hw]; exact key⟩)
  ·exact ref02_Back_l1_go (.inl ⟨by omega, _, _, hd, by omega, _, rfl, by rw [hw]; exact key⟩)
theorem ref_Back_is {x : Nat} (h1 : (ten x).length ≤ 100000000000) (h2 : (lim x).length ≤ 100000000000) : ref02_Back_R (ten x) (lim x) :=
 ref02_Back_go ((ref_Back_loop (N := 100000000000) (by omega) x [] h1 (by simpa using h2)).1 rfl)
theorem ref_Of_loop {x : Nat} (hs : (lim x).length ≤ 10000000000) (ht : (ten x).length ≤ 100000000000) : ∀ i : Nat, i ≤ (lim x).length → ref02_Of_l1 (lim x) (ten (x / 4294967296 ^ i)) ((i : Int) - 1) (ten x) := by
 intro i
 induction i with
 | zero =>
  intro hi
  rw [Nat.pow_zero, Nat.div_one]
  exact ref02_Of_l1_go (.inr ⟨by omega, rfl⟩)
 | succ i ih =>
  intro hi
  have hw : ((i + 1 : Nat) : Int) - 1 = (i : Int) := by omega
  rw [hw]
  have hi2 : i < (lim x).length := by omega
  have gx := Dig.getD (by omega) (lim_dig x) i
  have hv := val_drop 4294967296 (lim x) i hi2
  rw [(lim_take x i).2, (lim_take x (i + 1)).2] at hv
  obtain ⟨c, hc⟩ := Int.eq_ofNat_of_zero_le gx.1
  rw [hc] at hv gx
  have hl : (ten (x / 4294967296 ^ (i + 1))).length ≤ 100000000000 := Nat.le_trans (digs_len_mono (by omega) (Nat.div_le_self _ _)) ht
  have e : x / 4294967296 ^ (i + 1) * 4294967296 + c = x / 4294967296 ^ i := by omega
  have hm := ref_MulAdd_is (m := 4294967296) (c := c) hl (by omega) (by omega)
  rw [e] at hm
  refine ref02_Of_l1_go (.inl ⟨by omega, by omega, ten (x / 4294967296 ^ i), ?_, ?_⟩)
  ·rw [Int.toNat_natCast, hc, tm (by omega), Int.emod_eq_of_lt (by omega) (by omega), s64i (by omega) (by omega)]
   exact hm
  ·rw [s64i (n := (i : Int) - 1) (by omega) (by omega)]
   exact ih (by omega)
theorem ref_Of_is {x : Nat} (hs : (lim x).length ≤ 10000000000) (ht : (ten x).length ≤ 100000000000) : ref02_Of_R (lim x) (ten x) := by
 refine ref02_Of_go ?_
 rw [s64i (by omega) (by omega)]
 have ten0 : ten 0 = [] := ten_nil.2 rfl
 rcases Nat.eq_zero_or_pos (lim x).length with h | h
 ·have hx : x = 0 := lim_nil.1 (List.eq_nil_of_length_eq_zero h)
  subst hx
  rw [ten0]
  exact ref02_Of_l0_go (.inr ⟨by omega, rfl⟩)
 ·obtain ⟨i, hi⟩ : ∃ i, (lim x).length = i + 1 := ⟨(lim x).length - 1, by omega⟩
  have hw : ((lim x).length : Int) - 1 = (i : Int) := by omega
  rw [hw]
  have gx := Dig.getD (by omega) (lim_dig x) i
  have hv := val_drop 4294967296 (lim x) i (by omega)
  have h0 : x / 4294967296 ^ (i + 1) = 0 := Nat.div_eq_of_lt (lim_len.1 (by omega))
  rw [(lim_take x i).2, (lim_take x (i + 1)).2, h0] at hv
  obtain ⟨c, hc⟩ := Int.eq_ofNat_of_zero_le gx.1
  rw [hc] at hv gx
  have e : 0 * 4294967296 + c = x / 4294967296 ^ i := by omega
  have hm := ref_MulAdd_is (x := 0) (m := 4294967296) (c := c) (by rw [ten0]; simp) (by omega) (by omega)
  rw [e, ten0] at hm
  refine ref02_Of_l0_go (.inl ⟨by omega, by omega, ten (x / 4294967296 ^ i), ?_, ?_⟩)
  ·rw [Int.toNat_natCast, hc, tm (by omega), Int.emod_eq_of_lt (by omega) (by omega), s64i (by omega) (by omega)]
   exact hm
  ·rw [s64i (n := (i : Int) - 1) (by omega) (by omega)]
   exact ref_Of_loop hs ht i (by omega)
theorem ten_of_lim {x n : Nat} (h : (lim x).length ≤ n) : (ten x).length ≤ 3 * n := by
 have h1 := lim_len.1 h
 refine ten_len.2 (Nat.lt_of_lt_of_le h1 ?_)
 rw [Nat.pow_mul]
 exact Nat.pow_le_pow_left (by omega) n
end Go.Proofs.YtfijdkdpcjfiaaaGreatA
