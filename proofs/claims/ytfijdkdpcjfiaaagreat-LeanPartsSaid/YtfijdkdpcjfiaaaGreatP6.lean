/- The reference's Clean, Same and Mul, and the powers: what the functions answer. -/
import Derived.Test.YtfijdkdpcjfiaaaGreatP5
set_option linter.unusedVariables false
set_option linter.unusedSimpArgs false
namespace Go.Proofs.YtfijdkdpcjfiaaaGreatA
open Go
def cleaned (l : List Int) (n : Nat) : Nat := (val 4294967296 ((l.take n).map (· % 4294967296))).toNat
theorem cleaned_dig (l : List Int) : Dig 4294967296 (l.map (· % 4294967296)) := fun x hx => by
 obtain ⟨y, _, rfl⟩ := List.mem_map.1 hx
 omega
theorem ref_Clean_l4 : ∀ (n : Nat) (l : List Int), l.length ≤ 1000000000 → n ≤ l.length → Dig 4294967296 l → {x : Nat} → (hx : val 4294967296 (l.take n) = (x : Int)) → ref02_Clean_l4 n l (lim x) := by
 intro n
 induction n with
 | zero =>
  intro l hl hn hd x hx
  refine ref02_Clean_l4_go (.inr ⟨by simp, ?_⟩)
  have : (x : Int) = 0 := by rw [← hx]; rfl
  rw [show lim x = [] from lim_nil.2 (by omega)]; rfl
 | succ n ih =>
  intro l hl hn hd x hx
  have hw : wi (((n + 1 : Nat) : Int) - 1) = (n : Int) := w_pred (by omega)
  refine ref02_Clean_l4_go (.inl ⟨by omega, ?_⟩)
  rw [hw]
  refine ⟨by omega, by omega, ?_⟩
  rw [Int.toNat_natCast]
  by_cases h : l.getD n 0 = 0
  ·refine .inl ⟨h, by omega, ih l hl (by omega) hd ?_⟩
   have := val_take_succ 4294967296 l n (by omega)
   rw [h, Int.mul_zero, Int.add_zero] at this
   rw [← this, hx]
  ·refine .inr ⟨h, ?_⟩
   refine (eq_lim (hd.take _) (norm_take (by omega) h) hx).symm
theorem ref_Clean_l3 (l : List Int) (hl : l.length ≤ 1000000) (hd : Dig 4294967296 l) {x : Nat} (hx : val 4294967296 l = (x : Int)) : ref02_Clean_l3 l (lim x) := by
 rcases Nat.eq_zero_or_pos l.length with h0 | h0
 ·obtain rfl : l = [] := List.eq_nil_of_length_eq_zero h0
  refine ref02_Clean_l3_go (.inr ⟨by simp, ?_⟩)
  rw [val_nil] at hx
  exact lim_nil.2 (by omega)
 ·obtain ⟨n, hn⟩ : ∃ n, l.length = n + 1 := ⟨l.length - 1, by omega⟩
  have hw : wi ((l.length : Int) - 1) = (n : Int) := by rw [hn]; exact w_pred (by omega)
  refine ref02_Clean_l3_go (.inl ⟨by omega, ?_⟩)
  rw [hw]
  refine ⟨by omega, by omega, ?_⟩
  rw [Int.toNat_natCast]
  by_cases h : l.getD n 0 = 0
  ·refine .inl ⟨h, by omega, ref_Clean_l4 n l (by omega) (by omega) hd ?_⟩
   have := val_take_succ 4294967296 l n (by omega)
   rw [List.take_of_length_le (by omega), h, Int.mul_zero, Int.add_zero] at this
   rw [← this, hx]
  ·refine .inr ⟨h, ?_⟩
   have := take_digs (b := 4294967296) (by omega) hd (n := n) (by omega) (fun j hj => getD_ge (by omega)) h hx
   rw [List.take_of_length_le (by omega)] at this
   exact this.symm
theorem ref_Clean_l0 (l : List Int) (hw : ∀ x ∈ l, 0 ≤ x) (n : Nat) (hn : n ≤ 1000) (hs : l.length ≤ 9223372036854775807) (d : Nat) : ∀ i : Nat, i + d = min l.length n →
  (i = 0 → ref02_Clean_l0 l (n : Int) (i : Int) (lim (cleaned l n))) ∧ (0 < i → ref02_Clean_l1 l (n : Int) (i : Int) ((l.take i).map (· % 4294967296)) (lim (cleaned l n))) := by
 have cl : ∀ i : Nat, i = min l.length n → val 4294967296 ((l.take i).map (· % 4294967296)) = (cleaned l n : Int) := by
  intro i hi
  have e : l.take n = l.take i := by
   rcases Nat.le_total n l.length with h | h
   ·rw [hi, Nat.min_eq_right h]
   ·rw [hi, Nat.min_eq_left h, List.take_of_length_le h, List.take_of_length_le (Nat.le_refl _)]
  unfold cleaned
  rw [e, toNat_val (by omega) (cleaned_dig _)]
 have last3 : ∀ i : Nat, i = min l.length n → ref02_Clean_l3 ((l.take i).map (· % 4294967296)) (lim (cleaned l n)) := fun i hi =>
  ref_Clean_l3 _ (by rw [List.length_map, List.length_take]; omega) (cleaned_dig _) (cl i hi)
 have last2 : 0 = min l.length n → ref02_Clean_l2 (lim (cleaned l n)) := fun hi => by
  have := cl 0 hi
  refine ref02_Clean_l2_go (lim_nil.2 ?_)
  have h0 : val 4294967296 ((l.take 0).map (· % 4294967296)) = 0 := rfl
  omega
 induction d with
 | zero =>
  intro i hi
  refine ⟨fun h => ?_, fun h => ?_⟩
  ·subst h
   by_cases h : ((0 : Nat) : Int) < (l.length : Int)
   ·exact ref02_Clean_l0_go (.inl ⟨h, .inr ⟨by omega, last2 (by omega)⟩⟩)
   ·exact ref02_Clean_l0_go (.inr ⟨h, last2 (by omega)⟩)
  ·by_cases h : (i : Int) < (l.length : Int)
   ·exact ref02_Clean_l1_go (.inl ⟨h, .inr ⟨by omega, last3 i (by omega)⟩⟩)
   ·exact ref02_Clean_l1_go (.inr ⟨h, last3 i (by omega)⟩)
 | succ d ih =>
  intro i hi
  have hi1 : i + 1 < 9223372036854775808 := by omega
  have hil : i < l.length := by omega
  have h0 : 0 ≤ l.getD i 0 := by
   rw [List.getD_eq_getElem?_getD, List.getElem?_eq_getElem hil]
   exact hw _ (List.getElem_mem hil)
  have e : (l.take i).map (· % 4294967296) ++ [l.getD i 0 % 4294967296] = (l.take (i + 1)).map (· % 4294967296) := by
   rw [take_snoc_getD l i hil, List.map_append]; rfl
  have key := (ih (i + 1) (by omega)).2 (by omega)
  refine ⟨fun h => ?_, fun h => ?_⟩
  ·subst h
   refine ref02_Clean_l0_go (.inl ⟨by omega, .inl ⟨by omega, by omega, by omega, _, rfl, ?_⟩⟩)
   rw [w_succ hi1, Int.toNat_natCast, tm h0]
   rw [← e] at key
   exact key
  ·refine ref02_Clean_l1_go (.inl ⟨by omega, .inl ⟨by omega, by omega, by rw [List.length_map, List.length_take]; omega, _, rfl, ?_⟩⟩)
   rw [w_succ hi1, Int.toNat_natCast, tm h0, e]
   exact key
theorem ref_Clean_is {l : List Int} (hw : ∀ x ∈ l, 0 ≤ x) {n : Nat} (hn : n ≤ 1000) (hs : l.length ≤ 9223372036854775807) : ref02_Clean_R l (n : Int) (lim (cleaned l n)) :=
 ref02_Clean_go ((ref_Clean_l0 l hw n hn hs (min l.length n) 0 (by omega)).1 rfl)
theorem cleaned_len (l : List Int) (n : Nat) : (lim (cleaned l n)).length ≤ n := by
 refine lim_len.2 ?_
 have h := val_lt (b := 4294967296) (by omega) (cleaned_dig (l.take n))
 rw [List.length_map, List.length_take] at h
 have h2 : (4294967296 : Int) ^ (min n l.length) ≤ 4294967296 ^ n := powb_mono (by omega) (Nat.min_le_left _ _)
 have h3 := toNat_val (b := 4294967296) (by omega) (cleaned_dig (l.take n))
 unfold cleaned
 have h4 : ((val 4294967296 ((l.take n).map (· % 4294967296))).toNat : Int) < (4294967296 : Int) ^ n := by omega
 rw [← pow32] at h4
 omega
end Go.Proofs.YtfijdkdpcjfiaaaGreatA
