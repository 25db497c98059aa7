/- A text's tokens, by hand: the reference's answer is the same scan. -/
import Derived.Test.YtlpbmajbalenjaaLex7
set_option linter.unusedVariables false
set_option linter.unusedSimpArgs false
set_option maxRecDepth 100000
namespace Go.Proofs.YtlpbmajbalenjaaA
open Go Go.Proofs
theorem mark_is {c : Int} : ref19_mark_R c (isM c) := by
 refine ref19_mark_go ?_
 unfold isM
 by_cases h1 : c = 123 <;> by_cases h2 : c = 125 <;> by_cases h3 : c = 59 <;> by_cases h4 : c = 44 <;> simp [h1, h2, h3, h4] <;> omega
theorem figure_is {c : Int} : ref19_figure_R c (isF c) := by
 refine ref19_figure_go ?_
 unfold isF isD
 by_cases h1 : 48 ≤ c <;> by_cases h2 : c ≤ 57 <;> by_cases h3 : c = 46 <;> by_cases h4 : c = 47 <;> simp [h1, h2, h3, h4] <;> omega
theorem word_yes {c : ByteArray} {a : Int} {z : Bool} (h : a < (c.size : Int)) (h0 : 0 ≤ a) (hw : isA (letter c a) = true ∨ (¬ a = 0 ∧ isW (letter c a) = true)) (hn : ref17_Word_l0 c (wi (a + 1)) z) : ref17_Word_l0 c a z := by
 refine ref17_Word_l0_go (.inl ⟨h, h0, ?_⟩)
 unfold isW isA isD at hw
 simp only [Bool.or_eq_true, Bool.and_eq_true, decide_eq_true_eq] at hw
 generalize letter c a = L at hw
 by_cases h1 : 97 ≤ L <;> by_cases h2 : 48 ≤ L <;> by_cases h3 : L ≤ 57 <;> by_cases h4 : L = 45 <;> by_cases h5 : L ≤ 122 <;> by_cases h6 : a = 0 <;> by_cases h7 : L = 95 <;> simp only [h1, h2, h3, h4, h5, h6, h7, hn, true_and, and_true, or_true, true_or, false_and, and_false, or_false, false_or, not_true, not_false_eq_true] <;> (try trivial) <;> first | omega | (rw [h6] at hn; exact hn)
theorem word_no {c : ByteArray} {a : Int} (h : a < (c.size : Int)) (h0 : 0 ≤ a) (ha : ¬ a = 0) (hw : isW (letter c a) = false) : ref17_Word_l0 c a false := by
 refine ref17_Word_l0_go (.inl ⟨h, h0, ?_⟩)
 unfold isW isA isD at hw
 simp only [Bool.or_eq_false_iff, Bool.and_eq_false_iff, decide_eq_false_iff_not] at hw
 generalize letter c a = L at hw
 by_cases h1 : 97 ≤ L <;> by_cases h2 : 48 ≤ L <;> by_cases h3 : L ≤ 57 <;> by_cases h4 : L = 45 <;> by_cases h5 : L ≤ 122 <;> by_cases h7 : L = 95 <;> simp only [h1, h2, h3, h4, h5, ha, h7, true_and, and_true, or_true, true_or, false_and, and_false, or_false, false_or, not_true, not_false_eq_true] <;> (try trivial) <;> omega
theorem word_is {s : ByteArray} {i : Nat} (h : i < s.size) : ref17_Word_R ((⟨#[97]⟩ : ByteArray) ++ s.extract i (i + 1)) (isW (letter s (i : Int))) := by
 obtain ⟨b, hb, hl⟩ := letter_in s i h
 have e : ((⟨#[97]⟩ : ByteArray) ++ s.extract i (i + 1)) = ⟨#[97, b]⟩ := by
  have h2 : (s.extract i (i + 1)).data.toList = [b] := by
   rw [extract_data]
   obtain ⟨hlt, hget⟩ := List.getElem?_eq_some_iff.1 hb
   rw [List.drop_eq_getElem_cons hlt, hget]
   simp
  have h3 : (s.extract i (i + 1)).data = #[b] := by rw [← Array.toArray_toList (xs := (s.extract i (i + 1)).data), h2]
  apply ByteArray.ext
  rw [ByteArray.data_append, h3]
  rfl
 rw [e, hl]
 obtain ⟨b0, b1⟩ := byte_lt b
 have hsz : (⟨#[97, b]⟩ : ByteArray).size = 2 := rfl
 have l0 : letter ⟨#[97, b]⟩ 0 = 97 := rfl
 have l1 : letter ⟨#[97, b]⟩ 1 = bc b := rfl
 have w1 : wi (0 + 1) = 1 := by decide
 have w2 : wi (1 + 1) = 2 := by decide
 refine ref17_Word_go (word_yes (by rw [hsz]; decide) (by decide) (.inl (by rw [l0]; rfl)) ?_)
 rw [w1]
 cases hw : isW (bc b) with
 | false => exact word_no (by rw [hsz]; decide) (by decide) (by decide) (by rw [l1]; exact hw)
 | true =>
  refine word_yes (by rw [hsz]; decide) (by decide) (.inr ⟨by decide, by rw [l1]; exact hw⟩) ?_
  rw [w2]
  exact ref17_Word_l0_go (.inr ⟨by rw [hsz]; decide, by rw [hsz]; decide⟩)
theorem wi_nat {a b : Nat} (h : a + b < 4611686018427387904) : wi ((a : Int) + (b : Int)) = ((a + b : Nat) : Int) := by rw [wi_eq]; omega
set_option linter.unusedSectionVars false
section
variable {c : ByteArray} {l : List Tk} {p q : Int} (hs : c.size < 900000)
include hs
theorem drop_at {i : Nat} (h : i < c.size) : ∃ b, c.data.toList.drop i = b :: c.data.toList.drop (i + 1) ∧ letter c (i : Int) = bc b := by
 obtain ⟨b, hb, hl⟩ := letter_in c i h
 obtain ⟨hlt, hget⟩ := List.getElem?_eq_some_iff.1 hb
 exact ⟨b, by rw [List.drop_eq_getElem_cons hlt, hget], hl⟩
theorem drop_end {i : Nat} (h : c.size ≤ i) : c.data.toList.drop i = [] := List.drop_of_length_le (by rw [Array.length_toList]; exact h)
theorem com_loop {X : Fin 4} {ln : Int} {u : List Tk} (hX : X = 0 → u = []) {i : Nat} : ∀ m e : Nat, c.size - (i + e) = m → i + e ≤ c.size → RM c l p q X ln ((i + e + run1 (fun c => !decide (c = 10)) (c.data.toList.drop (i + e)) : Nat) : Int) u → RC c l p q X ln (i : Int) (e : Int) u := by
 intro m
 induction m with
 | zero =>
  intro e h1 h2 r
  rw [drop_end hs (by omega)] at r
  refine RC.end hX (by rw [wi_nat (by omega)]; omega) ?_
  rw [wi_nat (by omega)]; exact r
 | succ m ih =>
  intro e h1 h2 r
  obtain ⟨b, hd, hl⟩ := drop_at hs (i := i + e) (by omega)
  rw [hd] at r
  unfold run1 at r
  have hw : wi ((i : Int) + (e : Int)) = ((i + e : Nat) : Int) := wi_nat (by omega)
  by_cases h10 : bc b = 10
  ·rw [if_neg (by simp [h10])] at r
   refine RC.nl hX (by rw [hw]; omega) (by rw [hw]; omega) (by rw [hw, hl]; exact h10) ?_
   rw [hw]; exact r
  ·rw [if_pos (by simp [h10])] at r
   refine RC.more hX (by rw [hw]; omega) (by rw [hw]; omega) (by rw [hw, hl]; exact h10) ?_
   rw [wi_succ e (by omega)]
   refine ih (e + 1) (by omega) (by omega) ?_
   rwa [show i + (e + 1) + run1 (fun c => !decide (c = 10)) (c.data.toList.drop (i + (e + 1))) = i + e + (run1 (fun c => !decide (c = 10)) (c.data.toList.drop (i + e + 1)) + 1) by rw [show i + (e + 1) = i + e + 1 by omega]; omega]
theorem fig_loop {X : Fin 4} {ln : Int} {u : List Tk} (hX : X = 0 → u = []) (hu : u.length < 1000000) {i : Nat} : ∀ m e : Nat, c.size - (i + e) = m → i + e ≤ c.size →
  RM c l p q 2 ln ((i + e + run1 isF (c.data.toList.drop (i + e)) : Nat) : Int) (u ++ [(2, c.extract i (i + e + run1 isF (c.data.toList.drop (i + e))), ln)]) → RF c l p q X ln (i : Int) (e : Int) u := by
 intro m
 induction m with
 | zero =>
  intro e h1 h2 r
  rw [drop_end hs (by omega)] at r
  have hw : wi ((i : Int) + (e : Int)) = ((i + e : Nat) : Int) := wi_nat (by omega)
  refine RF.end hX (by rw [hw]; omega) (by omega) (by rw [hw]; omega) (by rw [hw]; omega) hu ?_
  rw [hw, Int.toNat_natCast, Int.toNat_natCast]; exact r
 | succ m ih =>
  intro e h1 h2 r
  obtain ⟨b, hd, hl⟩ := drop_at hs (i := i + e) (by omega)
  rw [hd] at r
  unfold run1 at r
  have hw : wi ((i : Int) + (e : Int)) = ((i + e : Nat) : Int) := wi_nat (by omega)
  cases hf : isF (bc b) with
  | false =>
   rw [if_neg (by simp [hf])] at r
   refine RF.stop hX (by rw [hw]; omega) (by rw [hw]; omega) (by rw [hw, hl, ← hf]; exact figure_is) (by omega) (by rw [hw]; omega) (by rw [hw]; omega) hu ?_
   rw [hw, Int.toNat_natCast, Int.toNat_natCast]; exact r
  | true =>
   rw [if_pos hf] at r
   refine RF.more hX (by rw [hw]; omega) (by rw [hw]; omega) (by rw [hw, hl, ← hf]; exact figure_is) ?_
   rw [wi_succ e (by omega)]
   refine ih (e + 1) (by omega) (by omega) ?_
   have e1 : i + (e + 1) + run1 isF (c.data.toList.drop (i + (e + 1))) = i + e + (run1 isF (c.data.toList.drop (i + e + 1)) + 1) := by rw [show i + (e + 1) = i + e + 1 by omega]; omega
   rw [e1]; exact r
theorem word_loop' {X : Fin 4} {ln : Int} {u : List Tk} (hX : X = 0 → u = []) (hu : u.length < 1000000) {i : Nat} : ∀ m e : Nat, c.size - (i + e) = m → i + e ≤ c.size →
  RM c l p q 3 ln ((i + e + run1 isW (c.data.toList.drop (i + e)) : Nat) : Int) (u ++ [(1, c.extract i (i + e + run1 isW (c.data.toList.drop (i + e))), ln)]) → RW c l p q X ln (i : Int) (e : Int) u := by
 intro m
 induction m with
 | zero =>
  intro e h1 h2 r
  rw [drop_end hs (by omega)] at r
  have hw : wi ((i : Int) + (e : Int)) = ((i + e : Nat) : Int) := wi_nat (by omega)
  refine RW.end hX (by rw [hw]; omega) (by omega) (by rw [hw]; omega) (by rw [hw]; omega) hu ?_
  rw [hw, Int.toNat_natCast, Int.toNat_natCast]; exact r
 | succ m ih =>
  intro e h1 h2 r
  obtain ⟨b, hd, hl⟩ := drop_at hs (i := i + e) (by omega)
  rw [hd] at r
  unfold run1 at r
  have hw : wi ((i : Int) + (e : Int)) = ((i + e : Nat) : Int) := wi_nat (by omega)
  have hw2 : wi (((i + e : Nat) : Int) + 1) = ((i + e + 1 : Nat) : Int) := wi_succ _ (by omega)
  have hsz : (⟨#[97]⟩ : ByteArray).size + (c.extract (i + e) (i + e + 1)).size ≤ 9223372036854775807 := by
   have e1 : (⟨#[97]⟩ : ByteArray).size = 1 := rfl
   rw [e1, ByteArray.size_extract]; omega
  have hword := word_is (s := c) (i := i + e) (by omega)
  rw [hl] at hword
  cases hf : isW (bc b) with
  | false =>
   rw [if_neg (by simp [hf])] at r
   rw [hf] at hword
   refine RW.stop hX (by rw [hw]; omega) (by rw [hw]; omega) (by rw [hw, hw2]; omega) (by rw [hw, hw2]; omega) (by rw [hw, hw2, Int.toNat_natCast, Int.toNat_natCast]; exact hsz) (by rw [hw, hw2, Int.toNat_natCast, Int.toNat_natCast]; exact hword) (by omega) (by rw [hw]; omega) (by rw [hw]; omega) hu ?_
   rw [hw, Int.toNat_natCast, Int.toNat_natCast]; exact r
  | true =>
   rw [if_pos hf] at r
   rw [hf] at hword
   refine RW.more hX (by rw [hw]; omega) (by rw [hw]; omega) (by rw [hw, hw2]; omega) (by rw [hw, hw2]; omega) (by rw [hw, hw2, Int.toNat_natCast, Int.toNat_natCast]; exact hsz) (by rw [hw, hw2, Int.toNat_natCast, Int.toNat_natCast]; exact hword) ?_
   rw [wi_succ e (by omega)]
   refine ih (e + 1) (by omega) (by omega) ?_
   have e1 : i + (e + 1) + run1 isW (c.data.toList.drop (i + (e + 1))) = i + e + (run1 isW (c.data.toList.drop (i + e + 1)) + 1) := by rw [show i + (e + 1) = i + e + 1 by omega]; omega
   rw [e1]; exact r
theorem ref_scan : ∀ (k i : Nat) (ln : Int) (u : List Tk) (X : Fin 4), (X = 0 → u = []) → c.size - i < k → i ≤ c.size → u.length + (c.size - i) < 1000000 → 0 ≤ ln → ln + ((c.size - i : Nat) : Int) < 1000000000 →
  l = (scan k (c.data.toList.drop i) ln u).1.getD [] → p = (scan k (c.data.toList.drop i) ln u).2 → q = (if (scan k (c.data.toList.drop i) ln u).1.isSome then 0 else 21) → RM c l p q X ln (i : Int) u
 | 0, i, ln, u, X, hX, h1, _, _, _, _, _, _, _ => absurd h1 (Nat.not_lt_zero _)
 | k + 1, i, ln, u, X, hX, h1, h2, h3, h4, h5, e1, e2, e3 => by
  by_cases hi : i < c.size
  ·obtain ⟨b, hd, hl⟩ := drop_at hs hi
   have hlen : (c.data.toList.drop (i + 1)).length = c.size - (i + 1) := by rw [List.length_drop]; rw [show c.data.toList.length = c.size from Array.length_toList]
   have hdrop : (b :: c.data.toList.drop (i + 1)).drop (tokLen b (c.data.toList.drop (i + 1))) = c.data.toList.drop (i + tokLen b (c.data.toList.drop (i + 1))) := by
    rw [← hd, List.drop_drop]
   obtain ⟨t1, t2⟩ := tokLen_le b (c.data.toList.drop (i + 1))
   rw [hlen] at t2
   have htext : c.extract i (i + tokLen b (c.data.toList.drop (i + 1))) = bytesOf' ((b :: c.data.toList.drop (i + 1)).take (tokLen b (c.data.toList.drop (i + 1)))) := by
    rw [extract_bytes, hd]; congr 2; omega
   rw [hd] at e1 e2 e3
   have hw1 : wi ((i : Int) + 1) = ((i + 1 : Nat) : Int) := wi_succ i (by omega)
   have hin : (i : Int) < (c.size : Int) := by omega
   have hi0 : 0 ≤ (i : Int) := by omega
   cases hb : isB (bc b) with
   | true =>
    rw [scan, if_pos hb, hdrop] at e1 e2 e3
    have ih := ref_scan k (i + tokLen b (c.data.toList.drop (i + 1))) (if bc b = 10 then ln + 1 else ln) u X hX (by omega) (by omega) (by omega) (by split <;> omega) (by split <;> omega) e1 e2 e3
    by_cases h35 : bc b = 35
    ·refine RM.com hX hin hi0 (by rw [hl]; exact h35) ?_
     have := com_loop hs (l := l) (p := p) (q := q) (X := X) (ln := ln) (u := u) hX (i := i) (c.size - (i + 1)) 1 rfl (by omega)
     refine this ?_
     have ht : tokLen b (c.data.toList.drop (i + 1)) = 1 + run1 (fun c => !decide (c = 10)) (c.data.toList.drop (i + 1)) := by unfold tokLen; rw [if_pos h35]
     rw [if_neg (by rw [h35]; decide), ht] at ih
     rw [show i + 1 + run1 (fun c => !decide (c = 10)) (c.data.toList.drop (i + 1)) = i + (1 + run1 (fun c => !decide (c = 10)) (c.data.toList.drop (i + 1))) by omega]
     exact ih
    ·have ht : tokLen b (c.data.toList.drop (i + 1)) = 1 := by unfold tokLen; rw [if_neg h35, goesOn_blank hb]
     rw [ht] at ih
     by_cases h10 : bc b = 10
     ·rw [if_pos h10] at ih
      refine RM.nl hX hin hi0 (by rw [hl]; exact h10) ?_
      have hw2 : wi (ln + 1) = ln + 1 := by
       obtain ⟨n, rfl⟩ := Int.eq_ofNat_of_zero_le h4
       rw [wi_succ n (by omega)]; rfl
      rw [hw1, hw2]; exact ih
     ·rw [if_neg h10] at ih
      refine RM.bl hX hin hi0 ?_ (by rw [hw1]; exact ih)
      rw [hl]
      unfold isB at hb
      simp only [Bool.or_eq_true, decide_eq_true_eq] at hb
      rcases hb with ((hb | hb) | hb) | hb
      ·exact absurd hb h35
      ·exact .inl hb
      ·exact .inr hb
      ·exact absurd hb h10
   | false =>
    have hsc : scan (k + 1) (b :: c.data.toList.drop (i + 1)) ln u = if kd (bc b) = 0 then (none, ln) else scan k ((b :: c.data.toList.drop (i + 1)).drop (tokLen b (c.data.toList.drop (i + 1)))) ln (u ++ [(kd (bc b), bytesOf' ((b :: c.data.toList.drop (i + 1)).take (tokLen b (c.data.toList.drop (i + 1)))), ln)]) := by
     rw [scan, if_neg (by rw [hb]; simp)]
    rw [hsc] at e1 e2 e3
    have hnb := hb
    unfold isB at hnb
    simp only [Bool.or_eq_false_iff, decide_eq_false_iff_not] at hnb
    obtain ⟨⟨⟨n4, n2⟩, n3⟩, n1⟩ := hnb
    have hmark := mark_is (c := bc b)
    have h35 : ¬ bc b = 35 := n4
    by_cases hk : kd (bc b) = 0
    ·rw [if_pos hk] at e1 e2 e3
     have hkk := hk
     unfold kd at hkk
     split at hkk
     ·cases hkk
     ·split at hkk
      ·cases hkk
      ·split at hkk
       ·cases hkk
       ·rename_i g1 g2 g3
        unfold isA at g1; unfold isD at g2
        simp only [Bool.and_eq_true, decide_eq_true_eq] at g1 g2
        refine RM.bad hX hin hi0 (by rw [hl]; exact n1) (by rw [hl]; exact n2) (by rw [hl]; exact n3) (by rw [hl]; exact n4) (by rw [hl, ← Bool.eq_false_iff.2 g3]; exact hmark) (by rw [hl]; exact g2) (by rw [hl]; exact g1) e1 e2 e3
    ·rw [if_neg hk, hdrop, ← htext] at e1 e2 e3
     have next : ∀ (Y : Fin 4) (kk : Int), ¬ Y = 0 → kd (bc b) = kk → RM c l p q Y ln ((i + tokLen b (c.data.toList.drop (i + 1)) : Nat) : Int) (u ++ [(kk, c.extract i (i + tokLen b (c.data.toList.drop (i + 1))), ln)]) := fun Y kk hY hkk => by
      rw [hkk] at e1 e2 e3
      exact ref_scan k (i + tokLen b (c.data.toList.drop (i + 1))) ln _ Y (fun q => absurd q hY) (by omega) (by omega) (by simp; omega) h4 (by omega) e1 e2 e3
     by_cases ha : isA (bc b) = true
     ·have hr := next 3 1 (by decide) (by unfold kd; rw [if_pos ha])
      have ht : tokLen b (c.data.toList.drop (i + 1)) = 1 + run1 isW (c.data.toList.drop (i + 1)) := by unfold tokLen goesOn; rw [if_neg h35, if_pos ha]
      rw [ht] at hr
      have ha' := ha
      unfold isA at ha'
      simp only [Bool.and_eq_true, decide_eq_true_eq] at ha'
      have hm : isM (bc b) = false := by unfold isM; simp; omega
      refine RM.word hX hin hi0 (by rw [hl]; exact n1) (by rw [hl]; exact n2) (by rw [hl]; exact n3) (by rw [hl]; exact n4) (by rw [hl, ← hm]; exact hmark) (by rw [hl]; exact ha'.1) (by rw [hl]; exact ha'.2) ?_
      refine word_loop' hs (X := X) hX (by omega) (i := i) (c.size - (i + 1)) 1 rfl (by omega) ?_
      rw [show i + 1 + run1 isW (c.data.toList.drop (i + 1)) = i + (1 + run1 isW (c.data.toList.drop (i + 1))) by omega]
      exact hr
     ·by_cases hdg : isD (bc b) = true
      ·have hr := next 2 2 (by decide) (by unfold kd; rw [if_neg ha, if_pos hdg])
       have ht : tokLen b (c.data.toList.drop (i + 1)) = 1 + run1 isF (c.data.toList.drop (i + 1)) := by unfold tokLen goesOn; rw [if_neg h35, if_neg ha, if_pos hdg]
       rw [ht] at hr
       have ha' := hdg
       unfold isD at ha'
       simp only [Bool.and_eq_true, decide_eq_true_eq] at ha'
       have hm : isM (bc b) = false := by unfold isM; simp; omega
       refine RM.fig hX hin hi0 (by rw [hl]; exact n1) (by rw [hl]; exact n2) (by rw [hl]; exact n3) (by rw [hl]; exact n4) (by rw [hl, ← hm]; exact hmark) (by rw [hl]; exact ha'.1) (by rw [hl]; exact ha'.2) ?_
       refine fig_loop hs (X := X) hX (by omega) (i := i) (c.size - (i + 1)) 1 rfl (by omega) ?_
       rw [show i + 1 + run1 isF (c.data.toList.drop (i + 1)) = i + (1 + run1 isF (c.data.toList.drop (i + 1))) by omega]
       exact hr
      ·by_cases hm : isM (bc b) = true
       ·have hr := next 1 3 (by decide) (by unfold kd; rw [if_neg ha, if_neg hdg, if_pos hm])
        have ht : tokLen b (c.data.toList.drop (i + 1)) = 1 := by
         unfold tokLen goesOn; rw [if_neg h35, if_neg ha, if_neg hdg]
         cases c.data.toList.drop (i + 1) <;> rfl
        rw [ht] at hr
        refine RM.mark hX hin hi0 (by rw [hl]; exact n1) (by rw [hl]; exact n2) (by rw [hl]; exact n3) (by rw [hl]; exact n4) (by rw [hl, ← hm]; exact hmark) (by rw [hw1]; omega) (by rw [hw1]; omega) (by omega) ?_
        rw [hw1, Int.toNat_natCast, Int.toNat_natCast]; exact hr
       ·exact absurd (by unfold kd; rw [if_neg ha, if_neg hdg, if_neg hm]) hk
  ·have hd := drop_end hs (i := i) (by omega)
   rw [hd] at e1 e2 e3
   exact RM.end hX (by omega) e1 e2 e3
theorem refAll_is : ref19_All_R c ((lexT c).1.getD []) (lexT c).2 (lexE c) := by
 refine ref19_All_go ?_
 exact ref_scan hs (c.size + 1) 0 1 [] 0 (fun _ => rfl) (by omega) (by omega) (by simp; omega) (by decide) (by omega) rfl rfl rfl
end
end Go.Proofs.YtlpbmajbalenjaaA
