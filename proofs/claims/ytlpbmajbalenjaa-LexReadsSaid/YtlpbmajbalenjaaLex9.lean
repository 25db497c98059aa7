/- Tokens, once more: the chapter's example; each token is read as it stands; a word's text is a word. -/
import Derived.Test.YtlpbmajbalenjaaLex8
import Derived.Test.YtlpbmajbalenjaaWlaw19works
import Derived.Test.YtlpbmajbalenjaaWX
import Derived.Laws.RangeString
set_option linter.unusedVariables false
set_option linter.unusedSimpArgs false
set_option maxRecDepth 100000
namespace Go.Proofs.YtlpbmajbalenjaaA
open Go Go.Proofs
theorem works_is : law19_works_R true := by
 have e : lexT ⟨#[108, 105, 110, 107, 32, 108, 49, 32, 97, 32, 98, 32, 102, 97, 105, 108, 32, 49, 47, 50, 59]⟩ = (some [(1, ⟨#[108, 105, 110, 107]⟩, 1), (1, ⟨#[108, 49]⟩, 1), (1, ⟨#[97]⟩, 1), (1, ⟨#[98]⟩, 1), (1, ⟨#[102, 97, 105, 108]⟩, 1), (2, ⟨#[49, 47, 50]⟩, 1), (3, ⟨#[59]⟩, 1)], 1) := by kernel_rfl
 have h := lexAll_is ⟨#[108, 105, 110, 107, 32, 108, 49, 32, 97, 32, 98, 32, 102, 97, 105, 108, 32, 49, 47, 50, 59]⟩ (by decide)
 unfold lexE at h
 rw [e] at h
 exact law19_works_go ⟨_, _, _, h, .inl ⟨rfl, .inl ⟨rfl, .inl ⟨rfl, by decide, _, _, _, rfl, .inl ⟨rfl, _, _, _, rfl, .inl ⟨rfl, by decide, _, _, _, rfl, rfl⟩⟩⟩⟩⟩⟩
theorem scan_len : ∀ (k : Nat) (l : Bs) (ln : Int) (acc : List Tk) (ts : List Tk), (scan k l ln acc).1 = some ts → ts.length ≤ acc.length + l.length
 | 0, l, ln, acc, ts, h => by cases h
 | k + 1, [], ln, acc, ts, h => by
  have := Option.some.inj h
  subst this; simp
 | k + 1, b :: t, ln, acc, ts, h => by
  have h1 := (tokLen_le b t).1
  rw [scan] at h
  split at h
  ·have := scan_len k _ _ _ ts h
   rw [List.length_drop] at this; simp at this ⊢; omega
  ·split at h
   ·cases h
   ·have := scan_len k _ _ _ ts h
    rw [List.length_drop] at this; simp at this ⊢; omega
theorem mn_is (n : Nat) : ∃ m : Nat, mn (n : Int) 400 = (m : Int) ∧ m ≤ n ∧ m ≤ 400 := by
 unfold mn
 by_cases h : (400 : Int) < (n : Int)
 ·rw [if_pos h]; exact ⟨400, rfl, by omega, by omega⟩
 ·rw [if_neg h]; exact ⟨n, rfl, by omega, by omega⟩
def TokOk (t : Tk) : Prop := ∃ b r, t.2.1.data.toList = b :: r ∧ isB (bc b) = false ∧ kd (bc b) = t.1 ∧ ¬ t.1 = 0 ∧ run1 (goesOn (bc b)) r = r.length
theorem run1_pos {p : Int → Bool} {b : UInt8} (l : Bs) (h : p (bc b) = true) : run1 p (b :: l) = run1 p l + 1 := by
 show (if p (bc b) = true then run1 p l + 1 else 0) = _
 rw [if_pos h]
theorem run1_neg {p : Int → Bool} {b : UInt8} (l : Bs) (h : ¬ p (bc b) = true) : run1 p (b :: l) = 0 := by
 show (if p (bc b) = true then run1 p l + 1 else 0) = _
 rw [if_neg h]
theorem run1_take (p : Int → Bool) : ∀ l : Bs, run1 p (l.take (run1 p l)) = (l.take (run1 p l)).length
 | [] => rfl
 | b :: l => by
  have ih := run1_take p l
  by_cases h : p (bc b) = true
  ·rw [run1_pos l h, List.take_succ_cons, run1_pos _ h, ih]; rfl
  ·rw [run1_neg l h]; rfl
theorem scan_ok : ∀ (k : Nat) (l : Bs) (ln : Int) (acc ts : List Tk), (scan k l ln acc).1 = some ts → (∀ t ∈ acc, TokOk t) → ∀ t ∈ ts, TokOk t
 | 0, l, ln, acc, ts, h, _ => by cases h
 | k + 1, [], ln, acc, ts, h, ha => by
  have := Option.some.inj h
  subst this; exact ha
 | k + 1, b :: r, ln, acc, ts, h, ha => by
  rw [scan] at h
  split at h
  ·exact scan_ok k _ _ _ ts h ha
  ·rename_i hb
   split at h
   ·cases h
   ·rename_i hk
    refine scan_ok k _ _ _ ts h fun t ht => ?_
    rcases List.mem_append.1 ht with ht | ht
    ·exact ha t ht
    ·obtain rfl := List.mem_singleton.1 ht
     have hbf : isB (bc b) = false := Bool.eq_false_iff.2 hb
     have h35 : ¬ bc b = 35 := fun q => by rw [q] at hbf; cases hbf
     have e : tokLen b r = run1 (goesOn (bc b)) r + 1 := by unfold tokLen; rw [if_neg h35]; omega
     refine ⟨b, r.take (run1 (goesOn (bc b)) r), ?_, hbf, rfl, hk, run1_take _ _⟩
     show ((b :: r).take (tokLen b r)) = _
     rw [e, List.take_succ_cons]
theorem letter_is (a : Int) : name_letter_R a (isA a) := by
 refine name_letter_go ?_
 unfold isA
 by_cases h : 97 ≤ a
 ·exact .inl ⟨h, by simp [h]⟩
 ·exact .inr ⟨h, by simp [h]⟩
theorem other_is {a : Int} (h : isD a = true ∨ a = 45 ∨ a = 95) : name_other_R a true := by
 refine name_other_go ?_
 unfold isD at h
 by_cases h1 : 48 ≤ a
 ·refine .inl ⟨h1, ?_⟩
  by_cases h2 : a ≤ 57
  ·exact .inl ⟨h2, rfl⟩
  ·refine .inr ⟨h2, ?_⟩
   by_cases h3 : a = 45
   ·exact .inl ⟨h3, rfl⟩
   ·refine .inr ⟨h3, ?_⟩
    simp [h1, h2, h3] at h
    simp [h]
 ·refine .inr ⟨h1, ?_⟩
  by_cases h3 : a = 45
  ·exact .inl ⟨h3, rfl⟩
  ·refine .inr ⟨h3, ?_⟩
   simp [h1, h3] at h
   simp [h]
theorem run1_all {p : Int → Bool} : ∀ r : Bs, run1 p r = r.length → ∀ x ∈ r, p (bc x) = true
 | [], _, x, hx => by cases hx
 | b :: r, h, x, hx => by
  by_cases hb : p (bc b) = true
  ·rw [run1_pos r hb] at h
   rcases List.mem_cons.1 hx with rfl | hx
   ·exact hb
   ·exact run1_all r (by simpa using h) x hx
  ·rw [run1_neg r hb] at h; cases h
theorem word_loop {c s : ByteArray} (h : ∀ i (hi : i < s.size), (s[i]'hi).toNat < 128 ∧ (isA (bc (s[i]'hi)) = true ∨ (i ≠ 0 ∧ (isD (bc (s[i]'hi)) = true ∨ bc (s[i]'hi) = 45 ∨ bc (s[i]'hi) = 95)))) :
  ∀ m p, s.size - p = m → name_Word_l0 c s p (!decide (c = ⟨#[]⟩)) := by
 intro m
 induction m with
 | zero => intro p hp; exact name_Word_l0_go (.inr ⟨by omega, rfl⟩)
 | succ m ih =>
  intro p hp
  have hlt : p < s.size := by omega
  obtain ⟨h1, h2⟩ := h p hlt
  have hd := decode_ascii s p hlt h1
  have hd1 : ((Utf8.decode s p).1 : Int) = bc (s[p]'hlt) := by rw [hd]; rfl
  have next : name_Word_l0 c s (p + (Utf8.decode s p).2) (!decide (c = ⟨#[]⟩)) := by rw [hd]; exact ih (p + 1) (by omega)
  refine name_Word_l0_go (.inl ⟨hlt, isA (bc (s[p]'hlt)), by rw [hd1]; exact letter_is _, ?_⟩)
  by_cases hA : isA (bc (s[p]'hlt)) = true
  ·exact .inl ⟨hA, next⟩
  ·refine .inr ⟨hA, ?_⟩
   rcases h2 with h2 | ⟨h2, h3⟩
   ·exact absurd h2 hA
   ·exact .inr ⟨by omega, true, by rw [hd1]; exact other_is h3, .inl ⟨rfl, next⟩⟩
theorem tok_word {t : Tk} (h : TokOk t) (h1 : t.1 = 1) : name_Word_R t.2.1 true := by
 obtain ⟨b, r, e, hb, hk, _, hr⟩ := h
 have hA : isA (bc b) = true := by
  unfold kd at hk
  rw [h1] at hk
  split at hk
  ·assumption
  ·split at hk
   ·cases hk
   ·split at hk <;> cases hk
 have hg : goesOn (bc b) = isW := by unfold goesOn; rw [if_pos hA]
 rw [hg] at hr
 have hall := run1_all r hr
 have hsz : t.2.1.size = (b :: r).length := by rw [← e]; exact Array.length_toList.symm
 have hget : ∀ i (hi : i < t.2.1.size), t.2.1[i]'hi = (b :: r)[i]'(by rw [← hsz]; exact hi) := fun i hi => by
  have : t.2.1[i]'hi = t.2.1.data.toList[i]'(by rw [Array.length_toList]; exact hi) := (Array.getElem_toList ..).symm
  rw [this]
  simp only [e]
 have hWA : ∀ x : UInt8, isW (bc x) = true → x.toNat < 128 ∧ (isA (bc x) = true ∨ isD (bc x) = true ∨ bc x = 45 ∨ bc x = 95) := fun x hx => by
  unfold isW at hx
  simp only [Bool.or_eq_true, decide_eq_true_eq] at hx
  have key : x.toNat < 128 := by
   unfold isA isD bc at hx
   simp only [Bool.and_eq_true, decide_eq_true_eq] at hx
   omega
  refine ⟨key, ?_⟩
  rcases hx with ((hx | hx) | hx) | hx
  ·exact .inl hx
  ·exact .inr (.inl hx)
  ·exact .inr (.inr (.inl hx))
  ·exact .inr (.inr (.inr hx))
 refine name_Word_go ?_
 have hne : (!decide (t.2.1 = (⟨#[]⟩ : ByteArray))) = true := by
  rw [Bool.not_eq_true', decide_eq_false_iff_not]
  intro h0
  rw [h0] at hsz
  simp at hsz
  cases hsz
 have := word_loop (c := t.2.1) (s := t.2.1) (fun i hi => by
  rw [hget i hi]
  cases i with
  | zero =>
   have h2 : isW (bc b) = true := by unfold isW; simp [hA]
   exact ⟨(hWA b h2).1, .inl hA⟩
  | succ i =>
   have hi' : i < r.length := by rw [hsz] at hi; simpa using hi
   obtain ⟨k1, k2⟩ := hWA r[i] (hall _ (List.getElem_mem hi'))
   refine ⟨k1, ?_⟩
   rcases k2 with k2 | k2
   ·exact .inl k2
   ·exact .inr ⟨by omega, k2⟩) _ 0 rfl
 rw [hne] at this
 exact this
end Go.Proofs.YtlpbmajbalenjaaA
