/- A text's tokens, by hand: the program's answer is a scan of its bytes. -/
import Derived.Test.YtlpbmajbalenjaaLex4
set_option linter.unusedVariables false
set_option linter.unusedSimpArgs false
set_option maxRecDepth 100000
namespace Go.Proofs.YtlpbmajbalenjaaA
open Go Go.Proofs
theorem all256 {p : Int → Bool} (h : (List.range 256).all (fun n => p (n : Int)) = true) {c : Int} (h0 : 0 ≤ c) (h1 : c < 256) : p c = true := by
 obtain ⟨n, rfl⟩ := Int.eq_ofNat_of_zero_le h0
 exact List.all_eq_true.1 h n (List.mem_range.2 (by omega))
def lettersB : ByteArray := ⟨#[97, 98, 99, 100, 101, 102, 103, 104, 105, 106, 107, 108, 109, 110, 111, 112, 113, 114, 115, 116, 117, 118, 119, 120, 121, 122]⟩
def wordsB : ByteArray := ⟨#[97, 98, 99, 100, 101, 102, 103, 104, 105, 106, 107, 108, 109, 110, 111, 112, 113, 114, 115, 116, 117, 118, 119, 120, 121, 122, 48, 49, 50, 51, 52, 53, 54, 55, 56, 57, 45, 95]⟩
def figuresB : ByteArray := ⟨#[48, 49, 50, 51, 52, 53, 54, 55, 56, 57, 46, 47, 37]⟩
def marksB : ByteArray := ⟨#[123, 125, 59, 44, 42]⟩
def noneB : ByteArray := ⟨#[]⟩
def moreOf (c : Int) : ByteArray := if isA c then wordsB else if isD c then figuresB else noneB
theorem in_tab {t : ByteArray} {p : Int → Bool} (h : (List.range 256).all (fun n => decide (0 ≤ idxB t.data.toList (n : Int)) == p n) = true) {c : Int} (h0 : 0 ≤ c) (h1 : c < 256) : (0 ≤ idxB t.data.toList c) ↔ p c = true := by
 have := all256 (p := fun c => decide (0 ≤ idxB t.data.toList c) == p c) h h0 h1
 rw [beq_iff_eq] at this
 rw [← this, decide_eq_true_iff]
theorem in_letters {c : Int} (h0 : 0 ≤ c) (h1 : c < 256) : (0 ≤ idxB lettersB.data.toList c) ↔ isA c = true := in_tab (by decide +kernel) h0 h1
theorem in_words {c : Int} (h0 : 0 ≤ c) (h1 : c < 256) : (0 ≤ idxB wordsB.data.toList c) ↔ isW c = true := in_tab (by decide +kernel) h0 h1
theorem in_figures {c : Int} (h0 : 0 ≤ c) (h1 : c < 256) : (0 ≤ idxB figuresB.data.toList c) ↔ isF c = true := in_tab (by decide +kernel) h0 h1
theorem in_marks {c : Int} (h0 : 0 ≤ c) (h1 : c < 256) : (0 ≤ idxB marksB.data.toList c) ↔ isM c = true := in_tab (by decide +kernel) h0 h1
theorem in_blanks {c : Int} (h0 : 0 ≤ c) (h1 : c < 256) : (0 ≤ idxB lexBlanks.data.toList c) ↔ (decide (c = 32) || decide (c = 9) || decide (c = 10)) = true := in_tab (p := fun c => decide (c = 32) || decide (c = 9) || decide (c = 10)) (by decide +kernel) h0 h1
theorem in_none {c : Int} (h0 : 0 ≤ c) (h1 : c < 256) : (0 ≤ idxB noneB.data.toList c) ↔ (false = true) := in_tab (p := fun _ => false) (by decide +kernel) h0 h1
theorem kind_is {c : Int} (h0 : 0 ≤ c) (h1 : c < 256) : lex_kind_R c (kd c) (moreOf c) := by
 refine lex_kind_go ⟨_, index_is lettersB c h0 h1, ?_⟩
 unfold kd moreOf
 by_cases ha : isA c = true
 ·rw [if_pos ha, if_pos ha]; exact .inl ⟨(in_letters h0 h1).2 ha, rfl, rfl⟩
 ·rw [if_neg ha, if_neg ha]
  refine .inr ⟨fun q => ha ((in_letters h0 h1).1 q), ?_⟩
  have hm : ∃ i, strings_IndexByte_R marksB c i ∧ (0 ≤ i ∧ (if isM c then (3 : Int) else 0) = 3 ∧ noneB = noneB ∨ ¬ 0 ≤ i ∧ (if isM c then (3 : Int) else 0) = 0 ∧ noneB = noneB) := by
   refine ⟨_, index_is marksB c h0 h1, ?_⟩
   by_cases hq : isM c = true
   ·exact .inl ⟨(in_marks h0 h1).2 hq, if_pos hq, rfl⟩
   ·exact .inr ⟨fun q => hq ((in_marks h0 h1).1 q), if_neg hq, rfl⟩
  by_cases hd : isD c = true
  ·rw [if_pos hd, if_pos hd]
   unfold isD at hd
   simp only [Bool.and_eq_true, decide_eq_true_eq] at hd
   exact .inl ⟨hd.1, .inl ⟨hd.2, rfl, rfl⟩⟩
  ·rw [if_neg hd, if_neg hd]
   unfold isD at hd
   simp only [Bool.and_eq_true, decide_eq_true_eq] at hd
   by_cases h48 : 48 ≤ c
   ·exact .inl ⟨h48, .inr ⟨fun q => hd ⟨h48, q⟩, hm⟩⟩
   ·exact .inr ⟨h48, hm⟩
theorem wi_succ (n : Nat) (h : n < 4611686018427387904) : wi ((n : Int) + 1) = ((n + 1 : Nat) : Int) := by rw [wi_eq]; omega
theorem length_loop {s more : ByteArray} {p : Int → Bool} (hp : ∀ c : Int, 0 ≤ c → c < 256 → ((0 ≤ idxB more.data.toList c) ↔ p c = true)) (hs : s.size < 4611686018427387904) :
  ∀ m i : Nat, s.size - i = m → i ≤ s.size → lex_length_l0 s more (i : Int) (((i + run1 p (s.data.toList.drop i) : Nat)) : Int) := by
 intro m
 induction m with
 | zero =>
  intro i h1 h2
  have e : s.data.toList.drop i = [] := List.drop_of_length_le (by rw [Array.length_toList]; show s.size ≤ i; omega)
  rw [e]
  exact lex_length_l0_go (.inr ⟨by omega, rfl⟩)
 | succ m ih =>
  intro i h1 h2
  obtain ⟨b, hb, hl⟩ := letter_in s i (by omega)
  have e : s.data.toList.drop i = b :: s.data.toList.drop (i + 1) := by
   obtain ⟨hlt, hget⟩ := List.getElem?_eq_some_iff.1 hb
   rw [List.drop_eq_getElem_cons hlt, hget]
  obtain ⟨b0, b1⟩ := byte_lt b
  refine lex_length_l0_go (.inl ⟨by omega, by omega, _, index_is more _ (by rw [hl]; exact b0) (by rw [hl]; exact b1), ?_⟩)
  rw [hl, e]
  unfold run1
  by_cases hq : p (bc b) = true
  ·refine .inl ⟨(hp _ b0 b1).2 hq, ?_⟩
   rw [if_pos hq, wi_succ i (by omega)]
   have := ih (i + 1) (by omega) (by omega)
   rwa [show i + (run1 p (s.data.toList.drop (i + 1)) + 1) = i + 1 + run1 p (s.data.toList.drop (i + 1)) by omega]
  ·refine .inr ⟨fun q => hq ((hp _ b0 b1).1 q), ?_⟩
   rw [if_neg hq]; rfl
theorem length_is {s more : ByteArray} {p : Int → Bool} (hp : ∀ c : Int, 0 ≤ c → c < 256 → ((0 ≤ idxB more.data.toList c) ↔ p c = true)) (hs : s.size < 4611686018427387904) {b : UInt8} {t : Bs} (e : s.data.toList = b :: t) :
  lex_length_R s more ((1 + run1 p t : Nat) : Int) := by
 have hsz : s.size = t.length + 1 := by
  have : s.data.toList.length = s.size := Array.length_toList
  rw [← this, e]; rfl
 have := length_loop hp hs (s.size - 1) 1 rfl (by omega)
 rw [e] at this
 exact lex_length_go this
theorem more_on {a : Int} : ∀ c : Int, 0 ≤ c → c < 256 → ((0 ≤ idxB (moreOf a).data.toList c) ↔ goesOn a c = true) := by
 intro c h0 h1
 unfold moreOf goesOn
 split
 ·exact in_words h0 h1
 ·split
  ·exact in_figures h0 h1
  ·exact in_none h0 h1
theorem idx_run : ∀ (l : Bs), (idxB l 10 = -1 ∧ run1 (fun c => !decide (c = 10)) l = l.length) ∨ idxB l 10 = ((run1 (fun c => !decide (c = 10)) l : Nat) : Int)
 | [] => .inl ⟨rfl, rfl⟩
 | b :: l => by
  unfold idxB run1
  by_cases h : (b.toNat : Int) = 10
  ·rw [if_pos h]
   refine .inr ?_
   have : bc b = 10 := h
   rw [this]; rfl
  ·rw [if_neg h]
   have : ¬ bc b = 10 := h
   rcases idx_run l with ⟨h1, h2⟩ | h1
   ·left
    rw [if_pos h1]
    refine ⟨rfl, ?_⟩
    simp [this, h2]
   ·right
    rw [if_neg (by rw [h1]; omega), h1]
    simp [this]
theorem pass_is {s : ByteArray} {b : UInt8} {t : Bs} (e : s.data.toList = b :: t) : lex_pass_R s (if bc b = 35 then ((1 + run1 (fun c => !decide (c = 10)) t : Nat) : Int) else 1) := by
 have hsz : s.size = t.length + 1 := by
  have : s.data.toList.length = s.size := Array.length_toList
  rw [← this, e]; rfl
 obtain ⟨b', hb, hl⟩ := letter_in s 0 (by omega)
 rw [e] at hb
 obtain rfl : b = b' := by simpa using hb
 refine lex_pass_go ⟨by omega, ?_⟩
 rw [show (0 : Int) = ((0 : Nat) : Int) from rfl, hl]
 by_cases h : bc b = 35
 ·rw [if_pos h]
  refine .inl ⟨h, _, index_is s 10 (by decide) (by decide), ?_⟩
  rw [e]
  have h' : ¬ bc b = 10 := by rw [h]; decide
  have hr : run1 (fun c => !decide (c = 10)) (b :: t) = 1 + run1 (fun c => !decide (c = 10)) t := by
   rw [run1]; simp [h']; omega
  rcases idx_run (b :: t) with ⟨h1, h2⟩ | h1
  ·rw [h1]
   refine .inr ⟨by decide, ?_⟩
   rw [← hr, h2, hsz]; rfl
  ·rw [h1, hr]
   exact .inl ⟨by omega, rfl⟩
 ·rw [if_neg h]
  exact .inr ⟨h, rfl⟩
end Go.Proofs.YtlpbmajbalenjaaA
