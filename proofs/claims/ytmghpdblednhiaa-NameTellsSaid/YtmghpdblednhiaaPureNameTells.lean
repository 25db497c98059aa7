/- Whether any text is a word, a keyword, a name, and too long, is as the document says: the program's four answers equal the reference's for every text. No condition. -/
import Derived.Test.YtmghpdblednhiaaPNameTellsx3
import Derived.Test.YtmghpdblednhiaaBase
set_option linter.unusedVariables false
set_option linter.unusedSimpArgs false
namespace Go.Proofs.Ytmghpdblednhiaa.Pure
open Go Go.RowKit Go.Proofs.Ytmghpdblednhiaa.PNameTells Go.Proofs.YtmghpdblednhiaaW.PrintWords Go.Proofs.YtmghpdblednhiaaW.PrintLast Go.Proofs.YtmghpdblednhiaaW.PrintMore Go.Proofs.Ytmghpdblednhiaa.B

/-- From place i on: each byte is a letter, or, not in the first place, a digit or a line. -/
def wd : Nat → List UInt8 → Bool
  | _, [] => true
  | i, b :: l => name_Word.ok i b.toNat && wd (i + 1) l
def isWord (s : ByteArray) : Bool := wd 0 s.data.toList && decide (0 < s.size)
theorem size_len (s : ByteArray) : s.data.toList.length = s.size := by rw [Array.length_toList]; rfl
theorem drop_at (s : ByteArray) (i : Nat) (h : i < s.size) : s.data.toList.drop i = s[i] :: s.data.toList.drop (i + 1) := by
  rw [List.drop_eq_getElem_cons (by rw [size_len]; exact h)]; rfl
theorem empty_is (s : ByteArray) : (!s.toList.isEmpty) = decide (0 < s.size) := by
  rw [Go.ByteArray.toList_eq, ← size_len s]
  cases s.data.toList <;> simp
theorem ok_high (i c : Nat) (h : 128 ≤ c) : name_Word.ok i c = false := by
  unfold name_Word.ok name_Word.lt name_Word.ot
  simp; omega
theorem ok_iff (i c : Nat) : name_Word.ok i c = true ↔ (97 ≤ c ∧ c ≤ 122) ∨ (i ≠ 0 ∧ ((48 ≤ c ∧ c ≤ 57) ∨ c = 45 ∨ c = 95)) := by
  unfold name_Word.ok name_Word.lt name_Word.ot
  simp; omega
theorem word_loop (s : ByteArray) : ∀ (k i : Nat), i ≤ s.size → s.size - i < k → name_Word.l0 k s i = some (wd i (s.data.toList.drop i) && decide (0 < s.size)) := by
  intro k
  induction k with
  | zero => intro i hi hk; omega
  | succ k ih =>
    intro i hi hk
    simp only [name_Word.l0]
    by_cases h : i < s.size
    · rw [if_pos h, drop_at s i h]
      simp only [wd]
      by_cases ha : (s[i]'h).toNat < 128
      · rw [Go.decode_ascii s i h ha]
        by_cases ho : name_Word.ok i (s[i]'h).toNat = true
        · rw [if_pos ho, ih (i + 1) (by omega) (by omega), ho]; simp
        · rw [if_neg ho, Bool.eq_false_iff.2 ho]; simp
      · have h1 := (Go.decode_high s i h (by omega)).1
        rw [ok_high i _ h1, ok_high i _ (show 128 ≤ (s[i]'h).toNat by omega)]; simp
    · rw [if_neg h, List.drop_of_length_le (by rw [size_len]; omega), empty_is]; simp [wd]
theorem name_Word_is (s : ByteArray) : name_Word.f s = some (isWord s) := by
  unfold name_Word.f
  rw [word_loop s _ 0 (by omega) (by omega)]; simp [isWord]
def kws : List ByteArray := (name_Keywords.f).getD []
theorem kws_is : name_Keywords.f = some kws := rfl
theorem kws_len : kws.length = 13 := rfl
def same (s x : ByteArray) : Bool := x.data.toList == s.data.toList
def isKey (s : ByteArray) : Bool := kws.any (same s)
theorem rd_at (l : List ByteArray) (i : Nat) (h : i < l.length) : rdOf ByteArray.empty l (i : Int) = l[i] := by
  unfold rdOf; simp [h]
theorem index_loop (l : List ByteArray) (s : ByteArray) (hl : l.length ≤ 1000) : ∀ (k i : Nat), i ≤ l.length → l.length - i < k →
    ∃ r, slices_Index_string_string.l0 k l s (l.length : Int) (i : Int) = some r ∧ decide (r ≥ 0) = (l.drop i).any (same s) := by
  intro k
  induction k with
  | zero => intro i hi hk; omega
  | succ k ih =>
    intro i hi hk
    simp only [slices_Index_string_string.l0]
    by_cases h : i < l.length
    · rw [if_pos (by omega), if_pos (by omega), if_pos (by omega), rd_at l i h, List.drop_eq_getElem_cons h, w_succ (by omega)]
      simp only [Go.ByteArray.toList_eq, List.any_cons]
      by_cases he : s.data.toList = (l[i]).data.toList
      · rw [if_pos he]
        exact ⟨_, rfl, by simp [same, he]⟩
      · rw [if_neg he]
        obtain ⟨r, e1, e2⟩ := ih (i + 1) (by omega) (by omega)
        refine ⟨r, e1, ?_⟩
        rw [e2]
        have : same s l[i] = false := by exact beq_eq_false_iff_ne.2 (Ne.symm he)
        rw [this]; simp
    · rw [if_neg (by omega), List.drop_of_length_le (by omega)]
      exact ⟨_, rfl, by simp⟩
theorem name_Keyword_is (s : ByteArray) (k : Nat) (hk : 13 < k) : name_Keyword.f k s = some (isKey s) := by
  unfold name_Keyword.f slices_Contains_string_string.f slices_Index_string_string.f
  rw [kws_is]
  obtain ⟨r, e1, e2⟩ := index_loop kws s (by rw [kws_len]; omega) k 0 (by omega) (by rw [kws_len]; omega)
  have e1 : slices_Index_string_string.l0 k kws s (kws.length : Int) 0 = some r := e1
  simp only [Option.bind_some, e1, e2]
  simp [isKey]
theorem name_Name_is (s : ByteArray) (k : Nat) (hk : 13 < k) : name_Name.f k s = some (isWord s && !isKey s) := by
  unfold name_Name.f
  rw [name_Word_is, name_Keyword_is s k hk]
  simp only [Option.bind_some]
  cases isWord s <;> simp
theorem works_true (k : Nat) (hk : 13 < k) : triviumlaw17_works.f k = some true := by
  unfold triviumlaw17_works.f
  rw [name_Name_is _ _ hk, name_Name_is _ _ hk, name_Name_is _ _ hk, name_Keyword_is _ _ hk, name_Word_is]
  decide +kernel

theorem refWord_loop (s : ByteArray) (hs : s.size ≤ 1000) : ∀ (k i : Nat), i ≤ s.size → s.size - i < k → triviumref17_Word.l0 k s (i : Int) = some (wd i (s.data.toList.drop i) && decide (0 < s.size)) := by
  intro k
  induction k with
  | zero => intro i hi hk; omega
  | succ k ih =>
    intro i hi hk
    simp only [triviumref17_Word.l0]
    by_cases h : i < s.size
    · have hb : bt s (i : Int) = ((s[i]'h).toNat : Int) := by
        have := bt_at s (i : Int) (by simpa using h)
        rw [← this]; rfl
      rw [if_pos (by omega), if_pos (by omega), hb, w_succ (by omega), ih (i + 1) (by omega) (by omega), drop_at s i h]
      simp only [wd]
      have hok := ok_iff i (s[i]'h).toNat
      generalize (s[i]'h).toNat = b at *
      generalize (wd (i + 1) (s.data.toList.drop (i + 1))) = z
      generalize (decide (0 < s.size)) = y
      by_cases ho : name_Word.ok i b = true
      · have h2 := hok.1 ho
        rw [ho, Bool.true_and]
        clear hok ho ih hb
        repeat' split
        all_goals first | rfl | (exfalso; omega)
      · have h2 : ¬ ((97 ≤ b ∧ b ≤ 122) ∨ (i ≠ 0 ∧ ((48 ≤ b ∧ b ≤ 57) ∨ b = 45 ∨ b = 95))) := fun h => ho (hok.2 h)
        rw [Bool.eq_false_iff.2 ho, Bool.false_and]
        clear hok ho ih hb
        repeat' split
        all_goals first | rfl | (exfalso; omega)
    · rw [if_neg (by omega), List.drop_of_length_le (by rw [size_len]; omega)]; simp [wd]
theorem ref_Word_is (s : ByteArray) (hs : s.size ≤ 200) (k : Nat) (hk : 200 < k) : triviumref17_Word.f k s = some (isWord s) := by
  unfold triviumref17_Word.f
  have h := refWord_loop s (by omega) k 0 (by omega) (by omega)
  have h : triviumref17_Word.l0 k s 0 = _ := h
  rw [h]; simp [isWord]
theorem ref_kws_is : triviumref17_Keywords.f = some kws := rfl
theorem refKey_loop (l : List ByteArray) (s : ByteArray) (hl : l.length ≤ 1000) : ∀ (k i : Nat), i ≤ l.length → l.length - i < k →
    triviumref17_Keyword.l0 k s l (i : Int) = some ((l.drop i).any (same s)) := by
  intro k
  induction k with
  | zero => intro i hi hk; omega
  | succ k ih =>
    intro i hi hk
    simp only [triviumref17_Keyword.l0]
    by_cases h : i < l.length
    · rw [if_pos (by omega), if_pos (by omega), rd_at l i h, List.drop_eq_getElem_cons h, w_succ (by omega), ih (i + 1) (by omega) (by omega)]
      simp only [Go.ByteArray.toList_eq, List.any_cons]
      by_cases he : (l[i]).data.toList = s.data.toList
      · rw [if_pos he]
        simp [same, he]
      · rw [if_neg he]
        have : same s l[i] = false := by exact beq_eq_false_iff_ne.2 he
        rw [this]; simp
    · rw [if_neg (by omega), List.drop_of_length_le (by omega)]
      simp
theorem ref_Keyword_is (s : ByteArray) (k : Nat) (hk : 13 < k) : triviumref17_Keyword.f k s = some (isKey s) := by
  unfold triviumref17_Keyword.f
  rw [ref_kws_is]
  have h := refKey_loop kws s (by rw [kws_len]; omega) k 0 (by omega) (by rw [kws_len]; omega)
  have h : triviumref17_Keyword.l0 k s kws 0 = _ := h
  simp only [Option.bind_some, h]
  simp [isKey]
theorem ref_Name_is (s : ByteArray) (hs : s.size ≤ 200) (k : Nat) (hk : 200 < k) : triviumref17_Name.f k s = some (isWord s && !isKey s) := by
  unfold triviumref17_Name.f
  rw [ref_Word_is s hs k hk, ref_Keyword_is s k (by omega)]
  simp only [Option.bind_some]
  cases isWord s <;> simp
theorem NameTells : triviumlaw17_NameTells.Pure := by
  intro s hs
  obtain ⟨K, hK⟩ : ∃ K : Nat, 200 < K := ⟨201, by omega⟩
  refine ⟨K, ?_⟩
  unfold triviumlaw17_NameTells.f
  have hm : mn (s.size : Int) 200 = ((min s.size 200 : Nat) : Int) := by unfold mn; split <;> omega
  rw [hm, if_pos (by omega), if_pos (by omega)]
  have ht : (s.extract 0 (((min s.size 200 : Nat) : Int)).toNat).size ≤ 200 := by
    rw [ByteArray.size_extract]; omega
  generalize s.extract 0 (((min s.size 200 : Nat) : Int)).toNat = t at ht ⊢
  rw [name_Word_is, ref_Word_is t ht K hK, name_Keyword_is t K (by omega), ref_Keyword_is t K (by omega), name_Name_is t K (by omega), ref_Name_is t ht K hK, works_true K (by omega)]
  unfold name_Long.f
  simp

end Go.Proofs.Ytmghpdblednhiaa.Pure
