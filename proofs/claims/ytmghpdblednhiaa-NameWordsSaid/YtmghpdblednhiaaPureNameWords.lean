/- Keywords are words and no names, and a name with a letter behind it is a word, for every text and letter. No condition. -/
import Derived.Test.YtmghpdblednhiaaPNameWordsx1
import Derived.Test.YtmghpdblednhiaaBase
set_option linter.unusedVariables false
set_option linter.unusedSimpArgs false
namespace Go.Proofs.Ytmghpdblednhiaa.Pure
open Go Go.RowKit Go.Proofs.Ytmghpdblednhiaa.PNameWords Go.Proofs.YtmghpdblednhiaaW.PrintWords Go.Proofs.YtmghpdblednhiaaW.PrintLast Go.Proofs.YtmghpdblednhiaaW.PrintMore Go.Proofs.Ytmghpdblednhiaa.B

/-- From place i on: each byte is a letter, or, not in the first place, a digit or a line. -/
def wd : Nat → List UInt8 → Bool
  | _, [] => true
  | i, b :: l => name_Word.ok i b.toNat && wd (i + 1) l
def isWord (s : ByteArray) : Bool := wd 0 s.data.toList && decide (0 < s.size)
theorem size_len (s : ByteArray) : s.data.toList.length = s.size := by rw [Array.length_toList]; rfl
theorem drop_at (s : ByteArray) (i : Nat) (h : i < s.size) : s.data.toList.drop i = s[i] :: s.data.toList.drop (i + 1) := by
  rw [List.drop_eq_getElem_cons (by rw [size_len]; exact h)]; rfl
theorem empty_is (s : ByteArray) : (!s.toList.isEmpty) = decide (0 < s.size) := by
  rw [Go.ByteArray.toList_eq, ← size_len s]
  cases s.data.toList <;> simp
theorem ok_high (i c : Nat) (h : 128 ≤ c) : name_Word.ok i c = false := by
  unfold name_Word.ok name_Word.lt name_Word.ot
  simp; omega
theorem ok_iff (i c : Nat) : name_Word.ok i c = true ↔ (97 ≤ c ∧ c ≤ 122) ∨ (i ≠ 0 ∧ ((48 ≤ c ∧ c ≤ 57) ∨ c = 45 ∨ c = 95)) := by
  unfold name_Word.ok name_Word.lt name_Word.ot
  simp; omega
theorem word_loop (s : ByteArray) : ∀ (k i : Nat), i ≤ s.size → s.size - i < k → name_Word.l0 k s i = some (wd i (s.data.toList.drop i) && decide (0 < s.size)) := by
  intro k
  induction k with
  | zero => intro i hi hk; omega
  | succ k ih =>
    intro i hi hk
    simp only [name_Word.l0]
    by_cases h : i < s.size
    · rw [if_pos h, drop_at s i h]
      simp only [wd]
      by_cases ha : (s[i]'h).toNat < 128
      · rw [Go.decode_ascii s i h ha]
        by_cases ho : name_Word.ok i (s[i]'h).toNat = true
        · rw [if_pos ho, ih (i + 1) (by omega) (by omega), ho]; simp
        · rw [if_neg ho, Bool.eq_false_iff.2 ho]; simp
      · have h1 := (Go.decode_high s i h (by omega)).1
        rw [ok_high i _ h1, ok_high i _ (show 128 ≤ (s[i]'h).toNat by omega)]; simp
    · rw [if_neg h, List.drop_of_length_le (by rw [size_len]; omega), empty_is]; simp [wd]
theorem name_Word_is (s : ByteArray) : name_Word.f s = some (isWord s) := by
  unfold name_Word.f
  rw [word_loop s _ 0 (by omega) (by omega)]; simp [isWord]
def kws : List ByteArray := (name_Keywords.f).getD []
theorem kws_is : name_Keywords.f = some kws := rfl
theorem kws_len : kws.length = 13 := rfl
def same (s x : ByteArray) : Bool := x.data.toList == s.data.toList
def isKey (s : ByteArray) : Bool := kws.any (same s)
theorem rd_at (l : List ByteArray) (i : Nat) (h : i < l.length) : rdOf ByteArray.empty l (i : Int) = l[i] := by
  unfold rdOf; simp [h]
theorem index_loop (l : List ByteArray) (s : ByteArray) (hl : l.length ≤ 1000) : ∀ (k i : Nat), i ≤ l.length → l.length - i < k →
    ∃ r, slices_Index_string_string.l0 k l s (l.length : Int) (i : Int) = some r ∧ decide (r ≥ 0) = (l.drop i).any (same s) := by
  intro k
  induction k with
  | zero => intro i hi hk; omega
  | succ k ih =>
    intro i hi hk
    simp only [slices_Index_string_string.l0]
    by_cases h : i < l.length
    · rw [if_pos (by omega), if_pos (by omega), if_pos (by omega), rd_at l i h, List.drop_eq_getElem_cons h, w_succ (by omega)]
      simp only [Go.ByteArray.toList_eq, List.any_cons]
      by_cases he : s.data.toList = (l[i]).data.toList
      · rw [if_pos he]
        exact ⟨_, rfl, by simp [same, he]⟩
      · rw [if_neg he]
        obtain ⟨r, e1, e2⟩ := ih (i + 1) (by omega) (by omega)
        refine ⟨r, e1, ?_⟩
        rw [e2]
        have : same s l[i] = false := by exact beq_eq_false_iff_ne.2 (Ne.symm he)
        rw [this]; simp
    · rw [if_neg (by omega), List.drop_of_length_le (by omega)]
      exact ⟨_, rfl, by simp⟩
theorem name_Keyword_is (s : ByteArray) (k : Nat) (hk : 13 < k) : name_Keyword.f k s = some (isKey s) := by
  unfold name_Keyword.f slices_Contains_string_string.f slices_Index_string_string.f
  rw [kws_is]
  obtain ⟨r, e1, e2⟩ := index_loop kws s (by rw [kws_len]; omega) k 0 (by omega) (by rw [kws_len]; omega)
  have e1 : slices_Index_string_string.l0 k kws s (kws.length : Int) 0 = some r := e1
  simp only [Option.bind_some, e1, e2]
  simp [isKey]
theorem name_Name_is (s : ByteArray) (k : Nat) (hk : 13 < k) : name_Name.f k s = some (isWord s && !isKey s) := by
  unfold name_Name.f
  rw [name_Word_is, name_Keyword_is s k hk]
  simp only [Option.bind_some]
  cases isWord s <;> simp
theorem works_true (k : Nat) (hk : 13 < k) : triviumlaw17_works.f k = some true := by
  unfold triviumlaw17_works.f
  rw [name_Name_is _ _ hk, name_Name_is _ _ hk, name_Name_is _ _ hk, name_Keyword_is _ _ hk, name_Word_is]
  decide +kernel

theorem wd_append : ∀ (l m : List UInt8) (i : Nat), wd i (l ++ m) = (wd i l && wd (i + l.length) m)
  | [], m, i => by simp [wd]
  | b :: l, m, i => by
    simp only [List.cons_append, wd, wd_append l m (i + 1), List.length_cons]
    rw [show i + 1 + l.length = i + (l.length + 1) by omega, Bool.and_assoc]
theorem kws_all : ∀ x ∈ kws, isWord x = true ∧ isKey x = true := by
  have h : kws.all (fun x => isWord x && isKey x) = true := by decide +kernel
  intro x hx
  have := List.all_eq_true.1 h x hx
  simpa using this
theorem word_more (s : ByteArray) (c : Int) (h0 : 97 ≤ c) (h1 : c ≤ 122) (h : isWord s = true) : isWord (s ++ strOfNums [c]) = true := by
  unfold isWord at *
  have hd : (s ++ strOfNums [c]).data.toList = s.data.toList ++ [UInt8.ofNat c.toNat] := by
    rw [ByteArray.data_append, Array.toList_append]; rfl
  have hn : (UInt8.ofNat c.toNat).toNat = c.toNat := by
    rw [UInt8.toNat_ofNat']; omega
  rw [hd, wd_append]
  have h2 : name_Word.ok (0 + s.data.toList.length) (UInt8.ofNat c.toNat).toNat = true := by
    rw [ok_iff, hn]; left; omega
  simp only [wd, h2]
  rw [ByteArray.size_append]
  simp at h ⊢
  exact ⟨h.1, by omega⟩
theorem words_loop (s : ByteArray) (c : Int) (hs : s.size ≤ 200) (hc0 : 0 ≤ c) (hc : c < 256) : ∀ (d k i : Nat), i + d = 13 → d + 20 < k →
    triviumlaw17_NameWords.l0 k s c kws (i : Int) = some true := by
  intro d
  induction d with
  | zero =>
    intro k i hi hk
    obtain ⟨k, rfl⟩ : ∃ m, k = m + 1 := ⟨k - 1, by omega⟩
    simp only [triviumlaw17_NameWords.l0]
    rw [if_neg (by rw [kws_len]; omega)]
    simp only [Option.bind_some]
    rw [if_pos (by rw [strOfNums_size]; simp; omega), name_Name_is s k (by omega), name_Word_is]
    simp only [Option.bind_some]
    cases hw : isWord s with
    | false => simp
    | true =>
      rw [word_more s _ ?_ ?_ hw]
      · cases isKey s <;> simp
      · rw [tm hc0]; omega
      · rw [tm hc0]; omega
  | succ d ih =>
    intro k i hi hk
    obtain ⟨k, rfl⟩ : ∃ m, k = m + 1 := ⟨k - 1, by omega⟩
    have hl : i < kws.length := by rw [kws_len]; omega
    simp only [triviumlaw17_NameWords.l0]
    rw [if_pos (by omega), if_pos (by omega), rd_at kws i hl, w_succ (by omega), name_Word_is, name_Name_is _ k (by omega), ih k (i + 1) (by omega) (by omega)]
    have h := kws_all kws[i] (List.getElem_mem hl)
    rw [h.1, h.2]
    rfl
theorem NameWords : triviumlaw17_NameWords.Pure := by
  intro s c hs hc
  have hc := wf_u8 hc
  obtain ⟨K, hK⟩ : ∃ K : Nat, 33 < K := ⟨34, by omega⟩
  refine ⟨K, ?_⟩
  unfold triviumlaw17_NameWords.f
  have hm : mn (s.size : Int) 200 = ((min s.size 200 : Nat) : Int) := by unfold mn; split <;> omega
  rw [works_true K (by omega), hm, if_pos (show (0 : Int) ≤ ((min s.size 200 : Nat) : Int) by omega), if_pos (show ((min s.size 200 : Nat) : Int) ≤ (s.size : Int) by omega), kws_is]
  have ht : (s.extract 0 (((min s.size 200 : Nat) : Int)).toNat).size ≤ 200 := by
    rw [ByteArray.size_extract]; omega
  have h := words_loop (s.extract 0 (((min s.size 200 : Nat) : Int)).toNat) c ht hc.1 hc.2 13 K 0 (by omega) (by omega)
  simp only [Option.bind_some, if_true]
  exact h

end Go.Proofs.Ytmghpdblednhiaa.Pure
