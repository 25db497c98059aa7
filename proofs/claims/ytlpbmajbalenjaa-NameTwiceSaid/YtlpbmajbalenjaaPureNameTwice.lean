/- Which text comes twice, and the law's function. -/
import Derived.Test.YtlpbmajbalenjaaWnameTwice
import Derived.Test.YtlpbmajbalenjaaWref17Twice
import Derived.Test.YtlpbmajbalenjaaWnameKeywords
import Derived.Test.YtlpbmajbalenjaaWref17Keywords
import Derived.Test.YtlpbmajbalenjaaWcon
import Derived.Test.YtlpbmajbalenjaaWlaw17NameTwice
set_option linter.unusedVariables false
set_option maxRecDepth 100000
namespace Go.Proofs.YtlpbmajbalenjaaA
open Go Go.Proofs
theorem wi_id {x : Int} (h0 : 0 ≤ x) (h : x < 1000000) : wi x = x := by
  simp [wi, IntKind.wrap, IntKind.bits, IntKind.signed]; omega
instance : LawfulBEq ByteArray where
  eq_of_beq h := (MapKept.bytes_beq _ _).1 h
  rfl := (MapKept.bytes_beq _ _).2 rfl
/-- The first text that stood there ahead. -/
def twice (seen : List ByteArray) : List ByteArray → ByteArray × Bool
  | [] => (⟨#[]⟩, false)
  | x :: l => if x ∈ seen then (x, true) else twice (seen ++ [x]) l
theorem at_drop {l : List ByteArray} {i : Nat} {x : ByteArray} {r : List ByteArray} (h : l.drop i = x :: r) : i < l.length ∧ l.getD i ByteArray.empty = x ∧ l.drop (i + 1) = r ∧ l.take (i + 1) = l.take i ++ [x] := by
  have hi : i < l.length := by
    rcases Nat.lt_or_ge i l.length with h' | h'
    · exact h'
    · rw [List.drop_eq_nil_of_le h'] at h; cases h
  rw [List.drop_eq_getElem_cons hi] at h
  injection h with h1 h2
  refine ⟨hi, by rw [List.getD_eq_getElem?_getD, List.getElem?_eq_getElem hi]; exact h1, h2, ?_⟩
  rw [List.take_succ_eq_append_getElem hi, h1]
theorem name_go {l : List ByteArray} (hl : l.length < 100) : ∀ (rest : List ByteArray) (i : Nat) (m : List (T_string × T_bool)), l.drop i = rest → (∀ k, mget k m = if k ∈ l.take i then some true else none) →
    name_Twice_l0 l (l.length : Int) (i : Int) m (twice (l.take i) rest).1 (twice (l.take i) rest).2
  | [], i, m, hr, hm => by
    have hi : l.length ≤ i := by
      rcases Nat.lt_or_ge i l.length with h' | h'
      · rw [List.drop_eq_getElem_cons h'] at hr; cases hr
      · exact h'
    exact name_Twice_l0_go (.inr ⟨by omega, rfl, rfl⟩)
  | x :: rest, i, m, hr, hm => by
    obtain ⟨hi, hx, hd, ht⟩ := at_drop hr
    refine name_Twice_l0_go (.inl ⟨by omega, by omega, by omega, ?_⟩)
    rw [Int.toNat_natCast, hx]
    by_cases hk : x ∈ l.take i
    · refine .inl ⟨true, by rw [hm, if_pos hk], .inl ⟨rfl, ?_⟩⟩
      simp [twice, hk]
    · refine .inr ⟨by rw [hm, if_neg hk], _, rfl, ?_⟩
      have e : wi ((i : Int) + 1) = ((i + 1 : Nat) : Int) := by rw [wi_id (by omega) (by omega)]; rfl
      have ih := name_go hl rest (i + 1) (mput x true m) hd fun k => by
        rw [mget_put, ht]
        by_cases h : k = x
        · rw [if_pos h, if_pos (by rw [h]; simp)]
        · rw [if_neg h, hm]; simp [h]
      rw [e]
      rw [ht] at ih
      rw [twice, if_neg hk]
      exact ih
theorem ref_in {l : List ByteArray} (hl : l.length < 100) {i : Nat} (hi : i < l.length) {s : ByteArray} {b : Bool} (hn : l.getD i ByteArray.empty ∉ l.take i → ref17_Twice_l0 l (wi ((i : Int) + 1)) s b) (hy : l.getD i ByteArray.empty ∈ l.take i → s = l.getD i ByteArray.empty ∧ b = true) :
    ∀ (n k : Nat), k + n = i → l.getD i ByteArray.empty ∉ l.take k → ref17_Twice_l1 l (i : Int) (k : Int) s b
  | 0, k, hk, hno => by
    obtain rfl : k = i := by omega
    exact ref17_Twice_l1_go (.inr ⟨by omega, hn hno⟩)
  | n + 1, k, hk, hno => by
    refine ref17_Twice_l1_go (.inl ⟨by omega, by omega, by omega, by omega, by omega, ?_⟩)
    rw [Int.toNat_natCast, Int.toNat_natCast]
    have hkl : k < l.length := by omega
    have hgk : l.getD k ByteArray.empty = l[k] := by rw [List.getD_eq_getElem?_getD, List.getElem?_eq_getElem hkl]; rfl
    by_cases h : l.getD k ByteArray.empty = l.getD i ByteArray.empty
    · refine .inl ⟨h, hy ?_⟩
      rw [← h, hgk]
      exact List.mem_take_iff_getElem.2 ⟨k, by omega, rfl⟩
    · refine .inr ⟨h, ?_⟩
      rw [show wi ((k : Int) + 1) = ((k + 1 : Nat) : Int) by rw [wi_id (by omega) (by omega)]; rfl]
      refine ref_in hl hi hn hy n (k + 1) (by omega) ?_
      rw [List.take_succ_eq_append_getElem hkl, List.mem_append]
      rintro (h' | h')
      · exact hno h'
      · simp at h'; exact h (by rw [hgk]; exact h'.symm)
theorem ref_go {l : List ByteArray} (hl : l.length < 100) : ∀ (rest : List ByteArray) (i : Nat), l.drop i = rest → ref17_Twice_l0 l (i : Int) (twice (l.take i) rest).1 (twice (l.take i) rest).2
  | [], i, hr => by
    have hi : l.length ≤ i := by
      rcases Nat.lt_or_ge i l.length with h' | h'
      · rw [List.drop_eq_getElem_cons h'] at hr; cases hr
      · exact h'
    exact ref17_Twice_l0_go (.inr ⟨by omega, rfl, rfl⟩)
  | x :: rest, i, hr => by
    obtain ⟨hi, hx, hd, ht⟩ := at_drop hr
    refine ref17_Twice_l0_go (.inl ⟨by omega, ref_in hl hi (fun hn => ?_) (fun hy => ?_) i 0 (by omega) (by simp)⟩)
    · rw [hx] at hn
      have ih := ref_go hl rest (i + 1) hd
      rw [show wi ((i : Int) + 1) = ((i + 1 : Nat) : Int) by rw [wi_id (by omega) (by omega)]; rfl]
      rw [ht] at ih
      rw [twice, if_neg hn]
      exact ih
    · rw [hx] at hy ⊢
      simp [twice, hy]
abbrev kws : List T_string := [⟨#[110, 101, 116, 119, 111, 114, 107]⟩, ⟨#[110, 111, 100, 101]⟩, ⟨#[104, 111, 109, 101]⟩, ⟨#[108, 105, 110, 107]⟩, ⟨#[102, 97, 105, 108]⟩, ⟨#[114, 117, 108, 101]⟩, ⟨#[100, 114, 111, 112]⟩, ⟨#[118, 105, 97]⟩, ⟨#[101, 108, 115, 101]⟩, ⟨#[112, 114, 111, 98]⟩, ⟨#[104, 111, 112, 115]⟩, ⟨#[119, 105, 116, 104, 105, 110]⟩, ⟨#[99, 111, 109, 112, 97, 114, 101]⟩]
theorem same_kws : triviumbase_SameTexts_R kws kws true := Ic.con 300 fun n => by kernel_rfl
theorem law_NameTwice (l : List T_string) : law17_NameTwice_R l true := by
  have h20 : (mn (l.length : Int) 20) ≤ (l.length : Int) ∧ 0 ≤ (mn (l.length : Int) 20) ∧ (mn (l.length : Int) 20) ≤ 20 := by
    unfold mn; split <;> omega
  have hl : (l.take (mn (l.length : Int) 20).toNat).length ≤ 20 := by rw [List.length_take]; omega
  have hl0 := hl
  obtain ⟨L, hL⟩ : ∃ L : List T_string, l.take (mn (l.length : Int) 20).toNat = L := ⟨_, rfl⟩
  have hl : L.length ≤ 20 := by rw [← hL]; exact hl0
  have h1 : name_Twice_R L (twice [] L).1 (twice [] L).2 := name_Twice_go (by
    have := name_go (l := L) (by omega) L 0 [] rfl (fun k => by simp [mget])
    simpa using this)
  have h2 : ref17_Twice_R L (twice [] L).1 (twice [] L).2 := ref17_Twice_go (by
    have := ref_go (l := L) (by omega) L 0 rfl
    simpa using this)
  refine law17_NameTwice_go ⟨h20.2.1, h20.1, by clear hl hL; omega, L, hL.symm, by omega, L, rfl, _, _, h1, _, _, h2, .inl ⟨rfl, ?_⟩⟩
  have fin : ∃ c18 : List T_string, (name_Keywords_R c18 ∧ (∃ c20 : List T_string, (ref17_Keywords_R c20 ∧ (∃ c22 : Bool, (triviumbase_SameTexts_R c18 c20 c22 ∧ ((c22 = true ∧ (∃ c25 : Bool, (law17_works_R c25 ∧ (true = c25)))) ∨ (¬ c22 = true ∧ (true = false)))))))) :=
    ⟨kws, name_Keywords_go rfl, kws, ref17_Keywords_go rfl, true, same_kws, .inl ⟨rfl, true, law17_works_is, rfl⟩⟩
  cases (twice [] L).2 with
  | true => exact .inl ⟨rfl, .inl ⟨rfl, fin⟩⟩
  | false => exact .inr ⟨by simp, .inr ⟨by simp, fin⟩⟩
end Go.Proofs.YtlpbmajbalenjaaA
