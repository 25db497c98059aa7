/- The law of tokens read again: its function answers true, whatever the text. -/
import Derived.Test.YtlpbmajbalenjaaPureLexTokens
import Derived.Test.YtlpbmajbalenjaaWlaw19LexAgain
import Derived.Test.YtlpbmajbalenjaaWlexReaderDonev0
import Derived.Test.YtlpbmajbalenjaaWlexReaderFigurev0
import Derived.Test.YtlpbmajbalenjaaWlexReaderIsv0
import Derived.Test.YtlpbmajbalenjaaWlexReaderLinev0
import Derived.Test.YtlpbmajbalenjaaWlexReaderNamev0
import Derived.Test.YtlpbmajbalenjaaWlexReaderTakev0
import Derived.Test.YtlpbmajbalenjaaWlexReadertakev0
import Derived.Test.YtlpbmajbalenjaaWlexReadertakev1
set_option linter.unusedVariables false
set_option linter.unusedSimpArgs false
set_option maxRecDepth 100000
namespace Go.Proofs.YtlpbmajbalenjaaA
open Go Go.Proofs
theorem nil_done : __lex_Reader__Done_v0_R true := __lex_Reader__Done_v0_go rfl
theorem nil_name : __lex_Reader__Name_v0_R ⟨#[]⟩ false := __lex_Reader__Name_v0_go ⟨_, _, __lex_Reader__take_v0_go ⟨true, nil_done, rfl, rfl, rfl⟩, rfl, rfl⟩
theorem nil_figure : __lex_Reader__Figure_v0_R ⟨#[]⟩ false := __lex_Reader__Figure_v0_go ⟨_, _, __lex_Reader__take_v1_go ⟨true, nil_done, rfl, rfl, rfl⟩, rfl, rfl⟩
theorem nil_is (b : ByteArray) : __lex_Reader__Is_v0_R b false := __lex_Reader__Is_v0_go ⟨true, nil_done, rfl, rfl⟩
theorem nil_take (b : ByteArray) : __lex_Reader__Take_v0_R b false := __lex_Reader__Take_v0_go ⟨false, nil_is b, by decide, rfl⟩
def TokOk (t : Tk) : Prop := ∃ b r, t.2.1.data.toList = b :: r ∧ isB (bc b) = false ∧ kd (bc b) = t.1 ∧ ¬ t.1 = 0 ∧ run1 (goesOn (bc b)) r = r.length
theorem run1_pos {p : Int → Bool} {b : UInt8} (l : Bs) (h : p (bc b) = true) : run1 p (b :: l) = run1 p l + 1 := by
 show (if p (bc b) = true then run1 p l + 1 else 0) = _
 rw [if_pos h]
theorem run1_neg {p : Int → Bool} {b : UInt8} (l : Bs) (h : ¬ p (bc b) = true) : run1 p (b :: l) = 0 := by
 show (if p (bc b) = true then run1 p l + 1 else 0) = _
 rw [if_neg h]
theorem run1_take (p : Int → Bool) : ∀ l : Bs, run1 p (l.take (run1 p l)) = (l.take (run1 p l)).length
 | [] => rfl
 | b :: l => by
  have ih := run1_take p l
  by_cases h : p (bc b) = true
  ·rw [run1_pos l h, List.take_succ_cons, run1_pos _ h, ih]; rfl
  ·rw [run1_neg l h]; rfl
theorem run1_append {p : Int → Bool} {x : UInt8} (hx : p (bc x) = false) (l2 : Bs) : ∀ l : Bs, run1 p l = l.length → run1 p (l ++ x :: l2) = l.length
 | [], _ => run1_neg l2 (by rw [hx]; simp)
 | b :: l, h => by
  by_cases hb : p (bc b) = true
  ·rw [run1_pos l hb] at h
   have ih := run1_append hx l2 l (by simpa using h)
   show run1 p (b :: (l ++ x :: l2)) = _
   rw [run1_pos _ hb, ih]; rfl
  ·rw [run1_neg l hb] at h; cases h
theorem scan_ok : ∀ (k : Nat) (l : Bs) (ln : Int) (acc ts : List Tk), (scan k l ln acc).1 = some ts → (∀ t ∈ acc, TokOk t) → ∀ t ∈ ts, TokOk t
 | 0, l, ln, acc, ts, h, _ => by cases h
 | k + 1, [], ln, acc, ts, h, ha => by
  have := Option.some.inj h
  subst this; exact ha
 | k + 1, b :: r, ln, acc, ts, h, ha => by
  rw [scan] at h
  split at h
  ·exact scan_ok k _ _ _ ts h ha
  ·rename_i hb
   split at h
   ·cases h
   ·rename_i hk
    refine scan_ok k _ _ _ ts h fun t ht => ?_
    rcases List.mem_append.1 ht with ht | ht
    ·exact ha t ht
    ·obtain rfl := List.mem_singleton.1 ht
     have hbf : isB (bc b) = false := Bool.eq_false_iff.2 hb
     have h35 : ¬ bc b = 35 := fun q => by rw [q] at hbf; cases hbf
     have e : tokLen b r = run1 (goesOn (bc b)) r + 1 := by unfold tokLen; rw [if_neg h35]; omega
     refine ⟨b, r.take (run1 (goesOn (bc b)) r), ?_, hbf, rfl, hk, run1_take _ _⟩
     show ((b :: r).take (tokLen b r)) = _
     rw [e, List.take_succ_cons]
def flatB : List Tk → Bs
 | [] => []
 | t :: ts => t.2.1.data.toList ++ 32 :: flatB ts
theorem goesOn_32 (c : Int) : goesOn c (bc 32) = false := by
 unfold goesOn
 split
 ·rfl
 ·split <;> rfl
theorem scan_flat : ∀ (ts : List Tk) (k : Nat) (acc : List Tk), (∀ t ∈ ts, TokOk t) → (flatB ts).length < k → scan k (flatB ts) 1 acc = (some (acc ++ ts.map fun t => (t.1, t.2.1, (1 : Int))), 1)
 | [], k, acc, _, hk => by
  obtain ⟨k, rfl⟩ := Nat.exists_eq_add_of_lt hk
  show scan (_ + 1) [] 1 acc = _
  rw [scan]; simp
 | t :: ts, k, acc, ht, hk => by
  obtain ⟨b, r, e, hb, hkd, hk0, hrun⟩ := ht t (List.mem_cons_self ..)
  have hfl : flatB (t :: ts) = b :: (r ++ 32 :: flatB ts) := by
   show t.2.1.data.toList ++ 32 :: flatB ts = _
   rw [e]; rfl
  rw [hfl] at hk ⊢
  have h35 : ¬ bc b = 35 := fun q => by rw [q] at hb; cases hb
  have htl : tokLen b (r ++ 32 :: flatB ts) = 1 + r.length := by
   unfold tokLen
   rw [if_neg h35, run1_append (goesOn_32 _) _ _ hrun]
  simp only [List.length_cons, List.length_append] at hk
  obtain ⟨k, rfl⟩ : ∃ k', k = k' + 2 := ⟨k - 2, by omega⟩
  rw [scan, if_neg (by rw [hb]; simp), if_neg (by rw [hkd]; exact hk0), htl]
  have hdrop : (b :: (r ++ 32 :: flatB ts)).drop (1 + r.length) = 32 :: flatB ts := by
   rw [Nat.add_comm, List.drop_succ_cons, List.drop_left]
  have htake : (b :: (r ++ 32 :: flatB ts)).take (1 + r.length) = b :: r := by
   rw [Nat.add_comm, List.take_succ_cons, List.take_left]
  rw [hdrop, htake, hkd]
  have htx : bytesOf' (b :: r) = t.2.1 := by rw [← e]; rfl
  rw [htx]
  have h32 : tokLen 32 (flatB ts) = 1 := by
   unfold tokLen
   rw [if_neg (by decide), goesOn_blank (by decide)]
  rw [scan, if_pos (by decide), h32, if_neg (by decide)]
  have ih := scan_flat ts k (acc ++ [(t.1, t.2.1, 1)]) (fun x hx => ht x (List.mem_cons_of_mem _ hx)) (by omega)
  show scan k (flatB ts) 1 _ = _
  rw [ih, List.append_assoc]; rfl
theorem flatB_len : ∀ (k : Nat) (l : Bs) (ln : Int) (acc ts : List Tk), (scan k l ln acc).1 = some ts → (flatB ts).length ≤ (flatB acc).length + 2 * l.length
 | 0, l, ln, acc, ts, h => by cases h
 | k + 1, [], ln, acc, ts, h => by
  have := Option.some.inj h
  subst this; simp
 | k + 1, b :: t, ln, acc, ts, h => by
  obtain ⟨h1, h2⟩ := tokLen_le b t
  rw [scan] at h
  split at h
  ·have := flatB_len k _ _ _ ts h
   rw [List.length_drop] at this; simp at this ⊢; omega
  ·split at h
   ·cases h
   ·have := flatB_len k _ _ _ ts h
    rw [flatB_append] at this
    have e : (flatB [((kd (bc b)), bytesOf' ((b :: t).take (tokLen b t)), ln)]).length = tokLen b t + 1 := by
     show (((b :: t).take (tokLen b t)) ++ [32]).length = _
     rw [List.length_append, List.length_take]; simp; omega
    rw [List.length_append, e, List.length_drop] at this
    simp at this ⊢; omega
where flatB_append : ∀ (x y : List Tk), flatB (x ++ y) = flatB x ++ flatB y
 | [], y => rfl
 | t :: x, y => by
  show _ ++ 32 :: flatB (x ++ y) = (_ ++ 32 :: flatB x) ++ flatB y
  rw [flatB_append x y]; simp
theorem same1 {ts : List Tk} (hn : ts.length < 1000000) : ∀ m k : Nat, ts.length - k = m → law19_LexAgain_l1 ts (ts.map fun t => (t.1, t.2.1, (1 : Int))) (k : Int) true := by
 intro m
 induction m with
 | zero =>
  intro k h
  exact law19_LexAgain_l1_go (.inr ⟨by omega, rfl⟩)
 | succ m ih =>
  intro k h
  have hk : k < ts.length := by omega
  have e : (ts.map fun t => (t.1, t.2.1, (1 : Int))).getD k (0, ByteArray.empty, 0) = ((ts.getD k (0, ByteArray.empty, 0)).1, (ts.getD k (0, ByteArray.empty, 0)).2.1, 1) := by
   rw [List.getD_eq_getElem?_getD, List.getD_eq_getElem?_getD, List.getElem?_map, List.getElem?_eq_getElem hk]; rfl
  have e' : (ts.map fun t => (t.1, t.2.1, (1 : Int))).getD ((k : Int)).toNat (0, ByteArray.empty, 0) = ((ts.getD k (0, ByteArray.empty, 0)).1, (ts.getD k (0, ByteArray.empty, 0)).2.1, 1) := e
  refine law19_LexAgain_l1_go (.inl ⟨by omega, by omega, by rw [List.length_map]; omega, _, _, _, e', _, _, _, rfl, .inl ⟨rfl, _, _, _, e', _, _, _, rfl, .inl ⟨rfl, _, _, _, e', .inl ⟨rfl, ?_⟩⟩⟩⟩)
  rw [wi_succ k (by omega)]
  exact ih (k + 1) (by omega)
theorem join_loop {ts : List Tk} (hok : ∀ t ∈ ts, TokOk t) (hn : ts.length < 1000000) (hf : (flatB ts).length < 900000) : ∀ m k : Nat, ts.length - k = m → k ≤ ts.length → law19_LexAgain_l0 ts (bytesOf' (flatB (ts.take k))) (k : Int) true := by
 intro m
 induction m with
 | zero =>
  intro k h h2
  have e : ts.take k = ts := List.take_of_length_le (by omega)
  rw [e]
  have hs : (bytesOf' (flatB ts)).size = (flatB ts).length := rfl
  have hsc := scan_flat ts ((bytesOf' (flatB ts)).size + 1) [] hok (by rw [hs]; omega)
  have ht : lexT (bytesOf' (flatB ts)) = (some (ts.map fun t => (t.1, t.2.1, (1 : Int))), 1) := hsc
  have hall := lexAll_is (bytesOf' (flatB ts)) (by rw [hs]; exact hf)
  unfold lexE at hall
  rw [ht] at hall
  refine law19_LexAgain_l0_go (.inr ⟨by omega, _, _, _, hall, .inl ⟨rfl, .inl ⟨rfl, .inl ⟨by simp, same1 hn _ 0 rfl⟩⟩⟩⟩)
 | succ m ih =>
  intro k h h2
  have hk : k < ts.length := by omega
  have hg : ts.getD ((k : Int)).toNat (0, ByteArray.empty, 0) = ts[k] := by
   rw [Int.toNat_natCast, List.getD_eq_getElem?_getD, List.getElem?_eq_getElem hk]; rfl
  have htk : ts.take (k + 1) = ts.take k ++ [ts[k]] := by rw [List.take_succ_eq_append_getElem hk]
  have hfl : flatB (ts.take (k + 1)) = flatB (ts.take k) ++ ((ts[k]).2.1.data.toList ++ [32]) := by
   rw [htk, flatB_len.flatB_append]; rfl
  have hle : (flatB (ts.take (k + 1))).length ≤ (flatB ts).length := by
   have := flatB_len.flatB_append (ts.take (k + 1)) (ts.drop (k + 1))
   rw [List.take_append_drop] at this
   rw [this, List.length_append]; omega
  have hsz : (ts[k]).2.1.size = (ts[k]).2.1.data.toList.length := Array.length_toList.symm
  have hln : (flatB (ts.take (k + 1))).length = (flatB (ts.take k)).length + ((ts[k]).2.1.size + 1) := by
   rw [hfl, List.length_append, List.length_append, hsz]; rfl
  have hs1 : (⟨#[32]⟩ : ByteArray).size = 1 := rfl
  have hs2 : ((ts[k]).2.1 ++ (⟨#[32]⟩ : ByteArray)).size = (ts[k]).2.1.size + 1 := by rw [ByteArray.size_append, hs1]
  have hs3 : (bytesOf' (flatB (ts.take k))).size = (flatB (ts.take k)).length := rfl
  have happ : bytesOf' (flatB (ts.take k)) ++ ((ts[k]).2.1 ++ (⟨#[32]⟩ : ByteArray)) = bytesOf' (flatB (ts.take (k + 1))) := by
   apply ByteArray.ext
   rw [ByteArray.data_append, ByteArray.data_append, hfl]
   apply Array.ext'
   simp [bytesOf']
  refine law19_LexAgain_l0_go (.inl ⟨by omega, by omega, (ts[k]).1, (ts[k]).2.1, (ts[k]).2.2, hg, by rw [hs1]; omega, by rw [hs2, hs3]; omega, ?_⟩)
  rw [happ, wi_succ k (by omega)]
  exact ih (k + 1) (by omega) (by omega)
theorem law_LexAgain (u : ByteArray) : law19_LexAgain_R u true := by
 obtain ⟨m, hm, m1, m2⟩ := mn_is u.size
 have hsz : (u.extract 0 (mn (u.size : Int) 400).toNat).size ≤ 400 := by
  rw [hm, Int.toNat_natCast, ByteArray.size_extract]; omega
 have hall := lexAll_is (u.extract 0 (mn (u.size : Int) 400).toNat) (by omega)
 have hl : (u.extract 0 (mn (u.size : Int) 400).toNat).data.toList.length = (u.extract 0 (mn (u.size : Int) 400).toNat).size := Array.length_toList
 refine law19_LexAgain_go ⟨true, works_is, .inl ⟨rfl, _, _, nil_name, _, _, nil_figure, .inr ⟨by decide, .inr ⟨by decide, true, nil_done, .inl ⟨rfl, 0, __lex_Reader__Line_v0_go rfl, .inl ⟨rfl, false, nil_is _, .inr ⟨by decide, false, nil_take _, .inr ⟨by decide, by rw [hm]; omega, by rw [hm]; omega, _, _, _, hall, ?_⟩⟩⟩⟩⟩⟩⟩⟩
 unfold lexE
 cases e : (lexT (u.extract 0 (mn (u.size : Int) 400).toNat)).1 with
 | none => exact .inr ⟨by decide, rfl⟩
 | some ts =>
  have h1 := scan_ok _ _ _ _ ts e (fun t ht => by simp at ht)
  have h2 := scan_len _ _ _ _ ts e
  have h3 := flatB_len _ _ _ _ ts e
  rw [hl] at h2 h3
  have h4 : (flatB ([] : List Tk)).length = 0 := rfl
  rw [h4] at h3
  exact .inl ⟨rfl, join_loop h1 (by simp at h2; omega) (by omega) _ 0 rfl (by omega)⟩
end Go.Proofs.YtlpbmajbalenjaaA
