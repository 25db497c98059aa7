/- A text's tokens, by hand: lex.All is a scan. -/
import Derived.Test.YtlpbmajbalenjaaLex5
set_option linter.unusedVariables false
set_option linter.unusedSimpArgs false
set_option maxRecDepth 100000
namespace Go.Proofs.YtlpbmajbalenjaaA
open Go Go.Proofs
def bytesOf' (l : Bs) : ByteArray := ⟨l.toArray⟩
def scan : Nat → Bs → Int → List Tk → Option (List Tk) × Int
 | 0, _, ln, _ => (none, ln)
 | _ + 1, [], ln, acc => (some acc, ln)
 | k + 1, b :: t, ln, acc =>
  if isB (bc b) then scan k ((b :: t).drop (tokLen b t)) (if bc b = 10 then ln + 1 else ln) acc
  else if kd (bc b) = 0 then (none, ln)
  else scan k ((b :: t).drop (tokLen b t)) ln (acc ++ [(kd (bc b), bytesOf' ((b :: t).take (tokLen b t)), ln)])
theorem extract_data (s : ByteArray) (a b : Nat) : (s.extract a b).data.toList = (s.data.toList.drop a).take (b - a) := by
 rw [ByteArray.data_extract, Array.toList_extract, List.extract_eq_take_drop]
theorem extract_bytes (s : ByteArray) (a b : Nat) : s.extract a b = bytesOf' ((s.data.toList.drop a).take (b - a)) := by
 rw [← extract_data]; rfl
theorem size_of {s : ByteArray} {l : Bs} (e : s.data.toList = l) : s.size = l.length := by
 rw [← e]; exact Array.length_toList.symm
theorem lexC_of {s : ByteArray} {b : UInt8} {t : Bs} (e : s.data.toList = b :: t) : lexC s = bc b := by
 have h : 0 < s.size := by rw [size_of e]; simp
 rw [lexC_eq h]
 have h2 : s.data.toList[0]? = some b := by rw [e]; rfl
 rw [Array.getElem?_toList, Array.getElem?_eq_getElem (show 0 < s.data.size from h)] at h2
 have h3 : s[0]'h = b := Option.some.inj h2
 rw [h3]; rfl
noncomputable abbrev icC (k : Nat) : Icall := icallP Try.prog (run C F k)
abbrev lexL : LexFns := ⟨13, 43, 44, 45, 46, 48⟩
theorem kd_blank {c : Int} (h : isB c = true) : kd c = 0 := by
 unfold isB at h
 simp only [Bool.or_eq_true, decide_eq_true_eq] at h
 rcases h with ((h | h) | h) | h <;> subst h <;> rfl
theorem goesOn_blank {c : Int} (h : isB c = true) : ∀ t, run1 (goesOn c) t = 0 := by
 unfold isB at h
 simp only [Bool.or_eq_true, decide_eq_true_eq] at h
 intro t
 cases t with
 | nil => rfl
 | cons b t => rcases h with ((h | h) | h) | h <;> subst h <;> rfl
theorem blank_ev {s : ByteArray} {b : UInt8} {t : Bs} (e : s.data.toList = b :: t) : Ev (fun k => lexBlank lexL (icC k) s) (isB (bc b)) := by
 obtain ⟨b0, b1⟩ := byte_lt b
 unfold lexBlank
 rw [lexC_of e]
 by_cases h : bc b = 35
 ·refine .now fun k => ?_
  rw [if_pos h, h]; rfl
 ·refine .congr (.bindk (index_is lexBlanks (bc b) b0 b1) (.now fun k => ?_)) fun k => if_neg h
  show some (decide (0 ≤ idxB lexBlanks.data.toList (bc b))) = _
  congr 1
  have := in_blanks b0 b1
  unfold isB
  rw [decide_eq_false h, Bool.false_or]
  by_cases q : 0 ≤ idxB lexBlanks.data.toList (bc b)
  ·rw [decide_eq_true q, this.1 q]
  ·rw [decide_eq_false q]
   exact (Bool.eq_false_iff.2 fun r => q (this.2 r)).symm
theorem step_ev {s : ByteArray} {b : UInt8} {t : Bs} (e : s.data.toList = b :: t) (hs : s.size < 4611686018427387904) : Ev (fun k => lexStep lexL (icC k) s) (if isB (bc b) = false ∧ kd (bc b) = 0 then (0, false, 0) else (kd (bc b), isB (bc b), ((tokLen b t : Nat) : Int))) := by
 obtain ⟨b0, b1⟩ := byte_lt b
 unfold lexStep
 rw [lexC_of e]
 refine .bindk (kind_is b0 b1) ?_
 show Ev (fun k => (lexBlank lexL (icC k) s).bind _) _
 refine .bindk (blank_ev e) ?_
 by_cases h : isB (bc b) = false ∧ kd (bc b) = 0
 ·rw [if_pos h]
  exact .now fun k => if_pos h
 ·rw [if_neg h]
  refine .congr ?_ fun k => if_neg h
  refine .bindk (length_is (more_on (a := bc b)) hs e) ?_
  cases hb : isB (bc b) with
  | true =>
   refine .congr (.bindk (pass_is e) (.now fun k => ?_)) fun k => if_pos rfl
   have : (if bc b = 35 then ((1 + run1 (fun c => !decide (c = 10)) t : Nat) : Int) else 1) = ((tokLen b t : Nat) : Int) := by
    unfold tokLen
    split
    ·rfl
    ·rw [goesOn_blank hb]; rfl
   rw [this]
  | false =>
   refine .now fun k => ?_
   have h35 : ¬ bc b = 35 := fun q => by rw [q] at hb; cases hb
   have : ((1 + run1 (goesOn (bc b)) t : Nat) : Int) = ((tokLen b t : Nat) : Int) := by
    unfold tokLen
    rw [if_neg h35]
   rw [this]; rfl
theorem tokLen_le (b : UInt8) (t : Bs) : 1 ≤ tokLen b t ∧ tokLen b t ≤ t.length + 1 := by
 unfold tokLen
 split
 ·have := run1_le (fun c => !decide (c = 10)) t; omega
 ·have := run1_le (goesOn (bc b)) t; omega
def resD : Option (List Tk) × Int → D
 | (some acc, ln) => .tuple [if (acc.map tkD).isEmpty then .nilS else .list 3 (acc.map tkD), .int .i64 ln, .int .i64 0]
 | (none, ln) => .tuple [.nilS, .int .i64 ln, .int .i64 21]
theorem loop_ev : ∀ (m : Nat) (s : ByteArray) (ln : Int) (acc : List Tk), s.size < m → acc.length + s.size < 1000000 → 0 ≤ ln → ln + (s.size : Int) < 1000000000 →
  Ev (fun k => lexLoop lexL (icC k) m s ln (acc.map tkD)) (resD (scan m s.data.toList ln acc))
 | 0, s, ln, acc, h, _, _, _ => absurd h (Nat.not_lt_zero _)
 | m + 1, s, ln, acc, h1, h2, h3, h4 => by
  cases e : s.data.toList with
  | nil =>
   have hz : s.size = 0 := by rw [size_of e]; rfl
   exact .now fun k => by rw [lexLoop, if_pos hz]; rfl
  | cons b t =>
   have hz : s.size = t.length + 1 := size_of e
   obtain ⟨l1, l2⟩ := tokLen_le b t
   refine .congr ?_ fun k => by rw [lexLoop, if_neg (by omega)]
   refine .bindk (step_ev e (by omega)) ?_
   have hnext : ∀ (ln' : Int) (acc' : List Tk), acc'.length ≤ acc.length + 1 → 0 ≤ ln' → ln' ≤ ln + 1 → Ev (fun k => lexLoop lexL (icC k) m (s.extract (tokLen b t) s.size) ln' (acc'.map tkD)) (resD (scan m ((b :: t).drop (tokLen b t)) ln' acc')) := fun ln' acc' q1 q2 q3 => by
    have hd : (s.extract (tokLen b t) s.size).data.toList = (b :: t).drop (tokLen b t) := by
     rw [extract_data, e, List.take_of_length_le]
     rw [List.length_drop, hz]; simp
    have hsz : (s.extract (tokLen b t) s.size).size = t.length + 1 - tokLen b t := by
     rw [size_of hd, List.length_drop]; simp
    rw [← hd]
    exact loop_ev m _ ln' acc' (by omega) (by omega) q2 (by omega)
   cases hb : isB (bc b) with
   | true =>
    have hk := kd_blank hb
    rw [if_neg (by simp)]
    rw [scan, if_pos hb]
    have hx := hnext (if bc b = 10 then ln + 1 else ln) acc (by omega) (by split <;> omega) (by split <;> omega)
    refine .congr hx fun k => ?_
    simp only
    rw [if_neg (by simp), if_pos ⟨by omega, by omega, by rw [List.length_map]; omega, h3, by omega⟩, lexC_of e, if_pos trivial, Int.toNat_natCast]
   | false =>
    have hsc : scan (m + 1) (b :: t) ln acc = if kd (bc b) = 0 then (none, ln) else scan m ((b :: t).drop (tokLen b t)) ln (acc ++ [(kd (bc b), bytesOf' ((b :: t).take (tokLen b t)), ln)]) := by
     rw [scan, if_neg (by rw [hb]; simp)]
    rw [hsc]
    by_cases hk : kd (bc b) = 0
    ·rw [if_pos ⟨rfl, hk⟩, if_pos hk]
     exact .now fun k => if_pos ⟨rfl, rfl⟩
    ·rw [if_neg (fun q => hk q.2), if_neg hk]
     have h10 : ¬ bc b = 10 := fun q => by rw [q] at hb; cases hb
     have hx := hnext ln (acc ++ [(kd (bc b), bytesOf' ((b :: t).take (tokLen b t)), ln)]) (by simp) h3 (by omega)
     refine .congr hx fun k => ?_
     simp only
     rw [if_neg (fun q => hk q.2), if_pos ⟨by omega, by omega, by rw [List.length_map]; omega, h3, by omega⟩, lexC_of e, if_neg h10, if_neg (by simp), Int.toNat_natCast, extract_bytes s 0, e, List.map_append]
     rfl
def lexT (s : ByteArray) : Option (List Tk) × Int := scan (s.size + 1) s.data.toList 1 []
def lexE (s : ByteArray) : Int := if (lexT s).1.isSome then 0 else 21
theorem all_ev (s : ByteArray) (hs : s.size < 900000) : Ev (fun k => run C F k 13 [.str s] []) (resD (lexT s), []) := by
 refine .succ ?_
 refine .to (loop_ev (s.size + 1) s 1 [] (by omega) (by simp; omega) (by decide) (by omega)) fun k h => ?_
 have hf : C.P.funcs[13]? = some Try.f13 := Try.func13
 have hb : (Try.f13).body.isSome = true := rfl
 obtain ⟨b, hb⟩ := Option.isSome_iff_exists.1 hb
 rw [run, hf, Option.bind_some, hb, Option.bind_some, if_neg (fun q => absurd q.1 (by decide +kernel)), if_pos ⟨rfl, by kernel_rfl⟩]
 show (lexOrc Try.prog lexL (run C F k) 13 [.str s]).map _ = _
 rw [lexOrc, if_pos rfl]
 show (lexLoop lexL (icC k) (s.size + 1) s 1 []).map _ = _
 rw [show ([] : List D) = ([] : List Tk).map tkD from rfl, h]
 rfl
theorem lexAll_is (s : ByteArray) (hs : s.size < 900000) : lex_All_R s ((lexT s).1.getD []) (lexT s).2 (lexE s) := by
 refine .to (all_ev s hs) fun k h => ?_
 show ((C.P.funcs[13]?).bind fun fn => _) = _
 rw [show C.P.funcs[13]? = some Try.f13 from Try.func13, Option.bind_some]
 show ((run C F k 13 [.str s] []).bind _) = _
 rw [h]
 unfold lexE
 cases e : lexT s with
 | mk a ln =>
  cases a with
  | none => rfl
  | some acc =>
   cases acc with
   | nil => rfl
   | cons t acc => rfl
end Go.Proofs.YtlpbmajbalenjaaA
