/- lex.All, told by hand, is right. -/
import Derived.Test.YtlpbmajbalenjaaLex2
import Derived.Test.YtlpbmajbalenjaaM4
import Derived.Lib.Bytealg
set_option linter.unusedVariables false
set_option linter.unusedSimpArgs false
namespace Go.Proofs.YtlpbmajbalenjaaA
open Go Go.Proofs Go.RowKit
theorem flatV_rel {w : World} {S : Nat → Prop} {φ : Phi} {d : D} {v : Value} (h : flatV d = some v) : VRel w S φ v d := by
 unfold flatV at h
 split at h
 ·cases h; exact .int
 ·cases h; exact .str
 ·cases h
  refine .tuple rfl fun i v d h1 h2 => ?_
  rcases i with _ | _ | i
  ·cases h1; cases h2; exact .int
  ·cases h1; cases h2; exact .str
  ·cases h2
 ·cases h
theorem flatV_is {w : World} {S : Nat → Prop} {φ : Phi} {d : D} {v u : Value} (h : flatV d = some v) (r : VRel w S φ u d) : u = v := by
 unfold flatV at h
 split at h
 ·cases h; cases r; rfl
 ·cases h; cases r; rfl
 ·cases h
  cases r with
  | @tuple _ vs _ hl hh =>
   have e : vs.toList.length = 2 := by rw [Array.length_toList]; exact hl
   match hq : vs.toList, e with
   | [a, b], _ =>
    have ev : vs = #[a, b] := by rw [← Array.toArray_toList (xs := vs), hq]
    subst ev
    have h0 := hh 0 a _ rfl rfl
    have h1 := hh 1 b _ rfl rfl
    cases h0; cases h1; rfl
 ·cases h
theorem flatVs_rel {w : World} {S : Nat → Prop} {φ : Phi} : ∀ {ds : List D} {vs : List Value}, ds.mapM flatV = some vs → VsRel w S φ vs ds
 | [], vs, h => by
  cases h
  exact ⟨rfl, fun i v d h1 _ => by simp at h1⟩
 | d :: ds, vs, h => by
  rw [List.mapM_cons] at h
  obtain ⟨v, h1, h2⟩ := Option.bind_eq_some_iff.1 h
  obtain ⟨us, h3, h4⟩ := Option.bind_eq_some_iff.1 h2
  cases h4
  have ih := flatVs_rel (w := w) (S := S) (φ := φ) h3
  refine ⟨by simp [ih.1], fun i x y g1 g2 => ?_⟩
  cases i with
  | zero => cases g1; cases g2; exact flatV_rel h1
  | succ i => exact ih.2 i x y (by simpa using g1) (by simpa using g2)
theorem flat_call {C : Cx} {call : Run} (hc : CallOk C call) (f : FuncId) (ds : List D) (d : D) (vs : List Value) (v : Value) (e : icallP C.P call f ds = some d) (h1 : ds.mapM flatV = some vs) (h2 : flatV d = some v) (m : Nat) (W : World) :
  CallsIn Fence.wide m C.P f vs.toArray W fun e W' => e = .returned v ∧ W.grownBy W' none := by
 refine callsIn_wide.2 (((icall_sound hc e).2 W (fun _ => False) vs (fun b hb => hb.elim) (flatVs_rel h1)).mono ?_)
 rintro e W' ⟨u, S', rfl, x, _, _, _, r⟩
 exact ⟨by rw [flatV_is h2 r], x.os, x.tape, x.output, x.size, fun k hk _ => x.old k hk⟩
theorem tksV_get : ∀ (acc : List Tk) (i : Nat) (t : Tk) (j : Nat), acc[i]? = some t → j < 3 → (tksV acc)[i * 3 + j]? = (tkV t)[j]?
 | [], i, t, j, h, _ => by simp at h
 | a :: acc, 0, t, j, h, hj => by
  cases h
  show (tkV a ++ tksV acc)[0 * 3 + j]? = _
  rw [List.getElem?_append_left (by simp [tkV]; omega)]
  simp
 | a :: acc, i + 1, t, j, h, hj => by
  show (tkV a ++ tksV acc)[(i + 1) * 3 + j]? = _
  rw [List.getElem?_append_right (by simp [tkV]; omega)]
  have := tksV_get acc i t j (by simpa using h) hj
  rw [← this]
  congr 1
  simp [tkV]; omega
theorem tk_cell (t : Tk) (j : Nat) (c : D) (h : (tkD t).cells[j]? = some c) {w : World} {S : Nat → Prop} {φ : Phi} : j < 3 ∧ ∃ u, (tkV t)[j]? = some u ∧ VRel w S φ u c := by
 rcases j with _ | _ | _ | j
 ·cases h; exact ⟨by omega, _, rfl, .int⟩
 ·cases h; exact ⟨by omega, _, rfl, .str⟩
 ·cases h; exact ⟨by omega, _, rfl, .int⟩
 ·simp [tkD, tokD, D.cells] at h
theorem idxB_is : ∀ (l : List UInt8) (c : Int), 0 ≤ c → c < 256 → idxB l c = Lib.indexByte l c.toNat.toUInt8
 | [], c, _, _ => rfl
 | b :: l, c, h0, h1 => by
  have ih := idxB_is l c h0 h1
  have hb : (b == c.toNat.toUInt8) = decide ((b.toNat : Int) = c) := by
   have hc : (c.toNat.toUInt8).toNat = c.toNat := by
    rw [Nat.toUInt8, UInt8.toNat_ofNat']; omega
   by_cases e : (b.toNat : Int) = c
   ·rw [decide_eq_true e, beq_iff_eq]
    exact UInt8.toNat_inj.1 (by omega)
   ·rw [decide_eq_false e, beq_eq_false_iff_ne]
    intro q; rw [q, hc] at e; omega
  unfold idxB Lib.indexByte
  rw [hb, ih]
  simp only [decide_eq_true_eq, beq_iff_eq]
set_option maxRecDepth 100000 in
theorem sub_in (s : ByteArray) (c : Int) (w : World) :
  Calls Try.prog 48 #[.string s, .int .u8 c] w fun e w' => e = .returned (.int .i64 (Lib.indexByte s.data.toList c.toNat.toUInt8)) ∧ w' = w := by
 go_enter Try.func48, Try.ntmps48
 go_wp2
 rw [run_callFunc_extern Try.func49 (by kernel_rfl) (by kernel_rfl) (by kernel_rfl) (e := Extern.BytealgIndexByte.indexByte) (by kernel_rfl), Lib.run_indexByteString]
 simp only [Result.andThen]
 rw [Oper.upon_value]
 go_wp2
 go_ret
 exact ⟨rfl, rfl⟩
theorem lex_ok {C : Cx} (hP : C.P = Try.prog) (ho : C.orc = lexOrc Try.prog lexFns) : OrcOk C := by
 intro call hc f ds d e w S φ vs H r
 rw [ho] at e
 unfold lexOrc at e
 split at e
 case isFalse =>
  split at e <;> try (cases e; done)
  rename_i hf
  split at e <;> try (cases e; done)
  rename_i s c
  split at e <;> try (cases e; done)
  rename_i hc2
  cases e
  obtain rfl : f = 48 := hf
  obtain ⟨v0, v1, rfl⟩ : ∃ v0 v1, vs = [v0, v1] := by
   have hl : vs.length = 2 := r.1
   match vs, hl with
   | [a, b], _ => exact ⟨a, b, rfl⟩
  have r0 := r.2 0 v0 _ rfl rfl
  have r1 := r.2 1 v1 _ rfl rfl
  cases r0; cases r1
  rw [hP]
  refine (sub_in s c w).mono ?_
  rintro e W' ⟨rfl, rfl⟩
  exact ⟨_, S, φ, rfl, .refl .., H, by rw [idxB_is _ _ hc2.1 hc2.2]; exact .int⟩
 rename_i hf
 split at e <;> try (cases e; done)
 rename_i s
 obtain rfl : f = 13 := hf
 obtain ⟨v0, rfl⟩ : ∃ v0, vs = [v0] := List.length_eq_one_iff.1 r.1
 have r0 := r.2 0 v0 _ rfl rfl
 cases r0
 have key := all_in Fence.wide rfl 6 (fun _ => trivial) trivial trivial trivial rfl (by omega) (call := icallP Try.prog call) (fun f ds d vs v h1 h2 h3 m W => by rw [← hP] at h1 ⊢; exact flat_call hc f ds d vs v h1 h2 h3 m W) s d e w
 rw [hP]
 refine (callsIn_wide.1 key).mono ?_
 rintro e W' ⟨v, ln, er, rfl, hb, hcase⟩
 have nophi : ∀ b u x, φ b u ≠ some x := fun b u x h => by obtain ⟨B, h1, _⟩ := H.dom b u x h; simp at h1
 have noown : ∀ b, ¬ Own φ [] b := fun b ⟨_, B, _, h, _⟩ => by simp at h
 have mk : ∀ S' : Nat → Prop, (∀ b, S b → S' b) → (∀ b, S' b → S b ∨ (w.heap.size ≤ b ∧ b < W'.heap.size)) → Ext w S φ [] W' S' φ [] ∧ HRel W' S' φ [] := fun S' s1 s2 => by
  refine ⟨⟨hb.os, hb.tape, hb.output, hb.size, s1, fun _ _ _ h => h, fun b hlt _ => hb.block b hlt, fun b h => ?_, fun b h => absurd h (noown b)⟩, fun b B h => by simp at h, fun b b' B B' A x x' h => by simp at h, fun b u x h => absurd h (nophi b u x), fun b h => ?_⟩
  ·rcases s2 b h with h | h
   ·exact .inl h
   ·exact .inr (.inr h.1)
  ·rcases s2 b h with h | h
   ·exact Nat.lt_of_lt_of_le (H.lt b h) hb.size
   ·exact h.2
 have tup : ∀ (S' : Nat → Prop) (dv : D) (k : Int), VRel W' S' φ v dv → VRel W' S' φ (.tuple #[v, .int .i64 ln, .int .i64 k]) (.tuple [dv, .int .i64 ln, .int .i64 k]) := fun S' dv k hv => by
  refine .tuple rfl fun i x y h1 h2 => ?_
  rcases i with _ | _ | _ | i
  ·cases h1; cases h2; exact hv
  ·cases h1; cases h2; exact .int
  ·cases h1; cases h2; exact .int
  ·simp at h2
 rcases hcase with ⟨rfl, acc, hrow, hnil, rfl⟩ | ⟨rfl, rfl, rfl⟩
 ·rcases hrow.2 with ⟨rfl, _⟩ | ⟨g, cap, cur, rfl, hg, hgb, hcap, _⟩
  ·obtain rfl := hnil.1 rfl
   obtain ⟨x1, x2⟩ := mk S (fun _ h => h) (fun _ h => .inl h)
   exact ⟨_, S, φ, rfl, x1, x2, tup S _ 0 .nilS⟩
  ·have hne : acc ≠ [] := fun q => by have := hnil.2 q; simp at this
   have hglt : g < W'.heap.size := (Array.getElem?_eq_some_iff.1 hgb).1
   obtain ⟨x1, x2⟩ := mk (fun b => S b ∨ b = g) (fun _ h => .inl h) (fun b h => h.imp id (fun q => by subst q; exact ⟨by omega, hglt⟩))
   refine ⟨_, _, φ, rfl, x1, x2, tup _ _ 0 ?_⟩
   rw [if_neg (by simpa using hne)]
   have hl : (acc.map tkD).length = acc.length := List.length_map _
   rw [← hl]
   refine .list (by rw [hl]; exact hcap) g 0 (fun i j => ((tksV acc)[i * 3 + j]?).getD undef) (fun _ => ⟨rfl, .inr rfl⟩) (fun i d h => ?_) (fun i d j c h1 h2 => ?_) (fun i d j c h1 h2 => ?_)
   ·rw [List.getElem?_map] at h
    obtain ⟨t, _, rfl⟩ := Option.map_eq_some_iff.1 h
    exact ⟨rfl, rfl⟩
   ·rw [List.getElem?_map] at h1
    obtain ⟨t, ht, rfl⟩ := Option.map_eq_some_iff.1 h1
    obtain ⟨hj, u, hu, _⟩ := tk_cell t j c h2 (w := W') (S := S) (φ := noPhi)
    have hq := (tksV_get acc i t j ht hj).trans hu
    have := hrow.cells (g := g) rfl _ u hq
    rw [hq]
    rw [Nat.zero_add]
    have e : (⟨g, 0, none⟩ : Addr).add (i * 3 + j) = ⟨g, i * 3 + j, none⟩ := by
     unfold Addr.add
     split
     ·rename_i h; simp at h; simp [h]
     ·simp
    rw [e] at this
    exact this
   ·rw [List.getElem?_map] at h1
    obtain ⟨t, ht, rfl⟩ := Option.map_eq_some_iff.1 h1
    obtain ⟨hj, u, hu, hr⟩ := tk_cell t j c h2 (w := W') (S := fun b => S b ∨ b = g) (φ := noPhi)
    have hq := (tksV_get acc i t j ht hj).trans hu
    show VRel _ _ _ (((tksV acc)[i * 3 + j]?).getD undef) c
    rw [hq]; exact hr
 ·obtain ⟨x1, x2⟩ := mk S (fun _ h => h) (fun _ h => .inl h)
  exact ⟨_, S, φ, rfl, x1, x2, tup S _ 21 .nilS⟩
end Go.Proofs.YtlpbmajbalenjaaA
