/- The shadow machine, a step at a time: rows of elements that are no whole numbers. -/
import Derived.Test.YtfijdkdpcjfiaaaGreatB5
set_option linter.unusedVariables false
set_option linter.unusedSimpArgs false
namespace Go.Proofs.YtfijdkdpcjfiaaaGreatA
open Go
section
variable {C : Cx} {F : Forget} {f base : Nat} {c : Cf} {Q : X → St → Prop} {τ : Type}
theorem mapD_at {enc : τ → D} {L : List τ} {i : Nat} {d0 x : τ} (hi : i < L.length) (hx : L.getD i d0 = x) : (L.map enc)[i]? = some (enc x) := by
 rw [List.getD_eq_getElem?_getD, List.getElem?_eq_getElem hi] at hx
 rw [List.getElem?_map, List.getElem?_eq_getElem hi, ← hx]
 rfl
theorem OpIs.ixE {enc : τ → D} {n : Nat} {k' : IntKind} {L : List τ} {i : Int} {d0 x : τ} (h : ixAt C c = some (.list n (L.map enc), .int k' i, n)) (h0 : 0 ≤ i) (h1 : i < (L.length : Int)) (hx : L.getD i.toNat d0 = x) : OpIs C f base c (.ptr (enc x).cells) c.s.heap :=
 OpIs.ixL (d := enc x) h h0 (mapD_at (by omega) hx)
theorem OpIs.slE {sz p q : Nat} {xs : List D} {lo hi : Option D} (h : slAt C c = some (.list sz xs, lo, hi, sz)) (hb : boundD hi xs.length xs.length = some q) (ha : boundD lo 0 q = some p) : OpIs C f base c (.list sz ((xs.take q).drop p)) c.s.heap := by
 obtain ⟨⟨dst, op, type, pos, after, guard⟩, ho, h⟩ := op_some h
 cases op <;> simp only at h <;> try cases h
 rename_i t x l h' m
 cases m <;> simp only at h <;> try cases h
 obtain ⟨e, he, h⟩ := bind_some' h
 obtain ⟨s, hs, h⟩ := map_some' h
 injection h with h2 h; injection h with h3 h; injection h with h4 h5
 refine ⟨_, ho, rfl, ?_⟩
 show (opP C _ _).map _ = _
 simp only [opP, sliceD, h2, h3, h4, hb, ha, he, hs, h5, Option.bind_some, if_true, Option.map_some, Option.map_none]
theorem OpIs.slE_hi {enc : τ → D} {n : Nat} {k' : IntKind} {L : List τ} {i : Int} (h : slAt C c = some (.list n (L.map enc), none, some (.int k' i), n)) (h0 : 0 ≤ i) (h1 : i ≤ (L.length : Int)) : OpIs C f base c (.list n ((L.take i.toNat).map enc)) c.s.heap := by
 have := OpIs.slE (f := f) (base := base) h (bound_some h0 (by rw [List.length_map]; exact h1)) (bound_none _ _)
 rw [List.drop_zero, ← List.map_take] at this
 exact this
theorem OpIs.ldV {b v i off w n s : Nat} {fz a : Bool} {xs : List D} {r : D} (h : ldAt C f base c = some (.pref b v i off, some ⟨w, fz, .rows n xs⟩, a, s)) (hw : w = v) (hr : (xs[i]?).bind (fun d => ldCells a s (d.cells.drop off)) = some r) : OpIs C f base c r c.s.heap := by
 obtain ⟨⟨dst, op, type, pos, after, guard⟩, ho, h⟩ := op_some h
 cases op <;> simp only at h <;> try cases h
 rename_i t p
 obtain ⟨a', ha, h⟩ := bind_some' h
 obtain ⟨s', hs, h⟩ := map_some' h
 injection h with h2 h; injection h with h3 h; injection h with h4 h5
 refine ⟨_, ho, rfl, ?_⟩
 show (opR C _ _ _ _).map _ = _
 rw [h2] at h3
 have hg := get_of (h := maskH base (planAt C f c) c.s.heap) h3 hw
 obtain ⟨d, hd, hr⟩ := bind_some' hr
 simp only [opR, ld, ha, hs, h2, h4, h5, Option.bind_some, cellsAt, hg, hd, Option.map_some, hr]
theorem OpIs.stV {b v i off w n s : Nat} {xs ys : List D} {d y : D} (h : stAt C f base c = some (.pref b v i off, some ⟨w, false, .rows n xs⟩, y, s)) (hw : w = v) (hd : xs[i]? = some d) (hy : y.cells.length = s) (ho : off + s ≤ d.cells.length) (h1 : y.cells.all D.one = true)
  (hys : ys = xs.set i (if off = 0 ∧ s = n then y else .agg (upd d.cells off y.cells))) : OpIs C f base c (.tuple []) (c.s.heap.set b ⟨w, false, .rows n ys⟩) := by
 obtain ⟨⟨dst, op, type, pos, after, guard⟩, ho', h⟩ := op_some h
 cases op <;> simp only at h <;> try cases h
 rename_i t p x
 split at h
 ·rename_i he
  obtain ⟨s', hs, h⟩ := map_some' h
  injection h with h2 h; injection h with h3 h; injection h with h4 h5
  refine ⟨_, ho', rfl, ?_⟩
  show (if effOk base _ _ _ then opW C _ _ _ _ _ _ else none) = _
  rw [if_pos he]
  rw [h2] at h3
  have h3' : c.s.heap[b]? = some ⟨w, false, .rows n xs⟩ := h3
  subst hys
  simp only [opW, st, hs, h2, h4, h5, Option.bind_some, h3', hw, and_self, if_true, Option.map_some, hd, hy, ho, h1]
 ·cases h
def apEAt (C : Cx) (f base : Nat) (c : Cf) : Option (D × D × Option Blk × Nat × Nat × Nat × Nat) := (opAt c).bind fun o => match o.op with
 | .call k => (match k.callee with
  | .builtin .append => (match k.args.toList, k.argTypes.toList with
   | [x, y], t :: ts => if ts.all (fun u => (C.P.underlying u).isSome && (intK C.P u).isNone) then if effOk base (planAt C f c) o c.s.ev then o.dst.bind fun d => (c.s.heap[base + d]?).bind fun B =>
     (elemOf? C.P t).bind fun e => (szOf C.P e).bind fun s => (bytesOf C.P e).bind fun y' => (zeroD C.P e).bind fun z => if z.cells.length = s ∧ intK C.P e = none then
      some (c.s.ev x, c.s.ev y, blkAt c.s.heap (c.s.ev x), y', base + d, B.ver, s) else none else none else none
   | _, _ => none)
  | _ => none)
 | _ => none
theorem apE_op {x y : D} {B : Option Blk} {n d v m : Nat} (h : apEAt C f base c = some (x, y, B, n, d, v, m)) {r : D} {h' : Heap}
  (H : ∀ (t e : Nat) (dst : Option Tmp) (z : D), dst.map (base + ·) = some d → (c.s.heap[d]?).map (·.ver) = some v → elemOf? C.P t = some e → szOf C.P e = some m → bytesOf C.P e = some n → zeroD C.P e = some z → z.cells.length = m → intK C.P e = none → B = blkAt c.s.heap x →
   appendD C.P base dst c.s.heap t x y = some (r, h')) : OpIs C f base c r h' := by
 obtain ⟨⟨dst, op, type, pos, after, guard⟩, ho, h⟩ := op_some h
 cases op <;> simp only at h <;> try cases h
 rename_i k
 obtain ⟨cl, al, tys⟩ := k
 cases cl <;> simp only at h <;> try cases h
 rename_i bi
 cases bi <;> simp only at h <;> try cases h
 ·split at h
  ·rename_i a b t ts hb1 hb2
   obtain ⟨ha, h⟩ := if_some h
   obtain ⟨he, h⟩ := if_some h
   obtain ⟨q, hq, h⟩ := bind_some' h
   obtain ⟨B', hB, h⟩ := bind_some' h
   obtain ⟨e, hel, h⟩ := bind_some' h
   obtain ⟨s, hs, h⟩ := bind_some' h
   obtain ⟨n', hn, h⟩ := bind_some' h
   obtain ⟨z, hz, h⟩ := bind_some' h
   obtain ⟨⟨h1, h3⟩, h⟩ := if_some h
   injection h with h
   injection h with e1 h; injection h with e2 h; injection h with e3 h; injection h with e4 h; injection h with e5 h; injection h with e6 e7
   subst e4 e7
   refine ⟨_, ho, rfl, ?_⟩
   show (if effOk base _ _ _ then opW C _ _ _ _ _ _ else none) = _
   rw [if_pos he]
   have := H t e dst z (by cases hq; exact congrArg some e5) (by rw [← e5, hB]; exact congrArg some e6) hel hs hn hz h1 h3 (by rw [← e3, e1])
   rw [← e1, ← e2] at this
   simp only [opW, hb1, hb2]
   rw [if_pos ha]
   exact this
  ·cases h
theorem OpIs.apENil {enc : τ → D} {y : D} {B : Option Blk} {n d v m : Nat} {ys zs : List τ} (h : apEAt C f base c = some (.nilS, y, B, n, d, v, m)) (hs : src c.s.heap y = some (.list m (ys.map enc))) (hz : zs = ys) (hr : (ys.length + 192) * (n + 1) ≤ 70368744177664) :
  OpIs C f base c (.sref d (v + 1) m 0 ys.length) (c.s.heap.set d ⟨v + 1, false, .rows m (zs.map enc)⟩) := by
 subst hz
 refine apE_op h fun t e dst z h1 h2 h3 h4 h5 h6 h7 h8 h9 => ?_
 have hr' := roomy_of hr
 simp only [appendD, h3, h4, h5, h6, Option.bind_some, h7, if_true, hs, h8, and_self, growR, List.length_map, hr', put_of h1 h2]
theorem OpIs.apERow {enc : τ → D} {y : D} {n d dv b v w len m : Nat} {xs ys zs : List τ} (h : apEAt C f base c = some (.sref b v m 0 len, y, some ⟨w, false, .rows m (xs.map enc)⟩, n, d, dv, m)) (hs : src c.s.heap y = some (.list m (ys.map enc))) (hz : zs = xs ++ ys) (hw : w = v) (hl : len = xs.length)
  (hr : (xs.length + ys.length + 192) * (n + 1) ≤ 70368744177664) : OpIs C f base c (.sref d (dv + 1) m 0 (xs.length + ys.length)) ((kill1 c.s.heap b).set d ⟨dv + 1, false, .rows m (zs.map enc)⟩) := by
 subst hz
 refine apE_op h fun t e dst z h1 h2 h3 h4 h5 h6 h7 h8 h9 => ?_
 have h9 : c.s.heap[b]? = some ⟨w, false, .rows m (xs.map enc)⟩ := h9.symm
 have hr' := roomy_of hr
 simp only [appendD, h3, h4, h5, h6, Option.bind_some, h7, if_true, hs, h8, and_self, growR, h9, hw, hl, List.length_map, hr']
 rw [put_of h1 (kill_ver h2), List.map_append]
theorem rf_rowE {enc : τ → D} (ht : ∀ x, (enc x).cells.all (D.isT 2) = true) {h : Heap} {n b v w m : Nat} {fz : Bool} {xs : List τ} {off len : Nat} (hb : h[b]? = some ⟨w, fz, .rows m (xs.map enc)⟩) (hw : w = v) (hl : off + len ≤ xs.length) : reify h (n + 1) (.sref b v m off len) = some (.list m (((xs.drop off).take len).map enc)) := by
 have hl' : off + len ≤ (xs.map enc).length := by rw [List.length_map]; exact hl
 simp only [reify, get_of hb hw, if_true, if_pos hl']
 rw [← List.map_drop, ← List.map_take, if_pos]
 rw [List.all_eq_true]
 intro d hd
 obtain ⟨l, _, rfl⟩ := List.mem_map.1 hd
 exact ht l
theorem rf_fullE {enc : τ → D} (ht : ∀ x, (enc x).cells.all (D.isT 2) = true) {h : Heap} {n b v w m : Nat} {fz : Bool} {xs : List τ} {len : Nat} (hb : h[b]? = some ⟨w, fz, .rows m (xs.map enc)⟩) (hw : w = v) (hl : len = xs.length) : reify h (n + 1) (.sref b v m 0 len) = some (.list m (xs.map enc)) := by
 rw [rf_rowE ht hb hw (by omega), List.drop_zero, hl, List.take_length]
end
end Go.Proofs.YtfijdkdpcjfiaaaGreatA
