/- The shadow machine, a step at a time: append and copy. -/
import Derived.Test.YtfijdkdpcjfiaaaGreatB3
set_option linter.unusedVariables false
set_option linter.unusedSimpArgs false
namespace Go.Proofs.YtfijdkdpcjfiaaaGreatA
open Go
section
variable (C : Cx) (f base : Nat)
def apAt (c : Cf) : Option (D × D × Option Blk × Nat × Nat × Nat) := (opAt c).bind fun o => match o.op with
 | .call k => (match k.callee with
  | .builtin .append => (match k.args.toList, k.argTypes.toList with
   | [x, y], t :: ts => if ts.all (fun u => (C.P.underlying u).isSome && (intK C.P u).isNone) then if effOk base (planAt C f c) o c.s.ev then o.dst.bind fun d => (c.s.heap[base + d]?).bind fun B =>
     (elemOf? C.P t).bind fun e => (szOf C.P e).bind fun s => (bytesOf C.P e).bind fun y' => (zeroD C.P e).bind fun z => if z.cells.length = s ∧ s = 1 ∧ (intK C.P e).isSome = true then
      some (c.s.ev x, c.s.ev y, blkAt c.s.heap (c.s.ev x), y', base + d, B.ver) else none else none else none
   | _, _ => none)
  | _ => none)
 | _ => none
def lnAt (c : Cf) : Option Nat := (opAt c).bind fun o => match o.op with
 | .call k => (match k.callee with
  | .builtin .len => (match k.args.toList, k.argTypes.toList with
   | [x], t :: _ => lenD C.P t (c.s.ev x)
   | _, _ => none)
  | _ => none)
 | _ => none
def putK (c : Cf) (d : D) (b' b : Nat) (B : Blk) : Cf := putC c d ((kill1 c.s.heap b').set b B)
end
section
variable {C : Cx} {F : Forget} {f base : Nat} {c : Cf} {Q : X → St → Prop}
theorem W.opK {d : D} {b' b : Nat} {B : Blk} (ho : OpIs C f base c d ((kill1 c.s.heap b').set b B)) (H : W C F f base (putK c d b' b B) Q) : W C F f base c Q := ⟨G.op ho H.h⟩
theorem if_some {α : Type} {p : Prop} [Decidable p] {a : Option α} {r : α} (h : (if p then a else none) = some r) : p ∧ a = some r := by
 split at h
 ·exact ⟨‹_›, h⟩
 ·cases h
theorem ap_op {x y : D} {B : Option Blk} {n d v : Nat} (h : apAt C f base c = some (x, y, B, n, d, v)) {r : D} {h' : Heap}
  (H : ∀ (t e s : Nat) (dst : Option Tmp) (z : D), dst.map (base + ·) = some d → (c.s.heap[d]?).map (·.ver) = some v → elemOf? C.P t = some e → szOf C.P e = some 1 → bytesOf C.P e = some n → zeroD C.P e = some z → z.cells.length = 1 → (intK C.P e).isSome = true → B = blkAt c.s.heap x →
   appendD C.P base dst c.s.heap t x y = some (r, h')) : OpIs C f base c r h' := by
 obtain ⟨⟨dst, op, type, pos, after, guard⟩, ho, h⟩ := op_some h
 cases op <;> simp only at h <;> try cases h
 rename_i k
 obtain ⟨cl, al, tys⟩ := k
 cases cl <;> simp only at h <;> try cases h
 rename_i bi
 cases bi <;> simp only at h <;> try cases h
 ·split at h
  ·rename_i a b t ts hb1 hb2
   obtain ⟨ha, h⟩ := if_some h
   obtain ⟨he, h⟩ := if_some h
   obtain ⟨q, hq, h⟩ := bind_some' h
   obtain ⟨B', hB, h⟩ := bind_some' h
   obtain ⟨e, hel, h⟩ := bind_some' h
   obtain ⟨s, hs, h⟩ := bind_some' h
   obtain ⟨n', hn, h⟩ := bind_some' h
   obtain ⟨z, hz, h⟩ := bind_some' h
   obtain ⟨⟨h1, h2, h3⟩, h⟩ := if_some h
   injection h with h
   injection h with e1 h; injection h with e2 h; injection h with e3 h; injection h with e4 h; injection h with e5 e6
   subst h2 e4
   refine ⟨_, ho, rfl, ?_⟩
   show (if effOk base _ _ _ then opW C _ _ _ _ _ _ else none) = _
   rw [if_pos he]
   have := H t e 1 dst z (by cases hq; exact congrArg some e5) (by rw [← e5, hB]; exact congrArg some e6) hel hs hn hz h1 h3 (by rw [← e3, e1])
   rw [← e1, ← e2] at this
   simp only [opW, hb1, hb2]
   rw [if_pos ha]
   exact this
  ·cases h
theorem roomy_of {n y : Nat} (h : (n + 192) * (y + 1) ≤ 70368744177664) : roomy n y = true := by unfold roomy; exact decide_eq_true h
theorem put_of {d v : Nat} {dst : Option Tmp} {h : Heap} {x : Body × (Nat → Nat → D)} (h1 : dst.map (base + ·) = some d) (h2 : (h[d]?).map (·.ver) = some v) : putA base dst h x = some (x.2 d (v + 1), h.set d ⟨v + 1, false, x.1⟩) := by
 cases dst with
 | none => cases h1
 | some t =>
  cases h1
  obtain ⟨B, hB, hv⟩ := map_some' h2
  simp only [putA, Option.bind_some, hB, Option.map_some, hv]
theorem kill_ver {h : Heap} {b d v : Nat} (h2 : (h[d]?).map (·.ver) = some v) : ((kill1 h b)[d]?).map (·.ver) = some v := by
 unfold kill1
 split
 ·rename_i B hB
  rw [List.getElem?_set]
  split
  ·rename_i e
   subst e
   rw [hB] at h2
   split
   ·exact h2
   ·rename_i hlt; exact absurd (List.getElem?_eq_some_iff.1 hB).1 hlt
  ·exact h2
 ·exact h2
theorem OpIs.apNil {y : D} {B : Option Blk} {n d v : Nat} {k : IntKind} {ys zs : List Int} (h : apAt C f base c = some (.nilS, y, B, n, d, v)) (hs : src c.s.heap y = some (.ints k ys)) (hz : zs = ys) (hr : (ys.length + 192) * (n + 1) ≤ 70368744177664) :
  OpIs C f base c (.sref d (v + 1) 1 0 ys.length) (c.s.heap.set d ⟨v + 1, false, .ints k zs⟩) := by
 subst hz
 refine ap_op h fun t e s dst z h1 h2 h3 h4 h5 h6 h7 h8 h9 => ?_
 simp only [appendD, h3, h4, h5, h6, Option.bind_some, h7, if_true, hs, growI, roomy_of hr, put_of h1 h2]
theorem OpIs.apRow {y : D} {n d dv b v w len : Nat} {k : IntKind} {xs ys zs : List Int} (h : apAt C f base c = some (.sref b v 1 0 len, y, some ⟨w, false, .ints k xs⟩, n, d, dv)) (hs : src c.s.heap y = some (.ints k ys)) (hz : zs = xs ++ ys) (hw : w = v) (hl : len = xs.length)
  (hr : (xs.length + ys.length + 192) * (n + 1) ≤ 70368744177664) : OpIs C f base c (.sref d (dv + 1) 1 0 (xs.length + ys.length)) ((kill1 c.s.heap b).set d ⟨dv + 1, false, .ints k zs⟩) := by
 subst hz
 refine ap_op h fun t e s dst z h1 h2 h3 h4 h5 h6 h7 h8 h9 => ?_
 have h9 : c.s.heap[b]? = some ⟨w, false, .ints k xs⟩ := h9.symm
 simp only [appendD, h3, h4, h5, h6, Option.bind_some, h7, if_true, hs, growI, h9, hw, hl, and_self, roomy_of hr]
 rw [put_of h1 (kill_ver h2)]
theorem OpIs.apLit {y : D} {B : Option Blk} {n d dv : Nat} {k : IntKind} {xs ys zs : List Int} (h : apAt C f base c = some (.lit (.ints k xs), y, B, n, d, dv)) (hs : src c.s.heap y = some (.ints k ys)) (hz : zs = xs ++ ys)
  (hr : (xs.length + ys.length + 192) * (n + 1) ≤ 70368744177664) (hne : ys ≠ []) : OpIs C f base c (.sref d (dv + 1) 1 0 (xs.length + ys.length)) (c.s.heap.set d ⟨dv + 1, false, .ints k zs⟩) := by
 subst hz
 refine ap_op h fun t e s dst z h1 h2 h3 h4 h5 h6 h7 h8 h9 => ?_
 have he : ys.isEmpty = false := by cases ys with | nil => exact absurd rfl hne | cons => rfl
 simp only [appendD, h3, h4, h5, h6, Option.bind_some, h7, if_true, hs, roomy_of hr, he, Bool.false_eq_true, if_false, put_of h1 h2]
theorem OpIs.apLit0 {y : D} {B : Option Blk} {n d dv : Nat} {k : IntKind} {xs ys : List Int} (h : apAt C f base c = some (.lit (.ints k xs), y, B, n, d, dv)) (hs : src c.s.heap y = some (.ints k ys)) (h0 : ys = []) : OpIs C f base c (.lit (.ints k xs)) c.s.heap := by
 subst h0
 refine ap_op h fun t e s dst z h1 h2 h3 h4 h5 h6 h7 h8 h9 => ?_
 simp only [appendD, h3, h4, h5, h6, Option.bind_some, h7, if_true, hs, List.isEmpty_nil]
theorem OpIs.apSame {x y : D} {B : Option Blk} {n d dv : Nat} (h : apAt C f base c = some (x, y, B, n, d, dv)) (hs : src c.s.heap y = some .nilS)
  (hx : (match x.bare with | .nilS | .ints _ _ | .list _ _ | .sref _ _ _ _ _ => true | _ => false) = true) : OpIs C f base c x c.s.heap := by
 refine ap_op h fun t e s dst z h1 h2 h3 h4 h5 h6 h7 h8 h9 => ?_
 simp only [appendD, h3, h4, h5, h6, Option.bind_some, h7, if_true, hs]
 split at hx <;> simp_all
theorem OpIs.ixR {k' : IntKind} {b v sz len : Nat} {i : Int} (h : ixAt C c = some (.sref b v sz 0 len, .int k' i, sz)) (h0 : 0 ≤ i) (h1 : i < (len : Int)) : OpIs C f base c (.pref b v i.toNat 0) c.s.heap := by
 have := OpIs.ixS (f := f) (base := base) h h0 h1
 rw [Nat.zero_add] at this
 exact this
theorem OpIs.ln {n m : Nat} (h : lnAt C c = some n) (hn : n = m) : OpIs C f base c (.int .i64 (m : Int)) c.s.heap := by
 subst hn
 obtain ⟨⟨dst, op, type, pos, after, guard⟩, ho, h⟩ := op_some h
 cases op <;> simp only at h <;> try cases h
 rename_i q
 obtain ⟨cl, al, tys⟩ := q
 cases cl <;> simp only at h <;> try cases h
 rename_i bi
 cases bi <;> simp only at h <;> try cases h
 split at h
 ·rename_i hb1 hb2
  refine ⟨_, ho, rfl, ?_⟩
  show (opP C _ _).map _ = _
  simp only [opP, hb1, hb2, h, Option.map_some]
 ·cases h
end
end Go.Proofs.YtfijdkdpcjfiaaaGreatA
