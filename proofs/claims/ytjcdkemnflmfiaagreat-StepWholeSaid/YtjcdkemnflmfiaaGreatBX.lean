/- The program as the shadow sees it, and short names. -/
import Derived.Test.YtjcdkemnflmfiaaGreatB2
import Derived.Test.YtjcdkemnflmfiaaGreatProg
import Derived.Test.YtjcdkemnflmfiaaGreatChecked
import Derived.KernelRfl
set_option linter.unusedVariables false
set_option linter.unusedSimpArgs false
namespace Go.Proofs.YtjcdkemnflmfiaaGreatA
open Go Go.Proofs
noncomputable def C : Cx := ⟨Tryz.prog, fun f => f == 74 || f == 79 || f == 221 || f == 222, fun f r => if f == 4 && r == 18 then [(3, [91]), (4, [91]), (6, [91]), (10, [11])] else if f == 5 && r == 11 then [(3, [47]), (5, [47]), (7, [51, 47])] else if f == 6 && r == 2 then [(0, [15]), (3, [15]), (5, [15])] else if f == 7 && r == 15 then [(5, [60]), (7, [60]), (11, [66, 60]), (13, [12])] else if f == 11 && r == 36 then [(4, [152]), (6, [152]), (7, [152]), (9, [157]), (11, [22]), (13, [22])] else if f == 19 && r == 12 then [(3, [39]), (6, [39]), (8, [44])] else if f == 34 && r == 10 then [(1, [66, 66]), (25, [66]), (27, [66]), (28, [69]), (30, [6])] else if f == 196 && r == 8 then [(1, [4]), (2, [4]), (3, [4])] else if f == 1000003 && r == 23 then [(0, [])] else [], fun _ => true⟩
def F : Forget := fun _ _ => ([], [])
abbrev wi (n : Int) : Int := IntKind.wrap .i64 n
abbrev wu (n : Int) : Int := IntKind.wrap .u64 n
def mx (a b : Int) : Int := if b > a then b else a
def mn (a b : Int) : Int := if b < a then b else a
structure W (C : Cx) (F : Forget) (f base : Nat) (c : Cf) (Q : X → St → Prop) : Prop where
 h : G C F f base c Q
section
variable {C : Cx} {F : Forget} {f base : Nat} {c : Cf} {Q : X → St → Prop}
theorem W.adv (n : Nat) (H : W C F f base (steps C F f base n c) Q) : W C F f base c Q := ⟨G.adv n H.h⟩
theorem W.guard {w : Bool} (v : Bool) (h : guardAt c = some w) (hw : w = v) (H : W C F f base (goG c v) Q) : W C F f base c Q := ⟨G.guard v h hw H.h⟩
theorem W.cond {w : Bool} (v : Bool) (h : condAt c = some w) (hw : w = v) (H : W C F f base (goC c v) Q) : W C F f base c Q := ⟨G.cond v h hw H.h⟩
theorem W.opS {d : D} (ho : OpIs C f base c d c.s.heap) (H : W C F f base (putS c d) Q) : W C F f base c Q := ⟨G.op ho H.h⟩
theorem W.opH {d : D} {b : Nat} {B : Blk} (ho : OpIs C f base c d (c.s.heap.set b B)) (H : W C F f base (putH c d b B) Q) : W C F f base c Q := ⟨G.op ho H.h⟩
theorem W.callR {g : FuncId} {ds es : List D} {r : D} (h : callAt C c = some (g, ds)) (hr : ds.mapM (reify (hpAt C f base c) DEPTH) = some es) (hi : Ic C F g es r)
  (hm : mayC C f c ds r = true) (H : W C F f base (putR c ds r) Q) : W C F f base c Q := ⟨G.call h hr hi hm H.h⟩
theorem W.fin {x : X} (e : outAt c = some x) (H : Q x c.s) : W C F f base c Q := ⟨G.fin e H⟩
theorem W.to_loop {P : (Nat → D) → (Nat → Blk) → (Nat → Nat) → Cf} (H : ∀ j jb vs, W C F f base (P j jb vs) Q)
  (e : c = P (fun i => c.s.tmps.getD i .top) (fun i => c.s.heap.getD i noBlk) (fun i => (c.s.heap.getD i noBlk).ver - 1)) : W C F f base c Q := ⟨G.same (H _ _ _).h e⟩
theorem W.ic {fn : Func} {ds zs : List D} {e : D} (hf : C.P.funcs[f]? = some fn) (hb : fn.body.isSome = true) (hok : (C.ok f && (C.plan f 999998).isEmpty) = true) (hz : nargs C fn ds = zs) (hl : (zs.length ≤ fn.ntmps : Bool) = true) (H : W C F f 0 (cfAt fn [] (start fn zs)) (Ans C fn e)) : Ic C F f ds e :=
 Ic.of hf hb hok hz hl H.h
end
def LawIs (C : Cx) (F : Forget) (f : FuncId) (zs : List D) (z : Bool) : Prop := ∃ k h', run C F k f zs [] = some (.bool z, h')
def LAns (C : Cx) (fn : Func) (z : Bool) (x : X) (s : St) : Prop := endD C fn x s = some (.bool z)
theorem LAns.of {C : Cx} {fn : Func} {z : Bool} {x : X} {s : St} {d : D} (h : endD C fn x s = some d) (e : d = .bool z) : LAns C fn z x s := by subst e; exact h
theorem W.lawIs {C : Cx} {F : Forget} {f : FuncId} {fn : Func} {zs : List D} {z : Bool} (hf : C.P.funcs[f]? = some fn) (hb : fn.body.isSome = true) (hok : (C.ok f && (C.plan f 999998).isEmpty) = true) (hl : (zs.length ≤ fn.ntmps : Bool) = true) (H : W C F f 0 (cfAt fn [] (start fn zs)) (LAns C fn z)) : LawIs C F f zs z := by
 obtain ⟨b, hb⟩ := Option.isSome_iff_exists.1 hb
 have H : G C F f 0 ⟨.code b, [], start fn zs⟩ (LAns C fn z) := by have H := H.h; unfold cfAt at H; rw [hb] at H; simp only [posIn_nil] at H; exact H
 obtain ⟨x, s, h1, h2⟩ := run_of hf hb hok (of_decide_eq_true hl) H
 obtain ⟨K, hK⟩ := h2 _ h1
 exact ⟨K, _, hK K (Nat.le_refl _)⟩
theorem bfalse {b : Bool} (h : ¬b = true) : b = false := by cases b with | true => exact absurd rfl h | false => rfl
theorem Ic.args {C : Cx} {F : Forget} {g : FuncId} {ds es : List D} {r : D} (h : Ic C F g ds r) (e : (C.P.funcs[g]?).map (fun fn => nargs C fn ds) = (C.P.funcs[g]?).map (fun fn => nargs C fn es)) : Ic C F g es r := by
 refine h.congr fun k => ?_
 unfold icall
 cases hf : C.P.funcs[g]? with
 | none => rfl
 | some fn =>
  rw [hf] at e
  have e' : nargs C fn ds = nargs C fn es := Option.some.inj e
  show ((run C F k g (nargs C fn es) []).bind _) = ((run C F k g (nargs C fn ds) []).bind _)
  rw [e']
end Go.Proofs.YtjcdkemnflmfiaaGreatA
namespace Go.Proofs.YtjcdkemnflmfiaaGreatA
open Go
section
variable (C : Cx) (f base : Nat)
def apAt (c : Cf) : Option (D × D × Option Blk × Nat × Nat × Nat) := (opAt c).bind fun o => match o.op with
 | .call k => (match k.callee with
  | .builtin .append => (match k.args.toList, k.argTypes.toList with
   | [x, y], t :: ts => if ts.all (fun u => (C.P.underlying u).isSome && (intK C.P u).isNone) then if effOk base (planAt C f c) o c.s.ev then o.dst.bind fun d => (c.s.heap[base + d]?).bind fun B =>
     (elemOf? C.P t).bind fun e => (szOf C.P e).bind fun s => (bytesOf C.P e).bind fun y' => (zeroD C.P e).bind fun z => if z.cells.length = s ∧ s = 1 ∧ (intK C.P e).isSome = true then
      some (c.s.ev x, c.s.ev y, blkAt c.s.heap (c.s.ev x), y', base + d, B.ver) else none else none else none
   | _, _ => none)
  | _ => none)
 | _ => none
def cpAt (c : Cf) : Option (D × D × Option Blk) := (opAt c).bind fun o => match o.op with
 | .call k => (match k.callee with
  | .builtin .copy => (match k.args.toList, k.argTypes.toList with
   | [x, y], t :: _ => if effOk base (planAt C f c) o c.s.ev then (elemOf? C.P t).bind fun e => (szOf C.P e).bind fun s => if s = 1 then some (c.s.ev x, c.s.ev y, blkAt c.s.heap (c.s.ev x)) else none else none
   | _, _ => none)
  | _ => none)
 | _ => none
def lnAt (c : Cf) : Option Nat := (opAt c).bind fun o => match o.op with
 | .call k => (match k.callee with
  | .builtin .len => (match k.args.toList, k.argTypes.toList with
   | [x], t :: _ => lenD C.P t (c.s.ev x)
   | _, _ => none)
  | _ => none)
 | _ => none
def putK (c : Cf) (d : D) (b' b : Nat) (B : Blk) : Cf := putC c d ((kill1 c.s.heap b').set b B)
end
section
variable {C : Cx} {F : Forget} {f base : Nat} {c : Cf} {Q : X → St → Prop}
theorem W.opK {d : D} {b' b : Nat} {B : Blk} (ho : OpIs C f base c d ((kill1 c.s.heap b').set b B)) (H : W C F f base (putK c d b' b B) Q) : W C F f base c Q := ⟨G.op ho H.h⟩
theorem if_some {α : Type} {p : Prop} [Decidable p] {a : Option α} {r : α} (h : (if p then a else none) = some r) : p ∧ a = some r := by
 split at h
 ·exact ⟨‹_›, h⟩
 ·cases h
theorem ap_op {x y : D} {B : Option Blk} {n d v : Nat} (h : apAt C f base c = some (x, y, B, n, d, v)) {r : D} {h' : Heap}
  (H : ∀ (t e s : Nat) (dst : Option Tmp) (z : D), dst.map (base + ·) = some d → (c.s.heap[d]?).map (·.ver) = some v → elemOf? C.P t = some e → szOf C.P e = some 1 → bytesOf C.P e = some n → zeroD C.P e = some z → z.cells.length = 1 → (intK C.P e).isSome = true → B = blkAt c.s.heap x →
   appendD C.P base dst c.s.heap t x y = some (r, h')) : OpIs C f base c r h' := by
 obtain ⟨⟨dst, op, type, pos, after, guard⟩, ho, h⟩ := op_some h
 cases op <;> simp only at h <;> try cases h
 rename_i k
 obtain ⟨cl, al, tys⟩ := k
 cases cl <;> simp only at h <;> try cases h
 rename_i bi
 cases bi <;> simp only at h <;> try cases h
 ·split at h
  ·rename_i a b t ts hb1 hb2
   obtain ⟨ha, h⟩ := if_some h
   obtain ⟨he, h⟩ := if_some h
   obtain ⟨q, hq, h⟩ := bind_some' h
   obtain ⟨B', hB, h⟩ := bind_some' h
   obtain ⟨e, hel, h⟩ := bind_some' h
   obtain ⟨s, hs, h⟩ := bind_some' h
   obtain ⟨n', hn, h⟩ := bind_some' h
   obtain ⟨z, hz, h⟩ := bind_some' h
   obtain ⟨⟨h1, h2, h3⟩, h⟩ := if_some h
   injection h with h
   injection h with e1 h; injection h with e2 h; injection h with e3 h; injection h with e4 h; injection h with e5 e6
   subst h2 e4
   refine ⟨_, ho, rfl, ?_⟩
   show (if effOk base _ _ _ then opW C _ _ _ _ _ _ else none) = _
   rw [if_pos he]
   have := H t e 1 dst z (by cases hq; exact congrArg some e5) (by rw [← e5, hB]; exact congrArg some e6) hel hs hn hz h1 h3 (by rw [← e3, e1])
   rw [← e1, ← e2] at this
   simp only [opW, hb1, hb2]
   rw [if_pos ha]
   exact this
  ·cases h
theorem roomy_of {n y : Nat} (h : (n + 192) * (y + 1) ≤ 70368744177664) : roomy n y = true := by unfold roomy; exact decide_eq_true h
theorem put_of {d v : Nat} {dst : Option Tmp} {h : Heap} {x : Body × (Nat → Nat → D)} (h1 : dst.map (base + ·) = some d) (h2 : (h[d]?).map (·.ver) = some v) : putA base dst h x = some (x.2 d (v + 1), h.set d ⟨v + 1, false, x.1⟩) := by
 cases dst with
 | none => cases h1
 | some t =>
  cases h1
  obtain ⟨B, hB, hv⟩ := map_some' h2
  simp only [putA, Option.bind_some, hB, Option.map_some, hv]
theorem kill_ver {h : Heap} {b d v : Nat} (h2 : (h[d]?).map (·.ver) = some v) : ((kill1 h b)[d]?).map (·.ver) = some v := by
 unfold kill1
 split
 ·rename_i B hB
  rw [List.getElem?_set]
  split
  ·rename_i e
   subst e
   rw [hB] at h2
   split
   ·exact h2
   ·rename_i hlt; exact absurd (List.getElem?_eq_some_iff.1 hB).1 hlt
  ·exact h2
 ·exact h2
theorem OpIs.apNil {y : D} {B : Option Blk} {n d v : Nat} {k : IntKind} {ys zs : List Int} (h : apAt C f base c = some (.nilS, y, B, n, d, v)) (hs : src c.s.heap y = some (.ints k ys)) (hz : zs = ys) (hr : (ys.length + 192) * (n + 1) ≤ 70368744177664) :
  OpIs C f base c (.sref d (v + 1) 1 0 ys.length) (c.s.heap.set d ⟨v + 1, false, .ints k zs⟩) := by
 subst hz
 refine ap_op h fun t e s dst z h1 h2 h3 h4 h5 h6 h7 h8 h9 => ?_
 simp only [appendD, h3, h4, h5, h6, Option.bind_some, h7, if_true, hs, growI, roomy_of hr, put_of h1 h2]
theorem OpIs.apRow {y : D} {n d dv b v w len : Nat} {k : IntKind} {xs ys zs : List Int} (h : apAt C f base c = some (.sref b v 1 0 len, y, some ⟨w, false, .ints k xs⟩, n, d, dv)) (hs : src c.s.heap y = some (.ints k ys)) (hz : zs = xs ++ ys) (hw : w = v) (hl : len = xs.length)
  (hr : (xs.length + ys.length + 192) * (n + 1) ≤ 70368744177664) : OpIs C f base c (.sref d (dv + 1) 1 0 (xs.length + ys.length)) ((kill1 c.s.heap b).set d ⟨dv + 1, false, .ints k zs⟩) := by
 subst hz
 refine ap_op h fun t e s dst z h1 h2 h3 h4 h5 h6 h7 h8 h9 => ?_
 have h9 : c.s.heap[b]? = some ⟨w, false, .ints k xs⟩ := h9.symm
 simp only [appendD, h3, h4, h5, h6, Option.bind_some, h7, if_true, hs, growI, h9, hw, hl, and_self, roomy_of hr]
 rw [put_of h1 (kill_ver h2)]
theorem OpIs.apLit {y : D} {B : Option Blk} {n d dv : Nat} {k : IntKind} {xs ys zs : List Int} (h : apAt C f base c = some (.lit (.ints k xs), y, B, n, d, dv)) (hs : src c.s.heap y = some (.ints k ys)) (hz : zs = xs ++ ys)
  (hr : (xs.length + ys.length + 192) * (n + 1) ≤ 70368744177664) (hne : ys ≠ []) : OpIs C f base c (.sref d (dv + 1) 1 0 (xs.length + ys.length)) (c.s.heap.set d ⟨dv + 1, false, .ints k zs⟩) := by
 subst hz
 refine ap_op h fun t e s dst z h1 h2 h3 h4 h5 h6 h7 h8 h9 => ?_
 have he : ys.isEmpty = false := by cases ys with | nil => exact absurd rfl hne | cons => rfl
 simp only [appendD, h3, h4, h5, h6, Option.bind_some, h7, if_true, hs, roomy_of hr, he, Bool.false_eq_true, if_false, put_of h1 h2]
theorem OpIs.apLit0 {y : D} {B : Option Blk} {n d dv : Nat} {k : IntKind} {xs ys : List Int} (h : apAt C f base c = some (.lit (.ints k xs), y, B, n, d, dv)) (hs : src c.s.heap y = some (.ints k ys)) (h0 : ys = []) : OpIs C f base c (.lit (.ints k xs)) c.s.heap := by
 subst h0
 refine ap_op h fun t e s dst z h1 h2 h3 h4 h5 h6 h7 h8 h9 => ?_
 simp only [appendD, h3, h4, h5, h6, Option.bind_some, h7, if_true, hs, List.isEmpty_nil]
theorem OpIs.apSame {x y : D} {B : Option Blk} {n d dv : Nat} (h : apAt C f base c = some (x, y, B, n, d, dv)) (hs : src c.s.heap y = some .nilS)
  (hx : (match x.bare with | .nilS | .ints _ _ | .list _ _ | .sref _ _ _ _ _ => true | _ => false) = true) : OpIs C f base c x c.s.heap := by
 refine ap_op h fun t e s dst z h1 h2 h3 h4 h5 h6 h7 h8 h9 => ?_
 simp only [appendD, h3, h4, h5, h6, Option.bind_some, h7, if_true, hs]
 split at hx <;> simp_all
theorem OpIs.cp {y : D} {b v w off len : Nat} {k : IntKind} {xs ys zs : List Int} (h : cpAt C f base c = some (.sref b v 1 off len, y, some ⟨w, false, .ints k xs⟩)) (hs : src c.s.heap y = some (.ints k ys)) (hw : w = v) (hl : off + len ≤ xs.length)
  (hz : zs = xs.take off ++ (ys.take (min ys.length len) ++ xs.drop (off + min ys.length len))) : OpIs C f base c (.int .i64 ((min ys.length len : Nat) : Int)) (c.s.heap.set b ⟨w, false, .ints k zs⟩) := by
 subst hz
 obtain ⟨⟨dst, op, type, pos, after, guard⟩, ho, h⟩ := op_some h
 cases op <;> simp only at h <;> try cases h
 rename_i q
 obtain ⟨cl, al, tys⟩ := q
 cases cl <;> simp only at h <;> try cases h
 rename_i bi
 cases bi <;> simp only at h <;> try cases h
 ·split at h
  ·rename_i a b' t ts hb1 hb2
   obtain ⟨he, h⟩ := if_some h
   obtain ⟨e, hel, h⟩ := bind_some' h
   obtain ⟨s, hs', h⟩ := bind_some' h
   obtain ⟨h1, h⟩ := if_some h
   injection h with h
   injection h with e1 h; injection h with e2 e3
   subst h1
   refine ⟨_, ho, rfl, ?_⟩
   show (if effOk base _ _ _ then opW C _ _ _ _ _ _ else none) = _
   rw [if_pos he]
   rw [e1] at e3
   have e3 : c.s.heap[b]? = some ⟨w, false, .ints k xs⟩ := e3
   simp only [opW, hb1, hb2, copyD, hel, hs', Option.bind_some, if_true, e1, e2, hs, e3, hw, and_self, hl]
  ·cases h
theorem OpIs.ixR {k' : IntKind} {b v sz len : Nat} {i : Int} (h : ixAt C c = some (.sref b v sz 0 len, .int k' i, sz)) (h0 : 0 ≤ i) (h1 : i < (len : Int)) : OpIs C f base c (.pref b v i.toNat 0) c.s.heap := by
 have := OpIs.ixS (f := f) (base := base) h h0 h1
 rw [Nat.zero_add] at this
 exact this
theorem OpIs.ln {n m : Nat} (h : lnAt C c = some n) (hn : n = m) : OpIs C f base c (.int .i64 (m : Int)) c.s.heap := by
 subst hn
 obtain ⟨⟨dst, op, type, pos, after, guard⟩, ho, h⟩ := op_some h
 cases op <;> simp only at h <;> try cases h
 rename_i q
 obtain ⟨cl, al, tys⟩ := q
 cases cl <;> simp only at h <;> try cases h
 rename_i bi
 cases bi <;> simp only at h <;> try cases h
 split at h
 ·rename_i hb1 hb2
  refine ⟨_, ho, rfl, ?_⟩
  show (opP C _ _).map _ = _
  simp only [opP, hb1, hb2, h, Option.map_some]
 ·cases h
theorem OpIs.slR {k' : IntKind} {b v sz len m : Nat} {i : Int} (h : slAt C c = some (.sref b v sz 0 len, some (.int k' i), none, sz)) (hm : len = m) (h0 : 0 ≤ i) (h1 : i ≤ (m : Int)) : OpIs C f base c (.sref b v sz i.toNat (m - i.toNat)) c.s.heap := by
 subst hm
 have := OpIs.slS (f := f) (base := base) h (bound_none _ _) (bound_some h0 h1)
 rw [Nat.zero_add] at this
 exact this
end
end Go.Proofs.YtjcdkemnflmfiaaGreatA
namespace Go.Proofs.YtjcdkemnflmfiaaGreatA
open Go
def shAt (C : Cx) (c : Cf) : Option (FuncId × List D) := (opAt c).bind fun o => match o.op with
 | .call k => (match k.callee with
  | .value (.func f) => if C.shared f then (callee k c.s.ev).bind fun p => if sharesNow C p.1 p.2 c.s.heap then some p else none else none
  | _ => none)
 | _ => none
def Sc (C : Cx) (F : Forget) (g : FuncId) (ds : List D) (h : Heap) (d : D) (h' : Heap) : Prop := Ev (fun k => run C F k g ds h) (d, h')
section
variable {C : Cx} {F : Forget} {f base : Nat} {c : Cf} {Q : X → St → Prop}
theorem W.shared {g : FuncId} {ds : List D} {h h' : Heap} {d : D} (hc : shAt C c = some (g, ds)) (hp : (planAt C f c).isEmpty = true) (hh : c.s.heap = h) (hr : Sc C F g ds h d h') (H : W C F f base (putC c d h') Q) : W C F f base c Q := by
 subst hh
 obtain ⟨H⟩ := H
 refine ⟨?_⟩
 obtain ⟨foc, fr, s⟩ := c
 cases foc with
 | ops id os draw i l =>
  cases l with
  | nil => simp [shAt, opAt] at hc
  | cons o l =>
   simp only [shAt, opAt] at hc
   split at hc
   ·rename_i hg
    rw [Option.bind_some] at hc
    obtain ⟨s', h4, h5⟩ := H
    refine ⟨s', ?_, h5⟩
    have key : Ev (fun k => opv C (run C F k) draw base (Plan.at (C.plan f id) i) o s.ev s.heap) (d, h') := by
     obtain ⟨dst, op, type, pos, after, guard⟩ := o
     cases op <;> simp only at hc <;> try cases hc
     rename_i k
     obtain ⟨cl, al, tys⟩ := k
     cases cl <;> simp only at hc <;> try cases hc
     rename_i x
     cases x <;> simp only at hc <;> try cases hc
     rename_i f'
     obtain ⟨hs, hc⟩ := if_some hc
     obtain ⟨p, hp', hc⟩ := bind_some' hc
     obtain ⟨hT, hc⟩ := if_some hc
     cases hc
     have hc := hp'
     refine hr.to fun k hk => ?_
     have hgf : g = f' := by
      simp only [callee, St.ev] at hc
      cases hc; rfl
     have hcls : cls C draw { dst := dst, op := .call { callee := .value (.func f'), args := al, argTypes := tys }, type := type, pos := pos, after := after, guard := guard } = .W := by
      show (if C.shared f' || adopts C f' then Cls.W else if draw then .R else .W) = .W
      rw [if_pos (by rw [hs]; rfl)]
     unfold opv
     rw [hcls]
     have he : effOk base (Plan.at (C.plan f id) i) { dst := dst, op := .call { callee := .value (.func f'), args := al, argTypes := tys }, type := type, pos := pos, after := after, guard := guard } s.ev = true := by
      simp only [planAt] at hp
      simp only [effOk, hp, Bool.true_or]
     simp only []
     rw [if_pos he]
     simp only [opW]
     rw [show callee { callee := .value (.func f'), args := al, argTypes := tys } s.ev = some (g, ds) from hc, Option.bind_some]
     subst hgf
     have hT : sharesNow C g ds s.heap = true := hT
     rw [if_pos (by rw [hs, hT]; rfl)]
     exact hk
    exact (key.bindk (m := fun k (r : D × Heap) => opsRun C (run C F k) draw base os (C.plan f id) (i + 1) l ⟨putT s.tmps o.dst r.1, r.2⟩) h4).congr fun k => by
     rw [opsRun_cons, opStep_none (by simpa using hg), Option.bind_map]; rfl
   ·simp at hc
 | _ => simp [shAt, opAt] at hc
def shTAt (C : Cx) (c : Cf) : Option (FuncId × List D) := (opAt c).bind fun o => match o.op with
 | .call k => (match k.callee with
  | .value (.func f) => if C.shared f then (callee k c.s.ev).bind fun p => if sharesNow C p.1 p.2 c.s.heap || adopts C p.1 then none else some p else none
  | _ => none)
 | _ => none
theorem W.callT {g : FuncId} {ds es : List D} {r : D} (hc : shTAt C c = some (g, ds)) (hp : (planAt C f c).isEmpty = true) (hre : ds.mapM (reify c.s.heap DEPTH) = some es) (hi : Ic C F g es r) (H : W C F f base (putC c r (aftC c ds r)) Q) : W C F f base c Q := by
 obtain ⟨H⟩ := H
 refine ⟨?_⟩
 obtain ⟨foc, fr, s⟩ := c
 cases foc with
 | ops id os draw i l =>
  cases l with
  | nil => simp [shTAt, opAt] at hc
  | cons o l =>
   simp only [shTAt, opAt] at hc
   split at hc
   ·rename_i hg
    rw [Option.bind_some] at hc
    obtain ⟨s', h4, h5⟩ := H
    refine ⟨s', ?_, h5⟩
    have key : Ev (fun k => opv C (run C F k) draw base (Plan.at (C.plan f id) i) o s.ev s.heap) (r, aftC ⟨.ops id os draw i (o :: l), fr, s⟩ ds r) := by
     obtain ⟨dst, op, type, pos, after, guard⟩ := o
     cases op <;> simp only at hc <;> try cases hc
     rename_i k
     obtain ⟨cl, al, tys⟩ := k
     cases cl <;> simp only at hc <;> try cases hc
     rename_i x
     cases x <;> simp only at hc <;> try cases hc
     rename_i f'
     obtain ⟨hs, hc⟩ := if_some hc
     obtain ⟨p, hp', hc⟩ := bind_some' hc
     have hT0 : ¬ ((sharesNow C p.1 p.2 s.heap || adopts C p.1) = true) := fun h => by rw [if_pos h] at hc; cases hc
     have hT : ¬ (sharesNow C p.1 p.2 s.heap = true) := fun h => hT0 (by rw [h]; rfl)
     have hT2 : ¬ (adopts C p.1 = true) := fun h => hT0 (by rw [h, Bool.or_true])
     rw [if_neg hT0] at hc
     cases hc
     have hc := hp'
     refine hi.to fun k hk => ?_
     have hgf : g = f' := by
      simp only [callee, St.ev] at hc
      cases hc; rfl
     have hcls : cls C draw { dst := dst, op := .call { callee := .value (.func f'), args := al, argTypes := tys }, type := type, pos := pos, after := after, guard := guard } = .W := by
      show (if C.shared f' || adopts C f' then Cls.W else if draw then .R else .W) = .W
      rw [if_pos (by rw [hs]; rfl)]
     unfold opv
     rw [hcls]
     have he : effOk base (Plan.at (C.plan f id) i) { dst := dst, op := .call { callee := .value (.func f'), args := al, argTypes := tys }, type := type, pos := pos, after := after, guard := guard } s.ev = true := by
      simp only [planAt] at hp
      simp only [effOk, hp, Bool.true_or]
     simp only []
     rw [if_pos he]
     simp only [opW]
     rw [show callee { callee := .value (.func f'), args := al, argTypes := tys } s.ev = some (g, ds) from hc, Option.bind_some]
     have hT : ¬ (sharesNow C g ds s.heap = true) := hT
     rw [if_neg (fun h => hT (Bool.and_eq_true_iff.1 h).2), if_neg hT2, hre, Option.bind_some, hk]
     simp only [Option.map_some, aftC]
    exact (key.bindk (m := fun k (r : D × Heap) => opsRun C (run C F k) draw base os (C.plan f id) (i + 1) l ⟨putT s.tmps o.dst r.1, r.2⟩) h4).congr fun k => by
     rw [opsRun_cons, opStep_none (by simpa using hg), Option.bind_map]; rfl
   ·simp at hc
 | _ => simp [shTAt, opAt] at hc
theorem W.sharedP {g : FuncId} {ds : List D} {d : D} {P P' : (Nat → Blk) → Heap} (hc : shAt C c = some (g, ds)) (hp : (planAt C f c).isEmpty = true) (hh : c.s.heap = P (fun i => c.s.heap.getD i noBlk)) (hr : ∀ cb, Sc C F g ds (P cb) d (P' cb))
  (H : W C F f base (putC c d (P' (fun i => c.s.heap.getD i noBlk))) Q) : W C F f base c Q := W.shared hc hp hh (hr _) H
def SAns (C : Cx) (fn : Func) (n : Nat) (d : D) (h' : Heap) (x : X) (s : St) : Prop := endD C fn x s = some d ∧ tidy s.heap n = h'
theorem SAns.of {fn : Func} {n : Nat} {d0 d : D} {h0 h' : Heap} {x : X} {s : St} (h1 : endD C fn x s = some d0) (e1 : d0 = d) (h2 : tidy s.heap n = h0) (e2 : h0 = h') : SAns C fn n d h' x s := ⟨e1 ▸ h1, e2 ▸ h2⟩
theorem W.sc {fn : Func} {ds : List D} {h h' : Heap} {d : D} {n : Nat} (hf : C.P.funcs[f]? = some fn) (hb : fn.body.isSome = true) (hok : (C.ok f && (C.plan f 999998).isEmpty) = true) (hn : h.length = n) (hl : (ds.length ≤ fn.ntmps : Bool) = true)
  (H : W C F f n (cfAt fn [] ⟨ds ++ List.replicate (fn.ntmps - ds.length) (.tuple []), h ++ List.replicate fn.ntmps noBlk⟩) (SAns C fn n d h')) : Sc C F f ds h d h' := by
 subst hn
 obtain ⟨b, hb⟩ := Option.isSome_iff_exists.1 hb
 obtain ⟨H⟩ := H
 unfold cfAt at H
 rw [hb] at H
 simp only [posIn_nil] at H
 obtain ⟨x, s, h1, h2, h3⟩ := H
 refine .succ (h1.to fun k hk => ?_)
 rw [Bool.and_eq_true] at hok
 rw [run, hf, Option.bind_some, hb, Option.bind_some, if_pos ⟨hok.1, of_decide_eq_true hl⟩, if_neg (by simp [hok.2])]
 have hk' : exec C F k f h.length b ⟨ds ++ List.replicate (fn.ntmps - ds.length) (.tuple []), h ++ List.replicate fn.ntmps noBlk⟩ = some (x, s) := hk
 rw [hk', Option.bind_some]
 cases x with
 | exit id => simp [endD] at h2
 | normal => simp only [endD] at h2; simp only [h2, Option.map_some, h3]
 | ret => simp only [endD] at h2; simp only [h2, Option.map_some, h3]
end
end Go.Proofs.YtjcdkemnflmfiaaGreatA
namespace Go.Proofs.YtjcdkemnflmfiaaGreatA
open Go
section
variable {C : Cx} {F : Forget} {f base : Nat} {c : Cf} {Q : X → St → Prop} {τ : Type}
theorem mapD_at {enc : τ → D} {L : List τ} {i : Nat} {d0 x : τ} (hi : i < L.length) (hx : L.getD i d0 = x) : (L.map enc)[i]? = some (enc x) := by
 rw [List.getD_eq_getElem?_getD, List.getElem?_eq_getElem hi] at hx
 rw [List.getElem?_map, List.getElem?_eq_getElem hi, ← hx]
 rfl
theorem OpIs.ixE {enc : τ → D} {n : Nat} {k' : IntKind} {L : List τ} {i : Int} {d0 x : τ} (h : ixAt C c = some (.list n (L.map enc), .int k' i, n)) (h0 : 0 ≤ i) (h1 : i < (L.length : Int)) (hx : L.getD i.toNat d0 = x) : OpIs C f base c (.ptr (enc x).cells) c.s.heap :=
 OpIs.ixL (d := enc x) h h0 (mapD_at (by omega) hx)
theorem OpIs.slE {sz p q : Nat} {xs : List D} {lo hi : Option D} (h : slAt C c = some (.list sz xs, lo, hi, sz)) (hb : boundD hi xs.length xs.length = some q) (ha : boundD lo 0 q = some p) : OpIs C f base c (.list sz ((xs.take q).drop p)) c.s.heap := by
 obtain ⟨⟨dst, op, type, pos, after, guard⟩, ho, h⟩ := op_some h
 cases op <;> simp only at h <;> try cases h
 rename_i t x l h' m
 cases m <;> simp only at h <;> try cases h
 obtain ⟨e, he, h⟩ := bind_some' h
 obtain ⟨s, hs, h⟩ := map_some' h
 injection h with h2 h; injection h with h3 h; injection h with h4 h5
 refine ⟨_, ho, rfl, ?_⟩
 show (opP C _ _).map _ = _
 simp only [opP, sliceD, h2, h3, h4, hb, ha, he, hs, h5, Option.bind_some, if_true, Option.map_some, Option.map_none]
theorem OpIs.slE_hi {enc : τ → D} {n : Nat} {k' : IntKind} {L : List τ} {i : Int} (h : slAt C c = some (.list n (L.map enc), none, some (.int k' i), n)) (h0 : 0 ≤ i) (h1 : i ≤ (L.length : Int)) : OpIs C f base c (.list n ((L.take i.toNat).map enc)) c.s.heap := by
 have := OpIs.slE (f := f) (base := base) h (bound_some h0 (by rw [List.length_map]; exact h1)) (bound_none _ _)
 rw [List.drop_zero, ← List.map_take] at this
 exact this
theorem OpIs.ldV {b v i off w n s : Nat} {fz a : Bool} {xs : List D} {r : D} (h : ldAt C f base c = some (.pref b v i off, some ⟨w, fz, .rows n xs⟩, a, s)) (hw : w = v) (hr : (xs[i]?).bind (fun d => ldCells a s (d.cells.drop off)) = some r) : OpIs C f base c r c.s.heap := by
 obtain ⟨⟨dst, op, type, pos, after, guard⟩, ho, h⟩ := op_some h
 cases op <;> simp only at h <;> try cases h
 rename_i t p
 obtain ⟨a', ha, h⟩ := bind_some' h
 obtain ⟨s', hs, h⟩ := map_some' h
 injection h with h2 h; injection h with h3 h; injection h with h4 h5
 refine ⟨_, ho, rfl, ?_⟩
 show (opR C _ _ _ _).map _ = _
 rw [h2] at h3
 have hg := get_of (h := maskH base (planAt C f c) c.s.heap) h3 hw
 obtain ⟨d, hd, hr⟩ := bind_some' hr
 simp only [opR, ld, ha, hs, h2, h4, h5, Option.bind_some, cellsAt, hg, hd, Option.map_some, hr]
theorem OpIs.ldE {enc : τ → D} {b v i off w n s : Nat} {fz a : Bool} {L : List τ} {d0 x : τ} {r : D} (h : ldAt C f base c = some (.pref b v i off, some ⟨w, fz, .rows n (L.map enc)⟩, a, s)) (hw : w = v) (hi : i < L.length) (hx : L.getD i d0 = x) (hr : ldCells a s ((enc x).cells.drop off) = some r) : OpIs C f base c r c.s.heap :=
 OpIs.ldV h hw (by rw [mapD_at hi hx]; exact hr)
theorem OpIs.stV {b v i off w n s : Nat} {xs ys : List D} {d y : D} (h : stAt C f base c = some (.pref b v i off, some ⟨w, false, .rows n xs⟩, y, s)) (hw : w = v) (hd : xs[i]? = some d) (hy : y.cells.length = s) (ho : off + s ≤ d.cells.length) (h1 : y.cells.all D.one = true)
  (hys : ys = xs.set i (if off = 0 ∧ s = n then y else .agg (upd d.cells off y.cells))) : OpIs C f base c (.tuple []) (c.s.heap.set b ⟨w, false, .rows n ys⟩) := by
 obtain ⟨⟨dst, op, type, pos, after, guard⟩, ho', h⟩ := op_some h
 cases op <;> simp only at h <;> try cases h
 rename_i t p x
 split at h
 ·rename_i he
  obtain ⟨s', hs, h⟩ := map_some' h
  injection h with h2 h; injection h with h3 h; injection h with h4 h5
  refine ⟨_, ho', rfl, ?_⟩
  show (if effOk base _ _ _ then opW C _ _ _ _ _ _ else none) = _
  rw [if_pos he]
  rw [h2] at h3
  have h3' : c.s.heap[b]? = some ⟨w, false, .rows n xs⟩ := h3
  subst hys
  simp only [opW, st, hs, h2, h4, h5, Option.bind_some, h3', hw, and_self, if_true, Option.map_some, hd, hy, ho, h1]
 ·cases h
theorem OpIs.stE {enc : τ → D} {b v i off w n s : Nat} {L ys : List τ} {d0 x z : τ} {y : D} (h : stAt C f base c = some (.pref b v i off, some ⟨w, false, .rows n (L.map enc)⟩, y, s)) (hys : ys = L.set i z) (hw : w = v) (hi : i < L.length) (hx : L.getD i d0 = x) (hy : y.cells.length = s) (ho : off + s ≤ (enc x).cells.length) (h1 : y.cells.all D.one = true)
  (hz : enc z = (if off = 0 ∧ s = n then y else .agg (upd (enc x).cells off y.cells))) : OpIs C f base c (.tuple []) (c.s.heap.set b ⟨w, false, .rows n (ys.map enc)⟩) := by
 subst hys
 exact OpIs.stV h hw (mapD_at hi hx) hy ho h1 (by rw [List.map_set, hz])
def apEAt (C : Cx) (f base : Nat) (c : Cf) : Option (D × D × Option Blk × Nat × Nat × Nat × Nat) := (opAt c).bind fun o => match o.op with
 | .call k => (match k.callee with
  | .builtin .append => (match k.args.toList, k.argTypes.toList with
   | [x, y], t :: ts => if ts.all (fun u => (C.P.underlying u).isSome && (intK C.P u).isNone) then if effOk base (planAt C f c) o c.s.ev then o.dst.bind fun d => (c.s.heap[base + d]?).bind fun B =>
     (elemOf? C.P t).bind fun e => (szOf C.P e).bind fun s => (bytesOf C.P e).bind fun y' => (zeroD C.P e).bind fun z => if z.cells.length = s ∧ intK C.P e = none then
      some (c.s.ev x, c.s.ev y, blkAt c.s.heap (c.s.ev x), y', base + d, B.ver, s) else none else none else none
   | _, _ => none)
  | _ => none)
 | _ => none
theorem apE_op {x y : D} {B : Option Blk} {n d v m : Nat} (h : apEAt C f base c = some (x, y, B, n, d, v, m)) {r : D} {h' : Heap}
  (H : ∀ (t e : Nat) (dst : Option Tmp) (z : D), dst.map (base + ·) = some d → (c.s.heap[d]?).map (·.ver) = some v → elemOf? C.P t = some e → szOf C.P e = some m → bytesOf C.P e = some n → zeroD C.P e = some z → z.cells.length = m → intK C.P e = none → B = blkAt c.s.heap x →
   appendD C.P base dst c.s.heap t x y = some (r, h')) : OpIs C f base c r h' := by
 obtain ⟨⟨dst, op, type, pos, after, guard⟩, ho, h⟩ := op_some h
 cases op <;> simp only at h <;> try cases h
 rename_i k
 obtain ⟨cl, al, tys⟩ := k
 cases cl <;> simp only at h <;> try cases h
 rename_i bi
 cases bi <;> simp only at h <;> try cases h
 ·split at h
  ·rename_i a b t ts hb1 hb2
   obtain ⟨ha, h⟩ := if_some h
   obtain ⟨he, h⟩ := if_some h
   obtain ⟨q, hq, h⟩ := bind_some' h
   obtain ⟨B', hB, h⟩ := bind_some' h
   obtain ⟨e, hel, h⟩ := bind_some' h
   obtain ⟨s, hs, h⟩ := bind_some' h
   obtain ⟨n', hn, h⟩ := bind_some' h
   obtain ⟨z, hz, h⟩ := bind_some' h
   obtain ⟨⟨h1, h3⟩, h⟩ := if_some h
   injection h with h
   injection h with e1 h; injection h with e2 h; injection h with e3 h; injection h with e4 h; injection h with e5 h; injection h with e6 e7
   subst e4 e7
   refine ⟨_, ho, rfl, ?_⟩
   show (if effOk base _ _ _ then opW C _ _ _ _ _ _ else none) = _
   rw [if_pos he]
   have := H t e dst z (by cases hq; exact congrArg some e5) (by rw [← e5, hB]; exact congrArg some e6) hel hs hn hz h1 h3 (by rw [← e3, e1])
   rw [← e1, ← e2] at this
   simp only [opW, hb1, hb2]
   rw [if_pos ha]
   exact this
  ·cases h
theorem OpIs.apENil {enc : τ → D} {y : D} {B : Option Blk} {n d v m : Nat} {ys zs : List τ} (h : apEAt C f base c = some (.nilS, y, B, n, d, v, m)) (hs : src c.s.heap y = some (.list m (ys.map enc))) (hz : zs = ys) (hr : (ys.length + 192) * (n + 1) ≤ 70368744177664) :
  OpIs C f base c (.sref d (v + 1) m 0 ys.length) (c.s.heap.set d ⟨v + 1, false, .rows m (zs.map enc)⟩) := by
 subst hz
 refine apE_op h fun t e dst z h1 h2 h3 h4 h5 h6 h7 h8 h9 => ?_
 have hr' := roomy_of hr
 simp only [appendD, h3, h4, h5, h6, Option.bind_some, h7, if_true, hs, h8, and_self, growR, List.length_map, hr', put_of h1 h2]
theorem OpIs.apERow {enc : τ → D} {y : D} {n d dv b v w len m : Nat} {xs ys zs : List τ} (h : apEAt C f base c = some (.sref b v m 0 len, y, some ⟨w, false, .rows m (xs.map enc)⟩, n, d, dv, m)) (hs : src c.s.heap y = some (.list m (ys.map enc))) (hz : zs = xs ++ ys) (hw : w = v) (hl : len = xs.length)
  (hr : (xs.length + ys.length + 192) * (n + 1) ≤ 70368744177664) : OpIs C f base c (.sref d (dv + 1) m 0 (xs.length + ys.length)) ((kill1 c.s.heap b).set d ⟨dv + 1, false, .rows m (zs.map enc)⟩) := by
 subst hz
 refine apE_op h fun t e dst z h1 h2 h3 h4 h5 h6 h7 h8 h9 => ?_
 have h9 : c.s.heap[b]? = some ⟨w, false, .rows m (xs.map enc)⟩ := h9.symm
 have hr' := roomy_of hr
 simp only [appendD, h3, h4, h5, h6, Option.bind_some, h7, if_true, hs, h8, and_self, growR, h9, hw, hl, List.length_map, hr']
 rw [put_of h1 (kill_ver h2), List.map_append]
theorem rf_rowE {enc : τ → D} (ht : ∀ x, (enc x).cells.all (D.isT 2) = true) {h : Heap} {n b v w m : Nat} {fz : Bool} {xs : List τ} {off len : Nat} (hb : h[b]? = some ⟨w, fz, .rows m (xs.map enc)⟩) (hw : w = v) (hl : off + len ≤ xs.length) : reify h (n + 1) (.sref b v m off len) = some (.list m (((xs.drop off).take len).map enc)) := by
 have hl' : off + len ≤ (xs.map enc).length := by rw [List.length_map]; exact hl
 simp only [reify, get_of hb hw, if_true, if_pos hl']
 rw [← List.map_drop, ← List.map_take, if_pos]
 rw [List.all_eq_true]
 intro d hd
 obtain ⟨l, _, rfl⟩ := List.mem_map.1 hd
 exact ht l
theorem rf_fullE {enc : τ → D} (ht : ∀ x, (enc x).cells.all (D.isT 2) = true) {h : Heap} {n b v w m : Nat} {fz : Bool} {xs : List τ} {len : Nat} (hb : h[b]? = some ⟨w, fz, .rows m (xs.map enc)⟩) (hw : w = v) (hl : len = xs.length) : reify h (n + 1) (.sref b v m 0 len) = some (.list m (xs.map enc)) := by
 rw [rf_rowE ht hb hw (by omega), List.drop_zero, hl, List.take_length]
theorem tidy_own {h : Heap} {n b v : Nat} {fz : Bool} {y : Body} (hn : n ≤ b) (hb : h[b]? = some ⟨v + 1, fz, y⟩) : tidy h n = h := by
 unfold tidy
 rw [if_neg]
 intro hh
 rw [List.all_eq_true] at hh
 have hd : (h.drop n)[b - n]? = some ⟨v + 1, fz, y⟩ := by rw [List.getElem?_drop, show n + (b - n) = b by omega]; exact hb
 have := hh _ (List.mem_of_getElem? hd)
 simp at this
def SAnsK (C : Cx) (fn : Func) (n : Nat) (d : D) (h' : (Nat → Blk) → Heap) (x : X) (s : St) : Prop := endD C fn x s = some d ∧ ∃ eb, tidy s.heap n = h' eb
theorem SAnsK.of {fn : Func} {n b v : Nat} {fz : Bool} {y : Body} {d0 d : D} {h0 h' : (Nat → Blk) → Heap} {x : X} {s : St} (h1 : endD C fn x s = some d0) (e1 : d0 = d) (hn : Nat.ble n b = true) (hb : s.heap[b]? = some ⟨v + 1, fz, y⟩) (h2 : s.heap = h0 (fun i => s.heap.getD (n + i) noBlk)) (e2 : h0 = h') : SAnsK C fn n d h' x s :=
 ⟨e1 ▸ h1, _, by rw [tidy_own (Nat.le_of_ble_eq_true hn) hb, ← e2]; exact h2⟩
theorem W.scK {fn : Func} {ds : List D} {h : Heap} {h' : (Nat → Blk) → Heap} {d : D} {n : Nat} (hf : C.P.funcs[f]? = some fn) (hb : fn.body.isSome = true) (hok : (C.ok f && (C.plan f 999998).isEmpty) = true) (hn : h.length = n) (hl : (ds.length ≤ fn.ntmps : Bool) = true)
  (H : W C F f n (cfAt fn [] ⟨ds ++ List.replicate (fn.ntmps - ds.length) (.tuple []), h ++ List.replicate fn.ntmps noBlk⟩) (SAnsK C fn n d h')) : ∃ eb, Sc C F f ds h d (h' eb) := by
 subst hn
 obtain ⟨b, hb⟩ := Option.isSome_iff_exists.1 hb
 obtain ⟨H⟩ := H
 unfold cfAt at H
 rw [hb] at H
 simp only [posIn_nil] at H
 obtain ⟨x, s, h1, h2, eb, h3⟩ := H
 refine ⟨eb, .succ (h1.to fun k hk => ?_)⟩
 rw [Bool.and_eq_true] at hok
 rw [run, hf, Option.bind_some, hb, Option.bind_some, if_pos ⟨hok.1, of_decide_eq_true hl⟩, if_neg (by simp [hok.2])]
 have hk' : exec C F k f h.length b ⟨ds ++ List.replicate (fn.ntmps - ds.length) (.tuple []), h ++ List.replicate fn.ntmps noBlk⟩ = some (x, s) := hk
 rw [hk', Option.bind_some]
 cases x with
 | exit id => simp [endD] at h2
 | normal => simp only [endD] at h2; simp only [h2, Option.map_some, h3]
 | ret => simp only [endD] at h2; simp only [h2, Option.map_some, h3]
theorem W.sharedK {g : FuncId} {ds : List D} {d : D} {P : (Nat → Blk) → Heap} {P' : (Nat → Blk) → (Nat → Blk) → Heap} (hc : shAt C c = some (g, ds)) (hp : (planAt C f c).isEmpty = true) (hh : c.s.heap = P (fun i => c.s.heap.getD i noBlk)) (hr : ∀ cb, ∃ eb, Sc C F g ds (P cb) d (P' cb eb))
  (H : ∀ eb, W C F f base (putC c d (P' (fun i => c.s.heap.getD i noBlk) eb)) Q) : W C F f base c Q := by
 obtain ⟨eb, h⟩ := hr (fun i => c.s.heap.getD i noBlk)
 exact W.shared hc hp hh h (H eb)
end
end Go.Proofs.YtjcdkemnflmfiaaGreatA
namespace Go.Proofs.YtjcdkemnflmfiaaGreatA
open Go
def mget {κ ν : Type} [DecidableEq κ] (k : κ) : List (κ × ν) → Option ν
 | [] => none
 | p :: L => if k = p.1 then some p.2 else mget k L
def mput {κ ν : Type} [DecidableEq κ] (k : κ) (v : ν) : List (κ × ν) → List (κ × ν)
 | [] => [(k, v)]
 | p :: L => if k = p.1 then (k, v) :: L else p :: mput k v L
theorem mget_put {κ ν : Type} [DecidableEq κ] (k k' : κ) (v : ν) : ∀ L : List (κ × ν), mget k' (mput k v L) = if k' = k then some v else mget k' L
 | [] => by simp [mput, mget]
 | p :: L => by
  unfold mput
  by_cases h : k = p.1
  ·rw [if_pos h]
   by_cases h2 : k' = k
   ·simp [mget, h2]
   ·simp [mget, h2, ← h]
  ·rw [if_neg h]
   by_cases h2 : k' = p.1
   ·have h3 : ¬ k' = k := fun e => h (e.symm.trans h2)
    simp only [mget, if_pos h2, if_neg h3]
   ·simp only [mget, if_neg h2, mget_put k k' v L]
section
variable {κ ν : Type} [DecidableEq κ] {ek : κ → D} {ev : ν → D} {kd : TypeDesc}
abbrev mrow (ek : κ → D) (ev : ν → D) (L : List (κ × ν)) : List (D × D) := L.map fun p => (ek p.1, ev p.2)
theorem findD_none (hs : ∀ a b, sameD kd (ek a) (ek b) = some (decide (a = b))) (k : κ) : ∀ (L : List (κ × ν)) (i : Nat), mget k L = none → findD kd (ek k) (mrow ek ev L) i = some none
 | [], i, _ => rfl
 | p :: L, i, h => by
  unfold mget at h
  by_cases hk : k = p.1
  ·rw [if_pos hk] at h; cases h
  ·rw [if_neg hk] at h
   show findD kd (ek k) ((ek p.1, ev p.2) :: mrow ek ev L) i = some none
   rw [findD, hs, decide_eq_false hk]
   exact findD_none hs k L (i + 1) h
theorem findD_some (hs : ∀ a b, sameD kd (ek a) (ek b) = some (decide (a = b))) (k : κ) (x : ν) : ∀ (L : List (κ × ν)) (i : Nat) {v : ν}, mget k L = some v → ∃ j, findD kd (ek k) (mrow ek ev L) i = some (some (i + j, ev v)) ∧ (mrow ek ev L).set j (ek k, ev x) = mrow ek ev (mput k x L)
 | [], i, v, h => by cases h
 | p :: L, i, v, h => by
  unfold mget at h
  show ∃ j, findD kd (ek k) ((ek p.1, ev p.2) :: mrow ek ev L) i = _ ∧ ((ek p.1, ev p.2) :: mrow ek ev L).set j _ = _
  by_cases hk : k = p.1
  ·rw [if_pos hk] at h; cases h
   refine ⟨0, ?_, ?_⟩
   ·rw [findD, hs, decide_eq_true hk]; rfl
   ·unfold mput; rw [if_pos hk]; rfl
  ·rw [if_neg hk] at h
   obtain ⟨j, h1, h2⟩ := findD_some hs k x L (i + 1) h
   refine ⟨j + 1, ?_, ?_⟩
   ·rw [findD, hs, decide_eq_false hk]
    simp only [h1]
    rw [show i + 1 + j = i + (j + 1) by omega]
   ·unfold mput; rw [if_neg hk, List.set_cons_succ, h2]; rfl
theorem mput_none {k : κ} {x : ν} : ∀ {L : List (κ × ν)}, mget k L = none → mput k x L = L ++ [(k, x)]
 | [], _ => rfl
 | p :: L, h => by
  unfold mget at h
  by_cases hk : k = p.1
  ·rw [if_pos hk] at h; cases h
  ·rw [if_neg hk] at h
   unfold mput
   rw [if_neg hk, mput_none h]; rfl
end
theorem sameD_str (a b : ByteArray) : sameD .string (.str a) (.str b) = some (decide (a = b)) := by
 show some (a == b) = _
 by_cases h : a = b
 ·subst h; simp [(MapKept.bytes_beq a a).2 rfl]
 ·rw [decide_eq_false h]
  cases hb : a == b with
  | true => exact absurd ((MapKept.bytes_beq a b).1 hb) h
  | false => rfl
theorem sameD_int (k : IntKind) (a b : Int) : sameD (.int k) (.int k a) (.int k b) = some (decide (a = b)) := by
 show (if k = k ∧ k = k then some (a == b) else none) = _
 rw [if_pos ⟨rfl, rfl⟩]
 by_cases h : a = b
 ·subst h; simp
 ·rw [decide_eq_false h, beq_false_of_ne h]
section
variable {C : Cx} {F : Forget} {f base : Nat} {c : Cf} {Q : X → St → Prop} {κ ν : Type} [DecidableEq κ] {ek : κ → D} {ev : ν → D}
def mblkAt (h : Heap) (d : D) : Option Blk := match d with | .mref b _ => h[b]? | _ => none
def lkAt (C : Cx) (f base : Nat) (c : Cf) : Option (D × D × Option Blk × TypeDesc × D × Bool) := (opAt c).bind fun o => match o.op with
 | .lookup t m k ok => (C.P.underlying t).bind fun u => match u with
  | .map kt et => (C.P.underlying kt).bind fun kd => (zeroD C.P et).map fun z => (c.s.ev m, c.s.ev k, mblkAt (maskH base (planAt C f c) c.s.heap) (c.s.ev m), kd, z, ok)
  | _ => none
 | _ => none
theorem lk_op {m k : D} {kd : TypeDesc} {z : D} {ok : Bool} {B : Option Blk} (h : lkAt C f base c = some (m, k, B, kd, z, ok)) {r : D}
  (H : ∀ h : Heap, B = mblkAt h m → (if sameD kd k k = some true then (mapAt h m).bind fun es => (findD kd k es 0).map fun r => match r with
   | some (_, v) => if ok then .tuple [v, .bool true] else v
   | none => if ok then .tuple [z, .bool false] else z
   else none) = some r) : OpIs C f base c r c.s.heap := by
 obtain ⟨⟨dst, op, type, pos, after, guard⟩, ho, h⟩ := op_some h
 cases op <;> simp only at h <;> try cases h
 rename_i t mo ko ok'
 obtain ⟨u, hu, h⟩ := bind_some' h
 split at h <;> try cases h
 rename_i kt et
 obtain ⟨kd', hkd, h⟩ := bind_some' h
 obtain ⟨z', hz, h⟩ := map_some' h
 injection h with h1 h; injection h with h2 h; injection h with h3 h; injection h with h4 h; injection h with h5 h6
 subst h1 h2 h4 h5 h6
 refine ⟨_, ho, rfl, ?_⟩
 show (opR C _ _ _ _).map _ = _
 have := H _ h3.symm
 simp only [opR, lookD, hu, hkd, hz, Option.bind_some]
 by_cases hs : sameD kd' (c.s.ev ko) (c.s.ev ko) = some true
 case neg => rw [if_neg hs] at this; cases this
 rw [if_pos hs] at this ⊢
 exact congrArg (Option.map fun d => (d, c.s.heap)) this
theorem OpIs.lkNone {kd : TypeDesc} {z : D} {ok fz : Bool} {b v w : Nat} {k : κ} {L : List (κ × ν)} {r : D} (h : lkAt C f base c = some (.mref b v, ek k, some ⟨w, fz, .map (mrow ek ev L)⟩, kd, z, ok)) (hw : w = v) (hs : ∀ a b, sameD kd (ek a) (ek b) = some (decide (a = b)))
  (hL : mget k L = none) (hr : r = if ok then .tuple [z, .bool false] else z) : OpIs C f base c r c.s.heap := by
 subst hr
 refine lk_op h fun hp hb => ?_
 have hm : mapAt hp (.mref b v) = some (mrow ek ev L) := by
  have hb' : hp[b]? = some ⟨w, fz, .map (mrow ek ev L)⟩ := hb.symm
  simp [mapAt, Heap.get, hb', hw]
 rw [if_pos (by rw [hs]; simp), hm, Option.bind_some, findD_none hs k L 0 hL]
 rfl
theorem OpIs.lkSome {kd : TypeDesc} {z : D} {ok fz : Bool} {b v w : Nat} {k : κ} {x : ν} {L : List (κ × ν)} {r : D} (h : lkAt C f base c = some (.mref b v, ek k, some ⟨w, fz, .map (mrow ek ev L)⟩, kd, z, ok)) (hw : w = v) (hs : ∀ a b, sameD kd (ek a) (ek b) = some (decide (a = b)))
  (hL : mget k L = some x) (hr : r = if ok then .tuple [ev x, .bool true] else ev x) : OpIs C f base c r c.s.heap := by
 subst hr
 refine lk_op h fun hp hb => ?_
 have hm : mapAt hp (.mref b v) = some (mrow ek ev L) := by
  have hb' : hp[b]? = some ⟨w, fz, .map (mrow ek ev L)⟩ := hb.symm
  simp [mapAt, Heap.get, hb', hw]
 obtain ⟨j, h1, _⟩ := findD_some (ev := ev) hs k x L 0 hL
 rw [if_pos (by rw [hs]; simp), hm, Option.bind_some, h1]
 rfl
abbrev mks (ek : κ → D) (L : List (κ × ν)) : List D := L.map fun p => ek p.1
abbrev mvs (ev : ν → D) (L : List (κ × ν)) : List D := L.map fun p => ev p.2
omit [DecidableEq κ] in
theorem mapAt_lit (h : Heap) (L : List (κ × ν)) : mapAt h (.mlit (mks ek L) (mvs ev L)) = some (mrow ek ev L) := by
 show some (List.zip _ _) = _
 rw [mks, mvs, List.zip_map', mrow]
theorem OpIs.lkSomeF {kd : TypeDesc} {z : D} {ok : Bool} {k : κ} {x : ν} {L : List (κ × ν)} {r : D} (h : lkAt C f base c = some (.mlit (mks ek L) (mvs ev L), ek k, none, kd, z, ok)) (hs : ∀ a b, sameD kd (ek a) (ek b) = some (decide (a = b)))
  (hL : mget k L = some x) (hr : r = if ok then .tuple [ev x, .bool true] else ev x) : OpIs C f base c r c.s.heap := by
 subst hr
 refine lk_op h fun hp hb => ?_
 obtain ⟨j, h1, _⟩ := findD_some (ev := ev) hs k x L 0 hL
 rw [if_pos (by rw [hs]; simp), mapAt_lit, Option.bind_some, h1]
 rfl
omit [DecidableEq κ] in
theorem rf_map {h : Heap} {n b v w : Nat} {fz : Bool} {L : List (κ × ν)} (hk : ∀ x, (ek x).isT 2 = true) (hv : ∀ x, (ev x).isT 2 = true) (hb : h[b]? = some ⟨w, fz, .map (mrow ek ev L)⟩) (hw : w = v) :
  reify h (n + 1) (.mref b v) = some (.mlit (mks ek L) (mvs ev L)) := by
 have hg : h.get b v = .map (mrow ek ev L) := by simp [Heap.get, hb, hw]
 simp only [reify, hg]
 rw [if_pos (by
  rw [List.all_eq_true]
  intro e he
  obtain ⟨x, _, rfl⟩ := List.mem_map.1 he
  simp only [hk, hv, Bool.and_self])]
 simp only [mks, mvs, mrow, List.map_map, Function.comp_def]
def muAt (C : Cx) (f base : Nat) (c : Cf) : Option (D × D × D × Option Blk × TypeDesc) := (opAt c).bind fun o => match o.op with
 | .mapUpdate t m k x => if effOk base (planAt C f c) o c.s.ev then (C.P.underlying t).bind fun u => match u with
  | .map kt et => (C.P.underlying kt).map fun kd => (c.s.ev m, c.s.ev k, c.s.ev x, mblkAt c.s.heap (c.s.ev m), kd)
  | _ => none
  else none
 | _ => none
theorem OpIs.mu {kd : TypeDesc} {b v w : Nat} {k : κ} {x : ν} {L L' : List (κ × ν)} (h : muAt C f base c = some (.mref b v, ek k, ev x, some ⟨w, false, .map (mrow ek ev L)⟩, kd)) (hL : L' = mput k x L) (hw : w = v) (hs : ∀ a b, sameD kd (ek a) (ek b) = some (decide (a = b))) :
  OpIs C f base c (.tuple []) (c.s.heap.set b ⟨w, false, .map (mrow ek ev L')⟩) := by
 subst hL
 obtain ⟨⟨dst, op, type, pos, after, guard⟩, ho, h⟩ := op_some h
 cases op <;> simp only at h <;> try cases h
 rename_i t mo ko xo
 obtain ⟨he, h⟩ := if_some h
 obtain ⟨u, hu, h⟩ := bind_some' h
 split at h <;> try cases h
 rename_i kt et
 obtain ⟨kd', hkd, h⟩ := map_some' h
 injection h with h1 h; injection h with h2 h; injection h with h3 h; injection h with h4 h5
 rw [h1] at h4
 have h4 : c.s.heap[b]? = some ⟨w, false, .map (mrow ek ev L)⟩ := h4
 subst h5
 refine ⟨_, ho, rfl, ?_⟩
 show (if effOk base (planAt C f c) _ c.s.ev = true then opW C _ _ base _ _ _ else none) = _
 rw [if_pos he]
 simp only [opW, updD, h1, h2, h3, hu, hkd, Option.bind_some, h4]
 rw [if_pos ⟨hw, trivial⟩, if_pos (by rw [hs]; simp)]
 cases hg : mget k L with
 | none =>
  rw [findD_none hs k L 0 hg]
  simp only [Option.map_some]
  rw [mput_none hg, mrow, mrow, List.map_append]
  rfl
 | some y =>
  obtain ⟨j, g1, g2⟩ := findD_some (ev := ev) hs k x L 0 hg
  rw [g1]
  simp only [Option.map_some, Nat.zero_add]
  rw [g2]
end
end Go.Proofs.YtjcdkemnflmfiaaGreatA
namespace Go.Proofs.YtjcdkemnflmfiaaGreatA
open Go Go.Proofs
end Go.Proofs.YtjcdkemnflmfiaaGreatA
namespace Go.Proofs.YtjcdkemnflmfiaaGreatA
open Go
section
variable {C : Cx} {F : Forget} {f base : Nat} {c : Cf} {Q : X → St → Prop} {τ : Type}
def bsAt (C : Cx) (base : Nat) (c : Cf) : Option (TypeId × Nat × List Nat × List D) := (opAt c).bind fun o => match o.op with
 | .buildSlice t len parts => if leads C.P t && (!drawAt c || marked C t) then if effOk base (planAt C f c) o c.s.ev then some (t, len, parts.toList.map (·.1), parts.toList.map fun p => c.s.ev p.2) else none else none
 | _ => none
theorem OpIs.bs {t len : Nat} {is : List Nat} {vs es : List D} {d : D} {h' : Heap} (h : bsAt (f := f) C base c = some (t, len, is, vs)) (hr : vs.mapM (reify c.s.heap DEPTH) = some es) (hb : buildL C.P t len (is.zip es) = some d) (hh : freeze c.s.heap (vs.flatMap (reach c.s.heap DEPTH)) = h') :
  OpIs C f base c d h' := by
 obtain ⟨⟨dst, op, type, pos, after, guard⟩, ho, h⟩ := op_some h
 cases op <;> simp only at h <;> try cases h
 rename_i t' len' parts
 obtain ⟨hld, h⟩ := if_some h
 obtain ⟨he, h⟩ := if_some h
 injection h with h
 injection h with h1 h; injection h with h2 h; injection h with h3 h4
 subst h1 h2 h3 h4
 refine ⟨_, ho, rfl, ?_⟩
 unfold opv
 have hcls : cls C (drawAt c) { dst := dst, op := Op.buildSlice t' len' parts, type := type, pos := pos, after := after, guard := guard } = .W := by
  show (if leads C.P t' && (!drawAt c || marked C t') then Cls.W else .P) = .W
  rw [if_pos hld]
 rw [hcls]
 show (if effOk base (planAt C f c) _ c.s.ev = true then opW C _ _ base _ _ _ else none) = _
 rw [if_pos he]
 simp only [opW, hr, Option.bind_some, hb, Option.map_some, hh]
theorem W.opF {d : D} {h' : Heap} (ho : OpIs C f base c d h') (H : W C F f base (putC c d h') Q) : W C F f base c Q := ⟨G.op ho H.h⟩
theorem rf_prefV {h : Heap} {m b v w i off n : Nat} {fz : Bool} {xs : List D} {d : D} {cs : List D} (hb : h[b]? = some ⟨w, fz, .rows n xs⟩) (hw : w = v) (hd : xs[i]? = some d) (hc : (d.cells.drop off).mapM (reify h m) = some cs) : reify h (m + 1) (.pref b v i off) = some (.ptr cs) := by
 have hg := get_of (h := h) hb hw
 simp only [reify, cellsAt, hg, hd, Option.map_some, Option.bind_some, hc]
theorem rf_fn {h : Heap} {m f : Nat} {a c a' c' : List D} (ha : a.mapM (reify h m) = some a') (hc : c.mapM (reify h m) = some c') : reify h (m + 1) (.fn f a c) = some (.fn f a' c') := by
 simp only [reify, ha, hc, Option.bind_some, Option.map_some]
end
end Go.Proofs.YtjcdkemnflmfiaaGreatA
namespace Go.Proofs.YtjcdkemnflmfiaaGreatA
open Go
section
variable {C : Cx} {F : Forget} {f base : Nat} {c : Cf} {Q : X → St → Prop} {τ : Type}
def slTAt (C : Cx) (c : Cf) : Option (ByteArray × Option D × Option D) := (opAt c).bind fun o => match o.op with
 | .slice t x lo hi none => match C.P.underlying t, c.s.ev x with
  | some .string, .str s => some (s, lo.map c.s.ev, hi.map c.s.ev)
  | _, _ => none
 | _ => none
theorem OpIs.slT {s : ByteArray} {lo hi : Option D} {a b : Nat} (h : slTAt C c = some (s, lo, hi)) (hb : boundD hi s.size s.size = some b) (ha : boundD lo 0 b = some a) : OpIs C f base c (.str (s.extract a b)) c.s.heap := by
 obtain ⟨⟨dst, op, type, pos, after, guard⟩, ho, h⟩ := op_some h
 cases op <;> simp only at h <;> try cases h
 rename_i t x l h' m
 cases m <;> simp only at h <;> try cases h
 split at h <;> try (cases h; done)
 rename_i s' hu hx
 injection h with h; injection h with h1 h; injection h with h2 h3
 subst h1 h2 h3
 refine ⟨_, ho, rfl, ?_⟩
 show (opP C _ _).map _ = _
 simp only [opP, sliceD, hx, D.bare, hu, hb, ha, Option.bind_some, Option.map_some, Option.map_none]
theorem OpIs.slT_hi {k' : IntKind} {s : ByteArray} {i : Int} (h : slTAt C c = some (s, none, some (.int k' i))) (h0 : 0 ≤ i) (h1 : i ≤ (s.size : Int)) : OpIs C f base c (.str (s.extract 0 i.toNat)) c.s.heap :=
 OpIs.slT h (bound_some h0 h1) (bound_none _ _)
def Opt {τ : Type} (enc : τ → D) (b m : Nat) (o : D) (B : Blk) (L : List τ) : Prop := (o = .nilS ∧ L = []) ∨ ∃ v, o = .sref b (v + 1) m 0 L.length ∧ B = ⟨v + 1, false, .rows m (L.map enc)⟩
theorem Opt.nil {enc : τ → D} {b m : Nat} {B : Blk} : Opt enc b m .nilS B [] := .inl ⟨rfl, rfl⟩
theorem Opt.row {enc : τ → D} {b m v w len : Nat} {L : List τ} (hv : v = w + 1) (hl : len = L.length) : Opt enc b m (.sref b v m 0 len) ⟨v, false, .rows m (L.map enc)⟩ L := .inr ⟨w, by rw [hv, hl], by rw [hv]⟩
end
end Go.Proofs.YtjcdkemnflmfiaaGreatA
namespace Go.Proofs.YtjcdkemnflmfiaaGreatA
open Go
section
variable {C : Cx} {F : Forget} {f base : Nat} {c : Cf} {Q : X → St → Prop} {τ : Type}
def J {α : Type} (f : Nat → α) (a : Nat) : Nat → List α
 | 0 => []
 | n + 1 => f a :: J f (a + 1) n
theorem W.ct (p : Prop) [Decidable p] (h : p) (H : W C F f base (goC c true) Q) (e : condAt c = some (decide p) := by kernel_rfl) : W C F f base c Q := W.cond true e (decide_eq_true h) H
theorem W.cf (p : Prop) [Decidable p] (h : ¬p) (H : W C F f base (goC c false) Q) (e : condAt c = some (decide p) := by kernel_rfl) : W C F f base c Q := W.cond false e (decide_eq_false h) H
theorem W.gt (p : Prop) [Decidable p] (h : p) (H : W C F f base (goG c true) Q) (e : guardAt c = some (decide p == true) := by kernel_rfl) : W C F f base c Q := W.guard true e (congrArg (fun b => b == true) (decide_eq_true h)) H
theorem W.gf (p : Prop) [Decidable p] (h : ¬p) (H : W C F f base (goG c false) Q) (e : guardAt c = some (decide p == true) := by kernel_rfl) : W C F f base c Q := W.guard false e (congrArg (fun b => b == true) (decide_eq_false h)) H
theorem W.gt' (p : Prop) [Decidable p] (h : p) (H : W C F f base (goG c false) Q) (e : guardAt c = some (decide p == false) := by kernel_rfl) : W C F f base c Q := W.guard false e (congrArg (fun b => b == false) (decide_eq_true h)) H
theorem W.gf' (p : Prop) [Decidable p] (h : ¬p) (H : W C F f base (goG c true) Q) (e : guardAt c = some (decide p == false) := by kernel_rfl) : W C F f base c Q := W.guard true e (congrArg (fun b => b == false) (decide_eq_false h)) H
theorem Ans.o {fn : Func} {e : D} {x : X} {s : St} (d : D) (he : d = e) (h : endD C fn x s = some d := by kernel_rfl) (hr : reify (tidy s.heap 0) DEPTH d = some d := by kernel_rfl) (hn : normR C.P fn.resultTypes.toList d = d := by kernel_rfl) : Ans C fn e x s := Ans.of h hr hn he
theorem W.cl (g : FuncId) (ds : List D) (r : D) {es : List D} (hi : Ic C F g es r) (H : W C F f base (putR c ds r) Q) (h : callAt C c = some (g, ds) := by kernel_rfl) (hr : ds.mapM (reify (hpAt C f base c) DEPTH) = some ds := by kernel_rfl)
  (ha : (C.P.funcs[g]?).map (fun fn => nargs C fn es) = (C.P.funcs[g]?).map (fun fn => nargs C fn ds) := by kernel_rfl) (hm : mayC C f c ds r = true := by kernel_rfl) : W C F f base c Q := W.callR h hr (hi.args ha) hm H
theorem W.fr {Q : X → St → Prop} (H : Q .ret c.s) (e : outAt c = some .ret := by kernel_rfl) : W C F f base c Q := W.fin e H
theorem W.tl {P : (Nat → D) → (Nat → Blk) → (Nat → Nat) → Cf} (H : ∀ j jb vs, W C F f base (P j jb vs) Q)
  (e : c = P (fun i => c.s.tmps.getD i .top) (fun i => c.s.heap.getD i noBlk) (fun i => (c.s.heap.getD i noBlk).ver - 1) := by kernel_rfl) : W C F f base c Q := W.to_loop H e
theorem O.ldV (b v i off n s : Nat) (fz a : Bool) (xs : List D) (r : D) (h : ldAt C f base c = some (.pref b v i off, some ⟨v, fz, .rows n xs⟩, a, s) := by kernel_rfl) (hr : (xs[i]?).bind (fun d => ldCells a s (d.cells.drop off)) = some r := by kernel_rfl) : OpIs C f base c r c.s.heap := OpIs.ldV h rfl hr
theorem O.stV (b v i off n s : Nat) (xs ys : List D) (d y : D) (h : stAt C f base c = some (.pref b v i off, some ⟨v, false, .rows n xs⟩, y, s) := by kernel_rfl) (hd : xs[i]? = some d := by kernel_rfl) (hy : y.cells.length = s := by kernel_rfl) (ho : Nat.ble (off + s) d.cells.length = true := by kernel_rfl) (h1 : y.cells.all D.one = true := by kernel_rfl)
  (hs : ys = xs.set i (if off = 0 ∧ s = n then y else .agg (upd d.cells off y.cells)) := by kernel_rfl) : OpIs C f base c (.tuple []) (c.s.heap.set b ⟨v, false, .rows n ys⟩) := OpIs.stV h rfl hd hy (Nat.le_of_ble_eq_true ho) h1 hs
theorem O.ln (L : List τ) (enc : τ → D) (h : lnAt C c = some (L.map enc).length := by kernel_rfl) : OpIs C f base c (.int .i64 (L.length : Int)) c.s.heap := OpIs.ln h (List.length_map _)
theorem O.ixE (enc : τ → D) (n : Nat) (k' : IntKind) (L : List τ) (i : Int) (d0 x : τ) (h0 : 0 ≤ i) (h1 : i < (L.length : Int)) (hx : L.getD i.toNat d0 = x) (h : ixAt C c = some (.list n (L.map enc), .int k' i, n) := by kernel_rfl) : OpIs C f base c (.ptr (enc x).cells) c.s.heap := OpIs.ixE h h0 h1 hx
theorem O.ixI (k k' : IntKind) (xs : List Int) (i : Int) (h0 : 0 ≤ i) (h1 : i < (xs.length : Int)) (h : ixAt C c = some (.ints k xs, .int k' i, 1) := by kernel_rfl) : OpIs C f base c (.ptr [.int k (xs.getD i.toNat 0)]) c.s.heap := OpIs.ixI h h0 h1
theorem Ans.q {fn : Func} {e : D} {x : X} {s : St} (e' : D) (he : e' = e) (h : ((endD C fn x s).bind fun d => (reify (tidy s.heap 0) DEPTH d).map (normR C.P fn.resultTypes.toList)) = some e' := by kernel_rfl) : Ans C fn e x s := by
 obtain ⟨d, h1, h2⟩ := Option.bind_eq_some_iff.1 h
 obtain ⟨d', h3, h4⟩ := Option.map_eq_some_iff.1 h2
 exact Ans.of h1 h3 h4 he
theorem W.ii {fn : Func} {ds : List D} {e : D} (hf : C.P.funcs[f]? = some fn) (H : W C F f 0 (cfAt fn [] (start fn ds)) (Ans C fn e)) (hb : fn.body.isSome = true := by kernel_rfl) (hok : (C.ok f && (C.plan f 999998).isEmpty) = true := by kernel_rfl) (hz : nargs C fn ds = ds := by kernel_rfl) (hl : (ds.length ≤ fn.ntmps : Bool) = true := by kernel_rfl) : Ic C F f ds e := W.ic hf hb hok hz hl H
theorem W.li {fn : Func} {zs : List D} {z : Bool} (hf : C.P.funcs[f]? = some fn) (H : W C F f 0 (cfAt fn [] (start fn zs)) (LAns C fn z)) (hb : fn.body.isSome = true := by kernel_rfl) (hok : (C.ok f && (C.plan f 999998).isEmpty) = true := by kernel_rfl) (hl : (zs.length ≤ fn.ntmps : Bool) = true := by kernel_rfl) : LawIs C F f zs z := W.lawIs hf hb hok hl H
theorem W.cb (v w : Bool) (hw : w = v) (H : W C F f base (goC c v) Q) (h : condAt c = some w := by kernel_rfl) : W C F f base c Q := W.cond v h hw H
theorem W.gb (v w : Bool) (hw : w = v) (H : W C F f base (goG c v) Q) (h : guardAt c = some w := by kernel_rfl) : W C F f base c Q := W.guard v h hw H
theorem O.apENil (enc : τ → D) (y : D) (n d v m : Nat) (ys : List τ) {zs : List τ} (hz : zs = ys) (hr : (ys.length + 192) * (n + 1) ≤ 70368744177664) (hs : src c.s.heap y = some (.list m (ys.map enc)) := by kernel_rfl) (h : apEAt C f base c = some (.nilS, y, none, n, d, v, m) := by kernel_rfl) :
  OpIs C f base c (.sref d (v + 1) m 0 ys.length) (c.s.heap.set d ⟨v + 1, false, .rows m (zs.map enc)⟩) := OpIs.apENil h hs hz hr
theorem O.apERow (enc : τ → D) (y : D) (n d dv b v len m : Nat) (xs ys : List τ) {zs : List τ} (hz : zs = xs ++ ys) (hl : len = xs.length) (hr : (xs.length + ys.length + 192) * (n + 1) ≤ 70368744177664) (hs : src c.s.heap y = some (.list m (ys.map enc)) := by kernel_rfl) (h : apEAt C f base c = some (.sref b v m 0 len, y, some ⟨v, false, .rows m (xs.map enc)⟩, n, d, dv, m) := by kernel_rfl) :
  OpIs C f base c (.sref d (dv + 1) m 0 (xs.length + ys.length)) ((kill1 c.s.heap b).set d ⟨dv + 1, false, .rows m (zs.map enc)⟩) := OpIs.apERow h hs hz rfl hl hr
theorem O.apNil (y : D) (n d v : Nat) (k : IntKind) (ys : List Int) {zs : List Int} (hz : zs = ys) (hr : (ys.length + 192) * (n + 1) ≤ 70368744177664) (hs : src c.s.heap y = some (.ints k ys) := by kernel_rfl) (h : apAt C f base c = some (.nilS, y, none, n, d, v) := by kernel_rfl) :
  OpIs C f base c (.sref d (v + 1) 1 0 ys.length) (c.s.heap.set d ⟨v + 1, false, .ints k zs⟩) := OpIs.apNil h hs hz hr
theorem O.apRow (y : D) (n d dv b v len : Nat) (k : IntKind) (xs ys : List Int) {zs : List Int} (hz : zs = xs ++ ys) (hl : len = xs.length) (hr : (xs.length + ys.length + 192) * (n + 1) ≤ 70368744177664) (hs : src c.s.heap y = some (.ints k ys) := by kernel_rfl) (h : apAt C f base c = some (.sref b v 1 0 len, y, some ⟨v, false, .ints k xs⟩, n, d, dv) := by kernel_rfl) :
  OpIs C f base c (.sref d (dv + 1) 1 0 (xs.length + ys.length)) ((kill1 c.s.heap b).set d ⟨dv + 1, false, .ints k zs⟩) := OpIs.apRow h hs hz rfl hl hr
theorem O.pk (t v : Bool) (x y : D) (hv : t = v) (h : pkAt c = some (t, x, y) := by kernel_rfl) : OpIs C f base c (match v with | true => x | false => y) c.s.heap := OpIs.pk v h hv
theorem O.ixR (k' : IntKind) (b v sz len : Nat) (i : Int) (h0 : 0 ≤ i) (h1 : i < (len : Int)) (h : ixAt C c = some (.sref b v sz 0 len, .int k' i, sz) := by kernel_rfl) : OpIs C f base c (.pref b v i.toNat 0) c.s.heap := OpIs.ixR h h0 h1
end
end Go.Proofs.YtjcdkemnflmfiaaGreatA
