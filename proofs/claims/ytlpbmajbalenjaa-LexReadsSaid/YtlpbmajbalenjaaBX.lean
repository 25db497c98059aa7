/- The program as the shadow sees it, and short names. -/
import Derived.Test.YtlpbmajbalenjaaB2
import Derived.Test.YtlpbmajbalenjaaProg
import Derived.Test.YtlpbmajbalenjaaChecked
import Derived.KernelRfl
set_option linter.unusedVariables false
set_option linter.unusedSimpArgs false
namespace Go.Proofs.YtlpbmajbalenjaaA
open Go Go.Proofs
noncomputable def C : Cx := ⟨Try.prog, fun f => f == 16 || f == 17 || f == 21 || f == 22 || f == 25 || f == 26 || f == 27 || f == 35, fun f r => if f == 6 && r == 18 then [(3, [203]), (6, [203])] else if f == 13 && r == 10 then [(1, [2]), (2, [2]), (3, [3]), (4, [4])] else if f == 16 && r == 999996 then [(0, [])] else if f == 16 && r == 999999 then [(0, [])] else if f == 17 && r == 999996 then [(0, [])] else if f == 17 && r == 999999 then [(0, [])] else if f == 21 && r == 999996 then [(0, [])] else if f == 21 && r == 999999 then [(0, [])] else if f == 25 && r == 999996 then [(0, [])] else if f == 25 && r == 999999 then [(0, [])] else if f == 26 && r == 999996 then [(0, [])] else if f == 26 && r == 999999 then [(0, [])] else if f == 27 && r == 999996 then [(0, [])] else if f == 27 && r == 999999 then [(0, [])] else if f == 35 && r == 999996 then [(0, [])] else if f == 35 && r == 999999 then [(0, [])] else if f == 22 && r == 1000182 then [(0, [])] else if f == 22 && r == 999999 then [(0, [])] else [], fun f => !(f == 13 || f == 48), lexOrc Try.prog ⟨13, 43, 44, 45, 46, 48⟩⟩
def F : Forget := fun _ _ => ([], [])
abbrev wi (n : Int) : Int := IntKind.wrap .i64 n
abbrev wu (n : Int) : Int := IntKind.wrap .u64 n
def mn (a b : Int) : Int := if b < a then b else a
structure W (C : Cx) (F : Forget) (f base : Nat) (c : Cf) (Q : X → St → Prop) : Prop where
 h : G C F f base c Q
section
variable {C : Cx} {F : Forget} {f base : Nat} {c : Cf} {Q : X → St → Prop}
theorem W.adv (n : Nat) (H : W C F f base (steps C F f base n c) Q) : W C F f base c Q := ⟨G.adv n H.h⟩
theorem W.guard {w : Bool} (v : Bool) (h : guardAt c = some w) (hw : w = v) (H : W C F f base (goG c v) Q) : W C F f base c Q := ⟨G.guard v h hw H.h⟩
theorem W.cond {w : Bool} (v : Bool) (h : condAt c = some w) (hw : w = v) (H : W C F f base (goC c v) Q) : W C F f base c Q := ⟨G.cond v h hw H.h⟩
theorem W.opS {d : D} (ho : OpIs C f base c d c.s.heap) (H : W C F f base (putS c d) Q) : W C F f base c Q := ⟨G.op ho H.h⟩
theorem W.opH {d : D} {b : Nat} {B : Blk} (ho : OpIs C f base c d (c.s.heap.set b B)) (H : W C F f base (putH c d b B) Q) : W C F f base c Q := ⟨G.op ho H.h⟩
theorem W.callR {g : FuncId} {ds es : List D} {r : D} (h : callAt C c = some (g, ds)) (hr : ds.mapM (reify (hpAt C f base c) DEPTH) = some es) (hi : Ic C F g es r)
  (hm : mayC C f c ds r = true) (H : W C F f base (putR c ds r) Q) : W C F f base c Q := ⟨G.call h hr hi hm H.h⟩
theorem W.fin {x : X} (e : outAt c = some x) (H : Q x c.s) : W C F f base c Q := ⟨G.fin e H⟩
theorem W.to_loop {P : (Nat → D) → (Nat → Blk) → (Nat → Nat) → Cf} (H : ∀ j jb vs, W C F f base (P j jb vs) Q)
  (e : c = P (fun i => c.s.tmps.getD i .top) (fun i => c.s.heap.getD i noBlk) (fun i => (c.s.heap.getD i noBlk).ver - 1)) : W C F f base c Q := ⟨G.same (H _ _ _).h e⟩
theorem W.ic {fn : Func} {ds zs : List D} {e : D} (hf : C.P.funcs[f]? = some fn) (hb : fn.body.isSome = true) (hok : (C.ok f && (C.plan f 999998).isEmpty) = true) (hz : nargs C fn ds = zs) (hl : (zs.length ≤ fn.ntmps : Bool) = true) (H : W C F f 0 (cfAt fn [] (start fn zs)) (Ans C fn e)) : Ic C F f ds e :=
 Ic.of hf hb hok hz hl H.h
end
def LawIs (C : Cx) (F : Forget) (f : FuncId) (zs : List D) (z : Bool) : Prop := ∃ k h', run C F k f zs [] = some (.bool z, h')
def LAns (C : Cx) (fn : Func) (z : Bool) (x : X) (s : St) : Prop := endD C fn x s = some (.bool z)
theorem LAns.of {C : Cx} {fn : Func} {z : Bool} {x : X} {s : St} {d : D} (h : endD C fn x s = some d) (e : d = .bool z) : LAns C fn z x s := by subst e; exact h
theorem W.lawIs {C : Cx} {F : Forget} {f : FuncId} {fn : Func} {zs : List D} {z : Bool} (hf : C.P.funcs[f]? = some fn) (hb : fn.body.isSome = true) (hok : (C.ok f && (C.plan f 999998).isEmpty) = true) (hl : (zs.length ≤ fn.ntmps : Bool) = true) (H : W C F f 0 (cfAt fn [] (start fn zs)) (LAns C fn z)) : LawIs C F f zs z := by
 obtain ⟨b, hb⟩ := Option.isSome_iff_exists.1 hb
 have H : G C F f 0 ⟨.code b, [], start fn zs⟩ (LAns C fn z) := by have H := H.h; unfold cfAt at H; rw [hb] at H; simp only [posIn_nil] at H; exact H
 obtain ⟨x, s, h1, h2⟩ := run_of hf hb hok (of_decide_eq_true hl) H
 obtain ⟨K, hK⟩ := h2 _ h1
 exact ⟨K, _, hK K (Nat.le_refl _)⟩
theorem bfalse {b : Bool} (h : ¬b = true) : b = false := by cases b with | true => exact absurd rfl h | false => rfl
theorem Ic.args {C : Cx} {F : Forget} {g : FuncId} {ds es : List D} {r : D} (h : Ic C F g ds r) (e : (C.P.funcs[g]?).map (fun fn => nargs C fn ds) = (C.P.funcs[g]?).map (fun fn => nargs C fn es)) : Ic C F g es r := by
 refine h.congr fun k => ?_
 unfold icall
 cases hf : C.P.funcs[g]? with
 | none => rfl
 | some fn =>
  rw [hf] at e
  have e' : nargs C fn ds = nargs C fn es := Option.some.inj e
  show ((run C F k g (nargs C fn es) []).bind _) = ((run C F k g (nargs C fn ds) []).bind _)
  rw [e']
end Go.Proofs.YtlpbmajbalenjaaA
namespace Go.Proofs.YtlpbmajbalenjaaA
open Go
section
variable (C : Cx) (f base : Nat)
def lnAt (c : Cf) : Option Nat := (opAt c).bind fun o => match o.op with
 | .call k => (match k.callee with
  | .builtin .len => (match k.args.toList, k.argTypes.toList with
   | [x], t :: _ => lenD C.P t (c.s.ev x)
   | _, _ => none)
  | _ => none)
 | _ => none
def putK (c : Cf) (d : D) (b' b : Nat) (B : Blk) : Cf := putC c d ((kill1 c.s.heap b').set b B)
end
section
variable {C : Cx} {F : Forget} {f base : Nat} {c : Cf} {Q : X → St → Prop}
theorem W.opK {d : D} {b' b : Nat} {B : Blk} (ho : OpIs C f base c d ((kill1 c.s.heap b').set b B)) (H : W C F f base (putK c d b' b B) Q) : W C F f base c Q := ⟨G.op ho H.h⟩
theorem if_some {α : Type} {p : Prop} [Decidable p] {a : Option α} {r : α} (h : (if p then a else none) = some r) : p ∧ a = some r := by
 split at h
 ·exact ⟨‹_›, h⟩
 ·cases h
theorem roomy_of {n y : Nat} (h : (n + 192) * (y + 1) ≤ 70368744177664) : roomy n y = true := by unfold roomy; exact decide_eq_true h
theorem put_of {d v : Nat} {dst : Option Tmp} {h : Heap} {x : Body × (Nat → Nat → D)} (h1 : dst.map (base + ·) = some d) (h2 : (h[d]?).map (·.ver) = some v) : putA base dst h x = some (x.2 d (v + 1), h.set d ⟨v + 1, false, x.1⟩) := by
 cases dst with
 | none => cases h1
 | some t =>
  cases h1
  obtain ⟨B, hB, hv⟩ := map_some' h2
  simp only [putA, Option.bind_some, hB, Option.map_some, hv]
theorem kill_ver {h : Heap} {b d v : Nat} (h2 : (h[d]?).map (·.ver) = some v) : ((kill1 h b)[d]?).map (·.ver) = some v := by
 unfold kill1
 split
 ·rename_i B hB
  rw [List.getElem?_set]
  split
  ·rename_i e
   subst e
   rw [hB] at h2
   split
   ·exact h2
   ·rename_i hlt; exact absurd (List.getElem?_eq_some_iff.1 hB).1 hlt
  ·exact h2
 ·exact h2
theorem OpIs.ln {n m : Nat} (h : lnAt C c = some n) (hn : n = m) : OpIs C f base c (.int .i64 (m : Int)) c.s.heap := by
 subst hn
 obtain ⟨⟨dst, op, type, pos, after, guard⟩, ho, h⟩ := op_some h
 cases op <;> simp only at h <;> try cases h
 rename_i q
 obtain ⟨cl, al, tys⟩ := q
 cases cl <;> simp only at h <;> try cases h
 rename_i bi
 cases bi <;> simp only at h <;> try cases h
 split at h
 ·rename_i hb1 hb2
  refine ⟨_, ho, rfl, ?_⟩
  show (opP C _ _).map _ = _
  simp only [opP, hb1, hb2, h, Option.map_some]
 ·cases h
end
end Go.Proofs.YtlpbmajbalenjaaA
namespace Go.Proofs.YtlpbmajbalenjaaA
open Go
def isMeth (C : Cx) (g : FuncId) (ds : List D) : Bool := (methOf C g).isSome && isPref0 ds
def shAt (C : Cx) (c : Cf) : Option (FuncId × List D) := (opAt c).bind fun o => match o.op with
 | .call k => (match k.callee with
  | .value (.func f) => if C.shared f then (callee k c.s.ev).bind fun p => if !isMeth C p.1 p.2 && sharesNow C p.1 p.2 c.s.heap then some p else none else none
  | _ => none)
 | _ => none
def Sc (C : Cx) (F : Forget) (g : FuncId) (ds : List D) (h : Heap) (d : D) (h' : Heap) : Prop := Ev (fun k => run C F k g ds h) (d, h')
section
variable {C : Cx} {F : Forget} {f base : Nat} {c : Cf} {Q : X → St → Prop}
theorem W.shared {g : FuncId} {ds : List D} {h h' : Heap} {d : D} (hc : shAt C c = some (g, ds)) (hp : (planAt C f c).isEmpty = true) (hh : c.s.heap = h) (hr : Sc C F g ds h d h') (H : W C F f base (putC c d h') Q) : W C F f base c Q := by
 subst hh
 obtain ⟨H⟩ := H
 refine ⟨?_⟩
 obtain ⟨foc, fr, s⟩ := c
 cases foc with
 | ops id os draw i l =>
  cases l with
  | nil => simp [shAt, opAt] at hc
  | cons o l =>
   simp only [shAt, opAt] at hc
   split at hc
   ·rename_i hg
    rw [Option.bind_some] at hc
    obtain ⟨s', h4, h5⟩ := H
    refine ⟨s', ?_, h5⟩
    have key : Ev (fun k => opv C (run C F k) draw base (Plan.at (C.plan f id) i) o s.ev s.heap) (d, h') := by
     obtain ⟨dst, op, type, pos, after, guard⟩ := o
     cases op <;> simp only at hc <;> try cases hc
     rename_i k
     obtain ⟨cl, al, tys⟩ := k
     cases cl <;> simp only at hc <;> try cases hc
     rename_i x
     cases x <;> simp only at hc <;> try cases hc
     rename_i f'
     obtain ⟨hs, hc⟩ := if_some hc
     obtain ⟨p, hp', hc⟩ := bind_some' hc
     obtain ⟨hT, hc⟩ := if_some hc
     cases hc
     have hc := hp'
     refine hr.to fun k hk => ?_
     have hgf : g = f' := by
      simp only [callee, St.ev] at hc
      cases hc; rfl
     have hcls : cls C draw { dst := dst, op := .call { callee := .value (.func f'), args := al, argTypes := tys }, type := type, pos := pos, after := after, guard := guard } = .W := by
      show (if C.shared f' || adopts C f' then Cls.W else if draw then .R else .W) = .W
      rw [if_pos (by rw [hs]; rfl)]
     unfold opv
     rw [hcls]
     have he : effOk C base (Plan.at (C.plan f id) i) { dst := dst, op := .call { callee := .value (.func f'), args := al, argTypes := tys }, type := type, pos := pos, after := after, guard := guard } s.ev = true := by
      simp only [planAt] at hp
      simp only [effOk, hp, Bool.true_or]
     simp only []
     rw [if_pos he]
     simp only [opW]
     rw [show callee { callee := .value (.func f'), args := al, argTypes := tys } s.ev = some (g, ds) from hc, Option.bind_some]
     subst hgf
     have hT2 := Bool.and_eq_true_iff.1 hT
     rw [if_neg (fun h => by have h1 : isMeth C g ds = true := h; have h2 := hT2.1; rw [h1] at h2; cases h2), if_pos (by rw [hs, hT2.2]; rfl)]
     exact hk
    exact (key.bindk (m := fun k (r : D × Heap) => opsRun C (run C F k) draw base os (C.plan f id) (i + 1) l ⟨putT s.tmps o.dst r.1, r.2⟩) h4).congr fun k => by
     rw [opsRun_cons, opStep_none (by simpa using hg), Option.bind_map]; rfl
   ·simp at hc
 | _ => simp [shAt, opAt] at hc
end
end Go.Proofs.YtlpbmajbalenjaaA
namespace Go.Proofs.YtlpbmajbalenjaaA
open Go
section
variable {C : Cx} {F : Forget} {f base : Nat} {c : Cf} {Q : X → St → Prop} {τ : Type}
theorem mapD_at {enc : τ → D} {L : List τ} {i : Nat} {d0 x : τ} (hi : i < L.length) (hx : L.getD i d0 = x) : (L.map enc)[i]? = some (enc x) := by
 rw [List.getD_eq_getElem?_getD, List.getElem?_eq_getElem hi] at hx
 rw [List.getElem?_map, List.getElem?_eq_getElem hi, ← hx]
 rfl
theorem OpIs.ixE {enc : τ → D} {n : Nat} {k' : IntKind} {L : List τ} {i : Int} {d0 x : τ} (h : ixAt C c = some (.list n (L.map enc), .int k' i, n)) (h0 : 0 ≤ i) (h1 : i < (L.length : Int)) (hx : L.getD i.toNat d0 = x) : OpIs C f base c (.ptr (enc x).cells) c.s.heap :=
 OpIs.ixL (d := enc x) h h0 (mapD_at (by omega) hx)
theorem OpIs.slE {sz p q : Nat} {xs : List D} {lo hi : Option D} (h : slAt C c = some (.list sz xs, lo, hi, sz)) (hb : boundD hi xs.length xs.length = some q) (ha : boundD lo 0 q = some p) : OpIs C f base c (.list sz ((xs.take q).drop p)) c.s.heap := by
 obtain ⟨⟨dst, op, type, pos, after, guard⟩, ho, h⟩ := op_some h
 cases op <;> simp only at h <;> try cases h
 rename_i t x l h' m
 cases m <;> simp only at h <;> try cases h
 obtain ⟨e, he, h⟩ := bind_some' h
 obtain ⟨s, hs, h⟩ := map_some' h
 injection h with h2 h; injection h with h3 h; injection h with h4 h5
 refine ⟨_, ho, rfl, ?_⟩
 show (opP C _ _).map _ = _
 simp only [opP, sliceD, h2, h3, h4, hb, ha, he, hs, h5, Option.bind_some, if_true, Option.map_some, Option.map_none]
theorem OpIs.slE_lo {enc : τ → D} {n : Nat} {k' : IntKind} {L : List τ} {i : Int} (h : slAt C c = some (.list n (L.map enc), some (.int k' i), none, n)) (h0 : 0 ≤ i) (h1 : i ≤ (L.length : Int)) : OpIs C f base c (.list n ((L.drop i.toNat).map enc)) c.s.heap := by
 have := OpIs.slE (f := f) (base := base) h (bound_none _ _) (bound_some h0 (by rw [List.length_map]; exact h1))
 rw [List.take_length, ← List.map_drop] at this
 exact this
theorem OpIs.ldV {b v i off w n s : Nat} {fz a : Bool} {xs : List D} {r : D} (h : ldAt C f base c = some (.pref b v i off, some ⟨w, fz, .rows n xs⟩, a, s)) (hw : w = v) (hr : (xs[i]?).bind (fun d => ldCells a s (d.cells.drop off)) = some r) : OpIs C f base c r c.s.heap := by
 obtain ⟨⟨dst, op, type, pos, after, guard⟩, ho, h⟩ := op_some h
 cases op <;> simp only at h <;> try cases h
 rename_i t p
 obtain ⟨a', ha, h⟩ := bind_some' h
 obtain ⟨s', hs, h⟩ := map_some' h
 injection h with h2 h; injection h with h3 h; injection h with h4 h5
 refine ⟨_, ho, rfl, ?_⟩
 show (opR C _ _ _ _).map _ = _
 rw [h2] at h3
 have hg := get_of (h := maskH base (planAt C f c) c.s.heap) h3 hw
 obtain ⟨d, hd, hr⟩ := bind_some' hr
 simp only [opR, ld, ha, hs, h2, h4, h5, Option.bind_some, cellsAt, hg, hd, Option.map_some, hr]
theorem OpIs.stV {b v i off w n s : Nat} {xs ys : List D} {d y : D} (h : stAt C f base c = some (.pref b v i off, some ⟨w, false, .rows n xs⟩, y, s)) (hw : w = v) (hd : xs[i]? = some d) (hy : y.cells.length = s) (ho : off + s ≤ d.cells.length) (h1 : y.cells.all D.one = true)
  (hys : ys = xs.set i (if off = 0 ∧ s = n then y else .agg (upd d.cells off y.cells))) : OpIs C f base c (.tuple []) (c.s.heap.set b ⟨w, false, .rows n ys⟩) := by
 obtain ⟨⟨dst, op, type, pos, after, guard⟩, ho', h⟩ := op_some h
 cases op <;> simp only at h <;> try cases h
 rename_i t p x
 split at h
 ·rename_i he
  obtain ⟨s', hs, h⟩ := map_some' h
  injection h with h2 h; injection h with h3 h; injection h with h4 h5
  refine ⟨_, ho', rfl, ?_⟩
  show (if effOk C base _ _ _ then opW C _ _ _ _ _ _ else none) = _
  rw [if_pos he]
  rw [h2] at h3
  have h3' : c.s.heap[b]? = some ⟨w, false, .rows n xs⟩ := h3
  subst hys
  simp only [opW, st, hs, h2, h4, h5, Option.bind_some, h3', hw, and_self, if_true, Option.map_some, hd, hy, ho, h1]
 ·cases h
def apEAt (C : Cx) (f base : Nat) (c : Cf) : Option (D × D × Option Blk × Nat × Nat × Nat × Nat) := (opAt c).bind fun o => match o.op with
 | .call k => (match k.callee with
  | .builtin .append => (match k.args.toList, k.argTypes.toList with
   | [x, y], t :: ts => if ts.all (fun u => (C.P.underlying u).isSome && (intK C.P u).isNone) then if effOk C base (planAt C f c) o c.s.ev then o.dst.bind fun d => (c.s.heap[base + d]?).bind fun B =>
     (elemOf? C.P t).bind fun e => (szOf C.P e).bind fun s => (bytesOf C.P e).bind fun y' => (zeroD C.P e).bind fun z => if z.cells.length = s ∧ intK C.P e = none then
      some (c.s.ev x, c.s.ev y, blkAt c.s.heap (c.s.ev x), y', base + d, B.ver, s) else none else none else none
   | _, _ => none)
  | _ => none)
 | _ => none
theorem apE_op {x y : D} {B : Option Blk} {n d v m : Nat} (h : apEAt C f base c = some (x, y, B, n, d, v, m)) {r : D} {h' : Heap}
  (H : ∀ (t e : Nat) (dst : Option Tmp) (z : D), dst.map (base + ·) = some d → (c.s.heap[d]?).map (·.ver) = some v → elemOf? C.P t = some e → szOf C.P e = some m → bytesOf C.P e = some n → zeroD C.P e = some z → z.cells.length = m → intK C.P e = none → B = blkAt c.s.heap x →
   appendD C.P base dst c.s.heap t x y = some (r, h')) : OpIs C f base c r h' := by
 obtain ⟨⟨dst, op, type, pos, after, guard⟩, ho, h⟩ := op_some h
 cases op <;> simp only at h <;> try cases h
 rename_i k
 obtain ⟨cl, al, tys⟩ := k
 cases cl <;> simp only at h <;> try cases h
 rename_i bi
 cases bi <;> simp only at h <;> try cases h
 ·split at h
  ·rename_i a b t ts hb1 hb2
   obtain ⟨ha, h⟩ := if_some h
   obtain ⟨he, h⟩ := if_some h
   obtain ⟨q, hq, h⟩ := bind_some' h
   obtain ⟨B', hB, h⟩ := bind_some' h
   obtain ⟨e, hel, h⟩ := bind_some' h
   obtain ⟨s, hs, h⟩ := bind_some' h
   obtain ⟨n', hn, h⟩ := bind_some' h
   obtain ⟨z, hz, h⟩ := bind_some' h
   obtain ⟨⟨h1, h3⟩, h⟩ := if_some h
   injection h with h
   injection h with e1 h; injection h with e2 h; injection h with e3 h; injection h with e4 h; injection h with e5 h; injection h with e6 e7
   subst e4 e7
   refine ⟨_, ho, rfl, ?_⟩
   show (if effOk C base _ _ _ then opW C _ _ _ _ _ _ else none) = _
   rw [if_pos he]
   have := H t e dst z (by cases hq; exact congrArg some e5) (by rw [← e5, hB]; exact congrArg some e6) hel hs hn hz h1 h3 (by rw [← e3, e1])
   rw [← e1, ← e2] at this
   simp only [opW, hb1, hb2]
   rw [if_pos ha]
   exact this
  ·cases h
theorem OpIs.apENil {enc : τ → D} {y : D} {B : Option Blk} {n d v m : Nat} {ys zs : List τ} (h : apEAt C f base c = some (.nilS, y, B, n, d, v, m)) (hs : src c.s.heap y = some (.list m (ys.map enc))) (hz : zs = ys) (hr : (ys.length + 192) * (n + 1) ≤ 70368744177664) :
  OpIs C f base c (.sref d (v + 1) m 0 ys.length) (c.s.heap.set d ⟨v + 1, false, .rows m (zs.map enc)⟩) := by
 subst hz
 refine apE_op h fun t e dst z h1 h2 h3 h4 h5 h6 h7 h8 h9 => ?_
 have hr' := roomy_of hr
 simp only [appendD, h3, h4, h5, h6, Option.bind_some, h7, if_true, hs, h8, and_self, growR, List.length_map, hr', put_of h1 h2]
theorem OpIs.apERow {enc : τ → D} {y : D} {n d dv b v w len m : Nat} {xs ys zs : List τ} (h : apEAt C f base c = some (.sref b v m 0 len, y, some ⟨w, false, .rows m (xs.map enc)⟩, n, d, dv, m)) (hs : src c.s.heap y = some (.list m (ys.map enc))) (hz : zs = xs ++ ys) (hw : w = v) (hl : len = xs.length)
  (hr : (xs.length + ys.length + 192) * (n + 1) ≤ 70368744177664) : OpIs C f base c (.sref d (dv + 1) m 0 (xs.length + ys.length)) ((kill1 c.s.heap b).set d ⟨dv + 1, false, .rows m (zs.map enc)⟩) := by
 subst hz
 refine apE_op h fun t e dst z h1 h2 h3 h4 h5 h6 h7 h8 h9 => ?_
 have h9 : c.s.heap[b]? = some ⟨w, false, .rows m (xs.map enc)⟩ := h9.symm
 have hr' := roomy_of hr
 simp only [appendD, h3, h4, h5, h6, Option.bind_some, h7, if_true, hs, h8, and_self, growR, h9, hw, hl, List.length_map, hr']
 rw [put_of h1 (kill_ver h2), List.map_append]
theorem rf_rowE {enc : τ → D} (ht : ∀ x, (enc x).cells.all (D.isT 2) = true) {h : Heap} {n b v w m : Nat} {fz : Bool} {xs : List τ} {off len : Nat} (hb : h[b]? = some ⟨w, fz, .rows m (xs.map enc)⟩) (hw : w = v) (hl : off + len ≤ xs.length) : reify h (n + 1) (.sref b v m off len) = some (.list m (((xs.drop off).take len).map enc)) := by
 have hl' : off + len ≤ (xs.map enc).length := by rw [List.length_map]; exact hl
 simp only [reify, get_of hb hw, if_true, if_pos hl']
 rw [← List.map_drop, ← List.map_take, if_pos]
 rw [List.all_eq_true]
 intro d hd
 obtain ⟨l, _, rfl⟩ := List.mem_map.1 hd
 exact ht l
theorem rf_fullE {enc : τ → D} (ht : ∀ x, (enc x).cells.all (D.isT 2) = true) {h : Heap} {n b v w m : Nat} {fz : Bool} {xs : List τ} {len : Nat} (hb : h[b]? = some ⟨w, fz, .rows m (xs.map enc)⟩) (hw : w = v) (hl : len = xs.length) : reify h (n + 1) (.sref b v m 0 len) = some (.list m (xs.map enc)) := by
 rw [rf_rowE ht hb hw (by omega), List.drop_zero, hl, List.take_length]
theorem tidy_own {h : Heap} {n b v : Nat} {fz : Bool} {y : Body} (hn : n ≤ b) (hb : h[b]? = some ⟨v + 1, fz, y⟩) : tidy h n = h := by
 unfold tidy
 rw [if_neg]
 intro hh
 rw [List.all_eq_true] at hh
 have hd : (h.drop n)[b - n]? = some ⟨v + 1, fz, y⟩ := by rw [List.getElem?_drop, show n + (b - n) = b by omega]; exact hb
 have := hh _ (List.mem_of_getElem? hd)
 simp at this
def KAns (C : Cx) (fn : Func) (n : Nat) (A : D → Heap → Prop) (x : X) (s : St) : Prop := ∃ d, endD C fn x s = some d ∧ A d (tidy s.heap n)
theorem tidy_ex {h : Heap} {n b v : Nat} {fz : Bool} {y : Body} {h0 : (Nat → Blk) → Heap} (hn : Nat.ble n b = true) (hb : h[b]? = some ⟨v + 1, fz, y⟩) (h2 : h = h0 (fun i => h.getD (n + i) noBlk)) : ∃ eb, tidy h n = h0 eb :=
 ⟨_, by rw [tidy_own (Nat.le_of_ble_eq_true hn) hb]; exact h2⟩
theorem W.kc {fn : Func} {ds : List D} {h : Heap} {A : D → Heap → Prop} {n : Nat} (hf : C.P.funcs[f]? = some fn) (hb : fn.body.isSome = true) (hok : (C.ok f && (C.plan f 999998).isEmpty) = true) (hn : h.length = n) (hl : (ds.length ≤ fn.ntmps : Bool) = true)
  (H : W C F f n (cfAt fn [] ⟨ds ++ List.replicate (fn.ntmps - ds.length) (.tuple []), h ++ List.replicate fn.ntmps noBlk⟩) (KAns C fn n A)) : ∃ d h', Sc C F f ds h d h' ∧ A d h' := by
 subst hn
 obtain ⟨b, hb⟩ := Option.isSome_iff_exists.1 hb
 obtain ⟨H⟩ := H
 unfold cfAt at H
 rw [hb] at H
 simp only [posIn_nil] at H
 obtain ⟨x, s, h1, d, h2, h3⟩ := H
 refine ⟨d, _, .succ (h1.to fun k hk => ?_), h3⟩
 rw [Bool.and_eq_true] at hok
 rw [run, hf, Option.bind_some, hb, Option.bind_some, if_pos ⟨hok.1, of_decide_eq_true hl⟩, if_neg (by simp [hok.2])]
 have hk' : exec C F k f h.length b ⟨ds ++ List.replicate (fn.ntmps - ds.length) (.tuple []), h ++ List.replicate fn.ntmps noBlk⟩ = some (x, s) := hk
 rw [hk', Option.bind_some]
 cases x with
 | exit id => simp [endD] at h2
 | normal => simp only [endD] at h2; simp only [h2, Option.map_some]
 | ret => simp only [endD] at h2; simp only [h2, Option.map_some]
theorem W.keep {g : FuncId} {ds : List D} {P : (Nat → Blk) → Heap} {A : (Nat → Blk) → D → Heap → Prop} (hc : shAt C c = some (g, ds)) (hp : (planAt C f c).isEmpty = true) (hh : c.s.heap = P (fun i => c.s.heap.getD i noBlk)) (hr : ∀ cb, ∃ d h', Sc C F g ds (P cb) d h' ∧ A cb d h')
  (H : ∀ d h', A (fun i => c.s.heap.getD i noBlk) d h' → W C F f base (putC c d h') Q) : W C F f base c Q := by
 obtain ⟨d, h', h1, h2⟩ := hr (fun i => c.s.heap.getD i noBlk)
 exact W.shared hc hp hh h1 (H d h' h2)
end
end Go.Proofs.YtlpbmajbalenjaaA
namespace Go.Proofs.YtlpbmajbalenjaaA
open Go
section
variable {κ ν : Type} [DecidableEq κ] {ek : κ → D} {ev : ν → D} {kd : TypeDesc}
abbrev mrow (ek : κ → D) (ev : ν → D) (L : List (κ × ν)) : List (D × D) := L.map fun p => (ek p.1, ev p.2)
end
section
variable {C : Cx} {F : Forget} {f base : Nat} {c : Cf} {Q : X → St → Prop} {κ ν : Type} [DecidableEq κ] {ek : κ → D} {ev : ν → D}
abbrev mks (ek : κ → D) (L : List (κ × ν)) : List D := L.map fun p => ek p.1
abbrev mvs (ev : ν → D) (L : List (κ × ν)) : List D := L.map fun p => ev p.2
end
theorem addS {x y : ByteArray} (h : x.size + y.size ≤ 9223372036854775807) : binD .add (.str x) (.str y) = some (.str (x ++ y)) := by
 show (if x.size + y.size ≤ 9223372036854775807 then some (D.str (x ++ y)) else none) = _
 rw [if_pos h]
end Go.Proofs.YtlpbmajbalenjaaA
namespace Go.Proofs.YtlpbmajbalenjaaA
open Go Go.Proofs
end Go.Proofs.YtlpbmajbalenjaaA
namespace Go.Proofs.YtlpbmajbalenjaaA
open Go
section
variable {C : Cx} {F : Forget} {f base : Nat} {c : Cf} {Q : X → St → Prop} {τ : Type}
theorem rf_prefV {h : Heap} {m b v w i off n : Nat} {fz : Bool} {xs : List D} {d : D} {cs : List D} (hb : h[b]? = some ⟨w, fz, .rows n xs⟩) (hw : w = v) (hd : xs[i]? = some d) (hc : (d.cells.drop off).mapM (reify h m) = some cs) : reify h (m + 1) (.pref b v i off) = some (.ptr cs) := by
 have hg := get_of (h := h) hb hw
 simp only [reify, cellsAt, hg, hd, Option.map_some, Option.bind_some, hc]
end
end Go.Proofs.YtlpbmajbalenjaaA
namespace Go.Proofs.YtlpbmajbalenjaaA
open Go
section
variable {C : Cx} {F : Forget} {f base : Nat} {c : Cf} {Q : X → St → Prop} {τ : Type}
def slTAt (C : Cx) (c : Cf) : Option (ByteArray × Option D × Option D) := (opAt c).bind fun o => match o.op with
 | .slice t x lo hi none => match C.P.underlying t, c.s.ev x with
  | some .string, .str s => some (s, lo.map c.s.ev, hi.map c.s.ev)
  | _, _ => none
 | _ => none
theorem OpIs.slT {s : ByteArray} {lo hi : Option D} {a b : Nat} (h : slTAt C c = some (s, lo, hi)) (hb : boundD hi s.size s.size = some b) (ha : boundD lo 0 b = some a) : OpIs C f base c (.str (s.extract a b)) c.s.heap := by
 obtain ⟨⟨dst, op, type, pos, after, guard⟩, ho, h⟩ := op_some h
 cases op <;> simp only at h <;> try cases h
 rename_i t x l h' m
 cases m <;> simp only at h <;> try cases h
 split at h <;> try (cases h; done)
 rename_i s' hu hx
 injection h with h; injection h with h1 h; injection h with h2 h3
 subst h1 h2 h3
 refine ⟨_, ho, rfl, ?_⟩
 show (opP C _ _).map _ = _
 simp only [opP, sliceD, hx, D.bare, hu, hb, ha, Option.bind_some, Option.map_some, Option.map_none]
theorem OpIs.slT_hi {k' : IntKind} {s : ByteArray} {i : Int} (h : slTAt C c = some (s, none, some (.int k' i))) (h0 : 0 ≤ i) (h1 : i ≤ (s.size : Int)) : OpIs C f base c (.str (s.extract 0 i.toNat)) c.s.heap :=
 OpIs.slT h (bound_some h0 h1) (bound_none _ _)
theorem OpIs.slT_lh {k' k'' : IntKind} {s : ByteArray} {i j : Int} (h : slTAt C c = some (s, some (.int k' i), some (.int k'' j))) (h0 : 0 ≤ i) (h1 : i ≤ j) (h2 : j ≤ (s.size : Int)) : OpIs C f base c (.str (s.extract i.toNat j.toNat)) c.s.heap :=
 OpIs.slT h (bound_some (by omega) h2) (bound_some h0 (by omega))
def ixTAt (C : Cx) (c : Cf) : Option (ByteArray × D) := (opAt c).bind fun o => match o.op with
 | .index t x i => match C.P.underlying t, c.s.ev x with
  | some .string, .str s => some (s, c.s.ev i)
  | _, _ => none
 | _ => none
def letter (s : ByteArray) (i : Int) : Int := ((s.data.getD i.toNat 0).toNat : Int)
theorem OpIs.ixT {k : IntKind} {s : ByteArray} {i : Int} (h : ixTAt C c = some (s, .int k i)) (h0 : 0 ≤ i) (h1 : i < (s.size : Int)) : OpIs C f base c (.int .u8 (letter s i)) c.s.heap := by
 obtain ⟨⟨dst, op, type, pos, after, guard⟩, ho, h⟩ := op_some h
 cases op <;> simp only at h <;> try cases h
 rename_i t x i'
 split at h <;> try (cases h; done)
 rename_i s' hu hx
 injection h with h; injection h with h1' h2
 subst h1'
 refine ⟨_, ho, rfl, ?_⟩
 show (opP C _ _).map _ = _
 simp only [opP, hx, hu, h2, if_pos h0, if_pos h1, Option.map_some]
 rfl
end
end Go.Proofs.YtlpbmajbalenjaaA
namespace Go.Proofs.YtlpbmajbalenjaaA
open Go
section
variable {C : Cx} {F : Forget} {f base : Nat} {c : Cf} {Q : X → St → Prop} {τ : Type}
def J {α : Type} (f : Nat → α) (a : Nat) : Nat → List α
 | 0 => []
 | n + 1 => f a :: J f (a + 1) n
theorem W.ct (p : Prop) [Decidable p] (h : p) (H : W C F f base (goC c true) Q) (e : condAt c = some (decide p) := by kernel_rfl) : W C F f base c Q := W.cond true e (decide_eq_true h) H
theorem W.cf (p : Prop) [Decidable p] (h : ¬p) (H : W C F f base (goC c false) Q) (e : condAt c = some (decide p) := by kernel_rfl) : W C F f base c Q := W.cond false e (decide_eq_false h) H
theorem W.gt (p : Prop) [Decidable p] (h : p) (H : W C F f base (goG c true) Q) (e : guardAt c = some (decide p == true) := by kernel_rfl) : W C F f base c Q := W.guard true e (congrArg (fun b => b == true) (decide_eq_true h)) H
theorem W.gf (p : Prop) [Decidable p] (h : ¬p) (H : W C F f base (goG c false) Q) (e : guardAt c = some (decide p == true) := by kernel_rfl) : W C F f base c Q := W.guard false e (congrArg (fun b => b == true) (decide_eq_false h)) H
theorem W.gt' (p : Prop) [Decidable p] (h : p) (H : W C F f base (goG c false) Q) (e : guardAt c = some (decide p == false) := by kernel_rfl) : W C F f base c Q := W.guard false e (congrArg (fun b => b == false) (decide_eq_true h)) H
theorem W.gf' (p : Prop) [Decidable p] (h : ¬p) (H : W C F f base (goG c true) Q) (e : guardAt c = some (decide p == false) := by kernel_rfl) : W C F f base c Q := W.guard true e (congrArg (fun b => b == false) (decide_eq_false h)) H
theorem Ans.o {fn : Func} {e : D} {x : X} {s : St} (d : D) (he : d = e) (h : endD C fn x s = some d := by kernel_rfl) (hr : reify (tidy s.heap 0) DEPTH d = some d := by kernel_rfl) (hn : normR C.P fn.resultTypes.toList d = d := by kernel_rfl) : Ans C fn e x s := Ans.of h hr hn he
theorem W.cl (g : FuncId) (ds : List D) (r : D) {es : List D} (hi : Ic C F g es r) (H : W C F f base (putR c ds r) Q) (h : callAt C c = some (g, ds) := by kernel_rfl) (hr : ds.mapM (reify (hpAt C f base c) DEPTH) = some ds := by kernel_rfl)
  (ha : (C.P.funcs[g]?).map (fun fn => nargs C fn es) = (C.P.funcs[g]?).map (fun fn => nargs C fn ds) := by kernel_rfl) (hm : mayC C f c ds r = true := by kernel_rfl) : W C F f base c Q := W.callR h hr (hi.args ha) hm H
theorem W.fr {Q : X → St → Prop} (H : Q .ret c.s) (e : outAt c = some .ret := by kernel_rfl) : W C F f base c Q := W.fin e H
theorem W.tl {P : (Nat → D) → (Nat → Blk) → (Nat → Nat) → Cf} (H : ∀ j jb vs, W C F f base (P j jb vs) Q)
  (e : c = P (fun i => c.s.tmps.getD i .top) (fun i => c.s.heap.getD i noBlk) (fun i => (c.s.heap.getD i noBlk).ver - 1) := by kernel_rfl) : W C F f base c Q := W.to_loop H e
theorem O.ldV (b v i off n s : Nat) (fz a : Bool) (xs : List D) (r : D) (h : ldAt C f base c = some (.pref b v i off, some ⟨v, fz, .rows n xs⟩, a, s) := by kernel_rfl) (hr : (xs[i]?).bind (fun d => ldCells a s (d.cells.drop off)) = some r := by kernel_rfl) : OpIs C f base c r c.s.heap := OpIs.ldV h rfl hr
theorem O.stV (b v i off n s : Nat) (xs ys : List D) (d y : D) (h : stAt C f base c = some (.pref b v i off, some ⟨v, false, .rows n xs⟩, y, s) := by kernel_rfl) (hd : xs[i]? = some d := by kernel_rfl) (hy : y.cells.length = s := by kernel_rfl) (ho : Nat.ble (off + s) d.cells.length = true := by kernel_rfl) (h1 : y.cells.all D.one = true := by kernel_rfl)
  (hs : ys = xs.set i (if off = 0 ∧ s = n then y else .agg (upd d.cells off y.cells)) := by kernel_rfl) : OpIs C f base c (.tuple []) (c.s.heap.set b ⟨v, false, .rows n ys⟩) := OpIs.stV h rfl hd hy (Nat.le_of_ble_eq_true ho) h1 hs
theorem O.ln (L : List τ) (enc : τ → D) (h : lnAt C c = some (L.map enc).length := by kernel_rfl) : OpIs C f base c (.int .i64 (L.length : Int)) c.s.heap := OpIs.ln h (List.length_map _)
theorem O.ixE (enc : τ → D) (n : Nat) (k' : IntKind) (L : List τ) (i : Int) (d0 x : τ) (h0 : 0 ≤ i) (h1 : i < (L.length : Int)) (hx : L.getD i.toNat d0 = x) (h : ixAt C c = some (.list n (L.map enc), .int k' i, n) := by kernel_rfl) : OpIs C f base c (.ptr (enc x).cells) c.s.heap := OpIs.ixE h h0 h1 hx
theorem Ans.q {fn : Func} {e : D} {x : X} {s : St} (e' : D) (he : e' = e) (h : ((endD C fn x s).bind fun d => (reify (tidy s.heap 0) DEPTH d).map (normR C.P fn.resultTypes.toList)) = some e' := by kernel_rfl) : Ans C fn e x s := by
 obtain ⟨d, h1, h2⟩ := Option.bind_eq_some_iff.1 h
 obtain ⟨d', h3, h4⟩ := Option.map_eq_some_iff.1 h2
 exact Ans.of h1 h3 h4 he
theorem W.ii {fn : Func} {ds : List D} {e : D} (hf : C.P.funcs[f]? = some fn) (H : W C F f 0 (cfAt fn [] (start fn ds)) (Ans C fn e)) (hb : fn.body.isSome = true := by kernel_rfl) (hok : (C.ok f && (C.plan f 999998).isEmpty) = true := by kernel_rfl) (hz : nargs C fn ds = ds := by kernel_rfl) (hl : (ds.length ≤ fn.ntmps : Bool) = true := by kernel_rfl) : Ic C F f ds e := W.ic hf hb hok hz hl H
theorem W.li {fn : Func} {zs : List D} {z : Bool} (hf : C.P.funcs[f]? = some fn) (H : W C F f 0 (cfAt fn [] (start fn zs)) (LAns C fn z)) (hb : fn.body.isSome = true := by kernel_rfl) (hok : (C.ok f && (C.plan f 999998).isEmpty) = true := by kernel_rfl) (hl : (zs.length ≤ fn.ntmps : Bool) = true := by kernel_rfl) : LawIs C F f zs z := W.lawIs hf hb hok hl H
theorem W.cb (v w : Bool) (hw : w = v) (H : W C F f base (goC c v) Q) (h : condAt c = some w := by kernel_rfl) : W C F f base c Q := W.cond v h hw H
theorem W.gb (v w : Bool) (hw : w = v) (H : W C F f base (goG c v) Q) (h : guardAt c = some w := by kernel_rfl) : W C F f base c Q := W.guard v h hw H
theorem O.apENil (enc : τ → D) (y : D) (n d v m : Nat) (ys : List τ) {zs : List τ} (hz : zs = ys) (hr : (ys.length + 192) * (n + 1) ≤ 70368744177664) (hs : src c.s.heap y = some (.list m (ys.map enc)) := by kernel_rfl) (h : apEAt C f base c = some (.nilS, y, none, n, d, v, m) := by kernel_rfl) :
  OpIs C f base c (.sref d (v + 1) m 0 ys.length) (c.s.heap.set d ⟨v + 1, false, .rows m (zs.map enc)⟩) := OpIs.apENil h hs hz hr
theorem O.apERow (enc : τ → D) (y : D) (n d dv b v len m : Nat) (xs ys : List τ) {zs : List τ} (hz : zs = xs ++ ys) (hl : len = xs.length) (hr : (xs.length + ys.length + 192) * (n + 1) ≤ 70368744177664) (hs : src c.s.heap y = some (.list m (ys.map enc)) := by kernel_rfl) (h : apEAt C f base c = some (.sref b v m 0 len, y, some ⟨v, false, .rows m (xs.map enc)⟩, n, d, dv, m) := by kernel_rfl) :
  OpIs C f base c (.sref d (dv + 1) m 0 (xs.length + ys.length)) ((kill1 c.s.heap b).set d ⟨dv + 1, false, .rows m (zs.map enc)⟩) := OpIs.apERow h hs hz rfl hl hr
theorem O.pk (t v : Bool) (x y : D) (hv : t = v) (h : pkAt c = some (t, x, y) := by kernel_rfl) : OpIs C f base c (match v with | true => x | false => y) c.s.heap := OpIs.pk v h hv
end
end Go.Proofs.YtlpbmajbalenjaaA
namespace Go.Proofs.YtlpbmajbalenjaaA
open Go
def metAt (C : Cx) (c : Cf) : Option (FuncId × List D × Option Tmp) := (opAt c).bind fun o => match o.op with
 | .call k => (match k.callee with
  | .value (.func f) => if C.shared f then (callee k c.s.ev).bind fun p => if isMeth C p.1 p.2 then some (p.1, p.2, o.dst) else none else none
  | _ => none)
 | _ => none
def effAt (C : Cx) (f base : Nat) (c : Cf) : Bool := match opAt c with | some o => effOk C base (planAt C f c) o c.s.ev | none => false
def methT (C : Cx) (g : FuncId) : Option TypeId := (C.P.funcs[g]?).bind fun fn => (fn.params[0]?).bind fun t => pointee C.P t
def methIn (C : Cx) (g : FuncId) (h : Heap) (b : Nat) (rest cs : List D) : Option (List D) :=
 (methT C g).bind fun T => (cellsTo C.P h none 1 1 0 (cellTypes C.P 8 T) cs).bind fun cin =>
  if clash (rest.flatMap (reach h DEPTH) ++ reachO h none 0 cs) b none = false ∧ cin.all D.one = true ∧ (reachO h none 0 cs).isEmpty = true then some cin else none
def goodF (C : Cx) (T : TypeId) (n : Nat) (h : Heap) (mc : List D) : Option (List D) :=
 if clash (reachO h none 0 mc) 0 none = false then (cellsTo C.P h none 0 0 0 (cellTypes C.P 8 T) mc).bind fun co => if co.length = n ∧ co.all D.one = true then some co else none else none
def goodH (C : Cx) (T : TypeId) (n : Nat) (h : Heap) : Option (List D) := (h[0]?).bind fun B => if B.ver = 1 ∧ B.fz = false then (oneAgg B.body).bind fun mc => if mc.1 = n then goodF C T n h mc.2 else none else none
def margs (C : Cx) (fn : Func) (args : List D) : List D := fn.params.toList.zipWith (norm C.P) (.pref 0 1 0 0 :: args) ++ (.pref 0 1 0 0 :: args).drop fn.params.size
def Mt (C : Cx) (F : Forget) (g : FuncId) (n : Nat) (args cin : List D) (d : D) (cout : List D) : Prop :=
 ∃ fn T h2, C.P.funcs[g]? = some fn ∧ methT C g = some T ∧ Ev (fun k => run C F k g (margs C fn args) [⟨1, false, .rows n [.agg cin]⟩]) (d, h2) ∧ d.flat 3 = true ∧ goodH C T n h2 = some cout
section
variable {C : Cx} {F : Forget} {f base : Nat} {c : Cf} {Q : X → St → Prop}
theorem W.meth {g b v n : Nat} {cs cin rest args : List D} {d : D} {cout : List D} {dst : Option Tmp} (hc : metAt C c = some (g, .pref b v 0 0 :: rest, dst)) (hj : methOf C g = some none) (he : effAt C f base c = true)
  (hB : c.s.heap[b]? = some ⟨v, false, .rows n [.agg cs]⟩) (hr : rest.mapM (reify c.s.heap DEPTH) = some args) (hi : methIn C g c.s.heap b rest cs = some cin) (hn : cin.length = n) (m : Mt C F g n args cin d cout)
  (H : W C F f base (putC c d ((freeze c.s.heap (rest.flatMap (reach c.s.heap DEPTH) ++ reachO c.s.heap none 0 cs)).set b ⟨v, false, .rows n [.agg cout]⟩)) Q) : W C F f base c Q := by
 obtain ⟨H⟩ := H
 refine ⟨?_⟩
 obtain ⟨foc, fr, s⟩ := c
 cases foc with
 | ops id os draw i l =>
  cases l with
  | nil => simp [metAt, opAt] at hc
  | cons o l =>
   simp only [metAt, opAt] at hc
   split at hc
   ·rename_i hg
    rw [Option.bind_some] at hc
    obtain ⟨s', h4, h5⟩ := H
    refine ⟨s', ?_, h5⟩
    have key : Ev (fun k => opv C (run C F k) draw base (Plan.at (C.plan f id) i) o s.ev s.heap) (d, (freeze s.heap (rest.flatMap (reach s.heap DEPTH) ++ reachO s.heap none 0 cs)).set b ⟨v, false, .rows n [.agg cout]⟩) := by
     have he' : effOk C base (Plan.at (C.plan f id) i) o s.ev = true := by
      unfold effAt opAt at he
      simp only [hg, if_true, planAt] at he
      exact he
     obtain ⟨dst', op, type, pos, after, guard⟩ := o
     cases op <;> simp only at hc <;> try cases hc
     rename_i k
     obtain ⟨cl, al, tys⟩ := k
     cases cl <;> simp only at hc <;> try cases hc
     rename_i x
     cases x <;> simp only at hc <;> try cases hc
     rename_i f'
     obtain ⟨hs, hc⟩ := if_some hc
     obtain ⟨p, hp', hc⟩ := bind_some' hc
     obtain ⟨hM, hc⟩ := if_some hc
     have hgf : p.1 = f' := by
      simp only [callee, St.ev] at hp'
      cases hp'; rfl
     obtain ⟨fn, T, h2, m1, m2, m3, m4, m5⟩ := m
     refine m3.to fun k hk => ?_
     have hcls : cls C draw { dst := dst', op := .call { callee := .value (.func f'), args := al, argTypes := tys }, type := type, pos := pos, after := after, guard := guard } = .W := by
      show (if C.shared f' || adopts C f' then Cls.W else if draw then .R else .W) = .W
      rw [if_pos (by rw [hs]; rfl)]
     unfold opv
     rw [hcls]
     simp only []
     rw [if_pos he']
     simp only [opW]
     rw [hp', Option.bind_some]
     obtain ⟨p1, p2⟩ := p
     simp only [Option.some.injEq, Prod.mk.injEq] at hc
     obtain ⟨rfl, rfl, rfl⟩ := hc
     rw [if_pos (show ((methOf C (p1, D.pref b v 0 0 :: rest).1).isSome && isPref0 (p1, D.pref b v 0 0 :: rest).2) = true from hM)]
     simp only [hj, Option.bind_some]
     have hm2 := m2
     unfold methT at m2
     rw [m1, Option.bind_some] at m2
     obtain ⟨t0, q1, q2⟩ := Option.bind_eq_some_iff.1 m2
     unfold methIn at hi
     rw [hm2, Option.bind_some] at hi
     obtain ⟨cin', q3, q4⟩ := Option.bind_eq_some_iff.1 hi
     obtain ⟨q4, q5⟩ := if_some q4
     cases q5
     unfold goodH at m5
     obtain ⟨B0, r1, m6⟩ := Option.bind_eq_some_iff.1 m5
     obtain ⟨r2, m7⟩ := if_some m6
     obtain ⟨⟨n', mc⟩, r3, m8⟩ := Option.bind_eq_some_iff.1 m7
     obtain ⟨r4, m9⟩ := if_some m8
     simp only at r4 m9
     unfold goodF at m9
     obtain ⟨r5, m10⟩ := if_some m9
     obtain ⟨co, r6, m11⟩ := Option.bind_eq_some_iff.1 m10
     obtain ⟨r7, m12⟩ := if_some m11
     cases m12
     subst r4
     unfold methD
     have hO : ∀ (n : Nat) (cs : List D), oneAgg (.rows n [.agg cs]) = some (n, cs) := fun _ _ => rfl
     simp only [m1, q1, q2, hB, Option.bind_some, and_self, if_true, hO]
     simp only [hr, q3, Option.bind_some]
     have hrj : ∀ (h : Heap) (l : List D), rowJ h none l = none := fun _ _ => rfl
     simp only [hrj, methHeap]
     rw [if_pos ⟨q4.1, hn, q4.2.1, q4.2.2⟩]
     have hk' : run C F k p1 (List.zipWith (norm C.P) fn.params.toList (D.pref 0 1 0 0 :: args) ++ List.drop fn.params.size (D.pref 0 1 0 0 :: args)) [⟨1, false, .rows n' [.agg cin]⟩] = some (d, h2) := hk
     rw [hk']
     simp only [Option.bind_some, r1, r2, and_self, if_true, r3]
     rw [if_pos ⟨r5, trivial, m4⟩]
     simp only [r6, Option.bind_some]
     rw [if_pos r7]
     rfl
    exact (key.bindk (m := fun k (r : D × Heap) => opsRun C (run C F k) draw base os (C.plan f id) (i + 1) l ⟨putT s.tmps o.dst r.1, r.2⟩) h4).congr fun k => by
     rw [opsRun_cons, opStep_none (by simpa using hg), Option.bind_map]; rfl
   ·simp at hc
 | _ => simp [metAt, opAt] at hc
def nxAt (C : Cx) (f base : Nat) (c : Cf) : Option (D × Option Blk) := (opAt c).bind fun o => match o.op with
 | .next it isStr => if isStr && effOk C base (planAt C f c) o c.s.ev then some (c.s.ev it, blkAt c.s.heap (c.s.ev it)) else none
 | _ => none
theorem OpIs.nx {b v w pos : Nat} {s : ByteArray} (h : nxAt C f base c = some (.pref b v 0 0, some ⟨w, false, .iter s pos⟩)) (hw : w = v) (p : Bool) (hp : decide (pos < s.size) = p) :
  OpIs C f base c (if p then .tuple [.bool true, .int .i64 (pos : Nat), .int .i32 ((Utf8.decode s pos).1 : Nat)] else .tuple [.bool false]) (if p then c.s.heap.set b ⟨w, false, .iter s (pos + (Utf8.decode s pos).2)⟩ else c.s.heap) := by
 obtain ⟨⟨dst, op, type, pos', after, guard⟩, ho, h⟩ := op_some h
 cases op <;> simp only at h <;> try cases h
 rename_i it isStr
 split at h
 ·rename_i he
  rw [Bool.and_eq_true] at he
  injection h with h; injection h with h2 h3
  refine ⟨_, ho, rfl, ?_⟩
  show (if effOk C base _ _ _ then opW C _ _ _ _ _ _ else none) = _
  rw [if_pos he.2]
  rw [h2] at h3
  have h3' : c.s.heap[b]? = some ⟨w, false, .iter s pos⟩ := h3
  have h4 : isStr = true := he.1
  simp only [opW, h2, nextD, h3', Option.bind_some, hw, h4, and_self, if_true]
  cases p with
  | true =>
   have : pos < s.size := of_decide_eq_true hp
   simp only [this, if_true]
  | false =>
   have : ¬ pos < s.size := of_decide_eq_false hp
   simp only [this, if_false]
   rfl
 ·cases h
theorem OpIs.nxT {b v w pos : Nat} {s : ByteArray} (h : nxAt C f base c = some (.pref b v 0 0, some ⟨w, false, .iter s pos⟩)) (hw : w = v) (hp : pos < s.size) :
  OpIs C f base c (.tuple [.bool true, .int .i64 (pos : Nat), .int .i32 ((Utf8.decode s pos).1 : Nat)]) (c.s.heap.set b ⟨w, false, .iter s (pos + (Utf8.decode s pos).2)⟩) := OpIs.nx h hw true (decide_eq_true hp)
theorem OpIs.nxF {b v w pos : Nat} {s : ByteArray} (h : nxAt C f base c = some (.pref b v 0 0, some ⟨w, false, .iter s pos⟩)) (hw : w = v) (hp : ¬ pos < s.size) :
  OpIs C f base c (.tuple [.bool false]) c.s.heap := OpIs.nx h hw false (decide_eq_false hp)
def MAns (C : Cx) (fn : Func) (T : TypeId) (n : Nat) (d : D) (cout : List D) (x : X) (s : St) : Prop := endD C fn x s = some d ∧ goodH C T n (tidy s.heap 1) = some cout
theorem MAns.two {fn : Func} {T n : Nat} {d0 d : D} {c0 cout mc : List D} {x : X} {s : St} (h1 : endD C fn x s = some d0) (e1 : d0 = d) (hB : s.heap[0]? = some ⟨1, false, .rows n [.agg mc]⟩) (g1 : goodF C T n s.heap mc = some c0) (g2 : goodF C T n (s.heap.take 1) mc = some c0) (e2 : c0 = cout) : MAns C fn T n d cout x s := by
 subst e1; subst e2
 refine ⟨h1, ?_⟩
 unfold tidy
 split
 ·unfold goodH
  rw [List.getElem?_take_of_lt (by omega), hB]
  simpa [oneAgg] using g2
 ·unfold goodH
  rw [hB]
  simpa [oneAgg] using g1
theorem W.mt {fn : Func} {T n : Nat} {args cin zs : List D} {d : D} {cout : List D} (hf : C.P.funcs[f]? = some fn) (hT : methT C f = some T) (hb : fn.body.isSome = true) (hok : (C.ok f && (C.plan f 999998).isEmpty) = true) (hz : margs C fn args = zs) (hl : (zs.length ≤ fn.ntmps : Bool) = true) (hfl : d.flat 3 = true)
  (H : W C F f 1 (cfAt fn [] ⟨zs ++ List.replicate (fn.ntmps - zs.length) (.tuple []), [⟨1, false, .rows n [.agg cin]⟩] ++ List.replicate fn.ntmps noBlk⟩) (MAns C fn T n d cout)) : Mt C F f n args cin d cout := by
 obtain ⟨b, hb⟩ := Option.isSome_iff_exists.1 hb
 obtain ⟨H⟩ := H
 unfold cfAt at H
 rw [hb] at H
 simp only [posIn_nil] at H
 obtain ⟨x, s, h1, h2, h3⟩ := H
 refine ⟨fn, T, tidy s.heap 1, hf, hT, ?_, hfl, h3⟩
 rw [hz]
 refine .succ (h1.to fun k hk => ?_)
 rw [Bool.and_eq_true] at hok
 rw [run, hf, Option.bind_some, hb, Option.bind_some, if_pos ⟨hok.1, of_decide_eq_true hl⟩, if_neg (by simp [hok.2])]
 have hk' : exec C F k f [(⟨1, false, .rows n [.agg cin]⟩ : Blk)].length b ⟨zs ++ List.replicate (fn.ntmps - zs.length) (.tuple []), [⟨1, false, .rows n [.agg cin]⟩] ++ List.replicate fn.ntmps noBlk⟩ = some (x, s) := hk
 rw [hk', Option.bind_some]
 cases x with
 | exit id => simp [endD] at h2
 | normal => simp only [endD] at h2; simp only [h2, Option.map_some]; rfl
 | ret => simp only [endD] at h2; simp only [h2, Option.map_some]; rfl
end
end Go.Proofs.YtlpbmajbalenjaaA
