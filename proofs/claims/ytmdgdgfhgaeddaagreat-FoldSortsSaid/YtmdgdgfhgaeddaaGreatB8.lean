/- The shadow machine, a step at a time: a call's row becomes the caller's; rows that are put into rows; what is cleared. -/
import Derived.Test.YtmdgdgfhgaeddaaGreatB7
set_option linter.unusedVariables false
set_option linter.unusedSimpArgs false
namespace Go.Proofs.YtmdgdgfhgaeddaaGreatA
open Go
section
variable {C : Cx} {F : Forget} {f base : Nat} {c : Cf} {Q : X → St → Prop} {τ : Type}
/-- The call that is next, of a function whose answer's row is to be the caller's. -/
def adAt (C : Cx) (c : Cf) : Option (FuncId × List D × Tmp) := (opAt c).bind fun o => match o.op with
  | .call k => (match k.callee with
    | .value (.func f) => if adopts C f && !C.shared f then (callee k c.s.ev).bind fun p => o.dst.map fun t => (p.1, p.2, t) else none
    | _ => none)
  | _ => none
theorem W.adoptE {g : FuncId} {ds es : List D} {t : Tmp} {r : D} {h' : Heap} (hc : adAt C c = some (g, ds, t)) (hp : (planAt C f c).isEmpty = true) (hT : ds.all (D.isT 3) = true) (hre : ds.mapM (reify c.s.heap DEPTH) = some es)
    (hi : Ev (fun k => adoptD C (run C F k) base (some t) c.s.heap g es) (r, h')) (H : W C F f base (putC c r h') Q) : W C F f base c Q := by
  obtain ⟨H⟩ := H
  refine ⟨?_⟩
  obtain ⟨foc, fr, s⟩ := c
  cases foc with
  | ops id os draw i l =>
    cases l with
    | nil => simp [adAt, opAt] at hc
    | cons o l =>
      simp only [adAt, opAt] at hc
      split at hc
      · rename_i hg
        rw [Option.bind_some] at hc
        obtain ⟨s', h4, h5⟩ := H
        refine ⟨s', ?_, h5⟩
        have key : Ev (fun k => opv C (run C F k) draw base (Plan.at (C.plan f id) i) o s.ev s.heap) (r, h') := by
          obtain ⟨dst, op, type, pos, after, guard⟩ := o
          cases op <;> simp only at hc <;> try cases hc
          rename_i k
          obtain ⟨cl, al, tys⟩ := k
          cases cl <;> simp only at hc <;> try cases hc
          rename_i x
          cases x <;> simp only at hc <;> try cases hc
          rename_i f'
          obtain ⟨ha, hc⟩ := if_some hc
          obtain ⟨p, hp', hc⟩ := bind_some' hc
          obtain ⟨t', ht, hc⟩ := map_some' hc
          rw [Bool.and_eq_true] at ha
          have hcal := hp'
          have hgf : p.1 = f' := by
            simp only [callee, St.ev] at hcal
            cases hcal; rfl
          cases hc
          subst hgf
          have hns : ¬ C.shared p.1 = true := fun e => by rw [e] at ha; simp at ha
          refine hi.to fun k hk => ?_
          have hcls : cls C draw { dst := dst, op := .call { callee := .value (.func p.1), args := al, argTypes := tys }, type := type, pos := pos, after := after, guard := guard } = .W := by
            show (if C.shared p.1 || adopts C p.1 then Cls.W else if draw then .R else .W) = .W
            rw [if_pos (by rw [ha.1, Bool.or_true])]
          unfold opv
          rw [hcls]
          have he : effOk base (Plan.at (C.plan f id) i) { dst := dst, op := .call { callee := .value (.func p.1), args := al, argTypes := tys }, type := type, pos := pos, after := after, guard := guard } s.ev = true := by
            simp only [planAt] at hp
            simp only [effOk, hp, Bool.true_or]
          simp only []
          rw [if_pos he]
          simp only [opW]
          rw [show callee { callee := .value (.func p.1), args := al, argTypes := tys } s.ev = some p from hcal, Option.bind_some]
          rw [if_neg (fun h => hns (Bool.and_eq_true_iff.1 h).1), if_pos ha.1, hre, Option.bind_some, if_pos hT]
          rw [show dst = some t from ht]
          exact hk
        exact (key.bindk (m := fun k (r : D × Heap) => opsRun C (run C F k) draw base os (C.plan f id) (i + 1) l ⟨putT s.tmps o.dst r.1, r.2⟩) h4).congr fun k => by
          rw [opsRun_cons, opStep_none (by simpa using hg), Option.bind_map]; rfl
      · simp at hc
  | _ => simp [adAt, opAt] at hc
/-- A function's answer is a row of its own, of these. -/
def Ad (C : Cx) (F : Forget) (g : FuncId) (es : List D) (s : Nat) (xs : List D) (len : Nat) : Prop :=
  ∃ fn b v h0, C.P.funcs[g]? = some fn ∧ Ev (fun k => run C F k g (nargs C fn es) []) (.sref b v s 0 len, h0) ∧ h0[b]? = some ⟨v, false, .rows s xs⟩ ∧ len ≠ 0 ∧ xs.all (fun d => d.cells.all (D.isT 2)) = true
theorem Ad.adopt {g : FuncId} {es : List D} {s : Nat} {xs : List D} {len : Nat} (a : Ad C F g es s xs len) {t : Tmp} {h : Heap} {d w : Nat} {B : Blk} (hd : base + t = d) (hB : h[d]? = some B) (hw : B.ver + 1 = w) :
    Ev (fun k => adoptD C (run C F k) base (some t) h g es) (.sref d w s 0 len, h.set d ⟨w, false, .rows s xs⟩) := by
  obtain ⟨fn, b, v, h0, h1, h2, h3, h4, h5⟩ := a
  subst hd; subst hw
  refine h2.to fun k hk => ?_
  unfold adoptD
  rw [h1, Option.bind_some]
  have : run C F k g (fn.params.toList.zipWith (norm C.P) es ++ es.drop fn.params.size) [] = some (.sref b v s 0 len, h0) := hk
  rw [this, Option.bind_some]
  simp only [h3, Option.bind_some]
  rw [if_pos ⟨trivial, trivial, h4⟩]
  simp only [if_true, h5]
  simp only [putA, Option.bind_some, hB, Option.map_some]
theorem run_of2 {fn : Func} {b : Code} {zs : List D} {Q : X → St → Prop} (hf : C.P.funcs[f]? = some fn) (hb : fn.body = some b) (hok : C.ok f = true) (hne : (zs.length == 1 && zs.all isE) = false) (hl : zs.length ≤ fn.ntmps) (H : G C F f 0 ⟨.code b, [], start fn zs⟩ Q) :
    ∃ x s, Q x s ∧ ∀ d, endD C fn x s = some d → Ev (fun k => run C F k f zs []) (d, tidy s.heap 0) := by
  obtain ⟨x, s, h1, h2⟩ := H
  refine ⟨x, s, h2, fun d hd => .succ (h1.to fun k h => ?_)⟩
  rw [run, hf, Option.bind_some, hb, Option.bind_some, if_pos ⟨hok, hl⟩, if_neg (by rw [hne]; simp)]
  have h' : exec C F k f ([] : Heap).length b ⟨zs ++ List.replicate (fn.ntmps - zs.length) (.tuple []), [] ++ List.replicate fn.ntmps noBlk⟩ = some (x, s) := h
  rw [h', Option.bind_some]
  cases x with
  | exit id => simp [endD] at hd
  | normal => simp only [endD] at hd; simp only [hd]; rfl
  | ret => simp only [endD] at hd; simp only [hd]; rfl
def AdAns (C : Cx) (fn : Func) (s : Nat) (xs : List D) (len : Nat) (x : X) (st : St) : Prop := ∃ b v, endD C fn x st = some (.sref b (v + 1) s 0 len) ∧ st.heap[b]? = some ⟨v + 1, false, .rows s xs⟩
theorem W.ad {fn : Func} {ds zs : List D} {s : Nat} {xs : List D} {len : Nat} (hf : C.P.funcs[f]? = some fn) (hb : fn.body.isSome = true) (hok : C.ok f = true) (hz : nargs C fn ds = zs) (hne : (zs.length == 1 && zs.all isE) = false) (hl : (zs.length ≤ fn.ntmps : Bool) = true) (h0 : len ≠ 0)
    (hT : xs.all (fun d => d.cells.all (D.isT 2)) = true) (H : W C F f 0 (cfAt fn [] (start fn zs)) (AdAns C fn s xs len)) : Ad C F f ds s xs len := by
  obtain ⟨b, hb⟩ := Option.isSome_iff_exists.1 hb
  have H : G C F f 0 ⟨.code b, [], start fn zs⟩ (AdAns C fn s xs len) := by have H := H.h; unfold cfAt at H; rw [hb] at H; simp only [posIn_nil] at H; exact H
  obtain ⟨x, st, ⟨b', v, h1, h2⟩, h3⟩ := run_of2 hf hb hok hne (of_decide_eq_true hl) H
  have h4 := h3 _ h1
  rw [tidy_ver h2] at h4
  exact ⟨fn, b', v + 1, st.heap, hf, by rw [hz]; exact h4, h2, h0, hT⟩
/-- The operation: a slice is asked for nil. -/
def nqAt (c : Cf) (C : Cx) : Option (BinOp × TypeDesc × D × Operand) := (opAt c).bind fun o => match o.op with
  | .binOp op t x y _ => (C.P.underlying t).map fun u => (op, u, c.s.ev x, y)
  | _ => none
theorem OpIs.nqE {enc : τ → D} {n e : Nat} {L : List τ} (h : nqAt c C = some (.eql, .slice e, .list n (L.map enc), .const (.slice none 0 0))) (hL : L ≠ []) : OpIs C f base c (.bool false) c.s.heap := by
  obtain ⟨⟨dst, op, type, pos, after, guard⟩, ho, h⟩ := op_some h
  cases op <;> simp only at h <;> try cases h
  rename_i op t x y t'
  obtain ⟨u, hu, h⟩ := map_some' h
  injection h with h1 h; injection h with h2 h; injection h with h3 h4
  subst h1 h2 h4
  refine ⟨_, ho, rfl, ?_⟩
  show (opP C _ _).map _ = _
  cases L with
  | nil => exact absurd rfl hL
  | cons x0 L =>
    have hv : c.s.ev (.const (.slice none 0 0)) = .nilS := rfl
    simp only [opP, h3, hv, hu, Option.bind_some, binD, eqD, eqS, eqN, D.bare, List.map_cons, eqB, Option.map_some]
/-- The operation: what stands in a row is cleared. -/
def clAt (C : Cx) (base : Nat) (c : Cf) : Option (D × Option Blk × Nat) := (opAt c).bind fun o => match o.op with
  | .call k => (match k.callee with
    | .builtin b => if isClear b then (match k.args.toList, k.argTypes.toList with
      | [x], t :: _ => if effOk base (planAt C f c) o c.s.ev then (elemOf? C.P t).bind fun e => (szOf C.P e).bind fun s => (zeroD C.P e).bind fun z => if z.cells.length = s ∧ z.cells.all D.one then some (c.s.ev x, blkAt c.s.heap (c.s.ev x), s) else none else none
      | _, _ => none) else none
    | _ => none)
  | _ => none
theorem clE_op {x : D} {B : Option Blk} {s : Nat} (h : clAt (f := f) C base c = some (x, B, s)) {r : D} {h' : Heap}
    (H : ∀ t e z, elemOf? C.P t = some e → szOf C.P e = some s → zeroD C.P e = some z → z.cells.length = s ∧ z.cells.all D.one = true → B = blkAt c.s.heap x → clearD C.P c.s.heap t x = some (r, h')) : OpIs C f base c r h' := by
  obtain ⟨⟨dst, op, type, pos, after, guard⟩, ho, h⟩ := op_some h
  cases op <;> simp only at h <;> try cases h
  rename_i k
  obtain ⟨cl, al, tys⟩ := k
  cases cl <;> simp only at h <;> try cases h
  rename_i b
  obtain ⟨hb, h⟩ := if_some h
  have hbb : b = .clear := by cases b <;> first | rfl | cases hb
  subst hbb
  split at h <;> try cases h
  rename_i xo t ts ha ht
  obtain ⟨he, h⟩ := if_some h
  obtain ⟨e, h1, h⟩ := bind_some' h
  obtain ⟨s', h2, h⟩ := bind_some' h
  obtain ⟨z, h3, h⟩ := bind_some' h
  obtain ⟨h4, h⟩ := if_some h
  injection h with h
  injection h with h5 h; injection h with h6 h7
  subst h7
  refine ⟨_, ho, rfl, ?_⟩
  show (if effOk base (planAt C f c) _ c.s.ev = true then opW C _ _ base _ _ _ else none) = _
  rw [if_pos he]
  simp only [opW, isClear, if_true, ha, ht]
  rw [h5]
  exact H t e z h1 h2 h3 h4 (by rw [← h6, h5])
theorem OpIs.clE {enc : τ → D} {b v w s off len : Nat} {L L' : List τ} (h : clAt (f := f) C base c = some (.sref b v s off len, some ⟨w, false, .rows s (L.map enc)⟩, s)) (hL : L' = L.take off) (hw : w = v) (hl : len = L.length - off) :
    OpIs C f base c (.tuple []) (c.s.heap.set b ⟨w, false, .rows s (L'.map enc)⟩) := by
  subst hL
  refine clE_op h fun t e z h1 h2 h3 h4 hb => ?_
  have hb : c.s.heap[b]? = some ⟨w, false, .rows s (L.map enc)⟩ := hb.symm
  simp only [clearD, h1, h2, h3, Option.bind_some]
  rw [if_pos h4]
  simp only [D.bare]
  by_cases h0 : len = 0
  · rw [if_pos h0]
    have : L.take off = L := List.take_of_length_le (by omega)
    rw [this]
    congr 2
    apply List.ext_getElem?
    intro i
    rw [List.getElem?_set]
    split
    · rename_i hi; subst hi; split
      · rename_i hl2; rw [hb]
      · rename_i hl2; rw [List.getElem?_eq_none (by omega)]
    · rfl
  · rw [if_neg h0, hb, Option.bind_some, if_pos ⟨hw, rfl, trivial⟩]
    simp only [if_true, ← List.map_take]
/-- The operation: a row is written out, and what its parts lead to is written no more. -/
def bsAt (C : Cx) (base : Nat) (c : Cf) : Option (TypeId × Nat × List Nat × List D) := (opAt c).bind fun o => match o.op with
  | .buildSlice t len parts => if leads C.P t && !drawAt c then if effOk base (planAt C f c) o c.s.ev then some (t, len, parts.toList.map (·.1), parts.toList.map fun p => c.s.ev p.2) else none else none
  | _ => none
theorem OpIs.bs {t len : Nat} {is : List Nat} {vs es : List D} {d : D} {h' : Heap} (h : bsAt (f := f) C base c = some (t, len, is, vs)) (hr : vs.mapM (reify c.s.heap DEPTH) = some es) (hb : buildL C.P t len (is.zip es) = some d) (hh : freeze c.s.heap (vs.flatMap (reach c.s.heap DEPTH)) = h') :
    OpIs C f base c d h' := by
  obtain ⟨⟨dst, op, type, pos, after, guard⟩, ho, h⟩ := op_some h
  cases op <;> simp only at h <;> try cases h
  rename_i t' len' parts
  obtain ⟨hld, h⟩ := if_some h
  obtain ⟨he, h⟩ := if_some h
  injection h with h
  injection h with h1 h; injection h with h2 h; injection h with h3 h4
  subst h1 h2 h3 h4
  refine ⟨_, ho, rfl, ?_⟩
  unfold opv
  have hcls : cls C (drawAt c) { dst := dst, op := Op.buildSlice t' len' parts, type := type, pos := pos, after := after, guard := guard } = .W := by
    show (if leads C.P t' && !drawAt c then Cls.W else .P) = .W
    rw [if_pos hld]
  rw [hcls]
  show (if effOk base (planAt C f c) _ c.s.ev = true then opW C _ _ base _ _ _ else none) = _
  rw [if_pos he]
  simp only [opW, hr, Option.bind_some, hb, Option.map_some, hh]
theorem W.opF {d : D} {h' : Heap} (ho : OpIs C f base c d h') (H : W C F f base (putC c d h') Q) : W C F f base c Q := ⟨G.op ho H.h⟩
/-- The end of a call that works on the caller's rows, and may leave rows of its own. -/
def SAnsL (C : Cx) (fn : Func) (n : Nat) (d : D) (h' : Heap) (x : X) (s : St) : Prop := endD C fn x s = some d ∧ ∃ l, tidy s.heap n = h' ++ l
theorem SAnsL.own {fn : Func} {n b v : Nat} {fz : Bool} {y : Body} {d0 d : D} {h0 h' : Heap} {x : X} {s : St} (h1 : endD C fn x s = some d0) (e1 : d0 = d) (hn : Nat.ble n b = true) (hb : s.heap[b]? = some ⟨v + 1, fz, y⟩) (h2 : s.heap = h0 ++ s.heap.drop n) (e2 : h0 = h') : SAnsL C fn n d h' x s :=
  ⟨e1 ▸ h1, _, by rw [tidy_own (Nat.le_of_ble_eq_true hn) hb, ← e2]; exact h2⟩
theorem SAnsL.non {fn : Func} {n : Nat} {d0 d : D} {h0 h' : Heap} {x : X} {s : St} (h1 : endD C fn x s = some d0) (e1 : d0 = d) (h2 : tidy s.heap n = h0) (e2 : h0 = h') : SAnsL C fn n d h' x s :=
  ⟨e1 ▸ h1, [], by rw [h2, e2, List.append_nil]⟩
theorem SAnsL.any {fn : Func} {n : Nat} {d0 d : D} {h0 h' : Heap} {x : X} {s : St} (h1 : endD C fn x s = some d0) (e1 : d0 = d) (hn : h0.length = n) (h2 : s.heap = h0 ++ s.heap.drop n) (e2 : h0 = h') : SAnsL C fn n d h' x s := by
  refine ⟨e1 ▸ h1, ?_⟩
  unfold tidy
  split
  · refine ⟨[], ?_⟩
    rw [h2, List.take_append_of_le_length (by omega), ← hn, List.take_length, e2, List.append_nil]
  · exact ⟨_, by rw [← e2]; exact h2⟩
theorem W.scL {fn : Func} {ds : List D} {h h' : Heap} {d : D} {n : Nat} (hf : C.P.funcs[f]? = some fn) (hb : fn.body.isSome = true) (hok : (C.ok f && (C.plan f 999998).isEmpty) = true) (hn : h.length = n) (hl : (ds.length ≤ fn.ntmps : Bool) = true)
    (H : W C F f n (cfAt fn [] ⟨ds ++ List.replicate (fn.ntmps - ds.length) (.tuple []), h ++ List.replicate fn.ntmps noBlk⟩) (SAnsL C fn n d h')) : ∃ l, Sc C F f ds h d (h' ++ l) := by
  subst hn
  obtain ⟨b, hb⟩ := Option.isSome_iff_exists.1 hb
  obtain ⟨H⟩ := H
  unfold cfAt at H
  rw [hb] at H
  simp only [posIn_nil] at H
  obtain ⟨x, s, h1, h2, l, h3⟩ := H
  refine ⟨l, .succ (h1.to fun k hk => ?_)⟩
  rw [Bool.and_eq_true] at hok
  rw [run, hf, Option.bind_some, hb, Option.bind_some, if_pos ⟨hok.1, of_decide_eq_true hl⟩, if_neg (by simp [hok.2])]
  have hk' : exec C F k f h.length b ⟨ds ++ List.replicate (fn.ntmps - ds.length) (.tuple []), h ++ List.replicate fn.ntmps noBlk⟩ = some (x, s) := hk
  rw [hk', Option.bind_some]
  cases x with
  | exit id => simp [endD] at h2
  | normal => simp only [endD] at h2; simp only [h2, Option.map_some, h3]
  | ret => simp only [endD] at h2; simp only [h2, Option.map_some, h3]
theorem W.sharedL {g : FuncId} {ds : List D} {d : D} {P P' : (Nat → Blk) → Heap} (hc : shAt C c = some (g, ds)) (hp : (planAt C f c).isEmpty = true) (hh : c.s.heap = P (fun i => c.s.heap.getD i noBlk)) (hr : ∀ cb, ∃ l, Sc C F g ds (P cb) d (P' cb ++ l))
    (H : ∀ l, W C F f base (putC c d (P' (fun i => c.s.heap.getD i noBlk) ++ l)) Q) : W C F f base c Q := by
  obtain ⟨l, h⟩ := hr (fun i => c.s.heap.getD i noBlk)
  exact W.shared hc hp hh h (H l)
theorem rf_prefV {h : Heap} {m b v w i off n : Nat} {fz : Bool} {xs : List D} {d : D} {cs : List D} (hb : h[b]? = some ⟨w, fz, .rows n xs⟩) (hw : w = v) (hd : xs[i]? = some d) (hc : (d.cells.drop off).mapM (reify h m) = some cs) : reify h (m + 1) (.pref b v i off) = some (.ptr cs) := by
  have hg := get_of (h := h) hb hw
  simp only [reify, cellsAt, hg, hd, Option.map_some, Option.bind_some, hc]
theorem rf_fn {h : Heap} {m f : Nat} {a c a' c' : List D} (ha : a.mapM (reify h m) = some a') (hc : c.mapM (reify h m) = some c') : reify h (m + 1) (.fn f a c) = some (.fn f a' c') := by
  simp only [reify, ha, hc, Option.bind_some, Option.map_some]
end
end Go.Proofs.YtmdgdgfhgaeddaaGreatA
