/- The program as the shadow sees it, and short names. -/
import Derived.Test.YtlpbmajbalenjaaB2
import Derived.Test.YtlpbmajbalenjaaProg
import Derived.Test.YtlpbmajbalenjaaChecked
import Derived.KernelRfl
set_option linter.unusedVariables false
set_option linter.unusedSimpArgs false
namespace Go.Proofs.YtlpbmajbalenjaaA
open Go Go.Proofs
noncomputable def C : Cx := ⟨Try.prog, fun f => false, fun f r => if f == 13 && r == 10 then [(1, [2]), (2, [2]), (3, [3]), (4, [4])] else [], fun f => !(f == 13 || f == 48), lexOrc Try.prog ⟨13, 43, 44, 45, 46, 48⟩⟩
def F : Forget := fun _ _ => ([], [])
abbrev wi (n : Int) : Int := IntKind.wrap .i64 n
abbrev wu (n : Int) : Int := IntKind.wrap .u64 n
def mn (a b : Int) : Int := if b < a then b else a
structure W (C : Cx) (F : Forget) (f base : Nat) (c : Cf) (Q : X → St → Prop) : Prop where
 h : G C F f base c Q
section
variable {C : Cx} {F : Forget} {f base : Nat} {c : Cf} {Q : X → St → Prop}
theorem W.adv (n : Nat) (H : W C F f base (steps C F f base n c) Q) : W C F f base c Q := ⟨G.adv n H.h⟩
theorem W.guard {w : Bool} (v : Bool) (h : guardAt c = some w) (hw : w = v) (H : W C F f base (goG c v) Q) : W C F f base c Q := ⟨G.guard v h hw H.h⟩
theorem W.cond {w : Bool} (v : Bool) (h : condAt c = some w) (hw : w = v) (H : W C F f base (goC c v) Q) : W C F f base c Q := ⟨G.cond v h hw H.h⟩
theorem W.opS {d : D} (ho : OpIs C f base c d c.s.heap) (H : W C F f base (putS c d) Q) : W C F f base c Q := ⟨G.op ho H.h⟩
theorem W.callR {g : FuncId} {ds es : List D} {r : D} (h : callAt C c = some (g, ds)) (hr : ds.mapM (reify (hpAt C f base c) DEPTH) = some es) (hi : Ic C F g es r)
  (hm : mayC C f c ds r = true) (H : W C F f base (putR c ds r) Q) : W C F f base c Q := ⟨G.call h hr hi hm H.h⟩
theorem W.fin {x : X} (e : outAt c = some x) (H : Q x c.s) : W C F f base c Q := ⟨G.fin e H⟩
theorem W.to_loop {P : (Nat → D) → (Nat → Blk) → (Nat → Nat) → Cf} (H : ∀ j jb vs, W C F f base (P j jb vs) Q)
  (e : c = P (fun i => c.s.tmps.getD i .top) (fun i => c.s.heap.getD i noBlk) (fun i => (c.s.heap.getD i noBlk).ver - 1)) : W C F f base c Q := ⟨G.same (H _ _ _).h e⟩
theorem W.ic {fn : Func} {ds zs : List D} {e : D} (hf : C.P.funcs[f]? = some fn) (hb : fn.body.isSome = true) (hok : (C.ok f && (C.plan f 999998).isEmpty) = true) (hz : nargs C fn ds = zs) (hl : (zs.length ≤ fn.ntmps : Bool) = true) (H : W C F f 0 (cfAt fn [] (start fn zs)) (Ans C fn e)) : Ic C F f ds e :=
 Ic.of hf hb hok hz hl H.h
end
def LawIs (C : Cx) (F : Forget) (f : FuncId) (zs : List D) (z : Bool) : Prop := ∃ k h', run C F k f zs [] = some (.bool z, h')
def LAns (C : Cx) (fn : Func) (z : Bool) (x : X) (s : St) : Prop := endD C fn x s = some (.bool z)
theorem LAns.of {C : Cx} {fn : Func} {z : Bool} {x : X} {s : St} {d : D} (h : endD C fn x s = some d) (e : d = .bool z) : LAns C fn z x s := by subst e; exact h
theorem W.lawIs {C : Cx} {F : Forget} {f : FuncId} {fn : Func} {zs : List D} {z : Bool} (hf : C.P.funcs[f]? = some fn) (hb : fn.body.isSome = true) (hok : (C.ok f && (C.plan f 999998).isEmpty) = true) (hl : (zs.length ≤ fn.ntmps : Bool) = true) (H : W C F f 0 (cfAt fn [] (start fn zs)) (LAns C fn z)) : LawIs C F f zs z := by
 obtain ⟨b, hb⟩ := Option.isSome_iff_exists.1 hb
 have H : G C F f 0 ⟨.code b, [], start fn zs⟩ (LAns C fn z) := by have H := H.h; unfold cfAt at H; rw [hb] at H; simp only [posIn_nil] at H; exact H
 obtain ⟨x, s, h1, h2⟩ := run_of hf hb hok (of_decide_eq_true hl) H
 obtain ⟨K, hK⟩ := h2 _ h1
 exact ⟨K, _, hK K (Nat.le_refl _)⟩
theorem bfalse {b : Bool} (h : ¬b = true) : b = false := by cases b with | true => exact absurd rfl h | false => rfl
theorem Ic.args {C : Cx} {F : Forget} {g : FuncId} {ds es : List D} {r : D} (h : Ic C F g ds r) (e : (C.P.funcs[g]?).map (fun fn => nargs C fn ds) = (C.P.funcs[g]?).map (fun fn => nargs C fn es)) : Ic C F g es r := by
 refine h.congr fun k => ?_
 unfold icall
 cases hf : C.P.funcs[g]? with
 | none => rfl
 | some fn =>
  rw [hf] at e
  have e' : nargs C fn ds = nargs C fn es := Option.some.inj e
  show ((run C F k g (nargs C fn es) []).bind _) = ((run C F k g (nargs C fn ds) []).bind _)
  rw [e']
end Go.Proofs.YtlpbmajbalenjaaA
namespace Go.Proofs.YtlpbmajbalenjaaA
open Go
section
variable (C : Cx) (f base : Nat)
def lnAt (c : Cf) : Option Nat := (opAt c).bind fun o => match o.op with
 | .call k => (match k.callee with
  | .builtin .len => (match k.args.toList, k.argTypes.toList with
   | [x], t :: _ => lenD C.P t (c.s.ev x)
   | _, _ => none)
  | _ => none)
 | _ => none
end
section
variable {C : Cx} {F : Forget} {f base : Nat} {c : Cf} {Q : X → St → Prop}
theorem OpIs.ln {n m : Nat} (h : lnAt C c = some n) (hn : n = m) : OpIs C f base c (.int .i64 (m : Int)) c.s.heap := by
 subst hn
 obtain ⟨⟨dst, op, type, pos, after, guard⟩, ho, h⟩ := op_some h
 cases op <;> simp only at h <;> try cases h
 rename_i q
 obtain ⟨cl, al, tys⟩ := q
 cases cl <;> simp only at h <;> try cases h
 rename_i bi
 cases bi <;> simp only at h <;> try cases h
 split at h
 ·rename_i hb1 hb2
  refine ⟨_, ho, rfl, ?_⟩
  show (opP C _ _).map _ = _
  simp only [opP, hb1, hb2, h, Option.map_some]
 ·cases h
end
end Go.Proofs.YtlpbmajbalenjaaA
namespace Go.Proofs.YtlpbmajbalenjaaA
open Go
end Go.Proofs.YtlpbmajbalenjaaA
namespace Go.Proofs.YtlpbmajbalenjaaA
open Go
section
variable {C : Cx} {F : Forget} {f base : Nat} {c : Cf} {Q : X → St → Prop} {τ : Type}
theorem mapD_at {enc : τ → D} {L : List τ} {i : Nat} {d0 x : τ} (hi : i < L.length) (hx : L.getD i d0 = x) : (L.map enc)[i]? = some (enc x) := by
 rw [List.getD_eq_getElem?_getD, List.getElem?_eq_getElem hi] at hx
 rw [List.getElem?_map, List.getElem?_eq_getElem hi, ← hx]
 rfl
theorem OpIs.ixE {enc : τ → D} {n : Nat} {k' : IntKind} {L : List τ} {i : Int} {d0 x : τ} (h : ixAt C c = some (.list n (L.map enc), .int k' i, n)) (h0 : 0 ≤ i) (h1 : i < (L.length : Int)) (hx : L.getD i.toNat d0 = x) : OpIs C f base c (.ptr (enc x).cells) c.s.heap :=
 OpIs.ixL (d := enc x) h h0 (mapD_at (by omega) hx)
end
end Go.Proofs.YtlpbmajbalenjaaA
namespace Go.Proofs.YtlpbmajbalenjaaA
open Go
section
variable {κ ν : Type} [DecidableEq κ] {ek : κ → D} {ev : ν → D} {kd : TypeDesc}
abbrev mrow (ek : κ → D) (ev : ν → D) (L : List (κ × ν)) : List (D × D) := L.map fun p => (ek p.1, ev p.2)
end
section
variable {C : Cx} {F : Forget} {f base : Nat} {c : Cf} {Q : X → St → Prop} {κ ν : Type} [DecidableEq κ] {ek : κ → D} {ev : ν → D}
abbrev mks (ek : κ → D) (L : List (κ × ν)) : List D := L.map fun p => ek p.1
abbrev mvs (ev : ν → D) (L : List (κ × ν)) : List D := L.map fun p => ev p.2
omit [DecidableEq κ] in
end
theorem addS {x y : ByteArray} (h : x.size + y.size ≤ 9223372036854775807) : binD .add (.str x) (.str y) = some (.str (x ++ y)) := by
 show (if x.size + y.size ≤ 9223372036854775807 then some (D.str (x ++ y)) else none) = _
 rw [if_pos h]
end Go.Proofs.YtlpbmajbalenjaaA
namespace Go.Proofs.YtlpbmajbalenjaaA
open Go Go.Proofs
end Go.Proofs.YtlpbmajbalenjaaA
namespace Go.Proofs.YtlpbmajbalenjaaA
open Go
end Go.Proofs.YtlpbmajbalenjaaA
namespace Go.Proofs.YtlpbmajbalenjaaA
open Go
section
variable {C : Cx} {F : Forget} {f base : Nat} {c : Cf} {Q : X → St → Prop} {τ : Type}
def slTAt (C : Cx) (c : Cf) : Option (ByteArray × Option D × Option D) := (opAt c).bind fun o => match o.op with
 | .slice t x lo hi none => match C.P.underlying t, c.s.ev x with
  | some .string, .str s => some (s, lo.map c.s.ev, hi.map c.s.ev)
  | _, _ => none
 | _ => none
theorem OpIs.slT {s : ByteArray} {lo hi : Option D} {a b : Nat} (h : slTAt C c = some (s, lo, hi)) (hb : boundD hi s.size s.size = some b) (ha : boundD lo 0 b = some a) : OpIs C f base c (.str (s.extract a b)) c.s.heap := by
 obtain ⟨⟨dst, op, type, pos, after, guard⟩, ho, h⟩ := op_some h
 cases op <;> simp only at h <;> try cases h
 rename_i t x l h' m
 cases m <;> simp only at h <;> try cases h
 split at h <;> try (cases h; done)
 rename_i s' hu hx
 injection h with h; injection h with h1 h; injection h with h2 h3
 subst h1 h2 h3
 refine ⟨_, ho, rfl, ?_⟩
 show (opP C _ _).map _ = _
 simp only [opP, sliceD, hx, D.bare, hu, hb, ha, Option.bind_some, Option.map_some, Option.map_none]
theorem OpIs.slT_hi {k' : IntKind} {s : ByteArray} {i : Int} (h : slTAt C c = some (s, none, some (.int k' i))) (h0 : 0 ≤ i) (h1 : i ≤ (s.size : Int)) : OpIs C f base c (.str (s.extract 0 i.toNat)) c.s.heap :=
 OpIs.slT h (bound_some h0 h1) (bound_none _ _)
def ixTAt (C : Cx) (c : Cf) : Option (ByteArray × D) := (opAt c).bind fun o => match o.op with
 | .index t x i => match C.P.underlying t, c.s.ev x with
  | some .string, .str s => some (s, c.s.ev i)
  | _, _ => none
 | _ => none
def letter (s : ByteArray) (i : Int) : Int := ((s.data.getD i.toNat 0).toNat : Int)
theorem OpIs.ixT {k : IntKind} {s : ByteArray} {i : Int} (h : ixTAt C c = some (s, .int k i)) (h0 : 0 ≤ i) (h1 : i < (s.size : Int)) : OpIs C f base c (.int .u8 (letter s i)) c.s.heap := by
 obtain ⟨⟨dst, op, type, pos, after, guard⟩, ho, h⟩ := op_some h
 cases op <;> simp only at h <;> try cases h
 rename_i t x i'
 split at h <;> try (cases h; done)
 rename_i s' hu hx
 injection h with h; injection h with h1' h2
 subst h1'
 refine ⟨_, ho, rfl, ?_⟩
 show (opP C _ _).map _ = _
 simp only [opP, hx, hu, h2, if_pos h0, if_pos h1, Option.map_some]
 rfl
end
end Go.Proofs.YtlpbmajbalenjaaA
namespace Go.Proofs.YtlpbmajbalenjaaA
open Go
section
variable {C : Cx} {F : Forget} {f base : Nat} {c : Cf} {Q : X → St → Prop} {τ : Type}
def J {α : Type} (f : Nat → α) (a : Nat) : Nat → List α
 | 0 => []
 | n + 1 => f a :: J f (a + 1) n
theorem W.ct (p : Prop) [Decidable p] (h : p) (H : W C F f base (goC c true) Q) (e : condAt c = some (decide p) := by kernel_rfl) : W C F f base c Q := W.cond true e (decide_eq_true h) H
theorem W.cf (p : Prop) [Decidable p] (h : ¬p) (H : W C F f base (goC c false) Q) (e : condAt c = some (decide p) := by kernel_rfl) : W C F f base c Q := W.cond false e (decide_eq_false h) H
theorem W.gt (p : Prop) [Decidable p] (h : p) (H : W C F f base (goG c true) Q) (e : guardAt c = some (decide p == true) := by kernel_rfl) : W C F f base c Q := W.guard true e (congrArg (fun b => b == true) (decide_eq_true h)) H
theorem W.gf (p : Prop) [Decidable p] (h : ¬p) (H : W C F f base (goG c false) Q) (e : guardAt c = some (decide p == true) := by kernel_rfl) : W C F f base c Q := W.guard false e (congrArg (fun b => b == true) (decide_eq_false h)) H
theorem Ans.o {fn : Func} {e : D} {x : X} {s : St} (d : D) (he : d = e) (h : endD C fn x s = some d := by kernel_rfl) (hr : reify (tidy s.heap 0) DEPTH d = some d := by kernel_rfl) (hn : normR C.P fn.resultTypes.toList d = d := by kernel_rfl) : Ans C fn e x s := Ans.of h hr hn he
theorem W.cl (g : FuncId) (ds : List D) (r : D) {es : List D} (hi : Ic C F g es r) (H : W C F f base (putR c ds r) Q) (h : callAt C c = some (g, ds) := by kernel_rfl) (hr : ds.mapM (reify (hpAt C f base c) DEPTH) = some ds := by kernel_rfl)
  (ha : (C.P.funcs[g]?).map (fun fn => nargs C fn es) = (C.P.funcs[g]?).map (fun fn => nargs C fn ds) := by kernel_rfl) (hm : mayC C f c ds r = true := by kernel_rfl) : W C F f base c Q := W.callR h hr (hi.args ha) hm H
theorem W.fr {Q : X → St → Prop} (H : Q .ret c.s) (e : outAt c = some .ret := by kernel_rfl) : W C F f base c Q := W.fin e H
theorem W.tl {P : (Nat → D) → (Nat → Blk) → (Nat → Nat) → Cf} (H : ∀ j jb vs, W C F f base (P j jb vs) Q)
  (e : c = P (fun i => c.s.tmps.getD i .top) (fun i => c.s.heap.getD i noBlk) (fun i => (c.s.heap.getD i noBlk).ver - 1) := by kernel_rfl) : W C F f base c Q := W.to_loop H e
theorem O.ln (L : List τ) (enc : τ → D) (h : lnAt C c = some (L.map enc).length := by kernel_rfl) : OpIs C f base c (.int .i64 (L.length : Int)) c.s.heap := OpIs.ln h (List.length_map _)
theorem O.ixE (enc : τ → D) (n : Nat) (k' : IntKind) (L : List τ) (i : Int) (d0 x : τ) (h0 : 0 ≤ i) (h1 : i < (L.length : Int)) (hx : L.getD i.toNat d0 = x) (h : ixAt C c = some (.list n (L.map enc), .int k' i, n) := by kernel_rfl) : OpIs C f base c (.ptr (enc x).cells) c.s.heap := OpIs.ixE h h0 h1 hx
theorem W.ii {fn : Func} {ds : List D} {e : D} (hf : C.P.funcs[f]? = some fn) (H : W C F f 0 (cfAt fn [] (start fn ds)) (Ans C fn e)) (hb : fn.body.isSome = true := by kernel_rfl) (hok : (C.ok f && (C.plan f 999998).isEmpty) = true := by kernel_rfl) (hz : nargs C fn ds = ds := by kernel_rfl) (hl : (ds.length ≤ fn.ntmps : Bool) = true := by kernel_rfl) : Ic C F f ds e := W.ic hf hb hok hz hl H
theorem W.li {fn : Func} {zs : List D} {z : Bool} (hf : C.P.funcs[f]? = some fn) (H : W C F f 0 (cfAt fn [] (start fn zs)) (LAns C fn z)) (hb : fn.body.isSome = true := by kernel_rfl) (hok : (C.ok f && (C.plan f 999998).isEmpty) = true := by kernel_rfl) (hl : (zs.length ≤ fn.ntmps : Bool) = true := by kernel_rfl) : LawIs C F f zs z := W.lawIs hf hb hok hl H
theorem W.cb (v w : Bool) (hw : w = v) (H : W C F f base (goC c v) Q) (h : condAt c = some w := by kernel_rfl) : W C F f base c Q := W.cond v h hw H
theorem W.gb (v w : Bool) (hw : w = v) (H : W C F f base (goG c v) Q) (h : guardAt c = some w := by kernel_rfl) : W C F f base c Q := W.guard v h hw H
theorem O.pk (t v : Bool) (x y : D) (hv : t = v) (h : pkAt c = some (t, x, y) := by kernel_rfl) : OpIs C f base c (match v with | true => x | false => y) c.s.heap := OpIs.pk v h hv
end
end Go.Proofs.YtlpbmajbalenjaaA
