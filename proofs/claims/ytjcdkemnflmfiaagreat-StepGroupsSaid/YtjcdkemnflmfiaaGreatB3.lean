/- The program as the shadow sees it, and short names. -/
import Derived.Test.YtjcdkemnflmfiaaGreatB2
import Derived.Test.YtjcdkemnflmfiaaGreatProg
import Derived.Test.YtjcdkemnflmfiaaGreatChecked
import Derived.KernelRfl
set_option linter.unusedVariables false
namespace Go.Proofs.YtjcdkemnflmfiaaGreatA
open Go Go.Proofs
noncomputable def C : Cx := ⟨Tryz.prog, fun f => f == 19 || f == 21 || f == 39 || f == 42 || f == 60 || f == 61 || f == 62 || f == 63 || f == 74 || f == 79 || f == 86 || f == 87 || f == 88 || f == 89 || f == 91 || f == 92 || f == 93 || f == 94 || f == 109 || f == 122 || f == 138 || f == 221 || f == 222, fun f r => if f == 4 && r == 18 then [(3, [91]), (4, [91]), (6, [91]), (10, [11])] else if f == 5 && r == 11 then [(3, [47]), (5, [47]), (7, [51])] else if f == 6 && r == 2 then [(0, [15]), (3, [15]), (5, [15])] else if f == 7 && r == 15 then [(5, [60]), (7, [60]), (11, [66]), (13, [12])] else if f == 11 && r == 36 then [(4, [152]), (6, [152]), (7, [152]), (9, [157]), (11, [22]), (13, [22])] else if f == 19 && r == 12 then [(3, [39]), (6, [39]), (8, [44])] else if f == 34 && r == 10 then [(1, [66]), (25, [66]), (28, [69]), (30, [6])] else if f == 196 && r == 8 then [(1, [4]), (2, [4]), (3, [4])] else if f == 19 && r == 999999 then [(0, [])] else if f == 21 && r == 999999 then [(0, [])] else if f == 39 && r == 999999 then [(0, [])] else if f == 42 && r == 999999 then [(0, [])] else if f == 60 && r == 999999 then [(0, [])] else if f == 61 && r == 999999 then [(0, [])] else if f == 62 && r == 999999 then [(0, [])] else if f == 63 && r == 999999 then [(0, [])] else if f == 109 && r == 999999 then [(0, [])] else if f == 122 && r == 999999 then [(0, [])] else if f == 39 && r == 1000162 then [(0, [])] else if f == 80 && r == 999997 then [(0, [])] else if f == 80 && r == 999998 then [(0, [])] else if f == 122 && r == 1000324 then [(0, [])] else if f == 122 && r == 1000450 then [(0, [])] else if f == 19 && r == 1000225 then [(0, [])] else if f == 19 && r == 1000351 then [(0, [])] else if f == 21 && r == 1000280 then [(0, [])] else if f == 21 && r == 1000406 then [(0, [])] else if f == 42 && r == 1000351 then [(0, [])] else if f == 42 && r == 1000477 then [(0, [])] else if f == 60 && r == 1000289 then [(0, [])] else if f == 60 && r == 1000415 then [(0, [])] else if f == 61 && r == 1000308 then [(0, [])] else if f == 61 && r == 1000434 then [(0, [])] else if f == 62 && r == 1000315 then [(0, [])] else if f == 62 && r == 1000441 then [(0, [])] else if f == 63 && r == 1000343 then [(0, [])] else if f == 63 && r == 1000469 then [(0, [])] else [], fun f => !(f == 144)⟩
def F : Forget := fun _ _ => ([], [])
abbrev wi (n : Int) : Int := IntKind.wrap .i64 n
abbrev wu (n : Int) : Int := IntKind.wrap .u64 n
def mx (a b : Int) : Int := if b > a then b else a
def mn (a b : Int) : Int := if b < a then b else a
structure W (C : Cx) (F : Forget) (f base : Nat) (c : Cf) (Q : X → St → Prop) : Prop where
 h : G C F f base c Q
section
variable {C : Cx} {F : Forget} {f base : Nat} {c : Cf} {Q : X → St → Prop}
theorem W.adv (n : Nat) (H : W C F f base (steps C F f base n c) Q) : W C F f base c Q := ⟨G.adv n H.h⟩
theorem W.guard {w : Bool} (v : Bool) (h : guardAt c = some w) (hw : w = v) (H : W C F f base (goG c v) Q) : W C F f base c Q := ⟨G.guard v h hw H.h⟩
theorem W.cond {w : Bool} (v : Bool) (h : condAt c = some w) (hw : w = v) (H : W C F f base (goC c v) Q) : W C F f base c Q := ⟨G.cond v h hw H.h⟩
theorem W.opS {d : D} (ho : OpIs C f base c d c.s.heap) (H : W C F f base (putS c d) Q) : W C F f base c Q := ⟨G.op ho H.h⟩
theorem W.opH {d : D} {b : Nat} {B : Blk} (ho : OpIs C f base c d (c.s.heap.set b B)) (H : W C F f base (putH c d b B) Q) : W C F f base c Q := ⟨G.op ho H.h⟩
theorem W.callR {g : FuncId} {ds es : List D} {r : D} (h : callAt C c = some (g, ds)) (hr : ds.mapM (reify (hpAt C f base c) DEPTH) = some es) (hi : Ic C F g es r)
  (hm : mayC C f c ds r = true) (H : W C F f base (putR c ds r) Q) : W C F f base c Q := ⟨G.call h hr hi hm H.h⟩
theorem W.fin {x : X} (e : outAt c = some x) (H : Q x c.s) : W C F f base c Q := ⟨G.fin e H⟩
theorem W.to_loop {P : (Nat → D) → (Nat → Blk) → (Nat → Nat) → Cf} (H : ∀ j jb vs, W C F f base (P j jb vs) Q)
  (e : c = P (fun i => c.s.tmps.getD i .top) (fun i => c.s.heap.getD i noBlk) (fun i => (c.s.heap.getD i noBlk).ver - 1)) : W C F f base c Q := ⟨G.same (H _ _ _).h e⟩
theorem W.ic {fn : Func} {ds zs : List D} {e : D} (hf : C.P.funcs[f]? = some fn) (hb : fn.body.isSome = true) (hok : (C.ok f && (C.plan f 999998).isEmpty) = true) (hz : nargs C fn ds = zs) (hl : (zs.length ≤ fn.ntmps : Bool) = true) (H : W C F f 0 (cfAt fn [] (start fn zs)) (Ans C fn e)) : Ic C F f ds e :=
 Ic.of hf hb hok hz hl H.h
end
def LawIs (C : Cx) (F : Forget) (f : FuncId) (zs : List D) (z : Bool) : Prop := ∃ k h', run C F k f zs [] = some (.bool z, h')
def LAns (C : Cx) (fn : Func) (z : Bool) (x : X) (s : St) : Prop := endD C fn x s = some (.bool z)
theorem LAns.of {C : Cx} {fn : Func} {z : Bool} {x : X} {s : St} {d : D} (h : endD C fn x s = some d) (e : d = .bool z) : LAns C fn z x s := by subst e; exact h
theorem W.lawIs {C : Cx} {F : Forget} {f : FuncId} {fn : Func} {zs : List D} {z : Bool} (hf : C.P.funcs[f]? = some fn) (hb : fn.body.isSome = true) (hok : (C.ok f && (C.plan f 999998).isEmpty) = true) (hl : (zs.length ≤ fn.ntmps : Bool) = true) (H : W C F f 0 (cfAt fn [] (start fn zs)) (LAns C fn z)) : LawIs C F f zs z := by
 obtain ⟨b, hb⟩ := Option.isSome_iff_exists.1 hb
 have H : G C F f 0 ⟨.code b, [], start fn zs⟩ (LAns C fn z) := by have H := H.h; unfold cfAt at H; rw [hb] at H; simp only [posIn_nil] at H; exact H
 obtain ⟨x, s, h1, h2⟩ := run_of hf hb hok (of_decide_eq_true hl) H
 obtain ⟨K, hK⟩ := h2 _ h1
 exact ⟨K, _, hK K (Nat.le_refl _)⟩
theorem bfalse {b : Bool} (h : ¬b = true) : b = false := by cases b with | true => exact absurd rfl h | false => rfl
theorem Ic.args {C : Cx} {F : Forget} {g : FuncId} {ds es : List D} {r : D} (h : Ic C F g ds r) (e : (C.P.funcs[g]?).map (fun fn => nargs C fn ds) = (C.P.funcs[g]?).map (fun fn => nargs C fn es)) : Ic C F g es r := by
 refine h.congr fun k => ?_
 unfold icall
 cases hf : C.P.funcs[g]? with
 | none => rfl
 | some fn =>
  rw [hf] at e
  have e' : nargs C fn ds = nargs C fn es := Option.some.inj e
  show ((run C F k g (nargs C fn es) []).bind _) = ((run C F k g (nargs C fn ds) []).bind _)
  rw [e']
end Go.Proofs.YtjcdkemnflmfiaaGreatA
