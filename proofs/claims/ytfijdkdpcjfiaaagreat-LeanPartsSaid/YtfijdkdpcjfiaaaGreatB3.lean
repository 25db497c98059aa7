/- The program as the shadow sees it, and short names. -/
import Derived.Test.YtfijdkdpcjfiaaaGreatB2
import Derived.Test.YtfijdkdpcjfiaaaGreatProg
import Derived.Test.YtfijdkdpcjfiaaaGreatChecked
import Derived.KernelRfl
set_option linter.unusedVariables false
namespace Go.Proofs.YtfijdkdpcjfiaaaGreatA
open Go Go.Proofs
noncomputable def C : Cx := ⟨Tryz.prog, fun f => f == 28 || f == 29 || f == 30 || f == 40 || f == 44 || f == 45 || f == 63 || f == 64 || f == 65 || f == 66 || f == 69 || f == 70 || f == 71 || f == 72 || f == 73 || f == 80 || f == 88 || f == 91 || f == 95 || f == 96 || f == 98 || f == 99 || f == 104 || f == 105 || f == 118 || f == 120 || f == 121 || f == 129 || f == 151 || f == 152, fun f r => if f == 8 && r == 5 then [(2, [2]), (6, [2]), (9, [2]), (10, [3])] else if f == 9 && r == 8 then [(7, [2]), (8, [2]), (9, [3])] else if f == 9 && r == 9 then [(5, [2]), (6, [2]), (7, [3])] else if f == 13 && r == 10 then [(1, [66, 66]), (25, [66]), (27, [66]), (28, [69]), (30, [6])] else if f == 1000003 && r == 29 then [(0, [])] else if f == 28 && r == 999999 then [(0, [])] else if f == 29 && r == 999999 then [(0, [])] else if f == 30 && r == 999999 then [(0, [])] else if f == 40 && r == 999999 then [(0, [])] else if f == 44 && r == 999999 then [(0, [])] else if f == 45 && r == 999999 then [(0, [])] else if f == 73 && r == 999999 then [(0, [])] else if f == 80 && r == 999999 then [(0, [])] else if f == 88 && r == 999999 then [(0, [])] else if f == 95 && r == 999999 then [(0, [])] else if f == 96 && r == 999999 then [(0, [])] else if f == 98 && r == 999999 then [(0, [])] else if f == 99 && r == 999999 then [(0, [])] else if f == 104 && r == 999999 then [(0, [])] else if f == 105 && r == 999999 then [(0, [])] else if f == 120 && r == 999999 then [(0, [])] else if f == 121 && r == 999999 then [(0, [])] else if f == 129 && r == 999999 then [(0, [])] else if f == 93 && r == 999997 then [(0, [])] else if f == 93 && r == 999998 then [(0, [])] else if f == 104 && r == 1000017 then [(0, [])] else if f == 104 && r == 1000264 then [(0, [])] else if f == 105 && r == 1000015 then [(0, [])] else if f == 28 && r == 1000026 then [(0, [])] else if f == 28 && r == 1000194 then [(0, [])] else if f == 29 && r == 1000049 then [(0, [])] else if f == 29 && r == 1000217 then [(0, [])] else if f == 30 && r == 1000093 then [(0, [])] else if f == 30 && r == 1000261 then [(0, [])] else if f == 44 && r == 1000162 then [(0, [])] else if f == 45 && r == 1000194 then [(0, [])] else if f == 80 && r == 1000008 then [(0, [])] else if f == 80 && r == 1000255 then [(0, [])] else if f == 95 && r == 1000193 then [(0, [])] else [], fun _ => true⟩
def F : Forget := fun _ _ => ([], [])
abbrev wi (n : Int) : Int := IntKind.wrap .i64 n
abbrev wu (n : Int) : Int := IntKind.wrap .u64 n
def mx (a b : Int) : Int := if b > a then b else a
def mn (a b : Int) : Int := if b < a then b else a
structure W (C : Cx) (F : Forget) (f base : Nat) (c : Cf) (Q : X → St → Prop) : Prop where
 h : G C F f base c Q
section
variable {C : Cx} {F : Forget} {f base : Nat} {c : Cf} {Q : X → St → Prop}
theorem W.adv (n : Nat) (H : W C F f base (steps C F f base n c) Q) : W C F f base c Q := ⟨G.adv n H.h⟩
theorem W.guard {w : Bool} (v : Bool) (h : guardAt c = some w) (hw : w = v) (H : W C F f base (goG c v) Q) : W C F f base c Q := ⟨G.guard v h hw H.h⟩
theorem W.cond {w : Bool} (v : Bool) (h : condAt c = some w) (hw : w = v) (H : W C F f base (goC c v) Q) : W C F f base c Q := ⟨G.cond v h hw H.h⟩
theorem W.opS {d : D} (ho : OpIs C f base c d c.s.heap) (H : W C F f base (putS c d) Q) : W C F f base c Q := ⟨G.op ho H.h⟩
theorem W.opH {d : D} {b : Nat} {B : Blk} (ho : OpIs C f base c d (c.s.heap.set b B)) (H : W C F f base (putH c d b B) Q) : W C F f base c Q := ⟨G.op ho H.h⟩
theorem W.callR {g : FuncId} {ds es : List D} {r : D} (h : callAt C c = some (g, ds)) (hr : ds.mapM (reify (hpAt C f base c) DEPTH) = some es) (hi : Ic C F g es r)
 (hm : mayC C f c ds r = true) (H : W C F f base (putR c ds r) Q) : W C F f base c Q := ⟨G.call h hr hi hm H.h⟩
theorem W.fin {x : X} (e : outAt c = some x) (H : Q x c.s) : W C F f base c Q := ⟨G.fin e H⟩
theorem W.to_loop {P : (Nat → D) → (Nat → Blk) → (Nat → Nat) → Cf} (H : ∀ j jb vs, W C F f base (P j jb vs) Q)
 (e : c = P (fun i => c.s.tmps.getD i .top) (fun i => c.s.heap.getD i noBlk) (fun i => (c.s.heap.getD i noBlk).ver - 1)) : W C F f base c Q := ⟨G.same (H _ _ _).h e⟩
theorem W.ic {fn : Func} {ds zs : List D} {e : D} (hf : C.P.funcs[f]? = some fn) (hb : fn.body.isSome = true) (hok : (C.ok f && (C.plan f 999998).isEmpty) = true) (hz : nargs C fn ds = zs) (hl : (zs.length ≤ fn.ntmps : Bool) = true) (H : W C F f 0 (cfAt fn [] (start fn zs)) (Ans C fn e)) : Ic C F f ds e :=
 Ic.of hf hb hok hz hl H.h
end
def LawIs (C : Cx) (F : Forget) (f : FuncId) (zs : List D) (z : Bool) : Prop := ∃ k h', run C F k f zs [] = some (.bool z, h')
def LAns (C : Cx) (fn : Func) (z : Bool) (x : X) (s : St) : Prop := endD C fn x s = some (.bool z)
theorem LAns.of {C : Cx} {fn : Func} {z : Bool} {x : X} {s : St} {d : D} (h : endD C fn x s = some d) (e : d = .bool z) : LAns C fn z x s := by subst e; exact h
theorem W.lawIs {C : Cx} {F : Forget} {f : FuncId} {fn : Func} {zs : List D} {z : Bool} (hf : C.P.funcs[f]? = some fn) (hb : fn.body.isSome = true) (hok : (C.ok f && (C.plan f 999998).isEmpty) = true) (hl : (zs.length ≤ fn.ntmps : Bool) = true) (H : W C F f 0 (cfAt fn [] (start fn zs)) (LAns C fn z)) : LawIs C F f zs z := by
 obtain ⟨b, hb⟩ := Option.isSome_iff_exists.1 hb
 have H : G C F f 0 ⟨.code b, [], start fn zs⟩ (LAns C fn z) := by have H := H.h; unfold cfAt at H; rw [hb] at H; simp only [posIn_nil] at H; exact H
 obtain ⟨x, s, h1, h2⟩ := run_of hf hb hok (of_decide_eq_true hl) H
 obtain ⟨K, hK⟩ := h2 _ h1
 exact ⟨K, _, hK K (Nat.le_refl _)⟩
theorem bfalse {b : Bool} (h : ¬b = true) : b = false := by cases b with | true => exact absurd rfl h | false => rfl
theorem Ic.args {C : Cx} {F : Forget} {g : FuncId} {ds es : List D} {r : D} (h : Ic C F g ds r) (e : (C.P.funcs[g]?).map (fun fn => nargs C fn ds) = (C.P.funcs[g]?).map (fun fn => nargs C fn es)) : Ic C F g es r := by
 refine h.congr fun k => ?_
 unfold icall
 cases hf : C.P.funcs[g]? with
 | none => rfl
 | some fn =>
  rw [hf] at e
  have e' : nargs C fn ds = nargs C fn es := Option.some.inj e
  show ((run C F k g (nargs C fn es) []).bind _) = ((run C F k g (nargs C fn ds) []).bind _)
  rw [e']
end Go.Proofs.YtfijdkdpcjfiaaaGreatA
