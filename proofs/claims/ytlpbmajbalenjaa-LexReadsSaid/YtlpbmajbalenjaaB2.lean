/- The shadow machine, a step at a time: the steps that ask for a bound, and what a call answers. -/
import Derived.Test.YtlpbmajbalenjaaB1
set_option linter.unusedVariables false
set_option linter.unusedSimpArgs false
namespace Go.Proofs.YtlpbmajbalenjaaA
open Go

section
variable (C : Cx) (f base : Nat)
def ixAt (c : Cf) : Option (D × D × Nat) := (opAt c).bind fun o => match o.op with
 | .indexAddr t x ix => (elemOf? C.P t).bind fun e => (szOf C.P e).map fun s => ((c.s.ev x).bare, c.s.ev ix, s)
 | _ => none
def bnAt (c : Cf) : Option (BinOp × D × D) := (opAt c).bind fun o => match o.op with
 | .binOp op t x y _ => some (op, c.s.ev x, c.s.ev y)
 | _ => none
def pkAt (c : Cf) : Option (Bool × D × D) := (opAt c).bind fun o => match o.op with
 | .pick x a b => match c.s.ev x with | .bool t => some (t, c.s.ev a, c.s.ev b) | _ => none
 | _ => none
def slAt (c : Cf) : Option (D × Option D × Option D × Nat) := (opAt c).bind fun o => match o.op with
 | .slice t x lo hi none => (elemOf? C.P t).bind fun e => (szOf C.P e).map fun s => ((c.s.ev x).bare, lo.map c.s.ev, hi.map c.s.ev, s)
 | _ => none
def blkAt (h : Heap) (d : D) : Option Blk := match d with | .pref b _ _ _ => h[b]? | .sref b _ _ _ _ => h[b]? | _ => none
def ldAt (c : Cf) : Option (D × Option Blk × Bool × Nat) := (opAt c).bind fun o => match o.op with
 | .load t p => (aggB C.P t).bind fun a => (szOf C.P t).map fun s => (c.s.ev p, blkAt (maskH base (planAt C f c) c.s.heap) (c.s.ev p), a, s)
 | _ => none
def stAt (c : Cf) : Option (D × Option Blk × D × Nat) := (opAt c).bind fun o => match o.op with
 | .store t p v => if effOk C base (planAt C f c) o c.s.ev then (szOf C.P t).map fun s => (c.s.ev p, blkAt c.s.heap (c.s.ev p), c.s.ev v, s) else none
 | _ => none
end
section
variable {C : Cx} {F : Forget} {f base : Nat} {c : Cf}
theorem op_some {α : Type} {m : Oper → Option α} {r : α} (h : (opAt c).bind m = some r) : ∃ o, opAt c = some o ∧ m o = some r := by
 cases ho : opAt c with
 | none => rw [ho] at h; cases h
 | some o => rw [ho] at h; exact ⟨o, rfl, h⟩
theorem bind_some' {α β : Type} {o : Option α} {m : α → Option β} {r : β} (h : o.bind m = some r) : ∃ a, o = some a ∧ m a = some r := by
 cases o with
 | none => cases h
 | some a => exact ⟨a, rfl, h⟩
theorem map_some' {α β : Type} {o : Option α} {m : α → β} {r : β} (h : o.map m = some r) : ∃ a, o = some a ∧ m a = r := by
 cases o with
 | none => cases h
 | some a => exact ⟨a, rfl, Option.some.inj h⟩
theorem OpIs.ixL {k' : IntKind} {sz : Nat} {xs : List D} {i : Int} {d : D} (h : ixAt C c = some (.list sz xs, .int k' i, sz)) (h0 : 0 ≤ i) (h1 : xs[i.toNat]? = some d) : OpIs C f base c (.ptr d.cells) c.s.heap := by
 obtain ⟨⟨dst, op, type, pos, after, guard⟩, ho, h⟩ := op_some h
 cases op <;> simp only at h <;> try cases h
 rename_i t x ix
 obtain ⟨e, he, h⟩ := bind_some' h
 obtain ⟨s, hs, h⟩ := map_some' h
 injection h with h2 h; injection h with h3 h4
 refine ⟨_, ho, rfl, ?_⟩
 show (opP C _ _).map _ = _
 simp only [opP, indexD, he, hs, Option.bind_some, h2, h3, h4, if_pos h0, h1, if_true, Option.map_some]
theorem OpIs.bn {op : BinOp} {x y d : D} (h : bnAt c = some (op, x, y)) (hd : binD op x y = some d) : OpIs C f base c d c.s.heap := by
 obtain ⟨⟨dst, o, type, pos, after, guard⟩, ho, h⟩ := op_some h
 cases o <;> simp only at h <;> try cases h
 refine ⟨_, ho, rfl, ?_⟩
 show (opP C _ _).map _ = _
 simp only [opP, hd, Option.map_some]
theorem remD {k : IntKind} {x y : Int} (hy : y ≠ 0) : binD .rem (.int k x) (.int k y) = some (.int k (x.tmod y)) := by
 simp only [binD, arithD, if_true, if_neg hy]
theorem OpIs.pk {t : Bool} {x y : D} (v : Bool) (h : pkAt c = some (t, x, y)) (hv : t = v) : OpIs C f base c (match v with | true => x | false => y) c.s.heap := by
 subst hv
 obtain ⟨⟨dst, o, type, pos, after, guard⟩, ho, h⟩ := op_some h
 cases o <;> simp only at h <;> try cases h
 rename_i c' a b
 split at h
 ·rename_i t' ht
  cases h
  refine ⟨_, ho, rfl, ?_⟩
  show (opP C _ _).map _ = _
  simp only [opP, ht, Option.map_some]
  cases t <;> rfl
 ·cases h
theorem bound_none (n m : Nat) : boundD none n m = some n := rfl
theorem bound_some {k : IntKind} {i : Int} {n m : Nat} (h0 : 0 ≤ i) (h1 : i ≤ (m : Int)) : boundD (some (.int k i)) n m = some i.toNat := by
 simp only [boundD, if_pos h0, if_pos h1]
theorem get_of {h : Heap} {b v : Nat} {B : Blk} (hb : h[b]? = some B) (hv : B.ver = v) : h.get b v = B.body := by
 simp only [Heap.get, hb, if_pos hv]
def putS (c : Cf) (d : D) : Cf := putC c d c.s.heap
def putH (c : Cf) (d : D) (b : Nat) (B : Blk) : Cf := putC c d (c.s.heap.set b B)
def putR (c : Cf) (ds : List D) (d : D) : Cf := putC c d (aftC c ds d)
def outAt (c : Cf) : Option X := match c.foc with | .out x => (match c.fr with | [] => some x | _ => none) | _ => none
theorem G.fin {Q : X → St → Prop} {x : X} (e : outAt c = some x) (H : Q x c.s) : G C F f base c Q := by
 obtain ⟨foc, fr, s⟩ := c
 cases foc with
 | out x' =>
  cases fr with
  | nil => cases e; exact H
  | cons a l => cases e
 | _ => cases e

def posIn : Code → List Nat → List Fr → Foc × List Fr
 | c, [], K => (.code c, K)
 | .seq x y, d :: p, K => match d with | 0 => posIn x p (.seq y :: K) | _ => posIn y p K
 | .cond _ x y, d :: p, K => match d with | 0 => posIn x p K | _ => posIn y p K
 | .block id x, _ :: p, K => posIn x p (.block id :: K)
 | .loop x, _ :: p, K => posIn x p (.loop x :: K)
 | c, _ :: _, K => (.code c, K)
theorem posIn_nil (c : Code) (K : List Fr) : posIn c [] K = (.code c, K) := by cases c <;> rfl
def cfAt (fn : Func) (p : List Nat) (s : St) : Cf := match fn.body with
 | some c => ⟨(posIn c p []).1, (posIn c p []).2, s⟩
 | none => ⟨.out .ret, [], s⟩
def nargs (C : Cx) (fn : Func) (ds : List D) : List D := fn.params.toList.zipWith (norm C.P) ds ++ ds.drop fn.params.size
def start (fn : Func) (zs : List D) : St := ⟨zs ++ List.replicate (fn.ntmps - zs.length) (.tuple []), List.replicate fn.ntmps noBlk⟩
def endD (C : Cx) (fn : Func) (x : X) (s : St) : Option D := match x with | .exit _ => none | _ => resultsD C.P fn s
def Ans (C : Cx) (fn : Func) (e : D) (x : X) (s : St) : Prop := ((endD C fn x s).bind fun d => (reify (tidy s.heap 0) DEPTH d).map (normR C.P fn.resultTypes.toList)) = some e
theorem run_of {fn : Func} {b : Code} {zs : List D} {Q : X → St → Prop} (hf : C.P.funcs[f]? = some fn) (hb : fn.body = some b) (hok : (C.ok f && (C.plan f 999998).isEmpty) = true) (hl : zs.length ≤ fn.ntmps) (H : G C F f 0 ⟨.code b, [], start fn zs⟩ Q) :
  ∃ x s, Q x s ∧ ∀ d, endD C fn x s = some d → Ev (fun k => run C F k f zs []) (d, tidy s.heap 0) := by
 obtain ⟨x, s, h1, h2⟩ := H
 refine ⟨x, s, h2, fun d hd => .succ (h1.to fun k h => ?_)⟩
 rw [Bool.and_eq_true] at hok
 rw [run, hf, Option.bind_some, hb, Option.bind_some, if_pos ⟨hok.1, hl⟩, if_neg (by simp [hok.2])]
 have h' : exec C F k f ([] : Heap).length b ⟨zs ++ List.replicate (fn.ntmps - zs.length) (.tuple []), [] ++ List.replicate fn.ntmps noBlk⟩ = some (x, s) := h
 rw [h', Option.bind_some]
 cases x with
 | exit id => simp [endD] at hd
 | normal => simp only [endD] at hd; simp only [hd]; rfl
 | ret => simp only [endD] at hd; simp only [hd]; rfl
theorem Ic.of {fn : Func} {ds zs : List D} {e : D} (hf : C.P.funcs[f]? = some fn) (hb : fn.body.isSome = true) (hok : (C.ok f && (C.plan f 999998).isEmpty) = true) (hz : nargs C fn ds = zs) (hl : (zs.length ≤ fn.ntmps : Bool) = true) (H : G C F f 0 (cfAt fn [] (start fn zs)) (Ans C fn e)) : Ic C F f ds e := by
 obtain ⟨b, hb⟩ := Option.isSome_iff_exists.1 hb
 replace H : G C F f 0 ⟨.code b, [], start fn zs⟩ (Ans C fn e) := by unfold cfAt at H; rw [hb] at H; simp only [posIn_nil] at H; exact H
 have hl := of_decide_eq_true hl
 obtain ⟨x, s, h1, h2⟩ := run_of hf hb hok hl H
 obtain ⟨d, hd, h3⟩ := bind_some' h1
 refine (h2 d hd).to fun k hk => ?_
 rw [icall, hf, Option.bind_some]
 have : run C F k f (fn.params.toList.zipWith (norm C.P) ds ++ ds.drop fn.params.size) [] = some (d, tidy s.heap 0) := by rw [← hk, ← hz]; rfl
 rw [this, Option.bind_some]
 exact h3
theorem Ans.of {fn : Func} {e e' d d' : D} {x : X} {s : St} (h : endD C fn x s = some d) (hr : reify (tidy s.heap 0) DEPTH d = some d') (hn : normR C.P fn.resultTypes.toList d' = e') (he : e' = e) : Ans C fn e x s := by
 unfold Ans
 rw [h, Option.bind_some, hr, Option.map_some, hn, he]
theorem tidy_ver {h : Heap} {b v : Nat} {fz : Bool} {y : Body} (hb : h[b]? = some ⟨v + 1, fz, y⟩) : tidy h 0 = h := by
 unfold tidy
 rw [if_neg]
 intro hh
 rw [List.drop_zero, List.all_eq_true] at hh
 have := hh _ (List.mem_of_getElem? hb)
 simp at this
theorem rf_nil {h : Heap} {n : Nat} : ([] : List D).mapM (reify h n) = some [] := by simp
theorem rf_cons {h : Heap} {n : Nat} {d e : D} {ds es : List D} (h1 : reify h n d = some e) (h2 : ds.mapM (reify h n) = some es) : (d :: ds).mapM (reify h n) = some (e :: es) := by
 rw [List.mapM_cons, h1, h2]; rfl
theorem rf_tup {h : Heap} {n : Nat} {ds es : List D} (h1 : ds.mapM (reify h n) = some es) : reify h (n + 1) (.tuple ds) = some (.tuple es) := by simp only [reify, h1, Option.map_some]
end
end Go.Proofs.YtlpbmajbalenjaaA
