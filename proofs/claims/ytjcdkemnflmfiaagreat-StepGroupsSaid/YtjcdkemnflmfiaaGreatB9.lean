/- The shadow machine, a step at a time: structs compared, letters and parts of a text. -/
import Derived.Test.YtjcdkemnflmfiaaGreatB8
set_option linter.unusedVariables false
set_option linter.unusedSimpArgs false
namespace Go.Proofs.YtjcdkemnflmfiaaGreatA
open Go
section
variable {C : Cx} {F : Forget} {f base : Nat} {c : Cf} {Q : X → St → Prop} {τ : Type}
def sqAt (C : Cx) (c : Cf) : Option (BinOp × TypeId × D × D) := (opAt c).bind fun o => match o.op with
 | .binOp op t x y _ => if C.P.eqGuardType C.P.depth t then none else (C.P.underlying t).bind fun u => match u with | .struct _ => some (op, t, c.s.ev x, c.s.ev y) | _ => none
 | _ => none
theorem OpIs.sq {op : BinOp} {t : TypeId} {xs ys : List D} {r : D} (b : Bool) (h : sqAt C c = some (op, t, .agg xs, .agg ys)) (hr : eqB op b = some r) (hv : eqV C.P 4 t (.agg xs) (.agg ys) = some b) : OpIs C f base c r c.s.heap := by
 obtain ⟨⟨dst, op, type, pos, after, guard⟩, ho, h⟩ := op_some h
 cases op <;> simp only at h <;> try cases h
 rename_i op t x y t'
 split at h
 ·cases h
 ·rename_i hg
  obtain ⟨u, hu, h⟩ := bind_some' h
  split at h <;> try (cases h; done)
  injection h with h; injection h with h1 h; injection h with h2 h; injection h with h4 h5
  subst h1 h2
  refine ⟨_, ho, rfl, ?_⟩
  show (opP C _ _).map _ = _
  simp only [opP, h4, h5, hu, Option.bind_some, binD, eqD, eqS, if_neg hg, hv, hr, Option.map_some]
theorem sq1 {b : Bool} {x : Option Bool} {r : Bool} (h : b = true) (hx : x = some r) : (if b = true then x else some false) = some r := by rw [if_pos h]; exact hx
theorem sq0 {b : Bool} {x : Option Bool} (h : b = false) : (if b = true then x else some false) = some false := by rw [if_neg (by rw [h]; decide)]
theorem beqT {α : Type} [DecidableEq α] {x y : α} (h : x = y) : (x == y) = true := beq_iff_eq.2 h
theorem beqF {α : Type} [DecidableEq α] {x y : α} (h : ¬ x = y) : (x == y) = false := beq_eq_false_iff_ne.2 h
theorem beq_bt {x y : ByteArray} (h : x = y) : (x == y) = true := (MapKept.bytes_beq _ _).2 h
theorem beq_bf {x y : ByteArray} (h : ¬ x = y) : (x == y) = false := Bool.eq_false_iff.2 fun e => h ((MapKept.bytes_beq _ _).1 e)
def slTAt (C : Cx) (c : Cf) : Option (ByteArray × Option D × Option D) := (opAt c).bind fun o => match o.op with
 | .slice t x lo hi none => match C.P.underlying t, c.s.ev x with
  | some .string, .str s => some (s, lo.map c.s.ev, hi.map c.s.ev)
  | _, _ => none
 | _ => none
theorem OpIs.slT {s : ByteArray} {lo hi : Option D} {a b : Nat} (h : slTAt C c = some (s, lo, hi)) (hb : boundD hi s.size s.size = some b) (ha : boundD lo 0 b = some a) : OpIs C f base c (.str (s.extract a b)) c.s.heap := by
 obtain ⟨⟨dst, op, type, pos, after, guard⟩, ho, h⟩ := op_some h
 cases op <;> simp only at h <;> try cases h
 rename_i t x l h' m
 cases m <;> simp only at h <;> try cases h
 split at h <;> try (cases h; done)
 rename_i s' hu hx
 injection h with h; injection h with h1 h; injection h with h2 h3
 subst h1 h2 h3
 refine ⟨_, ho, rfl, ?_⟩
 show (opP C _ _).map _ = _
 simp only [opP, sliceD, hx, D.bare, hu, hb, ha, Option.bind_some, Option.map_some, Option.map_none]
theorem OpIs.slT_hi {k' : IntKind} {s : ByteArray} {i : Int} (h : slTAt C c = some (s, none, some (.int k' i))) (h0 : 0 ≤ i) (h1 : i ≤ (s.size : Int)) : OpIs C f base c (.str (s.extract 0 i.toNat)) c.s.heap :=
 OpIs.slT h (bound_some h0 h1) (bound_none _ _)
def ncAt (C : Cx) (c : Cf) : Option (FuncId × List D) := if drawAt c then none else (opAt c).bind fun o => match o.op with
 | .call k => (match k.callee with
  | .value _ => (callee k c.s.ev).bind fun p => if (C.shared p.1 && sharesNow C p.1 p.2 c.s.heap) || adopts C p.1 then none else some p
  | _ => none)
 | _ => none
theorem W.callN {g : FuncId} {ds es : List D} {r : D} (hc : ncAt C c = some (g, ds)) (hp : (planAt C f c).isEmpty = true) (hre : ds.mapM (reify c.s.heap DEPTH) = some es) (hi : Ic C F g es r) (H : W C F f base (putC c r (aftC c ds r)) Q) : W C F f base c Q := by
 obtain ⟨H⟩ := H
 refine ⟨?_⟩
 obtain ⟨foc, fr, s⟩ := c
 cases foc with
 | ops id os draw i l =>
  cases l with
  | nil => simp [ncAt, opAt] at hc
  | cons o l =>
   simp only [ncAt, opAt, drawAt] at hc
   cases draw with
   | true => simp at hc
   | false =>
   simp only [Bool.false_eq_true, if_false] at hc
   by_cases hg : o.guard.isNone = true
   ·rw [if_pos hg] at hc
    rw [Option.bind_some] at hc
    obtain ⟨s', h4, h5⟩ := H
    refine ⟨s', ?_, h5⟩
    have key : Ev (fun k => opv C (run C F k) false base (Plan.at (C.plan f id) i) o s.ev s.heap) (r, aftC ⟨.ops id os false i (o :: l), fr, s⟩ ds r) := by
     obtain ⟨dst, op, type, pos, after, guard⟩ := o
     cases op <;> simp only at hc <;> try cases hc
     rename_i k
     obtain ⟨cl, al, tys⟩ := k
     cases cl <;> simp only at hc <;> try cases hc
     rename_i x
     obtain ⟨p, hp', hc⟩ := bind_some' hc
     have hT0 : ¬ ((C.shared p.1 && sharesNow C p.1 p.2 s.heap || adopts C p.1) = true) := fun h => by rw [if_pos h] at hc; cases hc
     have hT : ¬ ((C.shared p.1 && sharesNow C p.1 p.2 s.heap) = true) := fun h => hT0 (by rw [h]; rfl)
     have hT2 : ¬ (adopts C p.1 = true) := fun h => hT0 (by rw [h, Bool.or_true])
     rw [if_neg hT0] at hc
     cases hc
     refine hi.to fun k hk => ?_
     have hcls : cls C false { dst := dst, op := .call { callee := .value x, args := al, argTypes := tys }, type := type, pos := pos, after := after, guard := guard } = .W := by
      cases x with
      | func f' =>
       show (if C.shared f' || adopts C f' then Cls.W else if false = true then .R else .W) = .W
       split <;> rfl
      | _ => rfl
     unfold opv
     rw [hcls]
     have he : effOk base (Plan.at (C.plan f id) i) { dst := dst, op := .call { callee := .value x, args := al, argTypes := tys }, type := type, pos := pos, after := after, guard := guard } s.ev = true := by
      simp only [planAt] at hp
      simp only [effOk, hp, Bool.true_or]
     simp only []
     rw [if_pos he]
     simp only [opW]
     rw [hp', Option.bind_some, if_neg hT, if_neg hT2, hre, Option.bind_some, hk]
     simp only [Option.map_some, aftC]
    exact (key.bindk (m := fun k (r : D × Heap) => opsRun C (run C F k) false base os (C.plan f id) (i + 1) l ⟨putT s.tmps o.dst r.1, r.2⟩) h4).congr fun k => by
     rw [opsRun_cons, opStep_none (by simpa using hg), Option.bind_map]; rfl
   ·rw [if_neg hg] at hc; simp at hc
 | _ => simp [ncAt, opAt, drawAt] at hc
def shVAt (C : Cx) (c : Cf) : Option (FuncId × List D) := if drawAt c then none else (opAt c).bind fun o => match o.op with
 | .call k => (match k.callee with
  | .value _ => (callee k c.s.ev).bind fun p => if C.shared p.1 && sharesNow C p.1 p.2 c.s.heap then some p else none
  | _ => none)
 | _ => none
theorem W.sharedV {g : FuncId} {ds : List D} {h h' : Heap} {d : D} (hc : shVAt C c = some (g, ds)) (hp : (planAt C f c).isEmpty = true) (hh : c.s.heap = h) (hr : Sc C F g ds h d h') (H : W C F f base (putC c d h') Q) : W C F f base c Q := by
 subst hh
 obtain ⟨H⟩ := H
 refine ⟨?_⟩
 obtain ⟨foc, fr, s⟩ := c
 cases foc with
 | ops id os draw i l =>
  cases l with
  | nil => simp [shVAt, opAt] at hc
  | cons o l =>
   simp only [shVAt, opAt, drawAt] at hc
   cases draw with
   | true => simp at hc
   | false =>
   simp only [Bool.false_eq_true, if_false] at hc
   by_cases hg : o.guard.isNone = true
   ·rw [if_pos hg] at hc
    rw [Option.bind_some] at hc
    obtain ⟨s', h4, h5⟩ := H
    refine ⟨s', ?_, h5⟩
    have key : Ev (fun k => opv C (run C F k) false base (Plan.at (C.plan f id) i) o s.ev s.heap) (d, h') := by
     obtain ⟨dst, op, type, pos, after, guard⟩ := o
     cases op <;> simp only at hc <;> try cases hc
     rename_i k
     obtain ⟨cl, al, tys⟩ := k
     cases cl <;> simp only at hc <;> try cases hc
     rename_i x
     obtain ⟨p, hp', hc⟩ := bind_some' hc
     obtain ⟨hT, hc⟩ := if_some hc
     cases hc
     refine hr.to fun k hk => ?_
     have hcls : cls C false { dst := dst, op := .call { callee := .value x, args := al, argTypes := tys }, type := type, pos := pos, after := after, guard := guard } = .W := by
      cases x with
      | func f' =>
       show (if C.shared f' || adopts C f' then Cls.W else if false = true then .R else .W) = .W
       split <;> rfl
      | _ => rfl
     unfold opv
     rw [hcls]
     have he : effOk base (Plan.at (C.plan f id) i) { dst := dst, op := .call { callee := .value x, args := al, argTypes := tys }, type := type, pos := pos, after := after, guard := guard } s.ev = true := by
      simp only [planAt] at hp
      simp only [effOk, hp, Bool.true_or]
     simp only []
     rw [if_pos he]
     simp only [opW]
     rw [hp', Option.bind_some, if_pos hT]
     exact hk
    exact (key.bindk (m := fun k (r : D × Heap) => opsRun C (run C F k) false base os (C.plan f id) (i + 1) l ⟨putT s.tmps o.dst r.1, r.2⟩) h4).congr fun k => by
     rw [opsRun_cons, opStep_none (by simpa using hg), Option.bind_map]; rfl
   ·rw [if_neg hg] at hc; simp at hc
 | _ => simp [shVAt, opAt, drawAt] at hc
end
end Go.Proofs.YtjcdkemnflmfiaaGreatA
