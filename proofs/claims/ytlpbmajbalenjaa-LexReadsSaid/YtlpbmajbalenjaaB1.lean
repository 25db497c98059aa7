/- The shadow machine, a step at a time: a place in the code, what is left to do after it, and what a step does there. -/
import Derived.Test.YtlpbmajbalenjaaM4
set_option linter.unusedVariables false
set_option linter.unusedSimpArgs false
namespace Go.Proofs.YtlpbmajbalenjaaA
open Go

theorem Ev.succ {α : Type} {g : Nat → Option α} {r : α} (h : Ev (fun k => g (k + 1)) r) : Ev g r := by
 obtain ⟨K, h⟩ := h
 refine ⟨K + 1, fun k hk => ?_⟩
 obtain ⟨k', rfl⟩ : ∃ k', k = k' + 1 := ⟨k - 1, by omega⟩
 exact h k' (by omega)
theorem Ev.now {α : Type} {g : Nat → Option α} {r : α} (h : ∀ k, g k = some r) : Ev g r := ⟨0, fun k _ => h k⟩
theorem Ev.bindk {α β : Type} {g : Nat → Option α} {m : Nat → α → Option β} {a : α} {b : β} (h : Ev g a) (h2 : Ev (fun k => m k a) b) : Ev (fun k => (g k).bind (m k)) b := by
 obtain ⟨K, h⟩ := h; obtain ⟨K2, h2⟩ := h2
 exact ⟨max K K2, fun k hk => by simp only [h k (by omega), Option.bind_some]; exact h2 k (by omega)⟩
theorem Ev.congr {α : Type} {g g' : Nat → Option α} {r : α} (h : Ev g r) (e : ∀ k, g' k = g k) : Ev g' r := by
 obtain ⟨K, h⟩ := h; exact ⟨K, fun k hk => (e k).trans (h k hk)⟩
theorem Ev.to {α β : Type} {g : Nat → Option α} {g' : Nat → Option β} {r : α} {r' : β} (h : Ev g r) (e : ∀ k, g k = some r → g' k = some r') : Ev g' r' := by
 obtain ⟨K, h⟩ := h; exact ⟨K, fun k hk => e k (h k hk)⟩

inductive Fr where
 | seq (c : Code)
 | block (id : Nat)
 | loop (c : Code)
inductive Foc where
 | code (c : Code)
 | ops (id : Nat) (os : Array Oper) (draw : Bool) (i : Nat) (l : List Oper)
 | out (x : X)
structure Cf where
 foc : Foc
 fr : List Fr
 s : St

section
variable (C : Cx) (F : Forget) (f base : Nat)
def unw : List Fr → X → St → (X → St → Prop) → Prop
 | [], x, s, Q => Q x s
 | .seq c :: K, .normal, s, Q => ∃ x' s', Ev (fun k => exec C F k f base c s) (x', s') ∧ unw K x' s' Q
 | .seq _ :: K, .exit id, s, Q => unw K (.exit id) s Q
 | .seq _ :: K, .ret, s, Q => unw K .ret s Q
 | .block id :: K, .exit id', s, Q => if id' = id then unw K .normal s Q else unw K (.exit id') s Q
 | .block _ :: K, .normal, s, Q => unw K .normal s Q
 | .block _ :: K, .ret, s, Q => unw K .ret s Q
 | .loop c :: K, .normal, s, Q => ∃ x' s', Ev (fun k => exec C F k f base (.loop c) s) (x', s') ∧ unw K x' s' Q
 | .loop _ :: K, .exit id, s, Q => unw K (.exit id) s Q
 | .loop _ :: K, .ret, s, Q => unw K .ret s Q
def G (c : Cf) (Q : X → St → Prop) : Prop := match c.foc with
 | .code d => ∃ x s', Ev (fun k => exec C F k f base d c.s) (x, s') ∧ unw C F f base c.fr x s' Q
 | .ops id os draw i l => ∃ s', Ev (fun k => opsRun C (run C F k) draw base os (C.plan f id) i l c.s) s' ∧ unw C F f base c.fr .normal s' Q
 | .out x => unw C F f base c.fr x c.s Q

def noCall : Run := fun _ _ _ => none
def isCall (o : Oper) : Bool := match o.op with | .call c => (match c.callee with | .value _ => true | _ => false) | _ => false
def enter (id : Nat) (ops : Array Oper) (draw : Bool) (s : St) : St := if draw then killA C base ops.toList (forget base (F f id) s) else forget base (F f id) s
def step (c : Cf) : Cf := match c.foc with
 | .code d => match d with
  | .skip => ⟨.out .normal, c.fr, c.s⟩
  | .label _ => ⟨.out .normal, c.fr, c.s⟩
  | .region id ops draw => ⟨.ops id ops draw 0 ops.toList, c.fr, enter C F f base id ops draw c.s⟩
  | .seq x y => ⟨.code x, .seq y :: c.fr, c.s⟩
  | .cond e x y => match c.s.ev e with | .bool b => (match b with | true => ⟨.code x, c.fr, c.s⟩ | false => ⟨.code y, c.fr, c.s⟩) | _ => c
  | .block id x => ⟨.code x, .block id :: c.fr, c.s⟩
  | .loop x => ⟨.code x, .loop x :: c.fr, c.s⟩
  | .exit id => ⟨.out (.exit id), c.fr, c.s⟩
  | .ret => ⟨.out .ret, c.fr, c.s⟩
  | _ => c
 | .ops id os draw i l => match l with
  | [] => ⟨.out .normal, c.fr, c.s⟩
  | o :: l => match o.guard with
   | some _ => match wantD os o c.s with
    | some w => (match w with
     | true => ⟨.ops id os draw i ({ o with guard := none } :: l), c.fr, c.s⟩
     | false => ⟨.ops id os draw (i + 1) l, c.fr, ⟨putT c.s.tmps o.dst (.tuple []), c.s.heap⟩⟩)
    | none => c
   | none => if isCall o then c else match opv C noCall draw base (Plan.at (C.plan f id) i) o c.s.ev c.s.heap with
    | some (d, h) => ⟨.ops id os draw (i + 1) l, c.fr, ⟨putT c.s.tmps o.dst d, h⟩⟩
    | none => c
 | .out x => match c.fr with
  | [] => c
  | .seq y :: K => match x with | .normal => ⟨.code y, K, c.s⟩ | .exit id => ⟨.out (.exit id), K, c.s⟩ | .ret => ⟨.out .ret, K, c.s⟩
  | .block id :: K => match x with | .exit id' => if id' = id then ⟨.out .normal, K, c.s⟩ else ⟨.out (.exit id'), K, c.s⟩ | .normal => ⟨.out .normal, K, c.s⟩ | .ret => ⟨.out .ret, K, c.s⟩
  | .loop y :: K => match x with | .normal => ⟨.code (.loop y), K, c.s⟩ | .exit id => ⟨.out (.exit id), K, c.s⟩ | .ret => ⟨.out .ret, K, c.s⟩
def steps : Nat → Cf → Cf
 | 0, c => c
 | n + 1, c => steps n (step C F f base c)
def opAt (c : Cf) : Option Oper := match c.foc with
 | .ops _ _ _ _ (o :: _) => if o.guard.isNone then some o else none
 | _ => none
def planAt (c : Cf) : List Nat := match c.foc with
 | .ops id _ _ i _ => Plan.at (C.plan f id) i
 | _ => []
def drawAt (c : Cf) : Bool := match c.foc with
 | .ops _ _ draw _ _ => draw
 | _ => false
def putC (c : Cf) (d : D) (h : Heap) : Cf := match c.foc with
 | .ops id os draw i (o :: l) => ⟨.ops id os draw (i + 1) l, c.fr, ⟨putT c.s.tmps o.dst d, h⟩⟩
 | _ => c
def guardAt (c : Cf) : Option Bool := match c.foc with
 | .ops _ os _ _ (o :: _) => wantD os o c.s
 | _ => none
def goG (c : Cf) (w : Bool) : Cf := match c.foc with
 | .ops id os draw i (o :: l) => match w with
  | true => ⟨.ops id os draw i ({ o with guard := none } :: l), c.fr, c.s⟩
  | false => ⟨.ops id os draw (i + 1) l, c.fr, ⟨putT c.s.tmps o.dst (.tuple []), c.s.heap⟩⟩
 | _ => c
def condAt (c : Cf) : Option Bool := match c.foc with
 | .code (.cond e _ _) => match c.s.ev e with | .bool b => some b | _ => none
 | _ => none
def goC (c : Cf) (b : Bool) : Cf := match c.foc with
 | .code (.cond _ x y) => match b with | true => ⟨.code x, c.fr, c.s⟩ | false => ⟨.code y, c.fr, c.s⟩
 | _ => c
def callAt (c : Cf) : Option (FuncId × List D) := (opAt c).bind fun o => match o.op with
 | .call k => match k.callee with
  | .value _ => (callee k c.s.ev).bind fun p => if C.shared p.1 || adopts C p.1 then none else some p
  | _ => none
 | _ => none
def aftC (c : Cf) (ds : List D) (r : D) : Heap := if ds.all (D.isT 3) || r.flat 3 then c.s.heap else freeze c.s.heap (ds.flatMap (reach c.s.heap DEPTH))
def mayC (c : Cf) (ds : List D) (r : D) : Bool := if drawAt c then ds.all (D.isT 3) || r.flat 3 else (planAt C f c).isEmpty
def hpAt (c : Cf) : Heap := if drawAt c then maskH base (planAt C f c) c.s.heap else c.s.heap
end

section
variable {C : Cx} {F : Forget} {f base : Nat}
theorem wantD_guard {os : Array Oper} {o : Oper} {s : St} {w : Bool} (h : wantD os o s = some w) {call : Run} {draw : Bool} {m : List Nat} :
  opStep C call draw base os m o s = if w then opStep C call draw base os m { o with guard := none } s else some ⟨putT s.tmps o.dst (.tuple []), s.heap⟩ := by
 unfold opStep
 rw [h]
 cases w
 ·rfl
 ·rfl
theorem methOf_none {C : Cx} {g : FuncId} (h : ¬ C.shared g = true) : methOf C g = none := by unfold methOf; rw [if_neg h]
theorem opv_noCall {o : Oper} (ho : isCall o = false) (c1 c2 : Run) {draw : Bool} {m : List Nat} {ρ : Env} {h : Heap} : opv C c1 draw base m o ρ h = opv C c2 draw base m o ρ h := by
 obtain ⟨dst, op, type, pos, after, guard⟩ := o
 have hR : opR C c1 ⟨dst, op, type, pos, after, guard⟩ ρ (maskH base m h) = opR C c2 ⟨dst, op, type, pos, after, guard⟩ ρ (maskH base m h) := by
  unfold opR
  cases op with
  | call c =>
   obtain ⟨cl, as, ts⟩ := c
   cases cl with
   | value x => simp [isCall] at ho
   | builtin b => cases b <;> rfl
   | _ => rfl
  | _ => rfl
 have hW : opW C c1 draw base ⟨dst, op, type, pos, after, guard⟩ ρ h = opW C c2 draw base ⟨dst, op, type, pos, after, guard⟩ ρ h := by
  unfold opW
  cases op with
  | call c =>
   obtain ⟨cl, as, ts⟩ := c
   cases cl with
   | value x => simp [isCall] at ho
   | builtin b => cases b <;> rfl
   | _ => rfl
  | _ => rfl
 unfold opv
 rw [hR, hW]
theorem opsRun_cons {call : Run} {draw : Bool} {os : Array Oper} {p : Plan} {i : Nat} {o : Oper} {l : List Oper} {s : St} :
  opsRun C call draw base os p i (o :: l) s = (opStep C call draw base os (p.at i) o s).bind (opsRun C call draw base os p (i + 1) l) := rfl
theorem opStep_none {call : Run} {draw : Bool} {os : Array Oper} {m : List Nat} {o : Oper} {s : St} (hg : o.guard = none) :
  opStep C call draw base os m o s = (opv C call draw base m o s.ev s.heap).map fun r => ⟨putT s.tmps o.dst r.1, r.2⟩ := by
 unfold opStep wantD
 rw [hg]; rfl
theorem G.one {c : Cf} {Q : X → St → Prop} (H : G C F f base (step C F f base c) Q) : G C F f base c Q := by
 obtain ⟨foc, fr, s⟩ := c
 cases foc with
 | code d =>
  cases d with
  | skip => exact ⟨_, _, .succ (.now fun k => rfl), H⟩
  | label n => exact ⟨_, _, .succ (.now fun k => rfl), H⟩
  | region id ops draw =>
   obtain ⟨s', h1, h2⟩ : ∃ s', Ev (fun k => opsRun C (run C F k) draw base ops (C.plan f id) 0 ops.toList (enter C F f base id ops draw s)) s' ∧ unw C F f base fr .normal s' Q := H
   exact ⟨_, _, .succ (h1.to fun k h => by simp only [exec]; unfold enter at h; rw [h]; rfl), h2⟩
  | seq x y =>
   obtain ⟨x', s', h1, h2⟩ : ∃ x' s', Ev (fun k => exec C F k f base x s) (x', s') ∧ unw C F f base (.seq y :: fr) x' s' Q := H
   cases x' with
   | normal =>
    obtain ⟨x2, s2, h3, h4⟩ := h2
    exact ⟨x2, s2, .succ ((h1.bindk (m := fun k r => match r.1 with | .normal => exec C F k f base y r.2 | _ => some r) h3).congr fun k => by simp only [exec]; rfl), h4⟩
   | exit id => exact ⟨_, _, .succ (h1.to fun k h => by simp only [exec]; rw [h]; rfl), h2⟩
   | ret => exact ⟨_, _, .succ (h1.to fun k h => by simp only [exec]; rw [h]; rfl), h2⟩
  | cond e x y =>
   unfold step at H
   simp only at H
   split at H
   ·rename_i b hb
    cases b with
    | true =>
     obtain ⟨x', s', h1, h2⟩ : ∃ x' s', Ev (fun k => exec C F k f base x s) (x', s') ∧ unw C F f base fr x' s' Q := H
     exact ⟨_, _, .succ (h1.to fun k h => by simp only [exec, hb]; exact h), h2⟩
    | false =>
     obtain ⟨x', s', h1, h2⟩ : ∃ x' s', Ev (fun k => exec C F k f base y s) (x', s') ∧ unw C F f base fr x' s' Q := H
     exact ⟨_, _, .succ (h1.to fun k h => by simp only [exec, hb]; exact h), h2⟩
   ·exact H
  | block id x =>
   obtain ⟨x', s', h1, h2⟩ : ∃ x' s', Ev (fun k => exec C F k f base x s) (x', s') ∧ unw C F f base (.block id :: fr) x' s' Q := H
   cases x' with
   | normal => exact ⟨_, _, .succ (h1.to fun k h => by simp only [exec]; rw [h]; rfl), h2⟩
   | ret => exact ⟨_, _, .succ (h1.to fun k h => by simp only [exec]; rw [h]; rfl), h2⟩
   | exit id' =>
    simp only [unw] at h2
    split at h2
    ·exact ⟨_, _, .succ (h1.to fun k h => by simp only [exec]; rw [h]; simp only [Option.map_some]; rw [if_pos ‹_›]), h2⟩
    ·exact ⟨_, _, .succ (h1.to fun k h => by simp only [exec]; rw [h]; simp only [Option.map_some]; rw [if_neg ‹_›]), h2⟩
  | loop x =>
   obtain ⟨x', s', h1, h2⟩ : ∃ x' s', Ev (fun k => exec C F k f base x s) (x', s') ∧ unw C F f base (.loop x :: fr) x' s' Q := H
   cases x' with
   | normal =>
    obtain ⟨x2, s2, h3, h4⟩ := h2
    exact ⟨x2, s2, .succ ((h1.bindk (m := fun k r => match r.1 with | .normal => exec C F k f base (.loop x) r.2 | _ => some r) h3).congr fun k => by rw [exec]; rfl), h4⟩
   | exit id => exact ⟨_, _, .succ (h1.to fun k h => by rw [exec, h]; rfl), h2⟩
   | ret => exact ⟨_, _, .succ (h1.to fun k h => by rw [exec, h]; rfl), h2⟩
  | exit id => exact ⟨_, _, .succ (.now fun k => rfl), H⟩
  | ret => exact ⟨_, _, .succ (.now fun k => rfl), H⟩
  | _ => exact H
 | ops id os draw i l =>
  cases l with
  | nil => exact ⟨s, .now fun k => rfl, H⟩
  | cons o l =>
   unfold step at H
   simp only at H
   split at H
   ·split at H
    ·rename_i w hw
     split at H
     ·obtain ⟨s', h1, h2⟩ := H
      exact ⟨s', h1.congr fun k => by rw [opsRun_cons, opsRun_cons, wantD_guard hw, if_pos rfl], h2⟩
     ·obtain ⟨s', h1, h2⟩ := H
      exact ⟨s', h1.congr fun k => by rw [opsRun_cons, wantD_guard hw]; rfl, h2⟩
    ·exact H
   ·rename_i hg
    split at H
    ·exact H
    ·rename_i hc
     split at H
     ·rename_i d h e
      obtain ⟨s', h1, h2⟩ := H
      exact ⟨s', h1.congr fun k => by rw [opsRun_cons, opStep_none hg, opv_noCall (by simpa using hc) _ noCall, e]; rfl, h2⟩
     ·exact H
 | out x =>
  cases fr with
  | nil => exact H
  | cons fr K =>
   cases fr with
   | seq y => cases x <;> exact H
   | block id =>
    cases x with
    | exit id' =>
     unfold step at H
     simp only at H
     show (if id' = id then _ else _)
     split at H
     ·rw [if_pos ‹_›]; exact H
     ·rw [if_neg ‹_›]; exact H
    | _ => exact H
   | loop y => cases x <;> exact H
theorem G.adv (n : Nat) {c : Cf} {Q : X → St → Prop} (H : G C F f base (steps C F f base n c) Q) : G C F f base c Q := by
 induction n generalizing c with
 | zero => exact H
 | succ n ih => exact G.one (ih H)
theorem G.same {c c' : Cf} {Q : X → St → Prop} (H : G C F f base c' Q) (e : c = c') : G C F f base c Q := e ▸ H
theorem G.guard {c : Cf} {Q : X → St → Prop} {w : Bool} (v : Bool) (h : guardAt c = some w) (hw : w = v) (H : G C F f base (goG c v) Q) : G C F f base c Q := by
 subst hw
 obtain ⟨foc, fr, s⟩ := c
 cases foc with
 | ops id os draw i l =>
  cases l with
  | nil => simp [guardAt] at h
  | cons o l =>
   cases w with
   | true =>
    obtain ⟨s', h1, h2⟩ := H
    exact ⟨s', h1.congr fun k => by rw [opsRun_cons, opsRun_cons, wantD_guard h, if_pos rfl]; rfl, h2⟩
   | false =>
    obtain ⟨s', h1, h2⟩ := H
    exact ⟨s', h1.congr fun k => by rw [opsRun_cons, wantD_guard h]; rfl, h2⟩
 | _ => simp [guardAt] at h
theorem G.cond {c : Cf} {Q : X → St → Prop} {w : Bool} (v : Bool) (h : condAt c = some w) (hw : w = v) (H : G C F f base (goC c v) Q) : G C F f base c Q := by
 subst hw
 obtain ⟨foc, fr, s⟩ := c
 cases foc with
 | code d =>
  cases d with
  | cond e x y =>
   simp only [condAt] at h
   split at h
   ·rename_i b hb
    cases h
    cases w with
    | true =>
     obtain ⟨x', s', h1, h2⟩ := H
     exact ⟨_, _, .succ (h1.to fun k h => by simp only [exec, hb]; exact h), h2⟩
    | false =>
     obtain ⟨x', s', h1, h2⟩ := H
     exact ⟨_, _, .succ (h1.to fun k h => by simp only [exec, hb]; exact h), h2⟩
   ·cases h
  | _ => simp [condAt] at h
 | _ => simp [condAt] at h
def OpIs (C : Cx) (f base : Nat) (c : Cf) (d : D) (h : Heap) : Prop := ∃ o, opAt c = some o ∧ isCall o = false ∧ opv C noCall (drawAt c) base (planAt C f c) o c.s.ev c.s.heap = some (d, h)
theorem G.op {c : Cf} {Q : X → St → Prop} {d : D} {h : Heap} (ho : OpIs C f base c d h) (H : G C F f base (putC c d h) Q) : G C F f base c Q := by
 obtain ⟨o, h1, h2, h3⟩ := ho
 obtain ⟨foc, fr, s⟩ := c
 cases foc with
 | ops id os draw i l =>
  cases l with
  | nil => simp [opAt] at h1
  | cons o' l =>
   simp only [opAt] at h1
   split at h1
   ·rename_i hg
    cases h1
    obtain ⟨s', h4, h5⟩ := H
    exact ⟨s', h4.congr fun k => by
     rw [opsRun_cons, opStep_none (by simpa using hg), opv_noCall h2 _ noCall]
     simp only [drawAt, planAt] at h3
     rw [h3]; rfl, h5⟩
   ·cases h1
 | _ => simp [opAt] at h1
def Ic (C : Cx) (F : Forget) (g : FuncId) (ds : List D) (r : D) : Prop := Ev (fun k => icall C (run C F k) g ds) r
theorem G.call {c : Cf} {Q : X → St → Prop} {g : FuncId} {ds es : List D} {r : D} (h : callAt C c = some (g, ds)) (hr : ds.mapM (reify (hpAt C f base c) DEPTH) = some es) (hi : Ic C F g es r)
  (hm : mayC C f c ds r = true) (H : G C F f base (putC c r (aftC c ds r)) Q) : G C F f base c Q := by
 obtain ⟨foc, fr, s⟩ := c
 cases foc with
 | ops id os draw i l =>
  cases l with
  | nil => simp [callAt, opAt] at h
  | cons o l =>
   simp only [callAt, opAt] at h
   split at h
   ·rename_i hg
    rw [Option.bind_some] at h
    obtain ⟨s', h4, h5⟩ := H
    refine ⟨s', ?_, h5⟩
    have key : Ev (fun k => opv C (run C F k) draw base (Plan.at (C.plan f id) i) o s.ev s.heap) (r, aftC ⟨.ops id os draw i (o :: l), fr, s⟩ ds r) := by
     obtain ⟨dst, op, type, pos, after, guard⟩ := o
     cases op <;> simp only at h <;> try cases h
     rename_i k
     obtain ⟨cl, as, ts⟩ := k
     cases cl with
     | value x =>
      simp only at h
      cases hp : callee { callee := .value x, args := as, argTypes := ts } s.ev with
      | none => rw [hp] at h; simp at h
      | some p =>
       rw [hp, Option.bind_some] at h
       split at h
       ·cases h
       ·rename_i hsa
        have hs : ¬ C.shared p.1 = true := fun e => hsa (by rw [e]; rfl)
        have hs2 : ¬ adopts C p.1 = true := fun e => hsa (by rw [e, Bool.or_true])
        cases h
        refine hi.to fun k hk => ?_
        have hx : ∃ y, callee { callee := .value x, args := as, argTypes := ts } s.ev = some (g, ds) ∧ y = g := ⟨g, hp, rfl⟩
        have hvx : (match x with | .func f => if C.shared f || adopts C f then Cls.W else if draw then .R else .W | _ => if draw then .R else .W) = if draw then Cls.R else .W := by
         cases x with
         | func f' =>
          have : g = f' := by
           simp only [callee, St.ev] at hp
           cases hp; rfl
          subst this
          exact if_neg hsa
         | _ => rfl
        have hcls : cls C draw { dst := dst, op := .call { callee := .value x, args := as, argTypes := ts }, type := type, pos := pos, after := after, guard := guard } = if draw then .R else .W := by
         rw [← hvx]
         cases x <;> rfl
        unfold opv
        rw [hcls]
        cases draw with
        | true =>
         simp only [hpAt, drawAt, planAt, if_pos] at hr
         simp only [if_pos, opR, hp, Option.bind_some]
         rw [if_neg hs, hr, Option.bind_some, hk, Option.bind_some]
         simp only [mayC, drawAt, if_pos] at hm
         rw [if_pos hm]
         simp only [Option.map_some, aftC]
         rw [if_pos hm]
        | false =>
         simp only [hpAt, drawAt, Bool.false_eq_true, if_false] at hr
         simp only [Bool.false_eq_true, if_false]
         have he : effOk C base (Plan.at (C.plan f id) i) { dst := dst, op := .call { callee := .value x, args := as, argTypes := ts }, type := type, pos := pos, after := after, guard := guard } s.ev = true := by
          simp only [mayC, drawAt, planAt, Bool.false_eq_true, if_false] at hm
          simp only [effOk, hm, Bool.true_or]
         rw [if_pos he]
         simp only [opW, hp, Option.bind_some]
         rw [if_neg (fun h => by rw [methOf_none hs] at h; cases h), if_neg (fun h => hs (Bool.and_eq_true_iff.1 h).1), if_neg hs2, hr, Option.bind_some, hk]
         simp only [Option.map_some, aftC]
     | _ => cases h
    exact (key.bindk (m := fun k (r : D × Heap) => opsRun C (run C F k) draw base os (C.plan f id) (i + 1) l ⟨putT s.tmps o.dst r.1, r.2⟩) h4).congr fun k => by
     rw [opsRun_cons, opStep_none (by simpa using hg), Option.bind_map]; rfl
   ·simp at h
 | _ => simp [callAt, opAt] at h
end
end Go.Proofs.YtlpbmajbalenjaaA
