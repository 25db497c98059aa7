/- The shadow machine, a step at a time: calls that work on the caller's rows. -/
import Derived.Test.YtfijdkdpcjfiaaaGreatB4
set_option linter.unusedVariables false
set_option linter.unusedSimpArgs false
namespace Go.Proofs.YtfijdkdpcjfiaaaGreatA
open Go
def shAt (C : Cx) (c : Cf) : Option (FuncId × List D) := (opAt c).bind fun o => match o.op with
 | .call k => (match k.callee with
  | .value (.func f) => if C.shared f then (callee k c.s.ev).bind fun p => if sharesNow C p.1 p.2 c.s.heap then some p else none else none
  | _ => none)
 | _ => none
def Sc (C : Cx) (F : Forget) (g : FuncId) (ds : List D) (h : Heap) (d : D) (h' : Heap) : Prop := Ev (fun k => run C F k g ds h) (d, h')
section
variable {C : Cx} {F : Forget} {f base : Nat} {c : Cf} {Q : X → St → Prop}
theorem W.shared {g : FuncId} {ds : List D} {h h' : Heap} {d : D} (hc : shAt C c = some (g, ds)) (hp : (planAt C f c).isEmpty = true) (hh : c.s.heap = h) (hr : Sc C F g ds h d h') (H : W C F f base (putC c d h') Q) : W C F f base c Q := by
 subst hh
 obtain ⟨H⟩ := H
 refine ⟨?_⟩
 obtain ⟨foc, fr, s⟩ := c
 cases foc with
 | ops id os draw i l =>
  cases l with
  | nil => simp [shAt, opAt] at hc
  | cons o l =>
   simp only [shAt, opAt] at hc
   split at hc
   ·rename_i hg
    rw [Option.bind_some] at hc
    obtain ⟨s', h4, h5⟩ := H
    refine ⟨s', ?_, h5⟩
    have key : Ev (fun k => opv C (run C F k) draw base (Plan.at (C.plan f id) i) o s.ev s.heap) (d, h') := by
     obtain ⟨dst, op, type, pos, after, guard⟩ := o
     cases op <;> simp only at hc <;> try cases hc
     rename_i k
     obtain ⟨cl, al, tys⟩ := k
     cases cl <;> simp only at hc <;> try cases hc
     rename_i x
     cases x <;> simp only at hc <;> try cases hc
     rename_i f'
     obtain ⟨hs, hc⟩ := if_some hc
     obtain ⟨p, hp', hc⟩ := bind_some' hc
     obtain ⟨hT, hc⟩ := if_some hc
     cases hc
     have hc := hp'
     refine hr.to fun k hk => ?_
     have hgf : g = f' := by
      simp only [callee, St.ev] at hc
      cases hc; rfl
     have hcls : cls C draw { dst := dst, op := .call { callee := .value (.func f'), args := al, argTypes := tys }, type := type, pos := pos, after := after, guard := guard } = .W := by
      show (if C.shared f' || adopts C f' then Cls.W else if draw then .R else .W) = .W
      rw [if_pos (by rw [hs]; rfl)]
     unfold opv
     rw [hcls]
     have he : effOk base (Plan.at (C.plan f id) i) { dst := dst, op := .call { callee := .value (.func f'), args := al, argTypes := tys }, type := type, pos := pos, after := after, guard := guard } s.ev = true := by
      simp only [planAt] at hp
      simp only [effOk, hp, Bool.true_or]
     simp only []
     rw [if_pos he]
     simp only [opW]
     rw [show callee { callee := .value (.func f'), args := al, argTypes := tys } s.ev = some (g, ds) from hc, Option.bind_some]
     subst hgf
     have hT : sharesNow C g ds s.heap = true := hT
     rw [if_pos (by rw [hs, hT]; rfl)]
     exact hk
    exact (key.bindk (m := fun k (r : D × Heap) => opsRun C (run C F k) draw base os (C.plan f id) (i + 1) l ⟨putT s.tmps o.dst r.1, r.2⟩) h4).congr fun k => by
     rw [opsRun_cons, opStep_none (by simpa using hg), Option.bind_map]; rfl
   ·simp at hc
 | _ => simp [shAt, opAt] at hc
def SAns (C : Cx) (fn : Func) (n : Nat) (d : D) (h' : Heap) (x : X) (s : St) : Prop := endD C fn x s = some d ∧ tidy s.heap n = h'
theorem SAns.of {fn : Func} {n : Nat} {d0 d : D} {h0 h' : Heap} {x : X} {s : St} (h1 : endD C fn x s = some d0) (e1 : d0 = d) (h2 : tidy s.heap n = h0) (e2 : h0 = h') : SAns C fn n d h' x s := ⟨e1 ▸ h1, e2 ▸ h2⟩
theorem W.sc {fn : Func} {ds : List D} {h h' : Heap} {d : D} {n : Nat} (hf : C.P.funcs[f]? = some fn) (hb : fn.body.isSome = true) (hok : (C.ok f && (C.plan f 999998).isEmpty) = true) (hn : h.length = n) (hl : (ds.length ≤ fn.ntmps : Bool) = true)
  (H : W C F f n (cfAt fn [] ⟨ds ++ List.replicate (fn.ntmps - ds.length) (.tuple []), h ++ List.replicate fn.ntmps noBlk⟩) (SAns C fn n d h')) : Sc C F f ds h d h' := by
 subst hn
 obtain ⟨b, hb⟩ := Option.isSome_iff_exists.1 hb
 obtain ⟨H⟩ := H
 unfold cfAt at H
 rw [hb] at H
 simp only [posIn_nil] at H
 obtain ⟨x, s, h1, h2, h3⟩ := H
 refine .succ (h1.to fun k hk => ?_)
 rw [Bool.and_eq_true] at hok
 rw [run, hf, Option.bind_some, hb, Option.bind_some, if_pos ⟨hok.1, of_decide_eq_true hl⟩, if_neg (by simp [hok.2])]
 have hk' : exec C F k f h.length b ⟨ds ++ List.replicate (fn.ntmps - ds.length) (.tuple []), h ++ List.replicate fn.ntmps noBlk⟩ = some (x, s) := hk
 rw [hk', Option.bind_some]
 cases x with
 | exit id => simp [endD] at h2
 | normal => simp only [endD] at h2; simp only [h2, Option.map_some, h3]
 | ret => simp only [endD] at h2; simp only [h2, Option.map_some, h3]
end
end Go.Proofs.YtfijdkdpcjfiaaaGreatA
