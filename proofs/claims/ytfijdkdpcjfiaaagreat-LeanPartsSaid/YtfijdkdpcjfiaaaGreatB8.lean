/- The shadow machine, a step at a time: a call's row becomes the caller's; rows that are put into rows; what is cleared. -/
import Derived.Test.YtfijdkdpcjfiaaaGreatB7
set_option linter.unusedVariables false
set_option linter.unusedSimpArgs false
namespace Go.Proofs.YtfijdkdpcjfiaaaGreatA
open Go
section
variable {C : Cx} {F : Forget} {f base : Nat} {c : Cf} {Q : X → St → Prop} {τ : Type}
def bsAt (C : Cx) (base : Nat) (c : Cf) : Option (TypeId × Nat × List Nat × List D) := (opAt c).bind fun o => match o.op with
 | .buildSlice t len parts => if leads C.P t && (!drawAt c || marked C t) then if effOk base (planAt C f c) o c.s.ev then some (t, len, parts.toList.map (·.1), parts.toList.map fun p => c.s.ev p.2) else none else none
 | _ => none
theorem OpIs.bs {t len : Nat} {is : List Nat} {vs es : List D} {d : D} {h' : Heap} (h : bsAt (f := f) C base c = some (t, len, is, vs)) (hr : vs.mapM (reify c.s.heap DEPTH) = some es) (hb : buildL C.P t len (is.zip es) = some d) (hh : freeze c.s.heap (vs.flatMap (reach c.s.heap DEPTH)) = h') :
  OpIs C f base c d h' := by
 obtain ⟨⟨dst, op, type, pos, after, guard⟩, ho, h⟩ := op_some h
 cases op <;> simp only at h <;> try cases h
 rename_i t' len' parts
 obtain ⟨hld, h⟩ := if_some h
 obtain ⟨he, h⟩ := if_some h
 injection h with h
 injection h with h1 h; injection h with h2 h; injection h with h3 h4
 subst h1 h2 h3 h4
 refine ⟨_, ho, rfl, ?_⟩
 unfold opv
 have hcls : cls C (drawAt c) { dst := dst, op := Op.buildSlice t' len' parts, type := type, pos := pos, after := after, guard := guard } = .W := by
  show (if leads C.P t' && (!drawAt c || marked C t') then Cls.W else .P) = .W
  rw [if_pos hld]
 rw [hcls]
 show (if effOk base (planAt C f c) _ c.s.ev = true then opW C _ _ base _ _ _ else none) = _
 rw [if_pos he]
 simp only [opW, hr, Option.bind_some, hb, Option.map_some, hh]
theorem W.opF {d : D} {h' : Heap} (ho : OpIs C f base c d h') (H : W C F f base (putC c d h') Q) : W C F f base c Q := ⟨G.op ho H.h⟩
end
end Go.Proofs.YtfijdkdpcjfiaaaGreatA
