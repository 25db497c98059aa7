/- The shadow machine, a step at a time: structs compared, letters and parts of a text. -/
import Derived.Test.YtfijdkdpcjfiaaaGreatB8
set_option linter.unusedVariables false
set_option linter.unusedSimpArgs false
namespace Go.Proofs.YtfijdkdpcjfiaaaGreatA
open Go
section
variable {C : Cx} {F : Forget} {f base : Nat} {c : Cf} {Q : X → St → Prop} {τ : Type}
def sqAt (C : Cx) (c : Cf) : Option (BinOp × TypeId × D × D) := (opAt c).bind fun o => match o.op with
 | .binOp op t x y _ => if C.P.eqGuardType C.P.depth t then none else (C.P.underlying t).bind fun u => match u with | .struct _ => some (op, t, c.s.ev x, c.s.ev y) | _ => none
 | _ => none
theorem OpIs.sq {op : BinOp} {t : TypeId} {xs ys : List D} {r : D} (b : Bool) (h : sqAt C c = some (op, t, .agg xs, .agg ys)) (hr : eqB op b = some r) (hv : eqV C.P 4 t (.agg xs) (.agg ys) = some b) : OpIs C f base c r c.s.heap := by
 obtain ⟨⟨dst, op, type, pos, after, guard⟩, ho, h⟩ := op_some h
 cases op <;> simp only at h <;> try cases h
 rename_i op t x y t'
 split at h
 ·cases h
 ·rename_i hg
  obtain ⟨u, hu, h⟩ := bind_some' h
  split at h <;> try (cases h; done)
  injection h with h; injection h with h1 h; injection h with h2 h; injection h with h4 h5
  subst h1 h2
  refine ⟨_, ho, rfl, ?_⟩
  show (opP C _ _).map _ = _
  simp only [opP, h4, h5, hu, Option.bind_some, binD, eqD, eqS, if_neg hg, hv, hr, Option.map_some]
theorem sq1 {b : Bool} {x : Option Bool} {r : Bool} (h : b = true) (hx : x = some r) : (if b = true then x else some false) = some r := by rw [if_pos h]; exact hx
theorem sq0 {b : Bool} {x : Option Bool} (h : b = false) : (if b = true then x else some false) = some false := by rw [if_neg (by rw [h]; decide)]
theorem beqT {α : Type} [DecidableEq α] {x y : α} (h : x = y) : (x == y) = true := beq_iff_eq.2 h
theorem beqF {α : Type} [DecidableEq α] {x y : α} (h : ¬ x = y) : (x == y) = false := beq_eq_false_iff_ne.2 h
theorem beq_bt {x y : ByteArray} (h : x = y) : (x == y) = true := (MapKept.bytes_beq _ _).2 h
theorem beq_bf {x y : ByteArray} (h : ¬ x = y) : (x == y) = false := Bool.eq_false_iff.2 fun e => h ((MapKept.bytes_beq _ _).1 e)
def slTAt (C : Cx) (c : Cf) : Option (ByteArray × Option D × Option D) := (opAt c).bind fun o => match o.op with
 | .slice t x lo hi none => match C.P.underlying t, c.s.ev x with
  | some .string, .str s => some (s, lo.map c.s.ev, hi.map c.s.ev)
  | _, _ => none
 | _ => none
theorem OpIs.slT {s : ByteArray} {lo hi : Option D} {a b : Nat} (h : slTAt C c = some (s, lo, hi)) (hb : boundD hi s.size s.size = some b) (ha : boundD lo 0 b = some a) : OpIs C f base c (.str (s.extract a b)) c.s.heap := by
 obtain ⟨⟨dst, op, type, pos, after, guard⟩, ho, h⟩ := op_some h
 cases op <;> simp only at h <;> try cases h
 rename_i t x l h' m
 cases m <;> simp only at h <;> try cases h
 split at h <;> try (cases h; done)
 rename_i s' hu hx
 injection h with h; injection h with h1 h; injection h with h2 h3
 subst h1 h2 h3
 refine ⟨_, ho, rfl, ?_⟩
 show (opP C _ _).map _ = _
 simp only [opP, sliceD, hx, D.bare, hu, hb, ha, Option.bind_some, Option.map_some, Option.map_none]
theorem OpIs.slT_hi {k' : IntKind} {s : ByteArray} {i : Int} (h : slTAt C c = some (s, none, some (.int k' i))) (h0 : 0 ≤ i) (h1 : i ≤ (s.size : Int)) : OpIs C f base c (.str (s.extract 0 i.toNat)) c.s.heap :=
 OpIs.slT h (bound_some h0 h1) (bound_none _ _)
def Opt {τ : Type} (enc : τ → D) (b m : Nat) (o : D) (B : Blk) (L : List τ) : Prop := (o = .nilS ∧ L = []) ∨ ∃ v, o = .sref b (v + 1) m 0 L.length ∧ B = ⟨v + 1, false, .rows m (L.map enc)⟩
theorem Opt.nil {enc : τ → D} {b m : Nat} {B : Blk} : Opt enc b m .nilS B [] := .inl ⟨rfl, rfl⟩
theorem Opt.row {enc : τ → D} {b m v w len : Nat} {L : List τ} (hv : v = w + 1) (hl : len = L.length) : Opt enc b m (.sref b v m 0 len) ⟨v, false, .rows m (L.map enc)⟩ L := .inr ⟨w, by rw [hv, hl], by rw [hv]⟩
end
end Go.Proofs.YtfijdkdpcjfiaaaGreatA
