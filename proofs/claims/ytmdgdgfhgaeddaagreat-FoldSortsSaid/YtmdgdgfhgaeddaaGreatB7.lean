/- The shadow machine, a step at a time: maps, calls of which all is told, texts. -/
import Derived.Test.YtmdgdgfhgaeddaaGreatB6
set_option linter.unusedVariables false
set_option linter.unusedSimpArgs false
namespace Go.Proofs.YtmdgdgfhgaeddaaGreatA
open Go
/-- What a list of pairs has at a key. -/
def mget {κ ν : Type} [DecidableEq κ] (k : κ) : List (κ × ν) → Option ν
  | [] => none
  | p :: L => if k = p.1 then some p.2 else mget k L
def mput {κ ν : Type} [DecidableEq κ] (k : κ) (v : ν) : List (κ × ν) → List (κ × ν)
  | [] => [(k, v)]
  | p :: L => if k = p.1 then (k, v) :: L else p :: mput k v L
theorem mget_put {κ ν : Type} [DecidableEq κ] (k k' : κ) (v : ν) : ∀ L : List (κ × ν), mget k' (mput k v L) = if k' = k then some v else mget k' L
  | [] => by simp [mput, mget]
  | p :: L => by
    unfold mput
    by_cases h : k = p.1
    · rw [if_pos h]
      by_cases h2 : k' = k
      · simp [mget, h2]
      · simp [mget, h2, ← h]
    · rw [if_neg h]
      by_cases h2 : k' = p.1
      · have h3 : ¬ k' = k := fun e => h (e.symm.trans h2)
        simp only [mget, if_pos h2, if_neg h3]
      · simp only [mget, if_neg h2, mget_put k k' v L]
section
variable {κ ν : Type} [DecidableEq κ] {ek : κ → D} {ev : ν → D} {kd : TypeDesc}
abbrev mrow (ek : κ → D) (ev : ν → D) (L : List (κ × ν)) : List (D × D) := L.map fun p => (ek p.1, ev p.2)
theorem findD_none (hs : ∀ a b, sameD kd (ek a) (ek b) = some (decide (a = b))) (k : κ) : ∀ (L : List (κ × ν)) (i : Nat), mget k L = none → findD kd (ek k) (mrow ek ev L) i = some none
  | [], i, _ => rfl
  | p :: L, i, h => by
    unfold mget at h
    by_cases hk : k = p.1
    · rw [if_pos hk] at h; cases h
    · rw [if_neg hk] at h
      show findD kd (ek k) ((ek p.1, ev p.2) :: mrow ek ev L) i = some none
      rw [findD, hs, decide_eq_false hk]
      exact findD_none hs k L (i + 1) h
theorem findD_some (hs : ∀ a b, sameD kd (ek a) (ek b) = some (decide (a = b))) (k : κ) (x : ν) : ∀ (L : List (κ × ν)) (i : Nat) {v : ν}, mget k L = some v → ∃ j, findD kd (ek k) (mrow ek ev L) i = some (some (i + j, ev v)) ∧ (mrow ek ev L).set j (ek k, ev x) = mrow ek ev (mput k x L)
  | [], i, v, h => by cases h
  | p :: L, i, v, h => by
    unfold mget at h
    show ∃ j, findD kd (ek k) ((ek p.1, ev p.2) :: mrow ek ev L) i = _ ∧ ((ek p.1, ev p.2) :: mrow ek ev L).set j _ = _
    by_cases hk : k = p.1
    · rw [if_pos hk] at h; cases h
      refine ⟨0, ?_, ?_⟩
      · rw [findD, hs, decide_eq_true hk]; rfl
      · unfold mput; rw [if_pos hk]; rfl
    · rw [if_neg hk] at h
      obtain ⟨j, h1, h2⟩ := findD_some hs k x L (i + 1) h
      refine ⟨j + 1, ?_, ?_⟩
      · rw [findD, hs, decide_eq_false hk]
        simp only [h1]
        rw [show i + 1 + j = i + (j + 1) by omega]
      · unfold mput; rw [if_neg hk, List.set_cons_succ, h2]; rfl
theorem mput_none {k : κ} {x : ν} : ∀ {L : List (κ × ν)}, mget k L = none → mput k x L = L ++ [(k, x)]
  | [], _ => rfl
  | p :: L, h => by
    unfold mget at h
    by_cases hk : k = p.1
    · rw [if_pos hk] at h; cases h
    · rw [if_neg hk] at h
      unfold mput
      rw [if_neg hk, mput_none h]; rfl
end
theorem sameD_str (a b : ByteArray) : sameD .string (.str a) (.str b) = some (decide (a = b)) := by
  show some (a == b) = _
  by_cases h : a = b
  · subst h; simp [(MapKept.bytes_beq a a).2 rfl]
  · rw [decide_eq_false h]
    cases hb : a == b with
    | true => exact absurd ((MapKept.bytes_beq a b).1 hb) h
    | false => rfl
theorem sameD_int (k : IntKind) (a b : Int) : sameD (.int k) (.int k a) (.int k b) = some (decide (a = b)) := by
  show (if k = k ∧ k = k then some (a == b) else none) = _
  rw [if_pos ⟨rfl, rfl⟩]
  by_cases h : a = b
  · subst h; simp
  · rw [decide_eq_false h, beq_false_of_ne h]
section
variable {C : Cx} {F : Forget} {f base : Nat} {c : Cf} {Q : X → St → Prop} {κ ν : Type} [DecidableEq κ] {ek : κ → D} {ev : ν → D}
def mblkAt (h : Heap) (d : D) : Option Blk := match d with | .mref b _ => h[b]? | _ => none
/-- The operation: a map is looked at. -/
def lkAt (C : Cx) (f base : Nat) (c : Cf) : Option (D × D × Option Blk × TypeDesc × D × Bool) := (opAt c).bind fun o => match o.op with
  | .lookup t m k ok => (C.P.underlying t).bind fun u => match u with
    | .map kt et => (C.P.underlying kt).bind fun kd => (zeroD C.P et).map fun z => (c.s.ev m, c.s.ev k, mblkAt (maskH base (planAt C f c) c.s.heap) (c.s.ev m), kd, z, ok)
    | _ => none
  | _ => none
theorem lk_op {m k : D} {kd : TypeDesc} {z : D} {ok : Bool} {B : Option Blk} (h : lkAt C f base c = some (m, k, B, kd, z, ok)) {r : D}
    (H : ∀ h : Heap, B = mblkAt h m → (if sameD kd k k = some true then (mapAt h m).bind fun es => (findD kd k es 0).map fun r => match r with
      | some (_, v) => if ok then .tuple [v, .bool true] else v
      | none => if ok then .tuple [z, .bool false] else z
      else none) = some r) : OpIs C f base c r c.s.heap := by
  obtain ⟨⟨dst, op, type, pos, after, guard⟩, ho, h⟩ := op_some h
  cases op <;> simp only at h <;> try cases h
  rename_i t mo ko ok'
  obtain ⟨u, hu, h⟩ := bind_some' h
  split at h <;> try cases h
  rename_i kt et
  obtain ⟨kd', hkd, h⟩ := bind_some' h
  obtain ⟨z', hz, h⟩ := map_some' h
  injection h with h1 h; injection h with h2 h; injection h with h3 h; injection h with h4 h; injection h with h5 h6
  subst h1 h2 h4 h5 h6
  refine ⟨_, ho, rfl, ?_⟩
  show (opR C _ _ _ _).map _ = _
  have := H _ h3.symm
  simp only [opR, lookD, hu, hkd, hz, Option.bind_some]
  exact congrArg (Option.map fun d => (d, c.s.heap)) this
theorem OpIs.lkNone {kd : TypeDesc} {z : D} {ok fz : Bool} {b v w : Nat} {k : κ} {L : List (κ × ν)} {r : D} (h : lkAt C f base c = some (.mref b v, ek k, some ⟨w, fz, .map (mrow ek ev L)⟩, kd, z, ok)) (hw : w = v) (hs : ∀ a b, sameD kd (ek a) (ek b) = some (decide (a = b)))
    (hL : mget k L = none) (hr : r = if ok then .tuple [z, .bool false] else z) : OpIs C f base c r c.s.heap := by
  subst hr
  refine lk_op h fun hp hb => ?_
  have hm : mapAt hp (.mref b v) = some (mrow ek ev L) := by
    have hb' : hp[b]? = some ⟨w, fz, .map (mrow ek ev L)⟩ := hb.symm
    simp [mapAt, Heap.get, hb', hw]
  rw [if_pos (by rw [hs]; simp), hm, Option.bind_some, findD_none hs k L 0 hL]
  rfl
theorem OpIs.lkSome {kd : TypeDesc} {z : D} {ok fz : Bool} {b v w : Nat} {k : κ} {x : ν} {L : List (κ × ν)} {r : D} (h : lkAt C f base c = some (.mref b v, ek k, some ⟨w, fz, .map (mrow ek ev L)⟩, kd, z, ok)) (hw : w = v) (hs : ∀ a b, sameD kd (ek a) (ek b) = some (decide (a = b)))
    (hL : mget k L = some x) (hr : r = if ok then .tuple [ev x, .bool true] else ev x) : OpIs C f base c r c.s.heap := by
  subst hr
  refine lk_op h fun hp hb => ?_
  have hm : mapAt hp (.mref b v) = some (mrow ek ev L) := by
    have hb' : hp[b]? = some ⟨w, fz, .map (mrow ek ev L)⟩ := hb.symm
    simp [mapAt, Heap.get, hb', hw]
  obtain ⟨j, h1, _⟩ := findD_some (ev := ev) hs k x L 0 hL
  rw [if_pos (by rw [hs]; simp), hm, Option.bind_some, h1]
  rfl
/-- The operation: a map is written. -/
def muAt (C : Cx) (f base : Nat) (c : Cf) : Option (D × D × D × Option Blk × TypeDesc) := (opAt c).bind fun o => match o.op with
  | .mapUpdate t m k x => if effOk base (planAt C f c) o c.s.ev then (C.P.underlying t).bind fun u => match u with
    | .map kt et => (C.P.underlying kt).map fun kd => (c.s.ev m, c.s.ev k, c.s.ev x, mblkAt c.s.heap (c.s.ev m), kd)
    | _ => none
    else none
  | _ => none
theorem OpIs.mu {kd : TypeDesc} {b v w : Nat} {k : κ} {x : ν} {L L' : List (κ × ν)} (h : muAt C f base c = some (.mref b v, ek k, ev x, some ⟨w, false, .map (mrow ek ev L)⟩, kd)) (hL : L' = mput k x L) (hw : w = v) (hs : ∀ a b, sameD kd (ek a) (ek b) = some (decide (a = b))) :
    OpIs C f base c (.tuple []) (c.s.heap.set b ⟨w, false, .map (mrow ek ev L')⟩) := by
  subst hL
  obtain ⟨⟨dst, op, type, pos, after, guard⟩, ho, h⟩ := op_some h
  cases op <;> simp only at h <;> try cases h
  rename_i t mo ko xo
  obtain ⟨he, h⟩ := if_some h
  obtain ⟨u, hu, h⟩ := bind_some' h
  split at h <;> try cases h
  rename_i kt et
  obtain ⟨kd', hkd, h⟩ := map_some' h
  injection h with h1 h; injection h with h2 h; injection h with h3 h; injection h with h4 h5
  rw [h1] at h4
  have h4 : c.s.heap[b]? = some ⟨w, false, .map (mrow ek ev L)⟩ := h4
  subst h5
  refine ⟨_, ho, rfl, ?_⟩
  show (if effOk base (planAt C f c) _ c.s.ev = true then opW C _ _ base _ _ _ else none) = _
  rw [if_pos he]
  simp only [opW, updD, h1, h2, h3, hu, hkd, Option.bind_some, h4]
  rw [if_pos ⟨hw, trivial⟩, if_pos (by rw [hs]; simp)]
  cases hg : mget k L with
  | none =>
    rw [findD_none hs k L 0 hg]
    simp only [Option.map_some]
    rw [mput_none hg, mrow, mrow, List.map_append]
    rfl
  | some y =>
    obtain ⟨j, g1, g2⟩ := findD_some (ev := ev) hs k x L 0 hg
    rw [g1]
    simp only [Option.map_some, Nat.zero_add]
    rw [g2]
end
theorem addS {x y : ByteArray} (h : x.size + y.size ≤ 9223372036854775807) : binD .add (.str x) (.str y) = some (.str (x ++ y)) := by
  show (if x.size + y.size ≤ 9223372036854775807 then some (D.str (x ++ y)) else none) = _
  rw [if_pos h]
end Go.Proofs.YtmdgdgfhgaeddaaGreatA
namespace Go.Proofs.YtmdgdgfhgaeddaaGreatA
open Go Go.Proofs
/-- A call of which all is told is run. -/
theorem Ic.con {f : FuncId} {ds : List D} {e : D} (K : Nat) (h : ∀ n, icall C (run C F (n + K)) f ds = some e) : Ic C F f ds e := ⟨K, fun k hk => by
  obtain ⟨n, rfl⟩ := Nat.exists_eq_add_of_le' hk
  exact h n⟩
end Go.Proofs.YtmdgdgfhgaeddaaGreatA
