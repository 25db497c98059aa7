/- The shadow machine, a step at a time: rows of elements that are no whole numbers. -/
import Derived.Test.YtjcdkemnflmfiaaGreatB5
set_option linter.unusedVariables false
set_option linter.unusedSimpArgs false
namespace Go.Proofs.YtjcdkemnflmfiaaGreatA
open Go
section
variable {C : Cx} {F : Forget} {f base : Nat} {c : Cf} {Q : X → St → Prop} {τ : Type}
theorem mapD_at {enc : τ → D} {L : List τ} {i : Nat} {d0 x : τ} (hi : i < L.length) (hx : L.getD i d0 = x) : (L.map enc)[i]? = some (enc x) := by
 rw [List.getD_eq_getElem?_getD, List.getElem?_eq_getElem hi] at hx
 rw [List.getElem?_map, List.getElem?_eq_getElem hi, ← hx]
 rfl
theorem OpIs.ixE {enc : τ → D} {n : Nat} {k' : IntKind} {L : List τ} {i : Int} {d0 x : τ} (h : ixAt C c = some (.list n (L.map enc), .int k' i, n)) (h0 : 0 ≤ i) (h1 : i < (L.length : Int)) (hx : L.getD i.toNat d0 = x) : OpIs C f base c (.ptr (enc x).cells) c.s.heap :=
 OpIs.ixL (d := enc x) h h0 (mapD_at (by omega) hx)
theorem OpIs.ldV {b v i off w n s : Nat} {fz a : Bool} {xs : List D} {r : D} (h : ldAt C f base c = some (.pref b v i off, some ⟨w, fz, .rows n xs⟩, a, s)) (hw : w = v) (hr : (xs[i]?).bind (fun d => ldCells a s (d.cells.drop off)) = some r) : OpIs C f base c r c.s.heap := by
 obtain ⟨⟨dst, op, type, pos, after, guard⟩, ho, h⟩ := op_some h
 cases op <;> simp only at h <;> try cases h
 rename_i t p
 obtain ⟨a', ha, h⟩ := bind_some' h
 obtain ⟨s', hs, h⟩ := map_some' h
 injection h with h2 h; injection h with h3 h; injection h with h4 h5
 refine ⟨_, ho, rfl, ?_⟩
 show (opR C _ _ _ _).map _ = _
 rw [h2] at h3
 have hg := get_of (h := maskH base (planAt C f c) c.s.heap) h3 hw
 obtain ⟨d, hd, hr⟩ := bind_some' hr
 simp only [opR, ld, ha, hs, h2, h4, h5, Option.bind_some, cellsAt, hg, hd, Option.map_some, hr]
theorem OpIs.ldE {enc : τ → D} {b v i off w n s : Nat} {fz a : Bool} {L : List τ} {d0 x : τ} {r : D} (h : ldAt C f base c = some (.pref b v i off, some ⟨w, fz, .rows n (L.map enc)⟩, a, s)) (hw : w = v) (hi : i < L.length) (hx : L.getD i d0 = x) (hr : ldCells a s ((enc x).cells.drop off) = some r) : OpIs C f base c r c.s.heap :=
 OpIs.ldV h hw (by rw [mapD_at hi hx]; exact hr)
theorem OpIs.stV {b v i off w n s : Nat} {xs ys : List D} {d y : D} (h : stAt C f base c = some (.pref b v i off, some ⟨w, false, .rows n xs⟩, y, s)) (hw : w = v) (hd : xs[i]? = some d) (hy : y.cells.length = s) (ho : off + s ≤ d.cells.length) (h1 : y.cells.all D.one = true)
  (hys : ys = xs.set i (if off = 0 ∧ s = n then y else .agg (upd d.cells off y.cells))) : OpIs C f base c (.tuple []) (c.s.heap.set b ⟨w, false, .rows n ys⟩) := by
 obtain ⟨⟨dst, op, type, pos, after, guard⟩, ho', h⟩ := op_some h
 cases op <;> simp only at h <;> try cases h
 rename_i t p x
 split at h
 ·rename_i he
  obtain ⟨s', hs, h⟩ := map_some' h
  injection h with h2 h; injection h with h3 h; injection h with h4 h5
  refine ⟨_, ho', rfl, ?_⟩
  show (if effOk base _ _ _ then opW C _ _ _ _ _ _ else none) = _
  rw [if_pos he]
  rw [h2] at h3
  have h3' : c.s.heap[b]? = some ⟨w, false, .rows n xs⟩ := h3
  subst hys
  simp only [opW, st, hs, h2, h4, h5, Option.bind_some, h3', hw, and_self, if_true, Option.map_some, hd, hy, ho, h1]
 ·cases h
theorem OpIs.stE {enc : τ → D} {b v i off w n s : Nat} {L ys : List τ} {d0 x z : τ} {y : D} (h : stAt C f base c = some (.pref b v i off, some ⟨w, false, .rows n (L.map enc)⟩, y, s)) (hys : ys = L.set i z) (hw : w = v) (hi : i < L.length) (hx : L.getD i d0 = x) (hy : y.cells.length = s) (ho : off + s ≤ (enc x).cells.length) (h1 : y.cells.all D.one = true)
  (hz : enc z = (if off = 0 ∧ s = n then y else .agg (upd (enc x).cells off y.cells))) : OpIs C f base c (.tuple []) (c.s.heap.set b ⟨w, false, .rows n (ys.map enc)⟩) := by
 subst hys
 exact OpIs.stV h hw (mapD_at hi hx) hy ho h1 (by rw [List.map_set, hz])
def apEAt (C : Cx) (f base : Nat) (c : Cf) : Option (D × D × Option Blk × Nat × Nat × Nat × Nat) := (opAt c).bind fun o => match o.op with
 | .call k => (match k.callee with
  | .builtin .append => (match k.args.toList, k.argTypes.toList with
   | [x, y], t :: ts => if ts.all (fun u => (C.P.underlying u).isSome && (intK C.P u).isNone) then if effOk base (planAt C f c) o c.s.ev then o.dst.bind fun d => (c.s.heap[base + d]?).bind fun B =>
     (elemOf? C.P t).bind fun e => (szOf C.P e).bind fun s => (bytesOf C.P e).bind fun y' => (zeroD C.P e).bind fun z => if z.cells.length = s ∧ intK C.P e = none then
      some (c.s.ev x, c.s.ev y, blkAt c.s.heap (c.s.ev x), y', base + d, B.ver, s) else none else none else none
   | _, _ => none)
  | _ => none)
 | _ => none
theorem apE_op {x y : D} {B : Option Blk} {n d v m : Nat} (h : apEAt C f base c = some (x, y, B, n, d, v, m)) {r : D} {h' : Heap}
  (H : ∀ (t e : Nat) (dst : Option Tmp) (z : D), dst.map (base + ·) = some d → (c.s.heap[d]?).map (·.ver) = some v → elemOf? C.P t = some e → szOf C.P e = some m → bytesOf C.P e = some n → zeroD C.P e = some z → z.cells.length = m → intK C.P e = none → B = blkAt c.s.heap x →
   appendD C.P base dst c.s.heap t x y = some (r, h')) : OpIs C f base c r h' := by
 obtain ⟨⟨dst, op, type, pos, after, guard⟩, ho, h⟩ := op_some h
 cases op <;> simp only at h <;> try cases h
 rename_i k
 obtain ⟨cl, al, tys⟩ := k
 cases cl <;> simp only at h <;> try cases h
 rename_i bi
 cases bi <;> simp only at h <;> try cases h
 ·split at h
  ·rename_i a b t ts hb1 hb2
   obtain ⟨ha, h⟩ := if_some h
   obtain ⟨he, h⟩ := if_some h
   obtain ⟨q, hq, h⟩ := bind_some' h
   obtain ⟨B', hB, h⟩ := bind_some' h
   obtain ⟨e, hel, h⟩ := bind_some' h
   obtain ⟨s, hs, h⟩ := bind_some' h
   obtain ⟨n', hn, h⟩ := bind_some' h
   obtain ⟨z, hz, h⟩ := bind_some' h
   obtain ⟨⟨h1, h3⟩, h⟩ := if_some h
   injection h with h
   injection h with e1 h; injection h with e2 h; injection h with e3 h; injection h with e4 h; injection h with e5 h; injection h with e6 e7
   subst e4 e7
   refine ⟨_, ho, rfl, ?_⟩
   show (if effOk base _ _ _ then opW C _ _ _ _ _ _ else none) = _
   rw [if_pos he]
   have := H t e dst z (by cases hq; exact congrArg some e5) (by rw [← e5, hB]; exact congrArg some e6) hel hs hn hz h1 h3 (by rw [← e3, e1])
   rw [← e1, ← e2] at this
   simp only [opW, hb1, hb2]
   rw [if_pos ha]
   exact this
  ·cases h
theorem OpIs.apENil {enc : τ → D} {y : D} {B : Option Blk} {n d v m : Nat} {ys zs : List τ} (h : apEAt C f base c = some (.nilS, y, B, n, d, v, m)) (hs : src c.s.heap y = some (.list m (ys.map enc))) (hz : zs = ys) (hr : (ys.length + 192) * (n + 1) ≤ 70368744177664) :
  OpIs C f base c (.sref d (v + 1) m 0 ys.length) (c.s.heap.set d ⟨v + 1, false, .rows m (zs.map enc)⟩) := by
 subst hz
 refine apE_op h fun t e dst z h1 h2 h3 h4 h5 h6 h7 h8 h9 => ?_
 have hr' := roomy_of hr
 simp only [appendD, h3, h4, h5, h6, Option.bind_some, h7, if_true, hs, h8, and_self, growR, List.length_map, hr', put_of h1 h2]
theorem OpIs.apERow {enc : τ → D} {y : D} {n d dv b v w len m : Nat} {xs ys zs : List τ} (h : apEAt C f base c = some (.sref b v m 0 len, y, some ⟨w, false, .rows m (xs.map enc)⟩, n, d, dv, m)) (hs : src c.s.heap y = some (.list m (ys.map enc))) (hz : zs = xs ++ ys) (hw : w = v) (hl : len = xs.length)
  (hr : (xs.length + ys.length + 192) * (n + 1) ≤ 70368744177664) : OpIs C f base c (.sref d (dv + 1) m 0 (xs.length + ys.length)) ((kill1 c.s.heap b).set d ⟨dv + 1, false, .rows m (zs.map enc)⟩) := by
 subst hz
 refine apE_op h fun t e dst z h1 h2 h3 h4 h5 h6 h7 h8 h9 => ?_
 have h9 : c.s.heap[b]? = some ⟨w, false, .rows m (xs.map enc)⟩ := h9.symm
 have hr' := roomy_of hr
 simp only [appendD, h3, h4, h5, h6, Option.bind_some, h7, if_true, hs, h8, and_self, growR, h9, hw, hl, List.length_map, hr']
 rw [put_of h1 (kill_ver h2), List.map_append]
theorem rf_rowE {enc : τ → D} (ht : ∀ x, (enc x).cells.all (D.isT 2) = true) {h : Heap} {n b v w m : Nat} {fz : Bool} {xs : List τ} {off len : Nat} (hb : h[b]? = some ⟨w, fz, .rows m (xs.map enc)⟩) (hw : w = v) (hl : off + len ≤ xs.length) : reify h (n + 1) (.sref b v m off len) = some (.list m (((xs.drop off).take len).map enc)) := by
 have hl' : off + len ≤ (xs.map enc).length := by rw [List.length_map]; exact hl
 simp only [reify, get_of hb hw, if_true, if_pos hl']
 rw [← List.map_drop, ← List.map_take, if_pos]
 rw [List.all_eq_true]
 intro d hd
 obtain ⟨l, _, rfl⟩ := List.mem_map.1 hd
 exact ht l
theorem rf_fullE {enc : τ → D} (ht : ∀ x, (enc x).cells.all (D.isT 2) = true) {h : Heap} {n b v w m : Nat} {fz : Bool} {xs : List τ} {len : Nat} (hb : h[b]? = some ⟨w, fz, .rows m (xs.map enc)⟩) (hw : w = v) (hl : len = xs.length) : reify h (n + 1) (.sref b v m 0 len) = some (.list m (xs.map enc)) := by
 rw [rf_rowE ht hb hw (by omega), List.drop_zero, hl, List.take_length]
theorem tidy_own {h : Heap} {n b v : Nat} {fz : Bool} {y : Body} (hn : n ≤ b) (hb : h[b]? = some ⟨v + 1, fz, y⟩) : tidy h n = h := by
 unfold tidy
 rw [if_neg]
 intro hh
 rw [List.all_eq_true] at hh
 have hd : (h.drop n)[b - n]? = some ⟨v + 1, fz, y⟩ := by rw [List.getElem?_drop, show n + (b - n) = b by omega]; exact hb
 have := hh _ (List.mem_of_getElem? hd)
 simp at this
def SAnsK (C : Cx) (fn : Func) (n : Nat) (d : D) (h' : (Nat → Blk) → Heap) (x : X) (s : St) : Prop := endD C fn x s = some d ∧ ∃ eb, tidy s.heap n = h' eb
theorem SAnsK.of {fn : Func} {n b v : Nat} {fz : Bool} {y : Body} {d0 d : D} {h0 h' : (Nat → Blk) → Heap} {x : X} {s : St} (h1 : endD C fn x s = some d0) (e1 : d0 = d) (hn : Nat.ble n b = true) (hb : s.heap[b]? = some ⟨v + 1, fz, y⟩) (h2 : s.heap = h0 (fun i => s.heap.getD (n + i) noBlk)) (e2 : h0 = h') : SAnsK C fn n d h' x s :=
 ⟨e1 ▸ h1, _, by rw [tidy_own (Nat.le_of_ble_eq_true hn) hb, ← e2]; exact h2⟩
theorem W.scK {fn : Func} {ds : List D} {h : Heap} {h' : (Nat → Blk) → Heap} {d : D} {n : Nat} (hf : C.P.funcs[f]? = some fn) (hb : fn.body.isSome = true) (hok : (C.ok f && (C.plan f 999998).isEmpty) = true) (hn : h.length = n) (hl : (ds.length ≤ fn.ntmps : Bool) = true)
  (H : W C F f n (cfAt fn [] ⟨ds ++ List.replicate (fn.ntmps - ds.length) (.tuple []), h ++ List.replicate fn.ntmps noBlk⟩) (SAnsK C fn n d h')) : ∃ eb, Sc C F f ds h d (h' eb) := by
 subst hn
 obtain ⟨b, hb⟩ := Option.isSome_iff_exists.1 hb
 obtain ⟨H⟩ := H
 unfold cfAt at H
 rw [hb] at H
 simp only [posIn_nil] at H
 obtain ⟨x, s, h1, h2, eb, h3⟩ := H
 refine ⟨eb, .succ (h1.to fun k hk => ?_)⟩
 rw [Bool.and_eq_true] at hok
 rw [run, hf, Option.bind_some, hb, Option.bind_some, if_pos ⟨hok.1, of_decide_eq_true hl⟩, if_neg (by simp [hok.2])]
 have hk' : exec C F k f h.length b ⟨ds ++ List.replicate (fn.ntmps - ds.length) (.tuple []), h ++ List.replicate fn.ntmps noBlk⟩ = some (x, s) := hk
 rw [hk', Option.bind_some]
 cases x with
 | exit id => simp [endD] at h2
 | normal => simp only [endD] at h2; simp only [h2, Option.map_some, h3]
 | ret => simp only [endD] at h2; simp only [h2, Option.map_some, h3]
theorem W.sharedK {g : FuncId} {ds : List D} {d : D} {P : (Nat → Blk) → Heap} {P' : (Nat → Blk) → (Nat → Blk) → Heap} (hc : shAt C c = some (g, ds)) (hp : (planAt C f c).isEmpty = true) (hh : c.s.heap = P (fun i => c.s.heap.getD i noBlk)) (hr : ∀ cb, ∃ eb, Sc C F g ds (P cb) d (P' cb eb))
  (H : ∀ eb, W C F f base (putC c d (P' (fun i => c.s.heap.getD i noBlk) eb)) Q) : W C F f base c Q := by
 obtain ⟨eb, h⟩ := hr (fun i => c.s.heap.getD i noBlk)
 exact W.shared hc hp hh h (H eb)
end
end Go.Proofs.YtjcdkemnflmfiaaGreatA
