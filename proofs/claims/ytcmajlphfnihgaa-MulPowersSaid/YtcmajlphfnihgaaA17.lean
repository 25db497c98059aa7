/- Calls, and one operation. -/
import Derived.Test.YtcmajlphfnihgaaA16
import Derived.Laws.BytesString
set_option linter.unusedVariables false
set_option linter.unusedSimpArgs false
namespace Go.Proofs.YtcmajlphfnihgaaA
open Go
variable {P : Program} {w w' : World} {S : Nat → Prop} {φ φ' : Phi} {h h' : Heap}

/-- What a call comes to. -/
def CallOk (C : Cx) (call : Run) : Prop := ∀ (f : FuncId) (ds : List D) (h : Heap) (d : D) (h' : Heap), call f ds h = some (d, h') →
  (∃ fn, C.P.funcs[f]? = some fn ∧ fn.body.isSome = true ∧ (fn.name == "runtime.NumGoroutine") = false) ∧
  ∀ (w : World) (S : Nat → Prop) (φ : Phi) (vs : List Value), HRel w S φ h → VsRel w S φ vs ds →
    Calls C.P f vs.toArray w fun e w' => ∃ v S' φ', e = .returned v ∧ Ext w S φ h w' S' φ' h' ∧ HRel w' S' φ' h' ∧ VRel w' S' φ' v d

theorem hrel_nil (w : World) (S : Nat → Prop) (hS : ∀ b, S b → b < w.heap.size) : HRel w S noPhi [] :=
  ⟨fun b B e => by simp at e, fun b b' B B' A x x' e => by simp at e, (fun b v x e => by cases e), hS⟩
theorem own_nil {A : Nat} : ¬ Own noPhi [] A := fun ⟨b, B, x, e, _⟩ => by simp at e

/-- A world in which nothing old has turned. -/
structure Kept (w w' : World) : Prop where
  os : w'.os = w.os
  tape : w'.tape = w.tape
  output : w'.output = w.output
  size : w.heap.size ≤ w'.heap.size
  old : ∀ b, b < w.heap.size → w'.heap[b]? = w.heap[b]?
theorem kept_sound (H : HRel w S φ h) (k : Kept w w') {S1 : Nat → Prop} (h1 : ∀ b, S b → S1 b) (h2 : ∀ b, S1 b → S b ∨ w.heap.size ≤ b) (h3 : ∀ b, S1 b → b < w'.heap.size) : HRel w' S1 φ h ∧ Ext w S φ h w' S1 φ h := by
  have hmono : ∀ v d, VRel w S φ v d → VRel w' S1 φ v d := fun v d r => r.mono h1 (fun b hb => k.old b (H.lt b hb)) fun _ _ _ h => h
  refine ⟨⟨fun b B e => ?_, H.inj, H.dom, h3⟩, ⟨k.os, k.tape, k.output, k.size, h1, fun _ _ _ h => h, fun b hb _ => k.old b hb, fun b hb => (h2 b hb).imp id .inr, fun b hb => .inl hb⟩⟩
  exact (H.blk b B e).go B.fz rfl hmono (fun A x hp hl => k.old A (live_some H e hl hp).1) fun A x hp hl => by
    have := live_some H e hl hp
    cases hf : B.fz with
    | true => rw [if_pos rfl]; exact h1 _ (this.2.1 hf)
    | false => rw [if_neg (by simp)]; exact fun hs => (h2 _ hs).elim (this.2.2 hf) (fun e => by omega)
theorem drop_vrel {α : Type} (f : α → D → D) (hf : ∀ a v d, VRel w S φ v d → VRel w S φ v (f a d)) (ts : Array α) {vs : List Value} {ds : List D} (r : VsRel w S φ vs ds) : VsRel w S φ vs (ts.toList.zipWith f ds ++ ds.drop ts.size) := by
  have := normL_sound (w := w) (S := S) (φ := φ) f hf ts.toList r
  simpa using this

/-- A call of which nothing is seen but what it answers. -/
theorem icall_sound {C : Cx} {call : Run} (hc : CallOk C call) {f : FuncId} {ds : List D} {r : D} (e : icall C call f ds = some r) :
    (∃ fn, C.P.funcs[f]? = some fn ∧ fn.body.isSome = true ∧ (fn.name == "runtime.NumGoroutine") = false) ∧
    ∀ (w : World) (S : Nat → Prop) (vs : List Value), (∀ b, S b → b < w.heap.size) → VsRel w S noPhi vs ds →
      Calls C.P f vs.toArray w fun e w' => ∃ v S', e = .returned v ∧ Kept w w' ∧ (∀ b, S b → S' b) ∧ (∀ b, S' b → S b ∨ w.heap.size ≤ b) ∧ (∀ b, S' b → b < w'.heap.size) ∧ VRel w' S' noPhi v r := by
  unfold icall at e
  obtain ⟨fn, hfn, e⟩ := Option.bind_eq_some_iff.1 e
  obtain ⟨q, hq, e⟩ := Option.bind_eq_some_iff.1 e
  obtain ⟨d', hd', rfl⟩ := Option.map_eq_some_iff.1 e
  obtain ⟨d, h'⟩ := q
  obtain ⟨g1, g2⟩ := hc f _ _ _ _ hq
  refine ⟨g1, fun w S vs hS rv => ?_⟩
  refine (g2 w S noPhi vs (hrel_nil w S hS) (drop_vrel (norm C.P) (fun a v d => norm_sound a) fn.params rv)).mono fun e w' k => ?_
  obtain ⟨v, S', φ', he, hx, hh, hv⟩ := k
  obtain ⟨f1, f2⟩ := freeze_sound hh (reach h' DEPTH d)
  have hr := reify_sound hh (S0 := FS S' φ' h' (reach h' DEPTH d)) f2.sub DEPTH v d d' hv hd' fun b hb B A x hB hl hp => .inr ⟨b, hb, B, x, hB, hl, hp⟩
  have hnew : ∀ b, S' b → S b ∨ w.heap.size ≤ b := fun b hb => by
    rcases hx.new b hb with g | g | g
    · exact .inl g
    · exact absurd g own_nil
    · exact .inr g
  refine ⟨v, _, he, ⟨hx.os, hx.tape, hx.output, hx.size, fun b hb => hx.same b hb own_nil⟩, fun b hb => f2.sub b (hx.sub b hb), fun b hb => ?_, f1.lt, normR_sound _ hr⟩
  rcases f2.new b hb with g | g | g
  · exact hnew b g
  · rcases hx.own b g with g | g
    · exact absurd g own_nil
    · exact .inr g
  · have := f1.lt b hb; omega

theorem flat_vrel : ∀ (n : Nat) {v : Value} {d : D} {w1 : World} {S1 : Nat → Prop} {φ1 : Phi}, VRel w S φ v d → d.flat n = true → VRel w1 S1 φ1 v d := by
  intro n
  induction n with
  | zero =>
    intro v d w1 S1 φ1 r hd
    cases r <;> first
      | (simp [D.flat] at hd; done)
      | exact .bool | exact .int | exact .str | exact .nilI
  | succ n ih =>
    intro v d w1 S1 φ1 r hd
    cases r with
    | agg hl hx =>
      simp only [D.flat, List.all_eq_true] at hd
      exact .agg hl fun i v d h1 h2 => ih (hx i v d h1 h2) (hd d (List.mem_of_getElem? h2))
    | tuple hl hx =>
      simp only [D.flat, List.all_eq_true] at hd
      exact .tuple hl fun i v d h1 h2 => ih (hx i v d h1 h2) (hd d (List.mem_of_getElem? h2))
    | bool => exact .bool
    | int => exact .int
    | str => exact .str
    | nilI => exact .nilI
    | _ => simp [D.flat] at hd
/-- Arguments as they are handed on. -/
theorem reifyL_sound (H : HRel w S φ h) {ds ds' : List D} {vs : List Value} (r : VsRel w S φ vs ds) (e : ds.mapM (reify h DEPTH) = some ds') : VsRel w (FS S φ h (ds.flatMap (reach h DEPTH))) noPhi vs ds' := by
  obtain ⟨g1, g2⟩ := mapM_some e
  refine ⟨by rw [r.1, g1], fun i v d h1 h2 => ?_⟩
  have hi : i < ds.length := by have := (List.getElem?_eq_some_iff.1 h2).1; omega
  have hd : ds[i]? = some (ds[i]'hi) := List.getElem?_eq_getElem hi
  refine reify_sound H (fun b hb => .inl hb) DEPTH v _ d (r.2 i v _ h1 hd) (g2 i _ _ hd h2) fun b hb B A x hB hl hp => .inr ⟨b, ?_, B, x, hB, hl, hp⟩
  exact List.mem_flatMap.2 ⟨_, List.getElem_mem hi, hb⟩
theorem reach_isT (h : Heap) : ∀ (m n : Nat) {d : D}, d.isT n = true → reach h m d = [] := by
  intro m
  induction m with
  | zero => intro n d _; rfl
  | succ m ih =>
    intro n d hd
    have all : ∀ {l : List D} {n : Nat}, l.all (D.isT n) = true → l.flatMap (reach h m) = [] := fun {l n} hl => by
      rw [List.flatMap_eq_nil_iff]
      intro x hx
      rw [List.all_eq_true] at hl
      exact ih n (hl x hx)
    cases d with
    | agg cs => cases n with | zero => simp [D.isT] at hd | succ n => exact all hd
    | tuple cs => cases n with | zero => simp [D.isT] at hd | succ n => exact all hd
    | fn f a c =>
      cases n with
      | zero => simp [D.isT] at hd
      | succ n =>
        simp only [D.isT, Bool.and_eq_true] at hd
        simp only [reach, all hd.1, all hd.2, List.append_nil]
    | sref => cases n <;> simp [D.isT] at hd
    | pref => cases n <;> simp [D.isT] at hd
    | _ => rfl
/-- A call of which nothing is seen but what it answers, made from within. -/
theorem call_apart {C : Cx} {call : Run} (hc : CallOk C call) (H : HRel w S φ h) {f : FuncId} {ds ds' : List D} {vs : List Value} {r : D} (rv : VsRel w S φ vs ds) (hm : ds.mapM (reify h DEPTH) = some ds') (hi : icall C call f ds' = some r) :
    (∃ fn, C.P.funcs[f]? = some fn ∧ fn.body.isSome = true ∧ (fn.name == "runtime.NumGoroutine") = false) ∧
    Calls C.P f vs.toArray w fun e w' => ∃ v S' φ', e = .returned v ∧ Ext w S φ h w' S' φ' (if ds.all (D.isT 3) || r.flat 3 then h else freeze h (ds.flatMap (reach h DEPTH))) ∧
      HRel w' S' φ' (if ds.all (D.isT 3) || r.flat 3 then h else freeze h (ds.flatMap (reach h DEPTH))) ∧ VRel w' S' φ' v r := by
  obtain ⟨g1, g2⟩ := icall_sound hc hi
  refine ⟨g1, ?_⟩
  obtain ⟨f1, f2⟩ := freeze_sound H (ds.flatMap (reach h DEPTH))
  refine (g2 w (FS S φ h (ds.flatMap (reach h DEPTH))) vs f1.lt (reifyL_sound H rv hm)).mono fun e w' k => ?_
  obtain ⟨v, S', he, hk, s1, s2, s3, hv⟩ := k
  by_cases hT : ds.all (D.isT 3) = true
  · have hl : ds.flatMap (reach h DEPTH) = [] := by
      rw [List.flatMap_eq_nil_iff]
      intro x hx
      rw [List.all_eq_true] at hT
      exact reach_isT h DEPTH 3 (hT x hx)
    have hFS : ∀ b, FS S φ h (ds.flatMap (reach h DEPTH)) b ↔ S b := fun b => by
      rw [hl]
      exact ⟨fun hb => hb.elim id fun ⟨b', hb', _⟩ => by simp at hb', .inl⟩
    obtain ⟨k1, k2⟩ := kept_sound H hk (S1 := S') (fun b hb => s1 b ((hFS b).2 hb)) (fun b hb => (s2 b hb).imp (hFS b).1 id) s3
    rw [if_pos (by rw [hT]; rfl)]
    exact ⟨v, S', φ, he, k2, k1, hv.ofNo⟩
  · by_cases hf : r.flat 3 = true
    · obtain ⟨k1, k2⟩ := kept_sound H hk (S1 := S) (fun _ hb => hb) (fun _ hb => .inl hb) (fun b hb => Nat.lt_of_lt_of_le (H.lt b hb) hk.size)
      rw [if_pos (by rw [hf]; simp)]
      exact ⟨v, S, φ, he, k2, k1, flat_vrel 3 hv hf⟩
    · obtain ⟨k1, k2⟩ := kept_sound f1 hk (S1 := S') s1 s2 s3
      rw [if_neg (by simp [hT, hf])]
      exact ⟨v, S', φ, he, f2.trans k2, k1, hv.ofNo⟩
end Go.Proofs.YtcmajlphfnihgaaA
