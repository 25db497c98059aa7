/- A law of the shadow's is a law of the machine's. -/
import Derived.Test.YtcmajlphfnihgaaA23
import Derived.OpenShut
import Derived.Carry
import Derived.ChangeOld
set_option linter.unusedVariables false
set_option linter.unusedSimpArgs false
namespace Go.Proofs.YtcmajlphfnihgaaA
open Go Go.RowKit Go.ChangeShapes

/-- From some number of rounds on. -/
def Ev {α : Type} (g : Nat → Option α) (r : α) : Prop := ∃ K, ∀ k, K ≤ k → g k = some r
def Typed (P : Program) (ts : List TypeId) (zs : List D) : Prop := zs.length = ts.length ∧ ∀ (i : Nat) (t : TypeId) (z : D), ts[i]? = some t → zs[i]? = some z → TyD P 8 t z
section
variable {H : Type} {enc : TypeId × Value → H} {P : Program}
theorem whole_of {W : World} {base : Nat} {t : TypeId} {v : Value} {d : D} {n : Nat} (hok : Value.okWide P W .any base t v) (o : Opened P W t (n + 1) v.cells.toList d) : VRel W (fun b => b < W.heap.size) noPhi v d := by
  have hty := o.ty
  have one : ∀ {x : Value}, v = x → x.cells = #[x] → d.cells = [d] → VRel W (fun b => b < W.heap.size) noPhi v d := fun {x} hv hc hd => by
    subst hv
    have hr := o.rel
    rw [hc, hd] at hr
    exact hr.head
  simp only [TyD] at hty
  cases hu : P.underlying t with
  | none => rw [hu] at hty; exact hty.elim
  | some u =>
    rw [hu] at hty
    cases u <;> try exact hty.elim
    case bool => obtain ⟨b, rfl⟩ := hty; obtain ⟨x, hx⟩ := WideShapes.okWide_bool hu hok; exact one hx rfl rfl
    case int k => obtain ⟨m, rfl, _⟩ := hty; obtain ⟨x, hx⟩ := WideShapes.okWide_int hu hok; exact one hx rfl rfl
    case string => obtain ⟨m, rfl, _⟩ := hty; obtain ⟨x, hx⟩ := WideShapes.okWide_string hu hok; exact one hx rfl rfl
    case slice e =>
      obtain ⟨a, l, c, hx⟩ := WideShapes.okWide_slice hu hok
      have hd : d.cells = [d] := by
        simp only at hty
        split at hty
        · obtain ⟨xs, rfl, _⟩ := hty; rfl
        · obtain ⟨xs, rfl, _⟩ := hty; rfl
      exact one hx rfl hd
    case struct fs =>
      obtain ⟨ps, rfl, _⟩ := hty
      unfold Value.okWide at hok
      rw [hu] at hok
      obtain ⟨cs, rfl, _⟩ := hok
      exact VRel.agg_iff.2 o.rel
theorem args_open {W : World} {base : Nat} {spare : Nat → Bool} {held : Bool} : ∀ {ts : List TypeId} {vs : List Value} {ds : List (DataW H)} {p : List MemPlace}, DataW.TrodAll enc P W 0 spare held ts vs ds p → (∀ t ∈ ts, flatOk P 8 t = true) →
    (∀ (j : Nat) (t : TypeId) (v : Value), ts[j]? = some t → vs[j]? = some v → Value.okWide P W .any base t v) → ∃ zs, Typed P ts zs ∧ VsRel W (fun b => b < W.heap.size) noPhi vs zs := by
  intro ts
  induction ts with
  | nil =>
    intro vs ds p hA _ _
    obtain ⟨rfl, _, _⟩ := trodAll_nil hA
    exact ⟨[], ⟨rfl, fun i t z h => by simp at h⟩, .nil⟩
  | cons t ts ih =>
    intro vs ds p hA hf hok
    obtain ⟨v, vs', d, ds', q, q', rfl, rfl, rfl, ⟨fuel, h0⟩, r0⟩ := trodAll_cons hA
    obtain ⟨z, hz⟩ := open_D 8 t fuel _ _ (hf t (by simp)) h0
    obtain ⟨zs, h1, h2⟩ := ih r0 (fun t ht => hf t (by simp [ht])) (fun j t v hj hv => hok (j + 1) t v (by simpa using hj) (by simpa using hv))
    refine ⟨z :: zs, ⟨by simp [h1.1], fun i t' z' hi hz' => ?_⟩, .cons (whole_of (hok 0 t v rfl rfl) hz) h2⟩
    cases i with
    | zero => simp at hi hz'; subst hi; subst hz'; exact hz.ty
    | succ i => exact h1.2 i t' z' (by simpa using hi) (by simpa using hz')
theorem law_calls {C : Cx} {F : Forget} (hf : Fine C) {f : FuncId} {W : World} {base : Nat} {spare : Nat → Bool} {held : Bool} {ts : List TypeId} {args : Array Value} {ds : List (DataW H)} {p : List MemPlace} (hA : DataW.TrodAll enc C.P W 0 spare held ts args.toList ds p)
    (hfl : ∀ t ∈ ts, flatOk C.P 8 t = true) (hok : ∀ (j : Nat) (t : TypeId) (v : Value), ts[j]? = some t → args[j]? = some v → Value.okWide C.P W .any base t v)
    (hp : ∀ zs, Typed C.P ts zs → ∃ k h', run C F k f zs [] = some (.bool true, h')) : Calls C.P f args W fun e W' => e = .returned (.bool true) ∧ Below W.heap.size W W' := by
  obtain ⟨zs, h1, h2⟩ := args_open (base := base) hA hfl (fun j t v hj hv => hok j t v hj (by simpa using hv))
  obtain ⟨k, h', hr⟩ := hp zs h1
  have hc := (sound F hf k).1 f zs [] (.bool true) h' hr
  have := hc.2 W (fun b => b < W.heap.size) noPhi args.toList (hrel_nil W _ fun _ h => h) h2
  rw [Array.toArray_toList] at this
  refine this.mono fun e W' k => ?_
  obtain ⟨v, S', φ', rfl, hx, _, hv⟩ := k
  rw [hv.bool_inv]
  exact ⟨rfl, ⟨hx.os, hx.tape, hx.output, hx.size, fun b hb => hx.same b hb own_nil⟩⟩
theorem args_stay {W W' : World} (hl : laidOutB P = true) (bel : Below W.heap.size W W') : ∀ {ts : List TypeId} {vs : List Value} {ds : List (DataW H)} {p : List MemPlace}, DataW.TrodAll enc P W 0 (fun _ => true) true ts vs ds p → (∀ t ∈ ts, P.readableRec t = true ∧ t < P.types.size) →
    DataW.TrodAll enc P W' 0 (fun b => decide (b < W.heap.size)) true ts vs ds p := by
  intro ts
  induction ts with
  | nil =>
    intro vs ds p hA _
    obtain ⟨rfl, rfl, rfl⟩ := trodAll_nil hA
    exact trodAll_mk0
  | cons t ts ih =>
    intro vs ds p hA hr
    obtain ⟨v, vs', d, ds', q, q', rfl, rfl, rfl, h0, r0⟩ := trodAll_cons hA
    have lt0 : ∀ x ∈ q, x.block < W.heap.size := by obtain ⟨m, hm⟩ := h0; exact DataW.trod_lt m _ _ _ hm
    exact trodAll_cons_mk (Below.trod hl (hr t (by simp)).1 (hr t (by simp)).2 h0 bel lt0) (ih r0 fun t ht => hr t (by simp [ht]))
end
end Go.Proofs.YtcmajlphfnihgaaA
