/- Operations that may change places. -/
import Derived.Test.YtcmajlphfnihgaaA18
set_option linter.unusedVariables false
set_option linter.unusedSimpArgs false
namespace Go.Proofs.YtcmajlphfnihgaaA
open Go

theorem callee_congr {c : Call} {σ σ' : Env} (h : ∀ x ∈ c.operands, σ x = σ' x) : callee c σ = callee c σ' := by
  have hargs : c.args.toList.map σ = c.args.toList.map σ' := List.map_congr_left fun x hx => h x (by simp [Call.operands]; exact .inr (by simpa using hx))
  unfold callee
  cases hc : c.callee with
  | value f =>
    have hf : σ f = σ' f := h f (by simp [Call.operands, hc])
    simp only [hf, hargs]
  | _ => rfl
theorem opv_congr {C : Cx} {call : Run} {draw : Bool} {base : Nat} {m : List Nat} {o : Oper} {σ σ' : Env} (h : ∀ x ∈ o.op.operands, σ x = σ' x) (H : Heap) : opv C call draw base m o σ H = opv C call draw base m o σ' H := by
  obtain ⟨dst, op, type, pos, after, guard⟩ := o
  cases op <;> simp only [Op.operands] at h
  case move x => simp only [opv, cls, opP, h x (by simp)]
  case assign x => simp only [opv, cls, opP, h x (by simp)]
  case pick c a b => simp only [opv, cls, opP, h c (by simp), h a (by simp), h b (by simp)]
  case alloc t => rfl
  case box t x => simp only [opv, cls, opA, h x (by simp)]
  case build t parts =>
    have : (parts.toList.map fun p => (p.1, σ p.2)) = parts.toList.map fun p => (p.1, σ' p.2) := List.map_congr_left fun p hp => by
      rw [h p.2 (by simp; exact ⟨p.1, by simpa using hp⟩)]
    simp only [opv, cls, opP, this]
  case buildSlice t len parts =>
    have : ∀ e, (parts.toList.map fun p => (p.1, norm C.P e (σ p.2))) = parts.toList.map fun p => (p.1, norm C.P e (σ' p.2)) := fun e => List.map_congr_left fun p hp => by
      rw [h p.2 (by simp; exact ⟨p.1, by simpa using hp⟩)]
    simp only [opv, cls, opP, this]
  case load t a => simp only [opv, cls, opR, h a (by simp)]
  case store t a v => simp only [opv, cls, opW, effOk, h a (by simp), h v (by simp)]; rfl
  case nilCheck x => simp only [opv, cls, opP, h x (by simp)]
  case binOp op t x y t' => simp only [opv, cls, opP, h x (by simp), h y (by simp)]
  case unOp op t x => simp only [opv, cls, opP, h x (by simp)]
  case convert s d x => simp only [opv, opP, opR, opA, opW, effOk, h x (by simp)]; rfl
  case makeFunc fn first captured =>
    have h1 : first.toList.map σ = first.toList.map σ' := List.map_congr_left fun x hx => h x (by simp; exact .inl (by simpa using hx))
    have h2 : captured.toList.map σ = captured.toList.map σ' := List.map_congr_left fun x hx => h x (by simp; exact .inr (by simpa using hx))
    cases fn <;> simp only [opv, cls, opP, h1, h2]
  case makeSlice t l c => simp only [opv, cls, opA, h l (by simp), h c (by simp)]
  case slice t x lo hi mx =>
    have h1 : lo.map σ = lo.map σ' := by cases lo with | none => rfl | some y => simp only [Option.map_some, h y (by simp)]
    have h2 : hi.map σ = hi.map σ' := by cases hi with | none => rfl | some y => simp only [Option.map_some, h y (by simp)]
    have h3 : mx.map σ = mx.map σ' := by cases mx with | none => rfl | some y => simp only [Option.map_some, h y (by simp)]
    simp only [opv, cls, opP, h x (by simp), h1, h2, h3]
  case fieldAddr t x f => simp only [opv, cls, opP, h x (by simp)]
  case field t x f => simp only [opv, cls, opP, h x (by simp)]
  case indexAddr t x ix => simp only [opv, cls, opP, h x (by simp), h ix (by simp)]
  case index t x ix => simp only [opv, cls, opP, h x (by simp), h ix (by simp)]
  case extract x i => simp only [opv, cls, opP, h x (by simp)]
  case call c =>
    have hc := callee_congr h
    have hargs : ∀ x ∈ c.args.toList, σ x = σ' x := fun x hx => h x (by simp [Call.operands]; exact .inr (by simpa using hx))
    have hP : opP C ⟨dst, .call c, type, pos, after, guard⟩ σ = opP C ⟨dst, .call c, type, pos, after, guard⟩ σ' := by
      simp only [opP]
      split
      · split
        · rename_i ha _; rw [hargs _ (by rw [ha]; simp)]
        · rfl
      · split
        · rename_i x l ha
          rw [hargs x (by rw [ha]; simp), List.map_congr_left fun y hy => hargs y (by rw [ha]; simp [hy])]
        · rfl
      · split
        · rename_i x l ha
          rw [hargs x (by rw [ha]; simp), List.map_congr_left fun y hy => hargs y (by rw [ha]; simp [hy])]
        · rfl
      · rfl
    have hW : opW C call draw base ⟨dst, .call c, type, pos, after, guard⟩ σ H = opW C call draw base ⟨dst, .call c, type, pos, after, guard⟩ σ' H := by
      simp only [opW, hc]
      split
      · split
        · rename_i x y t ts ha _; rw [hargs x (by rw [ha]; simp), hargs y (by rw [ha]; simp)]
        · rfl
      · split
        · rename_i x y t ts ha _; rw [hargs x (by rw [ha]; simp), hargs y (by rw [ha]; simp)]
        · rfl
      · rfl
      · rfl
    have hR : opR C call ⟨dst, .call c, type, pos, after, guard⟩ σ H = opR C call ⟨dst, .call c, type, pos, after, guard⟩ σ' H := by simp only [opR, hc]
    have hA : opA C ⟨dst, .call c, type, pos, after, guard⟩ σ = opA C ⟨dst, .call c, type, pos, after, guard⟩ σ' := rfl
    have hE : effOk base m ⟨dst, .call c, type, pos, after, guard⟩ σ = effOk base m ⟨dst, .call c, type, pos, after, guard⟩ σ' := by
      simp only [effOk]
      congr 1
      split
      · rename_i x l _ ha; rw [hargs x (by rw [ha]; simp)]
      · rfl
    have hR' : ∀ H, opR C call ⟨dst, .call c, type, pos, after, guard⟩ σ H = opR C call ⟨dst, .call c, type, pos, after, guard⟩ σ' H := fun H => by simp only [opR, hc]
    simp only [opv, hP, hW, hR', hA, hE]
  all_goals rfl

/-! ### rows that are not looked at -/
theorem mask_get (base : Nat) : ∀ (m : List Nat) (h : Heap) (i : Nat), (maskH base m h)[i]? = if ∃ t ∈ m, base + t = i then (h[i]?).map fun B => { B with body := .dead } else h[i]?
  | [], h, i => by simp [maskH]
  | t :: m, h, i => by
    have : maskH base (t :: m) h = maskH base m (kill1 h (base + t)) := rfl
    rw [this, mask_get base m, kill_get]
    by_cases h1 : i = base + t
    · subst h1
      simp only [if_true, List.mem_cons, exists_eq_or_imp, true_or]
      split
      · cases h[base + t]? <;> rfl
      · rfl
    · simp only [h1, if_false, List.mem_cons, exists_eq_or_imp]
      have h2 : ¬ base + t = i := fun e => h1 e.symm
      simp only [h2, false_or]
theorem mask_Get (base : Nat) (m : List Nat) (h : Heap) (b v : Nat) : (maskH base m h).get b v = if ∃ t ∈ m, base + t = b then .dead else h.get b v := by
  by_cases hb : ∃ t ∈ m, base + t = b
  · rw [if_pos hb]
    unfold Heap.get
    rw [mask_get, if_pos hb]
    cases h[b]? with
    | none => rfl
    | some B => simp only [Option.map_some, ite_self]
  · rw [if_neg hb]
    unfold Heap.get
    rw [mask_get, if_neg hb]
theorem mask_sub {base : Nat} {m : List Nat} {h h' : Heap} (hs : ∀ b, (¬ ∃ t ∈ m, base + t = b) → ∀ v, h.get b v ≠ .dead → h'.get b v = h.get b v) : Sub (maskH base m h) (maskH base m h') := by
  intro b v hv
  rw [mask_Get] at hv ⊢
  rw [mask_Get]
  by_cases hb : ∃ t ∈ m, base + t = b
  · rw [if_pos hb] at hv; exact absurd rfl hv
  · rw [if_neg hb] at hv ⊢
    rw [if_neg hb]
    exact hs b hb v hv
theorem get_same {h h' : Heap} {b : Nat} (e : h'[b]? = h[b]?) (v : Nat) : h'.get b v = h.get b v := by unfold Heap.get; rw [e]

theorem st_eff {P : Program} {h h' : Heap} {t : TypeId} {p v : D} (e : st P h t p v = some h') : ∃ b u i off, p = .pref b u i off ∧ ∀ i, i ≠ b → h'[i]? = h[i]? := by
  unfold st at e
  obtain ⟨s, _, e1⟩ := Option.bind_eq_some_iff.1 e
  clear e
  split at e1 <;> try (cases e1; done)
  rename_i b u i off
  refine ⟨b, u, i, off, rfl, fun j hj => ?_⟩
  split at e1 <;> try (cases e1; done)
  split at e1 <;> try (cases e1; done)
  split at e1 <;> try (cases e1; done)
  · split at e1 <;> try (cases e1; done)
    split at e1 <;> try (cases e1; done)
    cases e1
    rw [List.getElem?_set_ne (Ne.symm hj)]
  · split at e1 <;> try (cases e1; done)
    split at e1 <;> try (cases e1; done)
    cases e1
    rw [List.getElem?_set_ne (Ne.symm hj)]
theorem putA_eff {base : Nat} {dst : Option Tmp} {h h' : Heap} {x : Body × (Nat → Nat → D)} {d : D} (e : putA base dst h x = some (d, h')) : ∃ t, dst = some t ∧ ∀ i, i ≠ base + t → h'[i]? = h[i]? := by
  unfold putA at e
  obtain ⟨t, ht, e⟩ := Option.bind_eq_some_iff.1 e
  obtain ⟨B, _, e⟩ := Option.map_eq_some_iff.1 e
  cases e
  exact ⟨t, ht, fun i hi => by rw [List.getElem?_set_ne (Ne.symm hi)]⟩
theorem append_eff {P : Program} {base : Nat} {dst : Option Tmp} {h h' : Heap} {t : TypeId} {x y d : D} (e : appendD P base dst h t x y = some (d, h')) :
    h' = h ∨ ∃ u, dst = some u ∧ ∀ i, i ≠ base + u → (∀ b v sz off len, x = .sref b v sz off len → i ≠ b) → h'[i]? = h[i]? := by
  have kill : ∀ {b v sz off len : Nat} {xx : Body × (Nat → Nat → D)} {d : D} {h' : Heap}, x = .sref b v sz off len → putA base dst (kill1 h b) xx = some (d, h') → h' = h ∨ ∃ u, dst = some u ∧ ∀ i, i ≠ base + u → (∀ b v sz off len, x = .sref b v sz off len → i ≠ b) → h'[i]? = h[i]? :=
    fun {b v sz off len xx d h'} hx ep => by
      obtain ⟨u, hu, k⟩ := putA_eff ep
      exact .inr ⟨u, hu, fun i hi hb => by rw [k i hi, kill_get, if_neg (hb _ _ _ _ _ hx)]⟩
  have new : ∀ {xx : Body × (Nat → Nat → D)} {d : D} {h' : Heap}, putA base dst h xx = some (d, h') → h' = h ∨ ∃ u, dst = some u ∧ ∀ i, i ≠ base + u → (∀ b v sz off len, x = .sref b v sz off len → i ≠ b) → h'[i]? = h[i]? :=
    fun {xx d h'} ep => by
      obtain ⟨u, hu, k⟩ := putA_eff ep
      exact .inr ⟨u, hu, fun i hi _ => k i hi⟩
  unfold appendD at e
  obtain ⟨el, _, e⟩ := Option.bind_eq_some_iff.1 e
  obtain ⟨s, _, e⟩ := Option.bind_eq_some_iff.1 e
  obtain ⟨by_, _, e⟩ := Option.bind_eq_some_iff.1 e
  obtain ⟨z, _, e⟩ := Option.bind_eq_some_iff.1 e
  split at e <;> try (cases e; done)
  split at e
  · split at e <;> first | (cases e; exact .inl rfl) | cases e
  · split at e <;> try (cases e; done)
    split at e
    · split at e <;> try (cases e; done)
      split at e <;> try (cases e; done)
      cases e; exact .inl rfl
    · unfold growI at e
      split at e
      · split at e <;> try (cases e; done)
        exact new e
      · split at e <;> try (cases e; done)
        split at e <;> try (cases e; done)
        split at e <;> try (cases e; done)
        split at e <;> try (cases e; done)
        split at e <;> try (cases e; done)
        exact kill rfl e
      · cases e
  · split at e <;> try (cases e; done)
    split at e
    · split at e <;> try (cases e; done)
      split at e <;> try (cases e; done)
      cases e; exact .inl rfl
    · unfold growR at e
      split at e
      · split at e <;> try (cases e; done)
        exact new e
      · split at e <;> try (cases e; done)
        split at e <;> try (cases e; done)
        split at e <;> try (cases e; done)
        split at e <;> try (cases e; done)
        split at e <;> try (cases e; done)
        exact kill rfl e
      · cases e
  · cases e
/-- What is written, where it is said what may be. -/
theorem opW_eff {C : Cx} {call : Run} {draw : Bool} {base : Nat} {m : List Nat} {o : Oper} {σ : Env} {h h' : Heap} {d : D} (hm : m ≠ []) (hf : effOk base m o σ = true) (e : opW C call draw base o σ h = some (d, h')) :
    ∀ b, (¬ ∃ t ∈ m, base + t = b) → h'[b]? = h[b]? := by
  intro b hb
  have hme : m.isEmpty = false := by cases m <;> simp_all
  unfold effOk at hf
  rw [hme, Bool.false_or] at hf
  unfold opW at e
  cases ho : o.op <;> simp only [ho] at hf e <;> try (cases e; done)
  case store t a v =>
    obtain ⟨h1, h2, e⟩ := Option.map_eq_some_iff.1 e
    cases e
    obtain ⟨b', u, i, off, hp, k⟩ := st_eff h2
    rw [hp] at hf
    simp only [List.any_eq_true, beq_iff_eq] at hf
    obtain ⟨t', ht', rfl⟩ := hf
    exact k b fun e => hb ⟨t', ht', e.symm⟩
  case call c =>
    cases hc : c.callee <;> simp only [hc] at hf e <;> try (cases hf; done)
    case builtin bb =>
      cases bb <;> simp only at hf e <;> try (cases e; done)
      case append =>
        split at e <;> try (cases e; done)
        rename_i x y t ts ha ht
        split at e <;> try (cases e; done)
        rw [ha] at hf
        simp only [Bool.and_eq_true] at hf
        rcases append_eff e with rfl | ⟨u, hu, k⟩
        · rfl
        · rw [hu] at hf
          simp only [List.any_eq_true, beq_iff_eq] at hf
          obtain ⟨f1, t', ht', rfl⟩ := hf
          refine k b (fun e => hb ⟨t', ht', e.symm⟩) fun b' v sz off len hx => ?_
          rw [hx] at f1
          simp only [List.any_eq_true, beq_iff_eq] at f1
          obtain ⟨t2, ht2, rfl⟩ := f1
          exact fun e => hb ⟨t2, ht2, e.symm⟩
      case copy => cases hf

/-! ### two operations change places -/
def subset (a b : List Nat) : Bool := !a.isEmpty && a.all fun t => b.any (· == t)
def compat (C : Cx) (ops : Array Oper) (mx : List Nat) (x : Oper) (my : List Nat) (y : Oper) : Bool :=
  x.apart ops y && match cls C true x, cls C true y with
    | .P, _ | _, .P | .R, .R | .R, .A | .A, .A => true
    | .A, .R => match x.dst with | some t => my.any (· == t) | none => true
    | .R, .W => subset my mx
    | .W, .R => subset mx my
    | _, _ => false
/-- The row that an operation makes is not there. -/
def Waits (C : Cx) (base : Nat) (h : Heap) (o : Oper) : Prop := cls C true o = .A → ∀ t, o.dst = some t → ∀ B, h[base + t]? = some B → B.body = .dead
theorem ev_put {s : St} {dst : Option Tmp} {d : D} {H : Heap} {x : Operand} (h : ∀ t, dst = some t → x ≠ .tmp t) : (⟨putT s.tmps dst d, H⟩ : St).ev x = s.ev x := by
  cases dst with
  | none => cases x <;> rfl
  | some t =>
    cases x with
    | tmp u =>
      have hne : t ≠ u := fun e => h t rfl (e ▸ rfl)
      simp only [St.ev, putT, List.getD_eq_getElem?_getD, List.getElem?_set_ne hne]
    | _ => rfl
theorem looks_op {ops : Array Oper} {o : Oper} {t : Tmp} (h : t ∉ o.looksAt ops) : ∀ x ∈ o.op.operands, x ≠ .tmp t := fun x hx e => by
  subst e
  exact h (List.mem_append_left _ (List.mem_filterMap.2 ⟨.tmp t, by simpa using hx, rfl⟩))
theorem want_put {ops : Array Oper} {o : Oper} {s : St} {dst : Option Tmp} {d : D} {H : Heap} (h : ∀ t, dst = some t → t ∉ o.looksAt ops) : wantD ops o ⟨putT s.tmps dst d, H⟩ = wantD ops o s := by
  unfold wantD
  cases hg : o.guard with
  | none => rfl
  | some p =>
    obtain ⟨j, want⟩ := p
    simp only
    cases ht : (ops[j]?).bind (·.dst) with
    | none => rfl
    | some u =>
      simp only
      cases dst with
      | none => rfl
      | some t =>
        have hne : t ≠ u := fun e => h t rfl (by subst e; simp [Oper.looksAt, hg, ht])
        simp only [putT, List.getD_eq_getElem?_getD, List.getElem?_set_ne hne]
theorem put_comm {l : List D} {x y : Option Tmp} (d e : D) (h : ∀ t, x = some t → y ≠ some t) : putT (putT l x d) y e = putT (putT l y e) x d := by
  cases x with
  | none => rfl
  | some t =>
    cases y with
    | none => rfl
    | some u =>
      have hne : t ≠ u := fun e => h t rfl (e ▸ rfl)
      simp only [putT]
      rw [List.set_comm _ _ hne]
/-- One step: the value, the heap. -/
def stepV (C : Cx) (call : Run) (draw : Bool) (base : Nat) (ops : Array Oper) (m : List Nat) (o : Oper) (s : St) : Option (D × Heap) :=
  (wantD ops o s).bind fun w => if w then opv C call draw base m o s.ev s.heap else some (.tuple [], s.heap)
theorem step_eq (C : Cx) (call : Run) (draw : Bool) (base : Nat) (ops : Array Oper) (m : List Nat) (o : Oper) (s : St) : opStep C call draw base ops m o s = (stepV C call draw base ops m o s).map fun r => ⟨putT s.tmps o.dst r.1, r.2⟩ := by
  unfold opStep stepV
  cases wantD ops o s with
  | none => rfl
  | some w => cases w <;> rfl
/-- A step does not look at what another place holds. -/
theorem stepV_put {C : Cx} {call : Run} {draw : Bool} {base : Nat} {ops : Array Oper} {m : List Nat} {o : Oper} {s : St} {dst : Option Tmp} {d : D} {H : Heap} (h : ∀ t, dst = some t → t ∉ o.looksAt ops) :
    stepV C call draw base ops m o ⟨putT s.tmps dst d, H⟩ = stepV C call draw base ops m o ⟨s.tmps, H⟩ := by
  unfold stepV
  have h1 : wantD ops o ⟨putT s.tmps dst d, H⟩ = wantD ops o ⟨s.tmps, H⟩ := want_put (s := ⟨s.tmps, H⟩) h
  rw [h1]
  congr 1
  funext w
  split
  · exact opv_congr (fun x hx => ev_put (s := ⟨s.tmps, H⟩) fun t ht => looks_op (h t ht) x hx) H
  · rfl
theorem stepV_want {C : Cx} {call : Run} {draw : Bool} {base : Nat} {ops : Array Oper} {m : List Nat} {o : Oper} {s : St} {d : D} {H : Heap} (e : stepV C call draw base ops m o s = some (d, H)) :
    ∃ b, wantD ops o s = some b ∧ (if b then opv C call draw base m o s.ev s.heap else some (.tuple [], s.heap)) = some (d, H) := by
  obtain ⟨b, h1, h2⟩ := Option.bind_eq_some_iff.1 e
  exact ⟨b, h1, h2⟩
theorem want_heap (ops : Array Oper) (o : Oper) (l : List D) (H H' : Heap) : wantD ops o ⟨l, H⟩ = wantD ops o ⟨l, H'⟩ := rfl
theorem ev_heap (l : List D) (H H' : Heap) : (⟨l, H⟩ : St).ev = (⟨l, H'⟩ : St).ev := by funext x; cases x <;> rfl
/-- What touches no row answers with any rows, and leaves them. -/
theorem stepV_P {C : Cx} {call : Run} {base : Nat} {ops : Array Oper} {m : List Nat} {o : Oper} (hc : cls C true o = .P) {l : List D} {H H1 : Heap} {d : D} (e : stepV C call true base ops m o ⟨l, H⟩ = some (d, H1)) : H1 = H ∧ ∀ H', stepV C call true base ops m o ⟨l, H'⟩ = some (d, H') := by
  obtain ⟨b, h1, h2⟩ := stepV_want e
  cases b with
  | false =>
    simp only [Bool.false_eq_true, if_false, Option.some.injEq, Prod.mk.injEq] at h2
    obtain ⟨rfl, rfl⟩ := h2
    exact ⟨rfl, fun H' => by unfold stepV; rw [want_heap ops o l H' H, h1]; rfl⟩
  | true =>
    simp only [if_true] at h2
    unfold opv at h2
    rw [hc] at h2
    obtain ⟨d', h3, h4⟩ := Option.map_eq_some_iff.1 h2
    cases h4
    refine ⟨rfl, fun H' => ?_⟩
    unfold stepV
    rw [want_heap ops o l H' H, h1]
    simp only [Option.bind_some, if_true]
    unfold opv
    rw [hc, ev_heap l H' H]
    simp only [h3, Option.map_some]
theorem stepV_R {C : Cx} {call : Run} {base : Nat} {ops : Array Oper} {m : List Nat} {o : Oper} (hc : cls C true o = .R) {l : List D} {H H1 : Heap} {d : D} (e : stepV C call true base ops m o ⟨l, H⟩ = some (d, H1)) : H1 = H ∧ ∀ H', Sub (maskH base m H) (maskH base m H') → stepV C call true base ops m o ⟨l, H'⟩ = some (d, H') := by
  obtain ⟨b, h1, h2⟩ := stepV_want e
  cases b with
  | false =>
    simp only [Bool.false_eq_true, if_false, Option.some.injEq, Prod.mk.injEq] at h2
    obtain ⟨rfl, rfl⟩ := h2
    exact ⟨rfl, fun H' _ => by unfold stepV; rw [want_heap ops o l H' H, h1]; rfl⟩
  | true =>
    simp only [if_true] at h2
    unfold opv at h2
    rw [hc] at h2
    obtain ⟨d', h3, h4⟩ := Option.map_eq_some_iff.1 h2
    cases h4
    refine ⟨rfl, fun H' hs => ?_⟩
    unfold stepV
    rw [want_heap ops o l H' H, h1]
    simp only [Option.bind_some, if_true]
    unfold opv
    rw [hc, ev_heap l H' H]
    simp only [opR_sub hs h3, Option.map_some]
theorem stepV_A {C : Cx} {call : Run} {base : Nat} {ops : Array Oper} {m : List Nat} {o : Oper} (hc : cls C true o = .A) {l : List D} {H H1 : Heap} {d : D} (e : stepV C call true base ops m o ⟨l, H⟩ = some (d, H1)) :
    (H1 = H ∧ ∀ H', stepV C call true base ops m o ⟨l, H'⟩ = some (d, H')) ∨ ∃ t B, ∃ body, o.dst = some t ∧ H[base + t]? = some B ∧ H1 = H.set (base + t) ⟨B.ver + 1, false, body⟩ ∧
      ∀ H', H'[base + t]? = some B → stepV C call true base ops m o ⟨l, H'⟩ = some (d, H'.set (base + t) ⟨B.ver + 1, false, body⟩) := by
  obtain ⟨b, h1, h2⟩ := stepV_want e
  cases b with
  | false =>
    simp only [Bool.false_eq_true, if_false, Option.some.injEq, Prod.mk.injEq] at h2
    obtain ⟨rfl, rfl⟩ := h2
    exact .inl ⟨rfl, fun H' => by unfold stepV; rw [want_heap ops o l H' H, h1]; rfl⟩
  | true =>
    right
    simp only [if_true] at h2
    unfold opv at h2
    rw [hc] at h2
    obtain ⟨x, h3, h4⟩ := Option.bind_eq_some_iff.1 h2
    unfold putA at h4
    obtain ⟨t, ht, h5⟩ := Option.bind_eq_some_iff.1 h4
    obtain ⟨B, hB, h6⟩ := Option.map_eq_some_iff.1 h5
    cases h6
    refine ⟨t, B, x.1, ht, hB, rfl, fun H' hB' => ?_⟩
    unfold stepV
    rw [want_heap ops o l H' H, h1]
    simp only [Option.bind_some, if_true]
    unfold opv
    rw [hc, ev_heap l H' H]
    simp only [h3, Option.bind_some, putA, ht, hB', Option.map_some]

theorem stepV_W {C : Cx} {call : Run} {base : Nat} {ops : Array Oper} {m : List Nat} {o : Oper} (hc : cls C true o = .W) (hm : m ≠ []) {l : List D} {H H1 : Heap} {d : D} (e : stepV C call true base ops m o ⟨l, H⟩ = some (d, H1)) :
    ∀ b, (¬ ∃ t ∈ m, base + t = b) → H1[b]? = H[b]? := by
  obtain ⟨b, h1, h2⟩ := stepV_want e
  cases b with
  | false =>
    simp only [Bool.false_eq_true, if_false, Option.some.injEq, Prod.mk.injEq] at h2
    obtain ⟨_, rfl⟩ := h2
    exact fun _ _ => rfl
  | true =>
    simp only [if_true] at h2
    unfold opv at h2
    rw [hc] at h2
    simp only at h2
    split at h2 <;> try (cases h2; done)
    rename_i hf
    exact opW_eff hm hf h2
theorem subset_mem {a b : List Nat} (h : subset a b = true) : a ≠ [] ∧ ∀ t ∈ a, t ∈ b := by
  simp only [subset, Bool.and_eq_true, Bool.not_eq_true', List.all_eq_true, List.any_eq_true, beq_iff_eq] at h
  refine ⟨fun e => by rw [e] at h; simp at h, fun t ht => ?_⟩
  obtain ⟨u, hu, rfl⟩ := h.2 t ht
  exact hu
/-- Two operations that are not ordered: the other one first. -/
theorem swap {C : Cx} {call : Run} {base : Nat} {ops : Array Oper} {mx my : List Nat} {x y : Oper} (hk : compat C ops mx x my y = true) {s s1 s2 : St} (hw : Waits C base s.heap y) (e1 : opStep C call true base ops mx x s = some s1) (e2 : opStep C call true base ops my y s1 = some s2) :
    ∃ s1', opStep C call true base ops my y s = some s1' ∧ opStep C call true base ops mx x s1' = some s2 := by
  rw [step_eq] at e1 e2
  obtain ⟨⟨dx, Hx⟩, h1, rfl⟩ := Option.map_eq_some_iff.1 e1
  obtain ⟨⟨dy, Hy⟩, h2, rfl⟩ := Option.map_eq_some_iff.1 e2
  simp only [compat, Bool.and_eq_true] at hk
  obtain ⟨a1, a2, a3⟩ := Oper.apart_spec hk.1
  simp only at h2
  rw [stepV_put a1] at h2
  have fin : ∀ {Hm : Heap}, stepV C call true base ops my y ⟨s.tmps, s.heap⟩ = some (dy, Hm) → stepV C call true base ops mx x ⟨s.tmps, Hm⟩ = some (dx, Hy) →
      ∃ s1', opStep C call true base ops my y s = some s1' ∧ opStep C call true base ops mx x s1' = some ⟨putT (putT s.tmps x.dst dx) y.dst dy, Hy⟩ := fun {Hm} g1 g2 => by
    refine ⟨⟨putT s.tmps y.dst dy, Hm⟩, ?_, ?_⟩
    · rw [step_eq]
      have : stepV C call true base ops my y s = some (dy, Hm) := g1
      rw [this]; rfl
    · rw [step_eq, stepV_put a3, g2]
      simp only [Option.map_some]
      rw [put_comm _ _ a2]
  cases hx : cls C true x with
  | P =>
    obtain ⟨rfl, k⟩ := stepV_P hx (l := s.tmps) (H := s.heap) h1
    exact fin h2 (k Hy)
  | R =>
    obtain ⟨rfl, k⟩ := stepV_R hx (l := s.tmps) (H := s.heap) h1
    cases hy : cls C true y with
    | P =>
      obtain ⟨rfl, k'⟩ := stepV_P hy h2
      exact fin h2 (k _ fun _ _ _ => rfl)
    | R =>
      obtain ⟨rfl, k'⟩ := stepV_R hy h2
      exact fin h2 (k _ fun _ _ _ => rfl)
    | A =>
      rcases stepV_A hy h2 with ⟨rfl, _⟩ | ⟨t, B, body, ht, hB, rfl, k'⟩
      · exact fin h2 (k _ fun _ _ _ => rfl)
      · exact fin h2 (k _ (mask_sub fun b _ v hv => sub_set hB (hw hy t ht B hB) _ b v hv))
    | W =>
      have hk2 := hk.2
      rw [hx, hy] at hk2
      obtain ⟨hm, hsub⟩ := subset_mem hk2
      have eff := stepV_W hy hm h2
      exact fin h2 (k _ (mask_sub fun b hb v _ => get_same (eff b fun ⟨t, ht, e⟩ => hb ⟨t, hsub t ht, e⟩) v))
  | A =>
    cases hy : cls C true y with
    | P =>
      obtain ⟨rfl, k'⟩ := stepV_P hy h2
      exact fin (k' s.heap) h1
    | A =>
      rcases stepV_A hx (l := s.tmps) (H := s.heap) h1 with ⟨rfl, kx⟩ | ⟨t, B, body, ht, hB, rfl, kx⟩
      · exact fin h2 (kx _)
      · rcases stepV_A hy h2 with ⟨rfl, ky⟩ | ⟨t', B', body', ht', hB', rfl, ky⟩
        · exact fin (ky s.heap) h1
        · have hne : base + t ≠ base + t' := fun e => a2 t ht (by rw [ht']; congr 1; exact (Nat.add_left_cancel e).symm)
          rw [List.getElem?_set_ne hne] at hB'
          have hB2 : (s.heap.set (base + t') ⟨B'.ver + 1, false, body'⟩)[base + t]? = some B := by rw [List.getElem?_set_ne (Ne.symm hne)]; exact hB
          refine fin (ky _ hB') ?_
          rw [kx _ hB2, List.set_comm _ _ hne]
    | R =>
      obtain ⟨rfl, k⟩ := stepV_R hy h2
      rcases stepV_A hx (l := s.tmps) (H := s.heap) h1 with ⟨rfl, kx⟩ | ⟨t, B, body, ht, hB, rfl, kx⟩
      · exact fin h2 h1
      · have hk2 := hk.2
        rw [hx, hy, ht] at hk2
        simp only [List.any_eq_true, beq_iff_eq] at hk2
        obtain ⟨u, hu, rfl⟩ := hk2
        refine fin (k s.heap (mask_sub fun b hb v _ => get_same ?_ v)) h1
        rw [List.getElem?_set_ne fun e => hb ⟨u, hu, e⟩]
    | W => rw [hx, hy] at hk; simp at hk
  | W =>
    cases hy : cls C true y with
    | P =>
      obtain ⟨rfl, k'⟩ := stepV_P hy h2
      exact fin (k' s.heap) h1
    | R =>
      have hk2 := hk.2
      rw [hx, hy] at hk2
      obtain ⟨hm, hsub⟩ := subset_mem hk2
      have eff := stepV_W hx hm (l := s.tmps) (H := s.heap) h1
      obtain ⟨rfl, k⟩ := stepV_R hy h2
      exact fin (k s.heap (mask_sub fun b hb v _ => get_same (eff b fun ⟨t, ht, e⟩ => hb ⟨t, hsub t ht, e⟩).symm v)) h1
    | A => rw [hx, hy] at hk; simp at hk
    | W => rw [hx, hy] at hk; simp at hk
end Go.Proofs.YtcmajlphfnihgaaA
