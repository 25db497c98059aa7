/- Operations that may change places. -/
import Derived.Test.YtlpbmajbalenjaaM3
import Derived.ChangeSlices
import Derived.ChangeArms
import Derived.WideShapes
import Derived.OpenShut
import Derived.Carry
import Derived.ChangeOld
set_option linter.unusedVariables false
set_option linter.unusedSimpArgs false
namespace Go.Proofs.YtlpbmajbalenjaaA
open Go

theorem callee_congr {c : Call} {σ σ' : Env} (h : ∀ x ∈ c.operands, σ x = σ' x) : callee c σ = callee c σ' := by
 have hargs : c.args.toList.map σ = c.args.toList.map σ' := List.map_congr_left fun x hx => h x (by simp [Call.operands]; exact .inr (by simpa using hx))
 unfold callee
 cases hc : c.callee with
 | value f =>
  have hf : σ f = σ' f := h f (by simp [Call.operands, hc])
  simp only [hf, hargs]
 | _ => rfl
theorem opv_congr {C : Cx} {call : Run} {draw : Bool} {base : Nat} {m : List Nat} {o : Oper} {σ σ' : Env} (h : ∀ x ∈ o.op.operands, σ x = σ' x) (H : Heap) : opv C call draw base m o σ H = opv C call draw base m o σ' H := by
 obtain ⟨dst, op, type, pos, after, guard⟩ := o
 cases op <;> simp only [Op.operands] at h
 case move x => simp only [opv, cls, opP, h x (by simp)]
 case assign x => simp only [opv, cls, opP, h x (by simp)]
 case pick c a b => simp only [opv, cls, opP, h c (by simp), h a (by simp), h b (by simp)]
 case alloc t => rfl
 case box t x => simp only [opv, cls, opA, h x (by simp)]
 case build t parts =>
  have : (parts.toList.map fun p => (p.1, σ p.2)) = parts.toList.map fun p => (p.1, σ' p.2) := List.map_congr_left fun p hp => by
   rw [h p.2 (by simp; exact ⟨p.1, by simpa using hp⟩)]
  simp only [opv, cls, opP, this]
 case buildSlice t len parts =>
  have hm : (parts.toList.map fun p => σ p.2) = parts.toList.map fun p => σ' p.2 := List.map_congr_left fun p hp => by
   rw [h p.2 (by simp; exact ⟨p.1, by simpa using hp⟩)]
  have hp : (parts.toList.map fun p => (p.1, σ p.2)) = parts.toList.map fun p => (p.1, σ' p.2) := List.map_congr_left fun p hp => by
   rw [h p.2 (by simp; exact ⟨p.1, by simpa using hp⟩)]
  simp only [opv, cls]
  cases leads C.P t && (!draw || marked C t) with
  | true => simp only [if_true, opW, effOk, hm]; rfl
  | false => simp only [Bool.false_eq_true, if_false, opP, hp]
 case load t a => simp only [opv, cls, opR, h a (by simp)]
 case store t a v => simp only [opv, cls, opW, effOk, h a (by simp), h v (by simp)]; rfl
 case lookup t m k ok => simp only [opv, cls, opR, h m (by simp), h k (by simp)]
 case mapUpdate t m k x => simp only [opv, cls, opW, effOk, h m (by simp), h k (by simp), h x (by simp)]; rfl
 case makeMap t hint => cases hint <;> rfl
 case range t x => simp only [opv, cls, opA, h x (by simp)]
 case next it b => simp only [opv, cls, opW, effOk, h it (by simp)]; rfl
 case nilCheck x => simp only [opv, cls, opP, h x (by simp)]
 case binOp op t x y t' => simp only [opv, cls, opP, h x (by simp), h y (by simp)]
 case unOp op t x => simp only [opv, cls, opP, h x (by simp)]
 case convert s d x => simp only [opv, opP, opR, opA, opW, effOk, h x (by simp)]; rfl
 case makeFunc fn first captured =>
  have h1 : first.toList.map σ = first.toList.map σ' := List.map_congr_left fun x hx => h x (by simp; exact .inl (by simpa using hx))
  have h2 : captured.toList.map σ = captured.toList.map σ' := List.map_congr_left fun x hx => h x (by simp; exact .inr (by simpa using hx))
  cases fn <;> simp only [opv, cls, opP, h1, h2]
 case makeSlice t l c => simp only [opv, cls, opA, h l (by simp), h c (by simp)]
 case slice t x lo hi mx =>
  have h1 : lo.map σ = lo.map σ' := by cases lo with | none => rfl | some y => simp only [Option.map_some, h y (by simp)]
  have h2 : hi.map σ = hi.map σ' := by cases hi with | none => rfl | some y => simp only [Option.map_some, h y (by simp)]
  have h3 : mx.map σ = mx.map σ' := by cases mx with | none => rfl | some y => simp only [Option.map_some, h y (by simp)]
  simp only [opv, cls, opP, h x (by simp), h1, h2, h3]
 case fieldAddr t x f => simp only [opv, cls, opP, h x (by simp)]
 case field t x f => simp only [opv, cls, opP, h x (by simp)]
 case indexAddr t x ix => simp only [opv, cls, opP, h x (by simp), h ix (by simp)]
 case index t x ix => simp only [opv, cls, opP, h x (by simp), h ix (by simp)]
 case extract x i => simp only [opv, cls, opP, h x (by simp)]
 case call c =>
  have hc := callee_congr h
  have hargs : ∀ x ∈ c.args.toList, σ x = σ' x := fun x hx => h x (by simp [Call.operands]; exact .inr (by simpa using hx))
  have hP : opP C ⟨dst, .call c, type, pos, after, guard⟩ σ = opP C ⟨dst, .call c, type, pos, after, guard⟩ σ' := by
   simp only [opP]
   split
   ·split
    ·rename_i ha _; rw [hargs _ (by rw [ha]; simp)]
    ·rfl
   ·split
    ·rename_i x l ha
     rw [hargs x (by rw [ha]; simp), List.map_congr_left fun y hy => hargs y (by rw [ha]; simp [hy])]
    ·rfl
   ·split
    ·rename_i x l ha
     rw [hargs x (by rw [ha]; simp), List.map_congr_left fun y hy => hargs y (by rw [ha]; simp [hy])]
    ·rfl
   ·rfl
  have hW : opW C call draw base ⟨dst, .call c, type, pos, after, guard⟩ σ H = opW C call draw base ⟨dst, .call c, type, pos, after, guard⟩ σ' H := by
   simp only [opW, hc]
   split
   ·split
    ·rename_i x y t ts ha _; rw [hargs x (by rw [ha]; simp), hargs y (by rw [ha]; simp)]
    ·rfl
   ·split
    ·rename_i x y t ts ha _; rw [hargs x (by rw [ha]; simp), hargs y (by rw [ha]; simp)]
    ·rfl
   ·split
    ·split
     ·rename_i x t ts ha _; rw [hargs x (by rw [ha]; simp)]
     ·rfl
    ·rfl
   ·rfl
   ·rfl
  have hR : opR C call ⟨dst, .call c, type, pos, after, guard⟩ σ H = opR C call ⟨dst, .call c, type, pos, after, guard⟩ σ' H := by simp only [opR, hc]
  have hA : opA C ⟨dst, .call c, type, pos, after, guard⟩ σ = opA C ⟨dst, .call c, type, pos, after, guard⟩ σ' := rfl
  have hE : effOk C base m ⟨dst, .call c, type, pos, after, guard⟩ σ = effOk C base m ⟨dst, .call c, type, pos, after, guard⟩ σ' := by
   simp only [effOk, hc]
   congr 1
   split
   ·rename_i x l _ ha; rw [hargs x (by rw [ha]; simp)]
   ·rfl
   ·rfl
  have hR' : ∀ H, opR C call ⟨dst, .call c, type, pos, after, guard⟩ σ H = opR C call ⟨dst, .call c, type, pos, after, guard⟩ σ' H := fun H => by simp only [opR, hc]
  simp only [opv, hP, hW, hR', hA, hE]
 all_goals rfl

theorem mask_get (base : Nat) : ∀ (m : List Nat) (h : Heap) (i : Nat), (maskH base m h)[i]? = if ∃ t ∈ m, base + t = i then (h[i]?).map fun B => { B with body := .dead } else h[i]?
 | [], h, i => by simp [maskH]
 | t :: m, h, i => by
  have : maskH base (t :: m) h = maskH base m (kill1 h (base + t)) := rfl
  rw [this, mask_get base m, kill_get]
  by_cases h1 : i = base + t
  ·subst h1
   simp only [if_true, List.mem_cons, exists_eq_or_imp, true_or]
   split
   ·cases h[base + t]? <;> rfl
   ·rfl
  ·simp only [h1, if_false, List.mem_cons, exists_eq_or_imp]
   have h2 : ¬ base + t = i := fun e => h1 e.symm
   simp only [h2, false_or]
theorem mask_Get (base : Nat) (m : List Nat) (h : Heap) (b v : Nat) : (maskH base m h).get b v = if ∃ t ∈ m, base + t = b then .dead else h.get b v := by
 by_cases hb : ∃ t ∈ m, base + t = b
 ·rw [if_pos hb]
  unfold Heap.get
  rw [mask_get, if_pos hb]
  cases h[b]? with
  | none => rfl
  | some B => simp only [Option.map_some, ite_self]
 ·rw [if_neg hb]
  unfold Heap.get
  rw [mask_get, if_neg hb]
theorem mask_sub {base : Nat} {m : List Nat} {h h' : Heap} (hs : ∀ b, (¬ ∃ t ∈ m, base + t = b) → ∀ v, h.get b v ≠ .dead → h'.get b v = h.get b v) : Sub (maskH base m h) (maskH base m h') := by
 intro b v hv
 rw [mask_Get] at hv ⊢
 rw [mask_Get]
 by_cases hb : ∃ t ∈ m, base + t = b
 ·rw [if_pos hb] at hv; exact absurd rfl hv
 ·rw [if_neg hb] at hv ⊢
  rw [if_neg hb]
  exact hs b hb v hv
theorem get_same {h h' : Heap} {b : Nat} (e : h'[b]? = h[b]?) (v : Nat) : h'.get b v = h.get b v := by unfold Heap.get; rw [e]

theorem st_eff {P : Program} {h h' : Heap} {t : TypeId} {p v : D} (e : st P h t p v = some h') : ∃ b u i off, p = .pref b u i off ∧ ∀ i, i ≠ b → h'[i]? = h[i]? := by
 unfold st at e
 obtain ⟨s, _, e1⟩ := Option.bind_eq_some_iff.1 e
 clear e
 split at e1 <;> try (cases e1; done)
 rename_i b u i off
 refine ⟨b, u, i, off, rfl, fun j hj => ?_⟩
 split at e1 <;> try (cases e1; done)
 split at e1 <;> try (cases e1; done)
 split at e1 <;> try (cases e1; done)
 ·split at e1 <;> try (cases e1; done)
  split at e1 <;> try (cases e1; done)
  cases e1
  rw [List.getElem?_set_ne (Ne.symm hj)]
 ·split at e1 <;> try (cases e1; done)
  split at e1 <;> try (cases e1; done)
  cases e1
  rw [List.getElem?_set_ne (Ne.symm hj)]
theorem putA_eff {base : Nat} {dst : Option Tmp} {h h' : Heap} {x : Body × (Nat → Nat → D)} {d : D} (e : putA base dst h x = some (d, h')) : ∃ t, dst = some t ∧ ∀ i, i ≠ base + t → h'[i]? = h[i]? := by
 unfold putA at e
 obtain ⟨t, ht, e⟩ := Option.bind_eq_some_iff.1 e
 obtain ⟨B, _, e⟩ := Option.map_eq_some_iff.1 e
 cases e
 exact ⟨t, ht, fun i hi => by rw [List.getElem?_set_ne (Ne.symm hi)]⟩
theorem append_eff {P : Program} {base : Nat} {dst : Option Tmp} {h h' : Heap} {t : TypeId} {x y d : D} (e : appendD P base dst h t x y = some (d, h')) :
  h' = h ∨ ∃ u, dst = some u ∧ ∀ i, i ≠ base + u → (∀ b v sz off len, x = .sref b v sz off len → i ≠ b) → h'[i]? = h[i]? := by
 have kill : ∀ {b v sz off len : Nat} {xx : Body × (Nat → Nat → D)} {d : D} {h' : Heap}, x = .sref b v sz off len → putA base dst (kill1 h b) xx = some (d, h') → h' = h ∨ ∃ u, dst = some u ∧ ∀ i, i ≠ base + u → (∀ b v sz off len, x = .sref b v sz off len → i ≠ b) → h'[i]? = h[i]? :=
  fun {b v sz off len xx d h'} hx ep => by
   obtain ⟨u, hu, k⟩ := putA_eff ep
   exact .inr ⟨u, hu, fun i hi hb => by rw [k i hi, kill_get, if_neg (hb _ _ _ _ _ hx)]⟩
 have new : ∀ {xx : Body × (Nat → Nat → D)} {d : D} {h' : Heap}, putA base dst h xx = some (d, h') → h' = h ∨ ∃ u, dst = some u ∧ ∀ i, i ≠ base + u → (∀ b v sz off len, x = .sref b v sz off len → i ≠ b) → h'[i]? = h[i]? :=
  fun {xx d h'} ep => by
   obtain ⟨u, hu, k⟩ := putA_eff ep
   exact .inr ⟨u, hu, fun i hi _ => k i hi⟩
 unfold appendD at e
 obtain ⟨el, _, e⟩ := Option.bind_eq_some_iff.1 e
 obtain ⟨s, _, e⟩ := Option.bind_eq_some_iff.1 e
 obtain ⟨by_, _, e⟩ := Option.bind_eq_some_iff.1 e
 obtain ⟨z, _, e⟩ := Option.bind_eq_some_iff.1 e
 split at e <;> try (cases e; done)
 split at e
 ·split at e <;> first | (cases e; exact .inl rfl) | cases e
 ·split at e <;> try (cases e; done)
  split at e
  ·split at e <;> try (cases e; done)
   split at e
   ·cases e; exact .inl rfl
   split at e <;> try (cases e; done)
   exact new e
  ·unfold growI at e
   split at e
   ·split at e <;> try (cases e; done)
    exact new e
   ·split at e <;> try (cases e; done)
    split at e <;> try (cases e; done)
    split at e <;> try (cases e; done)
    split at e <;> try (cases e; done)
    split at e <;> try (cases e; done)
    exact kill rfl e
   ·cases e
 ·split at e <;> try (cases e; done)
  split at e
  ·split at e <;> try (cases e; done)
   split at e
   ·cases e; exact .inl rfl
   split at e <;> try (cases e; done)
   exact new e
  ·unfold growR at e
   split at e
   ·split at e <;> try (cases e; done)
    exact new e
   ·split at e <;> try (cases e; done)
    split at e <;> try (cases e; done)
    split at e <;> try (cases e; done)
    split at e <;> try (cases e; done)
    split at e <;> try (cases e; done)
    exact kill rfl e
   ·cases e
 ·cases e
theorem okCell_reach {base : Nat} {m : List Nat} {d : D} (hd : okCell base m d = true) (h : Heap) (n : Nat) : ∀ b ∈ reach h n d, ∃ t ∈ m, base + t = b := by
 intro b hb
 cases n with
 | zero => cases d <;> simp [reach] at hb
 | succ n =>
  cases d <;> simp only [okCell] at hd <;> try (cases hd; done)
  case sref b' v s o l =>
   simp only [reach, List.mem_singleton] at hb
   subst hb
   simp only [List.any_eq_true, beq_iff_eq] at hd
   exact hd
  all_goals simp [reach] at hb
theorem okRefs_reach {base : Nat} {m : List Nat} {d : D} (hd : okRefs base m d = true) (h : Heap) (n : Nat) : ∀ b ∈ reach h n d, ∃ t ∈ m, base + t = b := by
 intro b hb
 cases d with
 | agg cs =>
  cases n with
  | zero => simp [reach] at hb
  | succ n =>
   simp only [reach, List.mem_flatMap] at hb
   obtain ⟨c, hc, hb⟩ := hb
   simp only [okRefs, List.all_eq_true] at hd
   exact okCell_reach (hd c hc) h n b hb
 | _ => exact okCell_reach (by simpa only [okRefs] using hd) h n b hb
theorem methD_eff {C : Cx} {call : Run} {base : Nat} {dst : Option Tmp} {f : FuncId} {b v i off : Nat} {rest : List D} {h h' : Heap} {d : D} (hT : rest.all (D.isT 3) = true) (e : methD C call base dst h f (.pref b v i off :: rest) none = some (d, h')) : ∀ q, q ≠ b → h'[q]? = h[q]? := by
 intro q hq
 unfold methD at e
 split at e <;> try (cases e; done)
 rename_i b0 v0 rest0 heq
 cases heq
 obtain ⟨fn, hfn, e1⟩ := Option.bind_eq_some_iff.1 e
 clear e
 obtain ⟨t0, ht0, e⟩ := Option.bind_eq_some_iff.1 e1
 clear e1
 obtain ⟨T, hTt, e1⟩ := Option.bind_eq_some_iff.1 e
 clear e
 obtain ⟨B, hB, e⟩ := Option.bind_eq_some_iff.1 e1
 clear e1
 split at e <;> try (cases e; done)
 obtain ⟨⟨n, cs⟩, hagg, e1⟩ := Option.bind_eq_some_iff.1 e
 clear e
 obtain ⟨rest', hrest, e⟩ := Option.bind_eq_some_iff.1 e1
 clear e1
 obtain ⟨cin, hcin, e1⟩ := Option.bind_eq_some_iff.1 e
 clear e
 split at e1 <;> try (cases e1; done)
 rename_i hcl
 obtain ⟨⟨d0, r2⟩, hq', e⟩ := Option.bind_eq_some_iff.1 e1
 clear e1
 obtain ⟨B0, hB0, e1⟩ := Option.bind_eq_some_iff.1 e
 clear e
 split at e1 <;> try (cases e1; done)
 obtain ⟨⟨n', mc⟩, hmagg, e⟩ := Option.bind_eq_some_iff.1 e1
 clear e1
 split at e <;> try (cases e; done)
 have hl : rest.flatMap (reach h DEPTH) ++ reachO h none 0 cs = [] := by
  rw [List.isEmpty_iff.1 hcl.2.2.2, List.append_nil, List.flatMap_eq_nil_iff]
  intro x hx
  rw [List.all_eq_true] at hT
  exact reach_isT h DEPTH 3 (hT x hx)
 simp only [rowJ, Option.bind_none] at e
 obtain ⟨cout, hco, e1⟩ := Option.bind_eq_some_iff.1 e
 split at e1 <;> try (cases e1; done)
 cases e1
 rw [List.getElem?_set_ne (Ne.symm hq), hl]
 rfl
theorem opW_eff {C : Cx} {call : Run} {draw : Bool} {base : Nat} {m : List Nat} {o : Oper} {σ : Env} {h h' : Heap} {d : D} (hm : m ≠ []) (hf : effOk C base m o σ = true) (e : opW C call draw base o σ h = some (d, h')) :
  ∀ b, (¬ ∃ t ∈ m, base + t = b) → h'[b]? = h[b]? := by
 intro b hb
 have hme : m.isEmpty = false := by cases m <;> simp_all
 unfold effOk at hf
 rw [hme, Bool.false_or] at hf
 unfold opW at e
 cases ho : o.op <;> simp only [ho] at hf e <;> try (cases e; done)
 case store t a v =>
  obtain ⟨h1, h2, e⟩ := Option.map_eq_some_iff.1 e
  cases e
  obtain ⟨b', u, i, off, hp, k⟩ := st_eff h2
  rw [hp] at hf
  simp only [List.any_eq_true, beq_iff_eq] at hf
  obtain ⟨t', ht', rfl⟩ := hf
  exact k b fun e => hb ⟨t', ht', e.symm⟩
 case mapUpdate => cases hf
 case next => cases hf
 case buildSlice t len parts =>
  obtain ⟨es, h1, e⟩ := Option.bind_eq_some_iff.1 e
  obtain ⟨d', h2, e⟩ := Option.map_eq_some_iff.1 e
  cases e
  rw [freeze_get, if_neg]
  intro hm'
  refine hb ?_
  obtain ⟨v, hv, hbv⟩ := List.mem_flatMap.1 hm'
  exact okRefs_reach (List.all_eq_true.1 hf v hv) h DEPTH b hbv
 case call c =>
  cases hc : c.callee <;> simp only [hc] at hf e <;> try (cases hf; done)
  case value x =>
   obtain ⟨p, hp, e1⟩ := Option.bind_eq_some_iff.1 e
   clear e
   rw [hp] at hf
   obtain ⟨f, ds⟩ := p
   split at hf <;> try (cases hf; done)
   rename_i f' b' v' rest heq
   cases heq
   simp only [Bool.and_eq_true, List.any_eq_true] at hf
   obtain ⟨⟨hm0, t', ht', hb'⟩, hT⟩ := hf
   have hm0 : methOf C f = some none := eq_of_beq hm0
   have hb' : base + t' = b' := eq_of_beq hb'
   simp only [hm0, isPref0, Option.isSome_some, Bool.and_self, if_true, Option.bind_some] at e1
   exact methD_eff hT e1 b fun e => hb ⟨t', ht', hb'.trans e.symm⟩
  case builtin bb =>
   cases bb <;> simp only at hf e <;> try (cases e; done)
   case append =>
    split at e <;> try (cases e; done)
    rename_i x y t ts ha ht
    split at e <;> try (cases e; done)
    rw [ha] at hf
    simp only [Bool.and_eq_true] at hf
    rcases append_eff e with rfl | ⟨u, hu, k⟩
    ·rfl
    ·rw [hu] at hf
     simp only [List.any_eq_true, beq_iff_eq] at hf
     obtain ⟨f1, t', ht', rfl⟩ := hf
     refine k b (fun e => hb ⟨t', ht', e.symm⟩) fun b' v sz off len hx => ?_
     rw [hx] at f1
     simp only [List.any_eq_true, beq_iff_eq] at f1
     obtain ⟨t2, ht2, rfl⟩ := f1
     exact fun e => hb ⟨t2, ht2, e.symm⟩
   case copy => cases hf
   all_goals cases hf

def subset (a b : List Nat) : Bool := !a.isEmpty && a.all fun t => b.any (· == t)
def compat (C : Cx) (ops : Array Oper) (mx : List Nat) (x : Oper) (my : List Nat) (y : Oper) : Bool :=
 x.apart ops y && match cls C true x, cls C true y with
  | .P, _ | _, .P | .R, .R | .R, .A | .A, .A => true
  | .A, .R => match x.dst with | some t => my.any (· == t) | none => true
  | .R, .W => subset my mx
  | .W, .R => subset mx my
  | _, _ => false
def Waits (C : Cx) (base : Nat) (h : Heap) (o : Oper) : Prop := cls C true o = .A → ∀ t, o.dst = some t → ∀ B, h[base + t]? = some B → B.body = .dead
theorem ev_put {s : St} {dst : Option Tmp} {d : D} {H : Heap} {x : Operand} (h : ∀ t, dst = some t → x ≠ .tmp t) : (⟨putT s.tmps dst d, H⟩ : St).ev x = s.ev x := by
 cases dst with
 | none => cases x <;> rfl
 | some t =>
  cases x with
  | tmp u =>
   have hne : t ≠ u := fun e => h t rfl (e ▸ rfl)
   simp only [St.ev, putT, List.getD_eq_getElem?_getD, List.getElem?_set_ne hne]
  | _ => rfl
theorem looks_op {ops : Array Oper} {o : Oper} {t : Tmp} (h : t ∉ o.looksAt ops) : ∀ x ∈ o.op.operands, x ≠ .tmp t := fun x hx e => by
 subst e
 exact h (List.mem_append_left _ (List.mem_filterMap.2 ⟨.tmp t, by simpa using hx, rfl⟩))
theorem want_put {ops : Array Oper} {o : Oper} {s : St} {dst : Option Tmp} {d : D} {H : Heap} (h : ∀ t, dst = some t → t ∉ o.looksAt ops) : wantD ops o ⟨putT s.tmps dst d, H⟩ = wantD ops o s := by
 unfold wantD
 cases hg : o.guard with
 | none => rfl
 | some p =>
  obtain ⟨j, want⟩ := p
  simp only
  cases ht : (ops[j]?).bind (·.dst) with
  | none => rfl
  | some u =>
   simp only
   cases dst with
   | none => rfl
   | some t =>
    have hne : t ≠ u := fun e => h t rfl (by subst e; simp [Oper.looksAt, hg, ht])
    simp only [putT, List.getD_eq_getElem?_getD, List.getElem?_set_ne hne]
theorem put_comm {l : List D} {x y : Option Tmp} (d e : D) (h : ∀ t, x = some t → y ≠ some t) : putT (putT l x d) y e = putT (putT l y e) x d := by
 cases x with
 | none => rfl
 | some t =>
  cases y with
  | none => rfl
  | some u =>
   have hne : t ≠ u := fun e => h t rfl (e ▸ rfl)
   simp only [putT]
   rw [List.set_comm _ _ hne]
def stepV (C : Cx) (call : Run) (draw : Bool) (base : Nat) (ops : Array Oper) (m : List Nat) (o : Oper) (s : St) : Option (D × Heap) :=
 (wantD ops o s).bind fun w => if w then opv C call draw base m o s.ev s.heap else some (.tuple [], s.heap)
theorem step_eq (C : Cx) (call : Run) (draw : Bool) (base : Nat) (ops : Array Oper) (m : List Nat) (o : Oper) (s : St) : opStep C call draw base ops m o s = (stepV C call draw base ops m o s).map fun r => ⟨putT s.tmps o.dst r.1, r.2⟩ := by
 unfold opStep stepV
 cases wantD ops o s with
 | none => rfl
 | some w => cases w <;> rfl
theorem stepV_put {C : Cx} {call : Run} {draw : Bool} {base : Nat} {ops : Array Oper} {m : List Nat} {o : Oper} {s : St} {dst : Option Tmp} {d : D} {H : Heap} (h : ∀ t, dst = some t → t ∉ o.looksAt ops) :
  stepV C call draw base ops m o ⟨putT s.tmps dst d, H⟩ = stepV C call draw base ops m o ⟨s.tmps, H⟩ := by
 unfold stepV
 have h1 : wantD ops o ⟨putT s.tmps dst d, H⟩ = wantD ops o ⟨s.tmps, H⟩ := want_put (s := ⟨s.tmps, H⟩) h
 rw [h1]
 congr 1
 funext w
 split
 ·exact opv_congr (fun x hx => ev_put (s := ⟨s.tmps, H⟩) fun t ht => looks_op (h t ht) x hx) H
 ·rfl
theorem stepV_want {C : Cx} {call : Run} {draw : Bool} {base : Nat} {ops : Array Oper} {m : List Nat} {o : Oper} {s : St} {d : D} {H : Heap} (e : stepV C call draw base ops m o s = some (d, H)) :
  ∃ b, wantD ops o s = some b ∧ (if b then opv C call draw base m o s.ev s.heap else some (.tuple [], s.heap)) = some (d, H) := by
 obtain ⟨b, h1, h2⟩ := Option.bind_eq_some_iff.1 e
 exact ⟨b, h1, h2⟩
theorem want_heap (ops : Array Oper) (o : Oper) (l : List D) (H H' : Heap) : wantD ops o ⟨l, H⟩ = wantD ops o ⟨l, H'⟩ := rfl
theorem ev_heap (l : List D) (H H' : Heap) : (⟨l, H⟩ : St).ev = (⟨l, H'⟩ : St).ev := by funext x; cases x <;> rfl
theorem stepV_P {C : Cx} {call : Run} {base : Nat} {ops : Array Oper} {m : List Nat} {o : Oper} (hc : cls C true o = .P) {l : List D} {H H1 : Heap} {d : D} (e : stepV C call true base ops m o ⟨l, H⟩ = some (d, H1)) : H1 = H ∧ ∀ H', stepV C call true base ops m o ⟨l, H'⟩ = some (d, H') := by
 obtain ⟨b, h1, h2⟩ := stepV_want e
 cases b with
 | false =>
  simp only [Bool.false_eq_true, if_false, Option.some.injEq, Prod.mk.injEq] at h2
  obtain ⟨rfl, rfl⟩ := h2
  exact ⟨rfl, fun H' => by unfold stepV; rw [want_heap ops o l H' H, h1]; rfl⟩
 | true =>
  simp only [if_true] at h2
  unfold opv at h2
  rw [hc] at h2
  obtain ⟨d', h3, h4⟩ := Option.map_eq_some_iff.1 h2
  cases h4
  refine ⟨rfl, fun H' => ?_⟩
  unfold stepV
  rw [want_heap ops o l H' H, h1]
  simp only [Option.bind_some, if_true]
  unfold opv
  rw [hc, ev_heap l H' H]
  simp only [h3, Option.map_some]
theorem stepV_R {C : Cx} {call : Run} {base : Nat} {ops : Array Oper} {m : List Nat} {o : Oper} (hc : cls C true o = .R) {l : List D} {H H1 : Heap} {d : D} (e : stepV C call true base ops m o ⟨l, H⟩ = some (d, H1)) : H1 = H ∧ ∀ H', Sub (maskH base m H) (maskH base m H') → stepV C call true base ops m o ⟨l, H'⟩ = some (d, H') := by
 obtain ⟨b, h1, h2⟩ := stepV_want e
 cases b with
 | false =>
  simp only [Bool.false_eq_true, if_false, Option.some.injEq, Prod.mk.injEq] at h2
  obtain ⟨rfl, rfl⟩ := h2
  exact ⟨rfl, fun H' _ => by unfold stepV; rw [want_heap ops o l H' H, h1]; rfl⟩
 | true =>
  simp only [if_true] at h2
  unfold opv at h2
  rw [hc] at h2
  obtain ⟨d', h3, h4⟩ := Option.map_eq_some_iff.1 h2
  cases h4
  refine ⟨rfl, fun H' hs => ?_⟩
  unfold stepV
  rw [want_heap ops o l H' H, h1]
  simp only [Option.bind_some, if_true]
  unfold opv
  rw [hc, ev_heap l H' H]
  simp only [opR_sub hs h3, Option.map_some]
theorem stepV_A {C : Cx} {call : Run} {base : Nat} {ops : Array Oper} {m : List Nat} {o : Oper} (hc : cls C true o = .A) {l : List D} {H H1 : Heap} {d : D} (e : stepV C call true base ops m o ⟨l, H⟩ = some (d, H1)) :
  (H1 = H ∧ ∀ H', stepV C call true base ops m o ⟨l, H'⟩ = some (d, H')) ∨ ∃ t B, ∃ body, o.dst = some t ∧ H[base + t]? = some B ∧ H1 = H.set (base + t) ⟨B.ver + 1, false, body⟩ ∧
   ∀ H', H'[base + t]? = some B → stepV C call true base ops m o ⟨l, H'⟩ = some (d, H'.set (base + t) ⟨B.ver + 1, false, body⟩) := by
 obtain ⟨b, h1, h2⟩ := stepV_want e
 cases b with
 | false =>
  simp only [Bool.false_eq_true, if_false, Option.some.injEq, Prod.mk.injEq] at h2
  obtain ⟨rfl, rfl⟩ := h2
  exact .inl ⟨rfl, fun H' => by unfold stepV; rw [want_heap ops o l H' H, h1]; rfl⟩
 | true =>
  right
  simp only [if_true] at h2
  unfold opv at h2
  rw [hc] at h2
  obtain ⟨x, h3, h4⟩ := Option.bind_eq_some_iff.1 h2
  unfold putA at h4
  obtain ⟨t, ht, h5⟩ := Option.bind_eq_some_iff.1 h4
  obtain ⟨B, hB, h6⟩ := Option.map_eq_some_iff.1 h5
  cases h6
  refine ⟨t, B, x.1, ht, hB, rfl, fun H' hB' => ?_⟩
  unfold stepV
  rw [want_heap ops o l H' H, h1]
  simp only [Option.bind_some, if_true]
  unfold opv
  rw [hc, ev_heap l H' H]
  simp only [h3, Option.bind_some, putA, ht, hB', Option.map_some]

theorem stepV_W {C : Cx} {call : Run} {base : Nat} {ops : Array Oper} {m : List Nat} {o : Oper} (hc : cls C true o = .W) (hm : m ≠ []) {l : List D} {H H1 : Heap} {d : D} (e : stepV C call true base ops m o ⟨l, H⟩ = some (d, H1)) :
  ∀ b, (¬ ∃ t ∈ m, base + t = b) → H1[b]? = H[b]? := by
 obtain ⟨b, h1, h2⟩ := stepV_want e
 cases b with
 | false =>
  simp only [Bool.false_eq_true, if_false, Option.some.injEq, Prod.mk.injEq] at h2
  obtain ⟨_, rfl⟩ := h2
  exact fun _ _ => rfl
 | true =>
  simp only [if_true] at h2
  unfold opv at h2
  rw [hc] at h2
  simp only at h2
  split at h2 <;> try (cases h2; done)
  rename_i hf
  exact opW_eff hm hf h2
theorem subset_mem {a b : List Nat} (h : subset a b = true) : a ≠ [] ∧ ∀ t ∈ a, t ∈ b := by
 simp only [subset, Bool.and_eq_true, Bool.not_eq_true', List.all_eq_true, List.any_eq_true, beq_iff_eq] at h
 refine ⟨fun e => by rw [e] at h; simp at h, fun t ht => ?_⟩
 obtain ⟨u, hu, rfl⟩ := h.2 t ht
 exact hu
theorem swap {C : Cx} {call : Run} {base : Nat} {ops : Array Oper} {mx my : List Nat} {x y : Oper} (hk : compat C ops mx x my y = true) {s s1 s2 : St} (hw : Waits C base s.heap y) (e1 : opStep C call true base ops mx x s = some s1) (e2 : opStep C call true base ops my y s1 = some s2) :
  ∃ s1', opStep C call true base ops my y s = some s1' ∧ opStep C call true base ops mx x s1' = some s2 := by
 rw [step_eq] at e1 e2
 obtain ⟨⟨dx, Hx⟩, h1, rfl⟩ := Option.map_eq_some_iff.1 e1
 obtain ⟨⟨dy, Hy⟩, h2, rfl⟩ := Option.map_eq_some_iff.1 e2
 simp only [compat, Bool.and_eq_true] at hk
 obtain ⟨a1, a2, a3⟩ := Oper.apart_spec hk.1
 simp only at h2
 rw [stepV_put a1] at h2
 have fin : ∀ {Hm : Heap}, stepV C call true base ops my y ⟨s.tmps, s.heap⟩ = some (dy, Hm) → stepV C call true base ops mx x ⟨s.tmps, Hm⟩ = some (dx, Hy) →
   ∃ s1', opStep C call true base ops my y s = some s1' ∧ opStep C call true base ops mx x s1' = some ⟨putT (putT s.tmps x.dst dx) y.dst dy, Hy⟩ := fun {Hm} g1 g2 => by
  refine ⟨⟨putT s.tmps y.dst dy, Hm⟩, ?_, ?_⟩
  ·rw [step_eq]
   have : stepV C call true base ops my y s = some (dy, Hm) := g1
   rw [this]; rfl
  ·rw [step_eq, stepV_put a3, g2]
   simp only [Option.map_some]
   rw [put_comm _ _ a2]
 cases hx : cls C true x with
 | P =>
  obtain ⟨rfl, k⟩ := stepV_P hx (l := s.tmps) (H := s.heap) h1
  exact fin h2 (k Hy)
 | R =>
  obtain ⟨rfl, k⟩ := stepV_R hx (l := s.tmps) (H := s.heap) h1
  cases hy : cls C true y with
  | P =>
   obtain ⟨rfl, k'⟩ := stepV_P hy h2
   exact fin h2 (k _ fun _ _ _ => rfl)
  | R =>
   obtain ⟨rfl, k'⟩ := stepV_R hy h2
   exact fin h2 (k _ fun _ _ _ => rfl)
  | A =>
   rcases stepV_A hy h2 with ⟨rfl, _⟩ | ⟨t, B, body, ht, hB, rfl, k'⟩
   ·exact fin h2 (k _ fun _ _ _ => rfl)
   ·exact fin h2 (k _ (mask_sub fun b _ v hv => sub_set hB (hw hy t ht B hB) _ b v hv))
  | W =>
   have hk2 := hk.2
   rw [hx, hy] at hk2
   obtain ⟨hm, hsub⟩ := subset_mem hk2
   have eff := stepV_W hy hm h2
   exact fin h2 (k _ (mask_sub fun b hb v _ => get_same (eff b fun ⟨t, ht, e⟩ => hb ⟨t, hsub t ht, e⟩) v))
 | A =>
  cases hy : cls C true y with
  | P =>
   obtain ⟨rfl, k'⟩ := stepV_P hy h2
   exact fin (k' s.heap) h1
  | A =>
   rcases stepV_A hx (l := s.tmps) (H := s.heap) h1 with ⟨rfl, kx⟩ | ⟨t, B, body, ht, hB, rfl, kx⟩
   ·exact fin h2 (kx _)
   ·rcases stepV_A hy h2 with ⟨rfl, ky⟩ | ⟨t', B', body', ht', hB', rfl, ky⟩
    ·exact fin (ky s.heap) h1
    ·have hne : base + t ≠ base + t' := fun e => a2 t ht (by rw [ht']; congr 1; exact (Nat.add_left_cancel e).symm)
     rw [List.getElem?_set_ne hne] at hB'
     have hB2 : (s.heap.set (base + t') ⟨B'.ver + 1, false, body'⟩)[base + t]? = some B := by rw [List.getElem?_set_ne (Ne.symm hne)]; exact hB
     refine fin (ky _ hB') ?_
     rw [kx _ hB2, List.set_comm _ _ hne]
  | R =>
   obtain ⟨rfl, k⟩ := stepV_R hy h2
   rcases stepV_A hx (l := s.tmps) (H := s.heap) h1 with ⟨rfl, kx⟩ | ⟨t, B, body, ht, hB, rfl, kx⟩
   ·exact fin h2 h1
   ·have hk2 := hk.2
    rw [hx, hy, ht] at hk2
    simp only [List.any_eq_true, beq_iff_eq] at hk2
    obtain ⟨u, hu, rfl⟩ := hk2
    refine fin (k s.heap (mask_sub fun b hb v _ => get_same ?_ v)) h1
    rw [List.getElem?_set_ne fun e => hb ⟨u, hu, e⟩]
  | W => rw [hx, hy] at hk; simp at hk
 | W =>
  cases hy : cls C true y with
  | P =>
   obtain ⟨rfl, k'⟩ := stepV_P hy h2
   exact fin (k' s.heap) h1
  | R =>
   have hk2 := hk.2
   rw [hx, hy] at hk2
   obtain ⟨hm, hsub⟩ := subset_mem hk2
   have eff := stepV_W hx hm (l := s.tmps) (H := s.heap) h1
   obtain ⟨rfl, k⟩ := stepV_R hy h2
   exact fin (k s.heap (mask_sub fun b hb v _ => get_same (eff b fun ⟨t, ht, e⟩ => hb ⟨t, hsub t ht, e⟩).symm v)) h1
  | A => rw [hx, hy] at hk; simp at hk
  | W => rw [hx, hy] at hk; simp at hk
end Go.Proofs.YtlpbmajbalenjaaA
namespace Go.Proofs.YtlpbmajbalenjaaA
open Go

def maskOf (ms : List Nat) (o : Oper) : Nat := o.after.toList.foldl (fun s e => if Region.binds .any e then s ||| 2 ^ e.on ||| ms.getD e.on 0 else s) 0
def pairOk (C : Cx) (ops : Array Oper) (m j : Nat) (mx : List Nat) (x : Oper) (my : List Nat) (y : Oper) : Bool :=
 (m.testBit j || compat C ops mx x my y) && (!(decide (cls C true x = .A) && decide (cls C true y = .A)) || x.dst != y.dst) && !(decide (cls C true x = .W) && decide (cls C true y = .A))
def pairsOk (C : Cx) (ops : Array Oper) (p : Plan) (m : Nat) (my : List Nat) (y : Oper) : Nat → List Oper → Bool
 | _, [] => true
 | j, x :: l => pairOk C ops m j (p.at j) x my y && pairsOk C ops p m my y (j + 1) l
def drawOkL (C : Cx) (ops : Array Oper) (p : Plan) : List Oper → List Nat → List Oper → Bool
 | _, _, [] => true
 | seen, ms, y :: l => y.after.toList.all (fun e => !Region.binds .any e || decide (e.on < seen.length)) && pairsOk C ops p (maskOf ms y) (p.at seen.length) y 0 seen && drawOkL C ops p (seen ++ [y]) (ms ++ [maskOf ms y]) l
def drawOk (C : Cx) (ops : Array Oper) (p : Plan) : Bool := drawOkL C ops p [] [] ops.toList

theorem pairsOk_get {C : Cx} {ops : Array Oper} {p : Plan} {m : Nat} {my : List Nat} {y : Oper} : ∀ (l : List Oper) (j : Nat), pairsOk C ops p m my y j l = true → ∀ (i : Nat) (x : Oper), l[i]? = some x → pairOk C ops m (j + i) (p.at (j + i)) x my y = true
 | [], j, _, i, x, h => by simp at h
 | z :: l, j, hp, i, x, h => by
  simp only [pairsOk, Bool.and_eq_true] at hp
  cases i with
  | zero => simp at h; subst h; exact hp.1
  | succ i =>
   have := pairsOk_get l (j + 1) hp.2 i x (by simpa using h)
   rw [show j + (i + 1) = j + 1 + i by omega]; exact this
structure Static (C : Cx) (ops : Array Oper) (p : Plan) (mk : Nat → Nat) : Prop where
 back : ∀ (i : Nat) (y : Oper), ops[i]? = some y → ∀ e ∈ y.after, Region.binds .any e = true → e.on < i
 far : ∀ (i : Nat) (y : Oper), ops[i]? = some y → ∀ j, (mk i).testBit j = true → ∃ e ∈ y.after, Region.binds .any e = true ∧ (e.on = j ∨ (mk e.on).testBit j = true)
 pair : ∀ (i j : Nat) (x y : Oper), j < i → ops[j]? = some x → ops[i]? = some y → pairOk C ops (mk i) j (p.at j) x (p.at i) y = true
theorem mask_bits (ms : List Nat) (o : Oper) (j : Nat) (h : (maskOf ms o).testBit j = true) : ∃ e ∈ o.after, Region.binds .any e = true ∧ (e.on = j ∨ (ms.getD e.on 0).testBit j = true) := by
 have key : ∀ (l : List Edge) (s : Nat), (l.foldl (fun s e => if Region.binds .any e then s ||| 2 ^ e.on ||| ms.getD e.on 0 else s) s).testBit j = true → s.testBit j = true ∨ ∃ e ∈ l, Region.binds .any e = true ∧ (e.on = j ∨ (ms.getD e.on 0).testBit j = true) := by
  intro l
  induction l with
  | nil => intro s hs; exact .inl hs
  | cons e l ih =>
   intro s hs
   rw [List.foldl_cons] at hs
   rcases ih _ hs with g | ⟨e', he', g⟩
   ·split at g
    ·rename_i hb
     rw [Nat.testBit_or, Nat.testBit_or, Bool.or_eq_true, Bool.or_eq_true] at g
     rcases g with (g | g) | g
     ·exact .inl g
     ·rw [Nat.testBit_two_pow, decide_eq_true_eq] at g
      exact .inr ⟨e, by simp, hb, .inl g⟩
     ·exact .inr ⟨e, by simp, hb, .inr g⟩
    ·exact .inl g
   ·exact .inr ⟨e', by simp [he'], g⟩
 rcases key _ _ h with g | ⟨e, he, g⟩
 ·simp at g
 ·exact ⟨e, by simpa using he, g⟩
theorem drawOk_static {C : Cx} {ops : Array Oper} {p : Plan} (h : drawOk C ops p = true) : ∃ mk, Static C ops p mk := by
 have key : ∀ (l seen : List Oper) (ms : List Nat), seen.length = ms.length → seen ++ l = ops.toList → drawOkL C ops p seen ms l = true →
   ∃ ms' : List Nat, (∀ i, i < ms.length → ms'.getD i 0 = ms.getD i 0) ∧
    ∀ (i : Nat) (y : Oper), seen.length ≤ i → ops[i]? = some y → (∀ e ∈ y.after, Region.binds .any e = true → e.on < i) ∧ (∀ j, (ms'.getD i 0).testBit j = true → ∃ e ∈ y.after, Region.binds .any e = true ∧ (e.on = j ∨ (ms'.getD e.on 0).testBit j = true)) ∧
     ∀ (j : Nat) (x : Oper), j < i → ops[j]? = some x → pairOk C ops (ms'.getD i 0) j (p.at j) x (p.at i) y = true := by
  intro l
  induction l with
  | nil =>
   intro seen ms hl ht hd
   refine ⟨ms, fun _ _ => rfl, fun i y hi hy => ?_⟩
   rw [← Array.getElem?_toList, ← ht, List.append_nil, List.getElem?_eq_none hi] at hy
   cases hy
  | cons y l ih =>
   intro seen ms hl ht hd
   simp only [drawOkL, Bool.and_eq_true] at hd
   obtain ⟨⟨d1, d2⟩, d3⟩ := hd
   obtain ⟨ms', g1, g2⟩ := ih (seen ++ [y]) (ms ++ [maskOf ms y]) (by simp [hl]) (by simp [ht]) d3
   have hm : ms'.getD seen.length 0 = maskOf ms y := by
    rw [g1 seen.length (by simp [hl]), List.getD_eq_getElem?_getD, List.getElem?_append_right (by omega), hl]; simp
   have hold : ∀ i, i < ms.length → ms'.getD i 0 = ms.getD i 0 := fun i hi => by
    rw [g1 i (by simp; omega), List.getD_eq_getElem?_getD, List.getElem?_append_left hi, ← List.getD_eq_getElem?_getD]
   refine ⟨ms', hold, fun i z hi hz => ?_⟩
   by_cases hin : i = seen.length
   ·subst hin
    have hyz : y = z := by
     rw [← Array.getElem?_toList, ← ht, List.getElem?_append_right (Nat.le_refl _), Nat.sub_self] at hz
     simpa using hz
    subst hyz
    have back : ∀ e ∈ y.after, Region.binds .any e = true → e.on < seen.length := fun e he hb => by
     rw [List.all_eq_true] at d1
     have := d1 e (by simpa using he)
     simpa [hb] using this
    refine ⟨back, fun j hj => ?_, fun j x hj hx => ?_⟩
    ·rw [hm] at hj
     obtain ⟨e, he, hb, hc⟩ := mask_bits ms y j hj
     exact ⟨e, he, hb, hc.imp id fun hc => by rw [hold e.on (by have := back e he hb; omega)]; exact hc⟩
    ·rw [hm]
     have := pairsOk_get seen 0 d2 j x (by
      rw [← Array.getElem?_toList, ← ht, List.getElem?_append_left hj] at hx; exact hx)
     rw [Nat.zero_add] at this
     exact this
   ·exact g2 i z (by simp; omega) hz
 obtain ⟨ms', _, g⟩ := key ops.toList [] [] rfl (by simp) h
 exact ⟨fun i => ms'.getD i 0, fun i y hy => (g i y (Nat.zero_le _) hy).1, fun i y hy => (g i y (Nat.zero_le _) hy).2.1, fun i j x y hj hx hy => (g i y (Nat.zero_le _) hy).2.2 j x hj hx⟩

def runN (C : Cx) (call : Run) (base : Nat) (ops : Array Oper) (p : Plan) : List (Nat × Oper) → St → Option St
 | [], s => some s
 | q :: l, s => (opStep C call true base ops (p.at q.1) q.2 s).bind (runN C call base ops p l)
theorem runN_of {C : Cx} {call : Run} {base : Nat} {ops : Array Oper} {p : Plan} : ∀ (l : List Oper) (n : Nat) (s : St), opsRun C call true base ops p n l s = runN C call base ops p (l.zipIdx n |>.map fun q => (q.2, q.1)) s
 | [], n, s => rfl
 | o :: l, n, s => by
  simp only [opsRun, List.zipIdx_cons, List.map_cons, runN]
  congr 1
  funext s'
  exact runN_of l (n + 1) s'
theorem waits_step {C : Cx} {call : Run} {base : Nat} {ops : Array Oper} {m : List Nat} {x y : Oper} {s s1 : St} (e : opStep C call true base ops m x s = some s1) (hw : Waits C base s.heap y)
  (h1 : cls C true y = .A → cls C true x ≠ .W) (h2 : cls C true y = .A → cls C true x = .A → ∀ t, x.dst = some t → y.dst ≠ some t) : Waits C base s1.heap y := by
 intro hy t ht B hB
 rw [step_eq] at e
 obtain ⟨⟨d, H⟩, g, rfl⟩ := Option.map_eq_some_iff.1 e
 simp only at hB
 cases hx : cls C true x with
 | P => obtain ⟨rfl, _⟩ := stepV_P hx (l := s.tmps) (H := s.heap) g; exact hw hy t ht B hB
 | R => obtain ⟨rfl, _⟩ := stepV_R hx (l := s.tmps) (H := s.heap) g; exact hw hy t ht B hB
 | A =>
  rcases stepV_A hx (l := s.tmps) (H := s.heap) g with ⟨rfl, _⟩ | ⟨u, B0, body, hu, hB0, rfl, _⟩
  ·exact hw hy t ht B hB
  ·have hne : base + u ≠ base + t := fun e => h2 hy hx u hu (by rw [ht]; congr 1; exact (Nat.add_left_cancel e).symm)
   rw [List.getElem?_set_ne hne] at hB
   exact hw hy t ht B hB
 | W => exact absurd hx (h1 hy)
theorem front {C : Cx} {call : Run} {base : Nat} {ops : Array Oper} {p : Plan} {i : Nat} {y : Oper} {post : List (Nat × Oper)} : ∀ (pre : List (Nat × Oper)) (s s' : St), (∀ q ∈ pre, compat C ops (p.at q.1) q.2 (p.at i) y = true) → Waits C base s.heap y →
  runN C call base ops p (pre ++ (i, y) :: post) s = some s' → ∃ s1, opStep C call true base ops (p.at i) y s = some s1 ∧ runN C call base ops p (pre ++ post) s1 = some s' := by
 intro pre
 induction pre with
 | nil =>
  intro s s' _ _ e
  obtain ⟨s1, h1, h2⟩ := Option.bind_eq_some_iff.1 e
  exact ⟨s1, h1, h2⟩
 | cons q pre ih =>
  intro s s' hc hw e
  obtain ⟨sq, h1, h2⟩ := Option.bind_eq_some_iff.1 e
  have hq := hc q (by simp)
  have hq2 := hq
  simp only [compat, Bool.and_eq_true] at hq2
  have hw' : Waits C base sq.heap y := waits_step h1 hw (fun hy hx => by rw [hx, hy] at hq2; simp at hq2) (fun hy hx t ht => (Oper.apart_spec hq2.1).2.1 t ht)
  obtain ⟨s1, k1, k2⟩ := ih sq s' (fun q' hq' => hc q' (by simp [hq'])) hw' h2
  obtain ⟨s1', m1, m2⟩ := swap hq hw h1 k1
  exact ⟨s1', m1, by simp only [List.cons_append, runN, m2, Option.bind_some]; exact k2⟩
end Go.Proofs.YtlpbmajbalenjaaA
namespace Go.Proofs.YtlpbmajbalenjaaA
open Go

theorem far_listed {C : Cx} {ops : Array Oper} {p : Plan} {mk : Nat → Nat} (st : Static C ops p mk) {listed : Array Bool} (hc : ∀ (i : Nat) (o : Oper), ops[i]? = some o → listed.getD i false = true → ∀ e ∈ o.after, Region.binds .any e = true → listed.getD e.on false = true) :
  ∀ (n i : Nat) (o : Oper), i < n → ops[i]? = some o → (∀ e ∈ o.after, Region.binds .any e = true → listed.getD e.on false = true) → ∀ j, (mk i).testBit j = true → listed.getD j false = true := by
 intro n
 induction n with
 | zero => intro i o hi; omega
 | succ n ih =>
  intro i o hi ho he j hj
  obtain ⟨e, h1, h2, h3⟩ := st.far i o ho j hj
  have hle := he e h1 h2
  rcases h3 with rfl | h3
  ·exact hle
  ·have hlt := st.back i o ho e h1 h2
   have hsz : e.on < ops.size := by have := (Array.getElem?_eq_some_iff.1 ho).1; omega
   exact ih e.on _ (by omega) (Array.getElem?_eq_getElem hsz) (hc e.on _ (Array.getElem?_eq_getElem hsz) hle) j h3
def unl (listed : Array Bool) (n : Nat) : List Nat := (List.range n).filter fun i => listed.getD i true == false
theorem mem_unl {listed : Array Bool} {n i : Nat} : i ∈ unl listed n ↔ i < n ∧ listed.getD i true = false := by simp [unl]
theorem unl_sorted (listed : Array Bool) (n : Nat) : (unl listed n).Pairwise (· < ·) := List.Pairwise.filter _ (List.pairwise_lt_range)
theorem getD_tf {listed : Array Bool} {n j : Nat} (hs : listed.size = n) (hj : j < n) : listed.getD j true = listed.getD j false := by
 simp [Array.getD, show j < listed.size by omega]
theorem unl_set {listed : Array Bool} {n i : Nat} (hs : listed.size = n) {pre post : List Nat} (h : unl listed n = pre ++ i :: post) : unl (listed.setIfInBounds i true) n = pre ++ post := by
 have hsort := unl_sorted listed n
 rw [h] at hsort
 have hi : i < n ∧ listed.getD i true = false := mem_unl.1 (by rw [h]; simp)
 have e1 : unl (listed.setIfInBounds i true) n = (unl listed n).filter fun j => j != i := by
  unfold unl
  rw [List.filter_filter]
  apply List.filter_congr
  intro j hj
  rw [List.mem_range] at hj
  by_cases hji : j = i
  ·subst hji
   simp [Array.getD, show j < listed.size by omega]
  ·have : (listed.setIfInBounds i true).getD j true = listed.getD j true := getD_set_ne true (Ne.symm hji)
   rw [this]; simp [hji]
 rw [e1, h, List.filter_append, List.filter_cons]
 have hne : ∀ j ∈ pre, (j != i) = true := fun j hj => by
  have := (List.pairwise_append.1 hsort).2.2 j hj i (by simp)
  simp; omega
 have hne' : ∀ j ∈ post, (j != i) = true := fun j hj => by
  have := (List.pairwise_cons.1 (List.pairwise_append.1 hsort).2.1).1 j hj
  simp; omega
 rw [List.filter_eq_self.2 hne, List.filter_eq_self.2 hne']
 simp
theorem any_sound {C : Cx} {call : Run} (hc : CallOk C call) {base : Nat} {ops : Array Oper} {p : Plan} {mk : Nat → Nat} (st : Static C ops p mk) {Q : Exit → Act → World → Prop} : ∀ (fuel : Nat) (listed : Array Bool) (rem : List (Nat × Oper)), listed.size = ops.size → rem.map Prod.fst = unl listed ops.size →
  (∀ q ∈ rem, ops[q.1]? = some q.2) → rem.length = fuel → (∀ (i : Nat) (o : Oper), ops[i]? = some o → listed.getD i false = true → ∀ e ∈ o.after, Region.binds .any e = true → listed.getD e.on false = true) →
  ∀ {w : World} {S : Nat → Prop} {φ : Phi} {a : Act} {s s' : St}, ARel w S φ a s → (∀ q ∈ rem, Waits C base s.heap q.2) → runN C call base ops p rem s = some s' → (∀ a' w' S' φ', ARel w' S' φ' a' s' → Ext w S φ s.heap w' S' φ' s'.heap → Q .normal a' w') →
  wpAny C.P .any ops Q fuel listed a w := by
 intro fuel
 induction fuel with
 | zero =>
  intro listed rem hs hr ho hf hcl w S φ a s s' r hw e hQ
  have : rem = [] := List.length_eq_zero_iff.1 hf
  subst this
  cases e
  refine ⟨?_, hQ a w S φ r (.refl ..)⟩
  rw [List.eq_nil_iff_forall_not_mem]
  intro j hj
  obtain ⟨h1, o, h2, _⟩ := mem_ready.1 hj
  have : j ∈ unl listed ops.size := mem_unl.2 ⟨(Array.getElem?_eq_some_iff.1 h2).1, h1⟩
  rw [← hr] at this
  simp at this
 | succ fuel ih =>
  intro listed rem hs hr ho hf hcl w S φ a s s' r hw e hQ
  have hsort := unl_sorted listed ops.size
  rw [← hr] at hsort
  refine ⟨fun hnil => ?_, fun i hi => ?_⟩
  ·exfalso
   cases rem with
   | nil => simp at hf
   | cons q rem =>
    have hq := ho q (by simp)
    have hqu : q.1 ∈ unl listed ops.size := by rw [← hr]; simp
    have : q.1 ∈ Region.ready .any ops listed := mem_ready.2 ⟨(mem_unl.1 hqu).2, q.2, hq, fun e he hb => by
     have hlt := st.back q.1 q.2 hq e he hb
     have hqn := (mem_unl.1 hqu).1
     rw [← getD_tf hs (show e.on < ops.size by omega)]
     cases hl : listed.getD e.on true with
     | true => rfl
     | false =>
      have hm : e.on ∈ unl listed ops.size := mem_unl.2 ⟨by omega, hl⟩
      rw [← hr, List.map_cons, List.mem_cons] at hm
      rw [List.map_cons] at hsort
      rcases hm with hm | hm
      ·omega
      ·have := (List.pairwise_cons.1 hsort).1 _ hm; omega⟩
    rw [hnil] at this
    simp at this
  ·obtain ⟨hun, o, hio, hed⟩ := mem_ready.1 hi
   have hin : i < ops.size := (Array.getElem?_eq_some_iff.1 hio).1
   have hmem : i ∈ rem.map Prod.fst := by rw [hr]; exact mem_unl.2 ⟨hin, hun⟩
   obtain ⟨q, hq, rfl⟩ := List.mem_map.1 hmem
   have hqo : q.2 = o := by have := ho q hq; rw [hio] at this; cases this; rfl
   obtain ⟨pre, post, hsplit⟩ := List.append_of_mem hq
   subst hqo
   rw [hsplit] at hr hsort e ho hf hw
   have hord : (∀ z ∈ pre, z.1 < q.1) ∧ ∀ z ∈ post, q.1 < z.1 := by
    rw [List.map_append, List.map_cons] at hsort
    exact ⟨fun z hz => (List.pairwise_append.1 hsort).2.2 z.1 (List.mem_map_of_mem hz) q.1 (by simp), fun z hz => (List.pairwise_cons.1 (List.pairwise_append.1 hsort).2.1).1 z.1 (List.mem_map_of_mem hz)⟩
   have hcomp : ∀ z ∈ pre, compat C ops (p.at z.1) z.2 (p.at q.1) q.2 = true := fun z hz => by
    have hzo := ho z (by simp [hz])
    have hp := st.pair q.1 z.1 z.2 q.2 (hord.1 z hz) hzo hio
    simp only [pairOk, Bool.and_eq_true, Bool.or_eq_true] at hp
    rcases hp.1.1 with hb | hb
    ·have h1 := far_listed st hcl (q.1 + 1) q.1 q.2 (by omega) hio hed z.1 hb
     have h2 : z.1 ∈ unl listed ops.size := by rw [← hr]; simp; exact .inl ⟨z.2, hz⟩
     have h3 := (mem_unl.1 h2)
     rw [← getD_tf hs h3.1] at h1
     rw [h3.2] at h1; cases h1
    ·exact hb
   obtain ⟨s1, k1, k2⟩ := front pre s s' hcomp (hw q (by simp)) e
   refine opStep_sound hc hio r k1 fun a' w' S' φ' r' x' => ?_
   refine ih (listed.setIfInBounds q.1 true) (pre ++ post) (by simp [hs]) ?_ (fun z hz => ho z (by simp at hz ⊢; rcases hz with h | h <;> simp [h])) (by simp at hf ⊢; omega) ?_ r' ?_ k2 (fun a2 w2 S2 φ2 r2 x2 => hQ a2 w2 S2 φ2 r2 (x'.trans x2))
   ·rw [List.map_append, List.map_cons] at hr
    rw [unl_set hs hr.symm, List.map_append]
   ·intro j oj hj hl ee hee hb
    have hset : ∀ k, listed.getD k false = true → (listed.setIfInBounds q.1 true).getD k false = true := fun k hk => getD_set_true hk
    by_cases hjq : j = q.1
    ·subst hjq
     rw [hio] at hj; cases hj
     exact hset _ (hed ee hee hb)
    ·refine hset _ (hcl j oj hj ?_ ee hee hb)
     rw [getD_set_ne false (Ne.symm hjq)] at hl
     exact hl
   ·intro z hz
    have hz' : z ∈ pre ∨ z ∈ post := by simpa using hz
    have hwz := hw z (by simp; rcases hz' with h | h <;> simp [h])
    rcases hz' with hz' | hz'
    ·have hcz := hcomp z hz'
     simp only [compat, Bool.and_eq_true] at hcz
     obtain ⟨_, a2, _⟩ := Oper.apart_spec hcz.1
     refine waits_step k1 hwz (fun hy hx => by rw [hx, hy] at hcz; simp at hcz) (fun hy hx t ht hzt => a2 t hzt ht)
    ·have hp := st.pair z.1 q.1 q.2 z.2 (hord.2 z hz') hio (ho z (by simp [hz']))
     simp only [pairOk, Bool.and_eq_true] at hp
     refine waits_step k1 hwz (fun hy hx => by have := hp.2; rw [hx, hy] at this; simp at this) (fun hy hx t ht hzt => by
      have := hp.1.2
      rw [hx, hy, ht, hzt] at this
      simp at this)
theorem kept_drew (w : World) : Kept w { w with drawn := w.drawn + 1 } := ⟨rfl, rfl, rfl, Nat.le_refl _, fun _ _ => rfl⟩
theorem draw_sound {C : Cx} {call : Run} (hc : CallOk C call) (hm : C.P.follows .mixedOrders = true) {base : Nat} {ops : Array Oper} {p : Plan} (hok : drawOk C ops p = true) {Q : Exit → Act → World → Prop} {w : World} {S : Nat → Prop} {φ : Phi} {a : Act} {s s' : St} (r : ARel w S φ a s)
  (hw : ∀ o ∈ ops, Waits C base s.heap o) (e : opsRun C call true base ops p 0 ops.toList s = some s') (hQ : ∀ a' w' S' φ', ARel w' S' φ' a' s' → Ext w S φ s.heap w' S' φ' s'.heap → Q .normal a' w') (id : Nat) : (Code.region id ops true).wp C.P Q a w := by
 obtain ⟨mk, st⟩ := drawOk_static hok
 obtain ⟨k1, k2⟩ := kept_sound r.heap (kept_drew w) (S1 := S) (fun _ h => h) (fun _ h => .inl h) r.heap.lt
 have r2 : ARel { w with drawn := w.drawn + 1 } S φ a s := ⟨r.tmps.vrel r.heap k2, r.defers, k1⟩
 refine wp_region_any hm ?_
 rw [runN_of] at e
 refine any_sound hc st ops.size (Array.replicate ops.size false) _ (by simp) ?_ ?_ (by simp) ?_ r2 ?_ e (fun a' w' S' φ' r' x' => hQ a' w' S' φ' r' (k2.trans x'))
 ·rw [List.map_map]
  have h1 : unl (Array.replicate ops.size false) ops.size = List.range ops.size := by
   unfold unl
   rw [List.filter_eq_self]
   intro i hi
   rw [List.mem_range] at hi
   simp [Array.getD, hi]
  rw [h1]
  have h2 : (Prod.fst ∘ fun (q : Oper × Nat) => (q.2, q.1)) = Prod.snd := rfl
  rw [h2, List.zipIdx_map_snd]
  simp [List.range_eq_range']
 ·intro q hq
  obtain ⟨z, hz, rfl⟩ := List.mem_map.1 hq
  have := List.mem_zipIdx hz
  simp only
  rw [← Array.getElem?_toList]
  obtain ⟨_, h2, h3⟩ := this
  simp at h2 h3
  rw [Array.getElem?_toList, Array.getElem?_eq_getElem h2, h3]
 ·intro i o ho hl
  simp [Array.getD] at hl
 ·intro q hq
  obtain ⟨z, hz, rfl⟩ := List.mem_map.1 hq
  obtain ⟨_, h2, h3⟩ := List.mem_zipIdx hz
  simp at h2 h3
  exact hw z.1 (by rw [h3]; exact Array.getElem_mem _)
end Go.Proofs.YtlpbmajbalenjaaA
namespace Go.Proofs.YtlpbmajbalenjaaA
open Go
variable {w : World} {S : Nat → Prop} {φ : Phi} {h : Heap}

def okCode (C : Cx) (f : FuncId) : Code → Bool
 | .region id ops draw => !draw || drawOk C ops (C.plan f id)
 | .seq x y => okCode C f x && okCode C f y
 | .cond _ x y => okCode C f x && okCode C f y
 | .block _ x => okCode C f x
 | .loop x => okCode C f x
 | _ => true
def OrcOk (C : Cx) : Prop := ∀ call : Run, CallOk C call → ∀ (f : FuncId) (ds : List D) (d : D), C.orc call f ds = some d →
 ∀ (w : World) (S : Nat → Prop) (φ : Phi) (vs : List Value), HRel w S φ [] → VsRel w S φ vs ds →
  Calls C.P f vs.toArray w fun e w' => ∃ v S' φ', e = .returned v ∧ Ext w S φ [] w' S' φ' [] ∧ HRel w' S' φ' [] ∧ VRel w' S' φ' v d
structure Fine (C : Cx) : Prop where
 mixed : C.P.follows .mixedOrders = true
 name : ∀ (f : FuncId) (fn : Func), C.P.funcs[f]? = some fn → (fn.name == "runtime.NumGoroutine") = false
 draws : ∀ (f : FuncId) (fn : Func) (c : Code), C.ok f = true → C.P.funcs[f]? = some fn → fn.body = some c → okCode C f c = true
 orc : OrcOk C

theorem kills (H : HRel w S φ h) : ∀ (l : List Nat), HRel w S φ (l.foldl (fun h t => kill1 h t) h) ∧ Ext w S φ h w S φ (l.foldl (fun h t => kill1 h t) h) := by
 intro l
 induction l generalizing h with
 | nil => exact ⟨H, .refl ..⟩
 | cons b l ih =>
  obtain ⟨g1, g2⟩ := kill_sound H b
  obtain ⟨k1, k2⟩ := ih g1
  exact ⟨k1, g2.trans k2⟩
theorem tops_rel : ∀ (l : List Nat) {vs : List Value} {ds : List D}, VsRel w S φ vs ds → VsRel w S φ vs (l.foldl (fun l t => l.set t .top) ds) := by
 intro l
 induction l with
 | nil => intro vs ds r; exact r
 | cons t l ih =>
  intro vs ds r
  refine ih ⟨by simp [r.1], fun i v d h1 h2 => ?_⟩
  rw [List.getElem?_set] at h2
  split at h2
  ·split at h2
   ·cases h2; exact .top
   ·cases h2
  ·exact r.2 i v d h1 h2
theorem forget_sound {a : Act} {s : St} (r : ARel w S φ a s) (base : Nat) (x : List Nat × List Nat) : ARel w S φ a (forget base x s) ∧ Ext w S φ s.heap w S φ (forget base x s).heap := by
 have h1 : x.2.foldl (fun h t => kill1 h (base + t)) s.heap = (x.2.map (base + ·)).foldl (fun h t => kill1 h t) s.heap := by rw [List.foldl_map]
 obtain ⟨k1, k2⟩ := kills r.heap (x.2.map (base + ·))
 refine ⟨⟨tops_rel x.1 r.tmps, r.defers, ?_⟩, ?_⟩
 ·show HRel w S φ (x.2.foldl (fun h t => kill1 h (base + t)) s.heap)
  rw [h1]; exact k1
 ·show Ext w S φ s.heap w S φ (x.2.foldl (fun h t => kill1 h (base + t)) s.heap)
  rw [h1]; exact k2
theorem killA_sound {C : Cx} (base : Nat) : ∀ (l : List Oper) {h : Heap}, HRel w S φ h → 
  HRel w S φ (l.foldl (fun h o => if cls C true o = .A then match o.dst with | some t => kill1 h (base + t) | none => h else h) h) ∧
  Ext w S φ h w S φ (l.foldl (fun h o => if cls C true o = .A then match o.dst with | some t => kill1 h (base + t) | none => h else h) h) := by
 intro l
 induction l with
 | nil => intro h H; exact ⟨H, .refl ..⟩
 | cons o l ih =>
  intro h H
  rw [List.foldl_cons]
  have step : HRel w S φ (if cls C true o = .A then match o.dst with | some t => kill1 h (base + t) | none => h else h) ∧ Ext w S φ h w S φ (if cls C true o = .A then match o.dst with | some t => kill1 h (base + t) | none => h else h) := by
   split
   ·split
    ·exact kill_sound H _
    ·exact ⟨H, .refl ..⟩
   ·exact ⟨H, .refl ..⟩
  obtain ⟨k1, k2⟩ := ih step.1
  exact ⟨k1, step.2.trans k2⟩
theorem kill_dead {h : Heap} {b b' : Nat} {B : Blk} (hd : ∀ B, h[b]? = some B → B.body = .dead) (e : (kill1 h b')[b]? = some B) : B.body = .dead := by
 rw [kill_get] at e
 split at e
 ·obtain ⟨B0, _, rfl⟩ := Option.map_eq_some_iff.1 e; rfl
 ·exact hd B e
theorem killA_waits {C : Cx} (base : Nat) : ∀ (l : List Oper) (h : Heap) (o : Oper), (o ∈ l ∨ Waits C base h o) → Waits C base (l.foldl (fun h o => if cls C true o = .A then match o.dst with | some t => kill1 h (base + t) | none => h else h) h) o := by
 intro l
 induction l with
 | nil => intro h o ho; exact ho.resolve_left (by simp)
 | cons x l ih =>
  intro h o ho
  rw [List.foldl_cons]
  refine ih _ o ?_
  rcases ho with ho | ho
  ·rcases List.mem_cons.1 ho with rfl | ho
   ·right
    intro ha t ht B hB
    rw [if_pos ha] at hB
    simp only [ht] at hB
    rw [kill_get, if_pos rfl] at hB
    obtain ⟨B0, _, rfl⟩ := Option.map_eq_some_iff.1 hB; rfl
   ·exact .inl ho
  ·right
   intro ha t ht B hB
   split at hB
   ·split at hB
    ·exact kill_dead (ho ha t ht) hB
    ·exact ho ha t ht B hB
   ·exact ho ha t ht B hB

theorem more_sound (H : HRel w S φ h) (n : Nat) : HRel w S φ (h ++ List.replicate n noBlk) ∧ Ext w S φ h w S φ (h ++ List.replicate n noBlk) := by
 have get : ∀ {b : Nat} {B : Blk}, (h ++ List.replicate n noBlk)[b]? = some B → h[b]? = some B ∨ B = noBlk := fun {b B} e => by
  by_cases hb : b < h.length
  ·rw [List.getElem?_append_left hb] at e; exact .inl e
  ·rw [List.getElem?_append_right (by omega), List.getElem?_replicate] at e
   split at e
   ·cases e; exact .inr rfl
   ·cases e
 have live : ∀ {b : Nat} {B : Blk}, (h ++ List.replicate n noBlk)[b]? = some B → B.body ≠ .dead → h[b]? = some B := fun {b B} e hl => (get e).resolve_right fun e => hl (by rw [e]; rfl)
 refine ⟨⟨fun b B e => ?_, fun b b' B B' A x x' e e' hl hl' => H.inj b b' B B' A x x' (live e hl) (live e' hl') hl hl', fun b v x hp => ?_, H.lt⟩,
  ⟨rfl, rfl, rfl, Nat.le_refl _, fun _ h => h, fun _ _ _ h => h, fun _ _ _ => rfl, fun _ h => .inl h, fun A ho => ?_⟩⟩
 ·rcases get e with e | rfl
  ·exact H.blk b B e
  ·exact .dead
 ·obtain ⟨B, h1, h2, h3⟩ := H.dom b v x hp
  exact ⟨B, by rw [List.getElem?_append_left (List.getElem?_eq_some_iff.1 h1).1]; exact h1, h2, h3⟩
 ·obtain ⟨b, B, x, h1, h2, h3, h4⟩ := ho
  exact .inl ⟨b, B, x, live h1 h2, h2, h3, h4⟩
theorem tidy_sound (H : HRel w S φ h) (n : Nat) : HRel w S φ (tidy h n) ∧ Ext w S φ h w S φ (tidy h n) := by
 unfold tidy
 split
 ·rename_i hall
  have take : ∀ {b : Nat} {B : Blk}, (h.take n)[b]? = some B → h[b]? = some B := fun {b B} e => by
   rw [List.getElem?_take] at e
   split at e
   ·exact e
   ·cases e
  refine ⟨⟨fun b B e => H.blk b B (take e), fun b b' B B' A x x' e e' => H.inj b b' B B' A x x' (take e) (take e'), fun b v x hp => ?_, H.lt⟩,
   ⟨rfl, rfl, rfl, Nat.le_refl _, fun _ h => h, fun _ _ _ h => h, fun _ _ _ => rfl, fun _ h => .inl h, fun A ho => ?_⟩⟩
  ·obtain ⟨B, h1, h2, h3⟩ := H.dom b v x hp
   by_cases hb : b < n
   ·exact ⟨B, by rw [List.getElem?_take, if_pos hb]; exact h1, h2, h3⟩
   ·exfalso
    rw [List.all_eq_true] at hall
    have hm : B ∈ h.drop n := List.mem_of_getElem? (i := b - n) (by rw [List.getElem?_drop, show n + (b - n) = b by omega]; exact h1)
    have := hall B hm
    simp at this
    omega
  ·obtain ⟨b, B, x, h1, h2, h3, h4⟩ := ho
   exact .inl ⟨b, B, x, take h1, h2, h3, h4⟩
 ·exact ⟨H, .refl ..⟩
theorem ld_var {P : Program} (H : HRel w S φ h) {t : TypeId} {x : Value} {p d : D} (r : VRel w S φ x p) (e : ld P h t p = some d) : ∃ A o y, x = .pointer (some ⟨A, o, none⟩) ∧ (loadVar t ⟨A, o, none⟩).run P w = .ok y w ∧ VRel w S φ y d := by
 unfold ld at e
 obtain ⟨a, ha, e⟩ := Option.bind_eq_some_iff.1 e
 obtain ⟨s, hs, e⟩ := Option.bind_eq_some_iff.1 e
 obtain ⟨cs, hc, e⟩ := Option.bind_eq_some_iff.1 e
 obtain ⟨A, o, rfl, hcs⟩ := cellsAt_sound H r hc
 obtain ⟨y, h1, h2⟩ := loadVar_sound ha hs hcs e
 exact ⟨A, o, y, rfl, h1, h2⟩
theorem mapM_runR {P : Program} {α : Type} (f : α → Sem Value) (g : α → Option D) (hfg : ∀ x d, g x = some d → ∃ v, (f x).run P w = .ok v w ∧ VRel w S φ v d) : ∀ (l : List α) (ds : List D), l.mapM g = some ds → ∃ vs, (l.mapM f).run P w = .ok vs w ∧ VsRel w S φ vs ds
 | [], ds, hd => by simp at hd; subst hd; exact ⟨[], rfl, .nil⟩
 | x :: l, ds, hd => by
  rw [List.mapM_cons] at hd
  obtain ⟨y, h1, hd⟩ := Option.bind_eq_some_iff.1 hd
  obtain ⟨ys, h2, hd⟩ := Option.bind_eq_some_iff.1 hd
  simp at hd; subst hd
  obtain ⟨vs, g1, g2⟩ := mapM_runR f g hfg l ys h2
  obtain ⟨v, k1, k2⟩ := hfg x y h1
  exact ⟨v :: vs, by rw [List.mapM_cons]; simp only [Sem.run_bind, k1, Result.andThen_ok, g1, Sem.run_pure], .cons k2 g2⟩
theorem results_sound {P : Program} {a : Act} {s : St} (r : ARel w S φ a s) {fn : Func} {d : D} (e : resultsD P fn s = some d) : ∃ v, (results fn a.tmps).run P w = .ok v w ∧ VRel w S φ v d := by
 unfold resultsD at e
 obtain ⟨ds, hds, e⟩ := Option.map_eq_some_iff.1 e
 have ev : ∀ t, VRel w S φ (a.tmps.getD t undef) (s.tmps.getD t (.tuple [])) := fun t => r.ev (.tmp t)
 obtain ⟨vs, g1, g2⟩ := mapM_runR (P := P) (fun (x : ResultVar) => match x with | .tmp t => pure (a.tmps.getD t undef) | .cell x t => do loadVar t (← asAddr (a.tmps.getD x undef))) _ (fun x d hd => by
  cases x with
  | tmp t => cases hd; exact ⟨_, rfl, ev t⟩
  | cell x t =>
   obtain ⟨A, o, y', k1, k2, k3⟩ := ld_var r.heap (ev x) hd
   exact ⟨y', by simp only [k1, asAddr, Sem.run_bind, Sem.run_pure, Result.andThen_ok, k2], k3⟩) fn.results.toList ds hds
 have hrun : (fn.results.mapM fun | .tmp t => pure (a.tmps.getD t undef) | .cell x t => do loadVar t (← asAddr (a.tmps.getD x undef)) : Sem (Array Value)).run P w = .ok vs.toArray w := by
  rw [Array.mapM_eq_mapM_toList, Sem.run_map, g1]; rfl
 have hres : (results fn a.tmps).run P w = ((fn.results.mapM fun | .tmp t => pure (a.tmps.getD t undef) | .cell x t => do loadVar t (← asAddr (a.tmps.getD x undef)) : Sem (Array Value)).run P w).andThen fun vs w' => .ok (if h : vs.size = 1 then vs[0] else .tuple vs) w' := by
  unfold results
  simp only [Sem.run_bind, Sem.run_pure]
  rfl
 rw [hres, hrun]
 refine ⟨_, rfl, ?_⟩
 subst e
 have hl := g2.1
 by_cases h1 : vs.length = 1
 ·obtain ⟨v, rfl⟩ := List.length_eq_one_iff.1 h1
  obtain ⟨d, rfl⟩ := List.length_eq_one_iff.1 (hl.symm.trans h1)
  exact g2.head
 ·have h2 : ¬ vs.toArray.size = 1 := by simpa using h1
  rw [dif_neg h2]
  split
  ·simp at hl; exact absurd hl h1
  ·exact VRel.tuple_iff.2 (by simpa using g2)

def toExit : X → Exit
 | .normal => .normal
 | .exit id => .exit id
 | .ret => .ret
def ExecOk (C : Cx) (F : Forget) (k : Nat) : Prop := ∀ (f : FuncId) (base : Nat) (c : Code) (s : St) (x : X) (s' : St), okCode C f c = true → exec C F k f base c s = some (x, s') →
 ∀ (w : World) (S : Nat → Prop) (φ : Phi) (a : Act) (Q : Exit → Act → World → Prop), ARel w S φ a s → (∀ a' w' S' φ', ARel w' S' φ' a' s' → Ext w S φ s.heap w' S' φ' s'.heap → Q (toExit x) a' w') → c.wp C.P Q a w
def LoopOk (C : Cx) (F : Forget) (k : Nat) : Prop := ∀ (f : FuncId) (base : Nat) (c : Code) (s : St) (x : X) (s' : St), okCode C f c = true → exec C F k f base (.loop c) s = some (x, s') →
 ∀ (w : World) (S : Nat → Prop) (φ : Phi) (a : Act) (Q : Exit → Act → World → Prop), ARel w S φ a s → (∀ a' w' S' φ', ARel w' S' φ' a' s' → Ext w S φ s.heap w' S' φ' s'.heap → Q (toExit x) a' w') →
  ∀ (b : Frame) (kk : List Item) (cs : List Frame), ∃ e a' w', Q e a' w' ∧ Arrives C.P (lone (b.at a (.code c :: .inLoop c :: kk)) cs w) b kk cs e a' w'
theorem loop_step {C : Cx} {F : Forget} {k : Nat} (he : ExecOk C F k) (hl : LoopOk C F k) : LoopOk C F (k + 1) := by
 intro f base c s x s' hok e w S φ a Q r hQ b kk cs
 rw [exec] at e
 obtain ⟨⟨x1, s1⟩, h1, h2⟩ := Option.bind_eq_some_iff.1 e
 have := he f base c s x1 s1 hok h1 w S φ a (fun e a' w' => (e = toExit x1) ∧ ∃ S' φ', ARel w' S' φ' a' s1 ∧ Ext w S φ s.heap w' S' φ' s1.heap) r (fun a' w' S' φ' r' x' => ⟨rfl, S', φ', r', x'⟩) b (.inLoop c :: kk) cs
 obtain ⟨e1, a1, w1, ⟨he1, S1, φ1, r1, x1'⟩, harr⟩ := this
 subst he1
 cases x1 with
 | normal =>
  obtain ⟨e2, a2, w2, hq2, harr2⟩ := hl f base c s1 x s' hok h2 w1 S1 φ1 a1 Q r1 (fun a' w' S' φ' r' x' => hQ a' w' S' φ' r' (x1'.trans x')) b kk cs
  exact ⟨e2, a2, w2, hq2, .of_steps (Steps.trans harr (.one step_inLoop)) harr2⟩
 | exit id =>
  cases h2
  exact ⟨_, a1, w1, hQ a1 w1 S1 φ1 r1 x1', .pass (x := .inLoop c) rfl (fun _ _ => .inl (by simp [toExit])) harr⟩
 | ret =>
  cases h2
  exact ⟨_, a1, w1, hQ a1 w1 S1 φ1 r1 x1', .pass (x := .inLoop c) rfl (fun _ _ => .inl (by simp [toExit])) harr⟩
theorem exec_step {C : Cx} {F : Forget} (hf : Fine C) {k : Nat} (hc : CallOk C (run C F k)) (he : ExecOk C F k) (hl : LoopOk C F (k + 1)) : ExecOk C F (k + 1) := by
 intro f base c s x s' hok e w S φ a Q r hQ
 cases c with
 | skip => rw [exec] at e; cases e; exact wp_skip (hQ a w S φ r (.refl ..))
 | label l => rw [exec] at e; cases e; exact wp_label (hQ a w S φ r (.refl ..))
 | region id ops draw =>
  rw [exec] at e
  obtain ⟨s1, h1, h2⟩ := Option.map_eq_some_iff.1 e
  cases h2
  obtain ⟨r1, x1⟩ := forget_sound r base (F f id)
  cases draw with
  | false =>
   simp only [Bool.false_eq_true, if_false] at h1
   refine wp_region (opsRun_sound hc (List.range ops.size) ops.toList 0 ?_ r1 h1 fun a' w' S' φ' r' x' => hQ a' w' S' φ' r' (x1.trans x'))
   apply List.ext_getElem?
   intro i
   rw [List.getElem?_map, List.getElem?_map]
   by_cases hi : i < ops.size
   ·rw [List.getElem?_range hi]; simp [hi]
   ·rw [List.getElem?_eq_none (by simp; omega), List.getElem?_eq_none (by simp; omega)]; rfl
  | true =>
   simp only [if_true] at h1
   simp only [okCode, Bool.not_true, Bool.false_or] at hok
   obtain ⟨k1, k2⟩ := killA_sound (C := C) base ops.toList r1.heap
   exact draw_sound hc hf.mixed hok (a := a) (s := killA C base ops.toList (forget base (F f id) s)) ⟨r1.tmps, r1.defers, k1⟩ (fun o ho => killA_waits base ops.toList _ o (.inl (by simpa using ho))) h1
    (fun a' w' S' φ' r' x' => hQ a' w' S' φ' r' ((x1.trans k2).trans x')) id
 | seq x1 y1 =>
  rw [exec] at e
  simp only [okCode, Bool.and_eq_true] at hok
  obtain ⟨⟨e1, s1⟩, h1, h2⟩ := Option.bind_eq_some_iff.1 e
  refine wp_seq (he f base x1 s e1 s1 hok.1 h1 w S φ a _ r fun a' w' S' φ' r' x' => ?_)
  cases e1 with
  | normal => exact he f base y1 s1 x s' hok.2 h2 w' S' φ' a' Q r' fun a2 w2 S2 φ2 r2 x2 => hQ a2 w2 S2 φ2 r2 (x'.trans x2)
  | exit id => cases h2; exact hQ a' w' S' φ' r' x'
  | ret => cases h2; exact hQ a' w' S' φ' r' x'
 | cond c x1 y1 =>
  rw [exec] at e
  simp only [okCode, Bool.and_eq_true] at hok
  have rc := r.ev c
  split at e <;> try (cases e; done)
  rename_i t hct
  rw [hct] at rc
  refine wp_cond rc.bool_inv ?_
  cases t with
  | true => exact he f base x1 s x s' hok.1 e w S φ a Q r hQ
  | false => exact he f base y1 s x s' hok.2 e w S φ a Q r hQ
 | block id x1 =>
  rw [exec] at e
  simp only [okCode] at hok
  obtain ⟨⟨e1, s1⟩, h1, h2⟩ := Option.map_eq_some_iff.1 e
  refine wp_block (he f base x1 s e1 s1 hok h1 w S φ a _ r fun a' w' S' φ' r' x' => ?_)
  cases e1 with
  | normal => cases h2; exact hQ a' w' S' φ' r' x'
  | exit id' =>
   simp only at h2
   show (if id' = id then Q .normal a' w' else Q (.exit id') a' w')
   split at h2
   ·rename_i hid; cases h2; rw [if_pos hid]; exact hQ a' w' S' φ' r' x'
   ·rename_i hid; cases h2; rw [if_neg hid]; exact hQ a' w' S' φ' r' x'
  | ret => cases h2; exact hQ a' w' S' φ' r' x'
 | loop c =>
  intro b kk cs
  obtain ⟨e', a', w', hq, harr⟩ := hl f base c s x s' hok e w S φ a Q r hQ b kk cs
  exact ⟨e', a', w', hq, .of_steps (.one step_loop) harr⟩
 | exit id => rw [exec] at e; cases e; exact wp_exit (hQ a w S φ r (.refl ..))
 | ret => rw [exec] at e; cases e; exact wp_ret (hQ a w S φ r (.refl ..))
 | _ => simp [exec] at e
theorem nilOps_is {tc : Tmp} {l : List Oper} {o1 o2 : Oper} {ta : Tmp} {T : TypeId} (e : nilOps tc l = some (o1, o2, ta, T)) : l = [o1, o2] ∧ o1.op = .move (.tmp 0) ∧ o1.dst = some ta ∧ o1.guard = none ∧ (∃ u, o2.op = .binOp .eql T (.tmp ta) (.const (.slice none 0 0)) u) ∧ o2.dst = some tc ∧ o2.guard = none := by
 unfold nilOps at e
 split at e <;> try (cases e; done)
 split at e <;> try (cases e; done)
 split at e <;> try (cases e; done)
 rename_i hh
 obtain ⟨rfl, rfl⟩ := hh
 cases e
 exact ⟨rfl, by assumption, by assumption, by assumption, ⟨_, by assumption⟩, by assumption, by assumption⟩
theorem nilTest_is {c : Code} {n : NT} (e : nilTest c = some n) : c = .seq n.r0 (.seq (.seq (.region n.id n.ops false) (.cond (.tmp n.tc) n.x .skip)) n.z) ∧ nilOps n.tc n.ops.toList = some (n.o1, n.o2, n.ta, n.T) := by
 unfold nilTest at e
 split at e <;> try (cases e; done)
 obtain ⟨q, hq, e⟩ := Option.map_eq_some_iff.1 e
 subst e
 exact ⟨rfl, hq⟩
theorem equal_slice0 {P : Program} {w : World} {t e : TypeId} (hu : P.underlying t = some (.slice e)) (q : Option Addr) (n m : Nat) : (Op.equal t (.slice q n m) (.slice none 0 0)).run P w = .ok q.isNone w := by
 cases q with
 | none => exact equal_at fun k => by simp [Op.equalIn, run_underlying hu]
 | some q => exact equal_slice1 hu q n m
theorem isE_vrel {q : Option Addr} {m : Nat} {d : D} (h : isE d = true) : VRel w S φ (.slice q 0 m) d := by
 unfold isE at h
 split at h <;> try (cases h; done)
 ·exact .ints (xs := []) (Nat.zero_le _) 0 0 (fun h => absurd rfl h) (fun i hi => by simp at hi)
 ·exact .list (xs := []) (Nat.zero_le _) 0 0 (fun _ _ => default) (fun h => absurd rfl h) (fun i d h => by simp at h) (fun i d j c h => by simp at h) (fun i d j c h => by simp at h)
theorem isE_inv {v : Value} {d : D} (h : isE d = true) (r : VRel w S φ v d) : ∃ q m, v = .slice q 0 m := by
 unfold isE at h
 split at h <;> try (cases h; done)
 ·cases r; exact ⟨_, _, rfl⟩
 ·cases r; exact ⟨_, _, rfl⟩
theorem nil_region {C : Cx} {call : Run} (hc : CallOk C call) {n : NT} (hn : nilOps n.tc n.ops.toList = some (n.o1, n.o2, n.ta, n.T)) (hT : (elemOf? C.P n.T).isSome = true) {a : Act} {s : St} (r : ARel w S φ a s) (hE : isE (s.ev (.tmp 0)) = true) (hlt : n.ta < s.tmps.length)
  {Q : Exit → Act → World → Prop} (hQ : ∀ b a' w' S' φ', ARel w' S' φ' a' (n.to s b) → Ext w S φ s.heap w' S' φ' s.heap → Q .normal a' w') : (Code.region n.id n.ops false).wp C.P Q a w := by
 obtain ⟨h0, k1, k2, k3, ⟨u, k4⟩, k5, k6⟩ := nilOps_is hn
 have hsz : n.ops.size = 2 := by have := congrArg List.length h0; simpa using this
 have g0 : n.ops[0]? = some n.o1 := by rw [← Array.getElem?_toList, h0]; rfl
 have g1 : n.ops[1]? = some n.o2 := by rw [← Array.getElem?_toList, h0]; rfl
 refine wp_region ?_
 rw [hsz, show List.range 2 = [0, 1] from rfl, wpOps_cons]
 refine opStep_sound hc (draw := false) (base := 0) (m := []) (s' := ⟨putT s.tmps (some n.ta) (s.ev (.tmp 0)), s.heap⟩) g0 r ?_ fun a1 w1 S1 φ1 r1 x1 => ?_
 ·simp [opStep, wantD, k3, opv, cls, k1, opP, k2]
 ·rw [wpOps_cons]
  unfold wpOp
  rw [g1]
  have hw : Region.wanted n.o2 (yielded n.ops a1.tmps) = true := by simp [Region.wanted, k6]
  simp only [hw, if_true]
  left
  have ev1 : VRel w1 S1 φ1 (a1.eval (.tmp n.ta)) (s.ev (.tmp 0)) := by
   have := r1.ev (.tmp n.ta)
   have e : St.ev ⟨putT s.tmps (some n.ta) (s.ev (.tmp 0)), s.heap⟩ (.tmp n.ta) = s.ev (.tmp 0) := by
    simp [St.ev, putT, List.getD_eq_getElem?_getD, hlt]
   rw [e] at this
   exact this
  obtain ⟨q, m, hv⟩ := isE_inv hE ev1
  obtain ⟨el, hel⟩ := Option.isSome_iff_exists.1 hT
  have heq : ∃ v, (do eqGuard .eql n.T (.tmp n.ta) (.const (.slice none 0 0)) (a1.eval (.tmp n.ta)) (a1.eval (.const (.slice none 0 0))); binOp .eql n.T (a1.eval (.tmp n.ta)) (a1.eval (.const (.slice none 0 0))) : Sem Value).run C.P w1 = .ok v w1 ∧ VRel w1 S1 φ1 v (.bool q.isNone) := by
   refine ⟨.bool q.isNone, ?_, .bool⟩
   rw [hv, eqGuard_at_slice]
   have := equal_slice0 (P := C.P) (w := w1) (elem_run hel) q 0 m
   show (do (pure () : Sem Unit); binOp .eql n.T (.slice q 0 m) (.slice none 0 0) : Sem Value).run C.P w1 = _
   rw [show binOp .eql n.T (.slice q 0 m) (.slice none 0 0) = (do pure (.bool (← Op.equal n.T (.slice q 0 m) (.slice none 0 0)))) from rfl]
   simp [this]
  refine GoodOp.wp (S := S1) (φ := φ1) (h := s.heap) (h' := s.heap) (d := .bool q.isNone) (.inl ?_) fun v w' S' φ' h1 h2 h3 => ?_
  ·unfold execOp
   rw [k4]
   exact .quiet r1.heap heq
  ·refine hQ q.isNone _ w' S' φ' ?_ (x1.trans h1)
   rw [k5]
   exact r1.put h1 h2 h3 (some n.tc)
theorem emptyRet_is {P : Program} {fn : Func} {o : Option (X × St)} (h : emptyRet P fn o = true) : ∃ s d, o = some (.ret, s) ∧ resultsD P fn s = some d ∧ ∀ {w : World} {S : Nat → Prop} {φ : Phi} {v : Value}, VRel w S φ v d → ∃ q m, v = .slice q 0 m := by
 unfold emptyRet at h
 split at h <;> try (cases h; done)
 split at h <;> try (cases h; done)
 all_goals
  rename_i h1
  refine ⟨_, _, rfl, h1, fun r => ?_⟩
  cases r <;> exact ⟨_, _, rfl⟩
theorem run_step {C : Cx} {F : Forget} (hf : Fine C) {k : Nat} (hr : CallOk C (run C F k)) (he : ExecOk C F k) : CallOk C (run C F (k + 1)) := by
 intro f ds h d h' e
 rw [run] at e
 obtain ⟨fn, hfn, e2⟩ := Option.bind_eq_some_iff.1 e
 obtain ⟨c, hc, e3⟩ := Option.bind_eq_some_iff.1 e2
 clear e e2
 split at e3
 case isFalse =>
  split at e3 <;> try (cases e3; done)
  rename_i hh
  obtain ⟨d', h1, h2⟩ := Option.map_eq_some_iff.1 e3
  cases h2
  have h0 : h = [] := by simpa using hh.1
  subst h0
  exact ⟨⟨fn, hfn, by rw [hc]; rfl, hh.2⟩, hf.orc _ hr f ds d h1⟩
 rename_i hcond
 split at e3
 ·rename_i hspl
  simp only [Bool.and_eq_true] at hspl
  have hh : h = [] := by simpa using hspl.2
  subst hh
  obtain ⟨d0, hd0⟩ : ∃ d0, ds = [d0] := List.length_eq_one_iff.1 (by simpa using hspl.1.1.1)
  have hE0 : isE d0 = true := by have := hspl.1.1.2; rw [hd0] at this; simpa using this
  obtain ⟨n, hn, e4⟩ := Option.bind_eq_some_iff.1 e3
  clear e3
  split at e4 <;> try (cases e4; done)
  rename_i hT
  obtain ⟨⟨x0, s0⟩, h0, e5⟩ := Option.bind_eq_some_iff.1 e4
  clear e4
  obtain ⟨n1, n2⟩ := nilTest_is hn
  subst n1
  cases x0 <;> simp only at e5 <;> try (cases e5; done)
  split at e5 <;> try (cases e5; done)
  rename_i hg
  cases e5
  simp only [Bool.and_eq_true] at hg
  obtain ⟨⟨⟨hlt, hE⟩, hx⟩, hz⟩ := hg
  obtain ⟨lt1, lt2⟩ := of_decide_eq_true hlt
  obtain ⟨s1, d1, x1, x2, x3⟩ := emptyRet_is hx
  obtain ⟨s2, d2, z1, z2, z3⟩ := emptyRet_is hz
  refine ⟨⟨fn, hfn, by rw [hc]; rfl, hf.name f fn hfn⟩, fun w S φ vs H rv => ?_⟩
  obtain ⟨m1, m2⟩ := more_sound H fn.ntmps
  have hsz : vs.toArray.size = ds.length := by simpa using rv.1
  have r0 : ARel w S φ { tmps := vs.toArray ++ Array.replicate (fn.ntmps - vs.toArray.size) undef, defers := [] } ⟨ds ++ List.replicate (fn.ntmps - ds.length) (.tuple []), List.replicate fn.ntmps noBlk⟩ := by
   refine ⟨?_, rfl, m1⟩
   have : (vs.toArray ++ Array.replicate (fn.ntmps - vs.toArray.size) undef).toList = vs ++ List.replicate (fn.ntmps - ds.length) undef := by
    rw [hsz]; simp
   simp only [this]
   exact rv.append (.replicate _ (.tuple rfl fun i v d h => by simp at h))
  have hok := hf.draws f fn _ hcond.1 hfn hc
  simp only [okCode, Bool.and_eq_true] at hok
  have fin : ∀ {s' : St} {d' : D} {a' : Act} {w' : World} {S' : Nat → Prop} {φ' : Phi}, ARel w' S' φ' a' s' → Ext w S φ (List.replicate fn.ntmps noBlk) w' S' φ' s'.heap → resultsD C.P fn s' = some d' → (∀ {w : World} {S : Nat → Prop} {φ : Phi} {v : Value}, VRel w S φ v d' → ∃ q m, v = .slice q 0 m) →
    a'.defers = [] ∧ ∃ v, (results fn a'.tmps).run C.P w' = .ok v w' ∧ ∃ v_1 S' φ', Ending.returned v = Ending.returned v_1 ∧ Ext w S φ [] w' S' φ' [] ∧ HRel w' S' φ' [] ∧ VRel w' S' φ' v_1 (ds.headD .nilS) := fun {s' d' a' w' S' φ'} r' x' hd hv => by
   obtain ⟨v, g1, g2⟩ := results_sound r' hd
   obtain ⟨q, m, rfl⟩ := hv g2
   have E := m2.trans x'
   refine ⟨r'.defers, _, g1, _, S', φ, rfl, ?_, ?_, by rw [hd0]; exact isE_vrel hE0⟩
   ·exact ⟨E.os, E.tape, E.output, E.size, E.sub, fun _ _ _ h => h, E.same, E.new, fun b ho => .inl ho⟩
   ·exact ⟨fun b B e => by simp at e, fun b b' B B' A x x' e => by simp at e, fun b v x hp => by obtain ⟨B, h1, _⟩ := H.dom b v x hp; simp at h1, r'.heap.lt⟩
  refine calls_of_wp hfn hc (wp_seq (he f 0 n.r0 _ .normal s0 hok.1 h0 w S φ _ _ r0 fun a' w' S' φ' r' x' => ?_))
  refine wp_seq (wp_seq (nil_region (call := run C F 0) (fun f ds h d h' e => by simp [run] at e) n2 hT r' hE ?_ fun b a2 w2 S2 φ2 r2 y2 => ?_))
  ·exact lt1
  ·have hb : a2.eval (.tmp n.tc) = .bool b := by
    have := r2.ev (.tmp n.tc)
    have e : St.ev (n.to s0 b) (.tmp n.tc) = .bool b := by
     simp [St.ev, NT.to, putT, List.getD_eq_getElem?_getD, List.getElem?_set_self, lt2]
    rw [e] at this
    exact this.bool_inv
   refine wp_cond hb ?_
   cases b with
   | true =>
    simp only [if_true]
    exact he f 0 n.x _ .ret s1 hok.2.1.2.1 x1 w2 S2 φ2 a2 _ r2 fun a3 w3 S3 φ3 r3 y3 => fin r3 ((x'.trans y2).trans y3) x2 x3
   | false =>
    simp only [Bool.false_eq_true, if_false]
    refine wp_skip ?_
    exact he f 0 n.z _ .ret s2 hok.2.2 z1 w2 S2 φ2 a2 _ r2 fun a3 w3 S3 φ3 r3 y3 => fin r3 ((x'.trans y2).trans y3) z2 z3
 obtain ⟨⟨x, s'⟩, h1, h2⟩ := Option.bind_eq_some_iff.1 e3
 clear e3
 refine ⟨⟨fn, hfn, by rw [hc]; rfl, hf.name f fn hfn⟩, fun w S φ vs H rv => ?_⟩
 obtain ⟨m1, m2⟩ := more_sound H fn.ntmps
 have hsz : vs.toArray.size = ds.length := by simpa using rv.1
 have r0 : ARel w S φ { tmps := vs.toArray ++ Array.replicate (fn.ntmps - vs.toArray.size) undef, defers := [] } ⟨ds ++ List.replicate (fn.ntmps - ds.length) (.tuple []), h ++ List.replicate fn.ntmps noBlk⟩ := by
  refine ⟨?_, rfl, m1⟩
  have : (vs.toArray ++ Array.replicate (fn.ntmps - vs.toArray.size) undef).toList = vs ++ List.replicate (fn.ntmps - ds.length) undef := by
   rw [hsz]; simp
  simp only [this]
  exact rv.append (.replicate _ (.tuple rfl fun i v d h => by simp at h))
 refine calls_of_wp hfn hc (he f h.length c _ x s' (hf.draws f fn c hcond.1 hfn hc) h1 w S φ _ _ r0 fun a' w' S' φ' r' x' => ?_)
 have fin : (∃ d', resultsD C.P fn s' = some d' ∧ (d', tidy s'.heap h.length) = (d, h')) → a'.defers = [] ∧ ∃ v, (results fn a'.tmps).run C.P w' = .ok v w' ∧ ∃ v_1 S' φ', Ending.returned v = Ending.returned v_1 ∧ Ext w S φ h w' S' φ' h' ∧ HRel w' S' φ' h' ∧ VRel w' S' φ' v_1 d := by
  rintro ⟨d', hd', he'⟩
  cases he'
  obtain ⟨v, g1, g2⟩ := results_sound r' hd'
  obtain ⟨t1, t2⟩ := tidy_sound r'.heap h.length
  exact ⟨r'.defers, v, g1, v, S', φ', rfl, (m2.trans x').trans t2, t1, g2⟩
 cases x with
 | normal => exact fin (by obtain ⟨d', g1, g2⟩ := Option.map_eq_some_iff.1 h2; exact ⟨d', g1, g2⟩)
 | ret => exact fin (by obtain ⟨d', g1, g2⟩ := Option.map_eq_some_iff.1 h2; exact ⟨d', g1, g2⟩)
 | exit id => cases h2
theorem sound {C : Cx} (F : Forget) (hf : Fine C) : ∀ k, CallOk C (run C F k) ∧ ExecOk C F k ∧ LoopOk C F k := by
 intro k
 induction k with
 | zero => exact ⟨(fun f ds h d h' e => by simp [run] at e), (fun f base c s x s' _ e => by simp [exec] at e), (fun f base c s x s' _ e => by simp [exec] at e)⟩
 | succ k ih =>
  obtain ⟨h1, h2, h3⟩ := ih
  have h4 := loop_step h2 h3
  exact ⟨run_step hf h1 h2, exec_step hf h1 h2 h4, h4⟩
end Go.Proofs.YtlpbmajbalenjaaA
namespace Go.Proofs.YtlpbmajbalenjaaA
open Go

def TyD (P : Program) : Nat → TypeId → D → Prop
 | 0, _, _ => False
 | n + 1, t, d => match P.underlying t with
  | some .bool => ∃ b, d = .bool b
  | some (.int k) => ∃ m, d = .int k m ∧ (Lit.int k m).wf = true
  | some .string => ∃ s, d = .str s ∧ s.size ≤ maxLen
  | some (.slice e) => match P.underlying e with
   | some (.int k) => ∃ xs, d = .ints k xs ∧ xs.length ≤ maxLen ∧ ∀ x ∈ xs, (Lit.int k x).wf = true
   | _ => ∃ xs : List D, d = .list (P.cellsOf e) xs ∧ xs.length ≤ maxLen ∧ ∀ x ∈ xs, TyD P n e x
  | some (.struct fs) => ∃ ps : List D, d = .agg (ps.flatMap D.cells) ∧ ps.length = fs.size ∧ ∀ (i : Nat) (f : Field) (p : D), fs[i]? = some f → ps[i]? = some p → TyD P n f.type p
  | _ => False
def flatOk (P : Program) : Nat → TypeId → Bool
 | 0, _ => false
 | n + 1, t => match P.underlying t with
  | some .bool | some (.int _) | some .string => P.cellsOf t == 1
  | some (.slice e) => P.cellsOf t == 1 && decide (0 < P.cellsOf e) && flatOk P n e
  | some (.struct fs) => (fs.toList.foldl (fun (o : Option Nat) f => o.bind fun o => if f.offset == o && flatOk P n f.type then some (o + P.cellsOf f.type) else none) (some 0)) == some (P.cellsOf t)
  | _ => false

section
variable {H : Type} {enc : TypeId × Value → H} {P : Program} {w : World} {base : Nat} {spare : Nat → Bool} {held : Bool}
structure Opened (P : Program) (w : World) (t : TypeId) (n : Nat) (cs : List Value) (d : D) : Prop where
 ty : TyD P n t d
 wide : d.wide (P.cellsOf t)
 rel : VsRel w (fun b => b < w.heap.size) noPhi cs d.cells
theorem opened_one {t : TypeId} {n : Nat} {v : Value} {d : D} (hd : d.cells = [d]) (ho : d.one = true) (hty : TyD P n t d) (hc : P.cellsOf t = 1) (r : VRel w (fun b => b < w.heap.size) noPhi v d) : Opened P w t n [v] d :=
 ⟨hty, ⟨by rw [hd, hc]; rfl, by rw [hd]; simp [ho]⟩, by rw [hd]; exact .cons r .nil⟩
theorem fields_open {n : Nat} {cs : List Value} {fuel : Nat} (ih : ∀ (t : TypeId) (fuel : Nat) (cs : List Value) (x : DataW H × List MemPlace), flatOk P n t = true → DataW.trod enc P w base spare held fuel t cs = some x → ∃ d, Opened P w t n cs d) :
  ∀ (l : List Field) (o m : Nat) (xs : List (DataW H × List MemPlace)), l.foldl (fun (o : Option Nat) f => o.bind fun o => if f.offset == o && flatOk P n f.type then some (o + P.cellsOf f.type) else none) (some o) = some m → m = cs.length → xs.length = l.length →
   (∀ (i : Nat) (f : Field), l[i]? = some f → DataW.trod enc P w base spare held fuel f.type ((cs.drop f.offset).take (P.cellsOf f.type)) = xs[i]?) →
   ∃ ps : List D, ps.length = l.length ∧ (∀ (i : Nat) (f : Field) (p : D), l[i]? = some f → ps[i]? = some p → TyD P n f.type p) ∧ (ps.flatMap D.cells).all D.one = true ∧ VsRel w (fun b => b < w.heap.size) noPhi (cs.drop o) (ps.flatMap D.cells) := by
 intro l
 induction l with
 | nil =>
  intro o m xs hf hm _ _
  simp at hf
  subst hf
  exact ⟨[], rfl, fun i f p h => by simp at h, rfl, by rw [List.drop_eq_nil_of_le (by omega)]; exact .nil⟩
 | cons f l ihl =>
  intro o m xs hf hm hl hx
  rw [List.foldl_cons] at hf
  simp only [Option.bind_some] at hf
  have none_fold : ∀ l : List Field, l.foldl (fun (o : Option Nat) f => o.bind fun o => if f.offset == o && flatOk P n f.type then some (o + P.cellsOf f.type) else none) none = none := by
   intro l; induction l with | nil => rfl | cons f l ih => simpa using ih
  by_cases hc : (f.offset == o && flatOk P n f.type) = true
  ·rw [if_pos hc] at hf
   simp only [Bool.and_eq_true, beq_iff_eq] at hc
   cases xs with
   | nil => simp at hl
   | cons x xs =>
    have h0 := hx 0 f rfl
    simp only [List.getElem?_cons_zero] at h0
    obtain ⟨d, hd⟩ := ih _ _ _ _ hc.2 h0
    obtain ⟨ps, p1, p2, p3, p4⟩ := ihl _ m xs hf hm (by simpa using hl) (fun i g hg => by have := hx (i + 1) g (by simpa using hg); simpa using this)
    refine ⟨d :: ps, by simp [p1], fun i g p hg hp => ?_, by rw [List.flatMap_cons, List.all_append, hd.wide.2, p3]; rfl, ?_⟩
    ·cases i with
     | zero => simp at hg hp; subst hg; subst hp; exact hd.ty
     | succ i => exact p2 i g p (by simpa using hg) (by simpa using hp)
    ·rw [List.flatMap_cons]
     have hsplit : cs.drop o = (cs.drop f.offset).take (P.cellsOf f.type) ++ cs.drop (o + P.cellsOf f.type) := by
      rw [hc.1, ← List.drop_drop, List.take_append_drop]
     rw [hsplit]
     exact hd.rel.append p4
  ·rw [if_neg hc, none_fold] at hf; cases hf
theorem open_D : ∀ (n : Nat) (t : TypeId) (fuel : Nat) (cs : List Value) (x : DataW H × List MemPlace), flatOk P n t = true → DataW.trod enc P w base spare held fuel t cs = some x → ∃ d, Opened P w t n cs d := by
 intro n
 induction n with
 | zero => intro t fuel cs x hf; simp [flatOk] at hf
 | succ n ih =>
  intro t fuel cs x hf hx
  cases hu : P.underlying t with
  | none => simp [flatOk, hu] at hf
  | some u =>
   cases u <;> try (simp [flatOk, hu] at hf; done)
   case bool =>
    simp only [flatOk, hu, beq_iff_eq] at hf
    obtain ⟨b, rfl, _⟩ := DataW.trod_bool hu hx
    exact ⟨.bool b, opened_one rfl rfl (by simp [TyD, hu]) hf .bool⟩
   case int k =>
    simp only [flatOk, hu, beq_iff_eq] at hf
    obtain ⟨m, rfl, _, hw⟩ := DataW.trod_int hu hx
    exact ⟨.int k m, opened_one rfl rfl (by simp [TyD, hu, hw]) hf .int⟩
   case string =>
    simp only [flatOk, hu, beq_iff_eq] at hf
    obtain ⟨s, rfl, _, hs⟩ := DataW.trod_string hu hx
    exact ⟨.str s, opened_one rfl rfl (by simp [TyD, hu, hs]) hf .str⟩
   case struct fs =>
    simp only [flatOk, hu, beq_iff_eq] at hf
    obtain ⟨xs, m, _, hl, h1, h2, h3⟩ := DataW.trod_struct hu hx
    obtain ⟨ps, p1, p2, p3, p4⟩ := fields_open (n := n) (cs := cs) (fuel := m) ih fs.toList 0 (P.cellsOf t) xs hf (by omega) (by simpa using h2) (fun i f hi => h3 i f (by simpa using hi))
    rw [List.drop_zero] at p4
    refine ⟨.agg (ps.flatMap D.cells), ⟨?_, ⟨?_, p3⟩, p4⟩⟩
    ·simp only [TyD, hu]
     exact ⟨ps, rfl, by simpa using p1, fun i f p hi hp => p2 i f p (by simpa using hi) hp⟩
    ·have := p4.1
     show (ps.flatMap D.cells).length = _
     omega
   case slice e =>
    simp only [flatOk, hu, Bool.and_eq_true, beq_iff_eq, decide_eq_true_eq] at hf
    obtain ⟨⟨hc1, hpos⟩, hfe⟩ := hf
    rcases DataW.trod_slice hu hx with ⟨rfl, _⟩ | ⟨a, len, cap, elems, rest, m, _, rfl, _, hb, hl, hm, hlen, hel, _, _⟩
    ·cases hue : P.underlying e with
     | none => cases n <;> simp [flatOk, hue] at hfe
     | some ue =>
      by_cases hk : ∃ k, ue = .int k
      ·obtain ⟨k, rfl⟩ := hk
       exact ⟨.ints k [], opened_one rfl rfl (by simp [TyD, hu, hue]) hc1 (.ints (xs := []) (Nat.le_refl _) 0 0 (fun h => absurd rfl h) (fun i hi => by simp at hi))⟩
      ·refine ⟨.list (P.cellsOf e) [], opened_one rfl rfl ?_ hc1 (.list (xs := []) (Nat.le_refl _) 0 0 (fun _ _ => default) (fun h => absurd rfl h) (fun i d h => by simp at h) (fun i d j c h => by simp at h) (fun i d j c h => by simp at h))⟩
       simp only [TyD, hu, hue]
       cases ue <;> first | exact absurd ⟨_, rfl⟩ hk | exact ⟨[], rfl, Nat.zero_le _, fun x hx => by simp at hx⟩
    ·have each : ∀ i, i < len → ∃ c d, w.cells? base (a.add (i * P.cellsOf e)) (P.cellsOf e) = some c ∧ Opened P w e n c d := fun i hi => by
      have h1 := hel i hi
      rw [List.getElem?_eq_getElem (by omega)] at h1
      obtain ⟨c, h2, h3⟩ := Option.bind_eq_some_iff.1 h1
      obtain ⟨d, hd⟩ := ih _ _ _ _ hfe h3
      exact ⟨c, d, h2, hd⟩
     have all : ∀ k, k ≤ len → ∃ ds : List D, ds.length = k ∧ ∀ (j : Nat) (d : D), ds[j]? = some d → ∃ c, w.cells? base (a.add (j * P.cellsOf e)) (P.cellsOf e) = some c ∧ Opened P w e n c d := by
      intro k
      induction k with
      | zero => intro _; exact ⟨[], rfl, fun j d h => by simp at h⟩
      | succ k ihk =>
       intro hk
       obtain ⟨ds, g1, g2⟩ := ihk (by omega)
       obtain ⟨c, d, g3, g4⟩ := each k (by omega)
       refine ⟨ds ++ [d], by simp [g1], fun j z hz => ?_⟩
       by_cases hj : j < ds.length
       ·rw [List.getElem?_append_left hj] at hz; exact g2 j z hz
       ·rw [List.getElem?_append_right (by omega)] at hz
        have hj0 : j - ds.length = 0 := by have := (List.getElem?_eq_some_iff.1 hz).1; simp at this; omega
        rw [hj0] at hz
        simp at hz; subst hz
        have : j = k := by omega
        subst this
        exact ⟨c, g3, g4⟩
     obtain ⟨ds, g1, g2⟩ := all len (Nat.le_refl _)
     -- the place
     have place : 0 < len → ∃ B o, a = ⟨B, o, none⟩ ∧ B < w.heap.size := fun hl0 => by
      obtain ⟨c, d, g3, g4⟩ := each 0 hl0
      obtain ⟨_, h6, h7⟩ := World.cells?_some g3
      have h8 := h7 0 (by omega)
      rw [Nat.zero_mul, Addr.add_zero', Addr.add_zero'] at h8
      have hcl : 0 < c.length := by omega
      rw [List.getElem?_eq_getElem hcl] at h8
      have hs := World.cell?_spot h8
      have hb := World.block_lt_of_cell? _ _ h8
      exact ⟨a.block, a.off, by cases a; simp_all, hb⟩
     obtain ⟨B, o, hBo⟩ : ∃ B o, 0 < len → a = ⟨B, o, none⟩ ∧ B < w.heap.size := by
      by_cases hl0 : 0 < len
      ·obtain ⟨B, o, h1, h2⟩ := place hl0; exact ⟨B, o, fun _ => ⟨h1, h2⟩⟩
      ·exact ⟨0, 0, fun h => absurd h hl0⟩
     have cells : ∀ (i : Nat) (d : D), ds[i]? = some d → d.wide (P.cellsOf e) ∧ ∀ (j : Nat) (y : D), d.cells[j]? = some y → ∃ v, w.cell? ⟨B, o + (i * P.cellsOf e + j), none⟩ = some v ∧ VRel w (fun b => b < w.heap.size) noPhi v y := fun i d hd => by
      obtain ⟨c, h3, h4⟩ := g2 i d hd
      have hi := (List.getElem?_eq_some_iff.1 hd).1
      obtain ⟨rfl, _⟩ := hBo (by omega)
      obtain ⟨_, h6, h7⟩ := World.cells?_some h3
      refine ⟨h4.wide, fun j y hy => ?_⟩
      have hj := (List.getElem?_eq_some_iff.1 hy).1
      have hcl := h4.rel.1
      have hcj : c[j]? = some (c[j]'(by omega)) := List.getElem?_eq_getElem (by omega)
      have h8 := h7 j (by omega)
      rw [addr_add, addr_add, Nat.add_assoc] at h8
      exact ⟨_, by rw [h8]; exact hcj, h4.rel.2 j _ y hcj hy⟩
     cases hue : P.underlying e with
     | none => cases n <;> simp [flatOk, hue] at hfe
     | some ue =>
      by_cases hk : ∃ k, ue = .int k
      ·obtain ⟨k, rfl⟩ := hk
       have hn : ∃ n', n = n' + 1 := by cases n with | zero => simp [flatOk] at hfe | succ n' => exact ⟨n', rfl⟩
       obtain ⟨n', rfl⟩ := hn
       simp only [flatOk, hue, beq_iff_eq] at hfe
       have ints : ∀ (i : Nat) (d : D), ds[i]? = some d → ∃ m, d = .int k m ∧ (Lit.int k m).wf = true := fun i d hd => by
        obtain ⟨c, _, h4⟩ := g2 i d hd
        have := h4.ty
        simpa only [TyD, hue] using this
       refine ⟨.ints k (ds.map fun d => match d with | .int _ m => m | _ => 0), opened_one rfl rfl ?_ hc1 ?_⟩
       ·simp only [TyD, hu, hue]
        refine ⟨_, rfl, by rw [List.length_map, g1]; exact Nat.le_trans hl hm, fun x hx => ?_⟩
        obtain ⟨d, hd, rfl⟩ := List.mem_map.1 hx
        obtain ⟨i, hi⟩ := List.getElem?_of_mem hd
        obtain ⟨m, rfl, hw⟩ := ints i d hi
        exact hw
       ·have key := VRel.ints (w := w) (S := fun b => b < w.heap.size) (φ := noPhi) (a := some a) (cap := cap) (k := k) (xs := ds.map fun d => match d with | .int _ m => m | _ => 0) (by rw [List.length_map, g1]; exact hl) B o
         (fun hne => by
          have : 0 < len := by rw [← g1]; exact List.length_pos_iff.2 fun e => hne (by rw [e]; rfl)
          obtain ⟨h1, h2⟩ := hBo this
          exact ⟨by rw [h1], h2⟩) (fun i hi => by
          rw [List.length_map] at hi
          have hd : ds[i]? = some (ds[i]'hi) := List.getElem?_eq_getElem hi
          obtain ⟨m, hm', _⟩ := ints i _ hd
          obtain ⟨_, h5⟩ := cells i _ hd
          obtain ⟨v, h6, h7⟩ := h5 0 (.int k m) (by rw [hm']; rfl)
          rw [hfe, Nat.mul_one, Nat.add_zero] at h6
          rw [h6, h7.int_inv]
          simp only [List.getD_eq_getElem?_getD, List.getElem?_map, hd, Option.map_some, Option.getD_some, hm'])
        rw [List.length_map, g1] at key
        exact key
      ·refine ⟨.list (P.cellsOf e) ds, opened_one rfl rfl ?_ hc1 ?_⟩
       ·simp only [TyD, hu, hue]
        have hgood : ∃ xs : List D, D.list (P.cellsOf e) ds = .list (P.cellsOf e) xs ∧ xs.length ≤ maxLen ∧ ∀ x ∈ xs, TyD P n e x := ⟨ds, rfl, by rw [g1]; exact Nat.le_trans hl hm, fun x hx => by
         obtain ⟨i, hi⟩ := List.getElem?_of_mem hx
         obtain ⟨c, _, h4⟩ := g2 i x hi
         exact h4.ty⟩
        cases ue <;> first | exact absurd ⟨_, rfl⟩ hk | exact hgood
       ·have key := VRel.list (w := w) (S := fun b => b < w.heap.size) (φ := noPhi) (a := some a) (cap := cap) (sz := P.cellsOf e) (xs := ds) (by rw [g1]; exact hl) B o (fun i j => (w.cell? ⟨B, o + (i * P.cellsOf e + j), none⟩).getD default)
         (fun hne => by
          have : 0 < len := by rw [← g1]; exact List.length_pos_iff.2 hne
          obtain ⟨h1, h2⟩ := hBo this
          exact ⟨by rw [h1], h2⟩) (fun i d hd => (cells i d hd).1) (fun i d j y hd hy => by
          obtain ⟨v, h1, _⟩ := (cells i d hd).2 j y hy
          rw [h1]; rfl) (fun i d j y hd hy => by
          obtain ⟨v, h1, h2⟩ := (cells i d hd).2 j y hy
          rw [h1]; exact h2)
        rw [g1] at key
        exact key
end
end Go.Proofs.YtlpbmajbalenjaaA
namespace Go.Proofs.YtlpbmajbalenjaaA
open Go Go.RowKit Go.ChangeShapes

def Ev {α : Type} (g : Nat → Option α) (r : α) : Prop := ∃ K, ∀ k, K ≤ k → g k = some r
def Typed (P : Program) (ts : List TypeId) (zs : List D) : Prop := zs.length = ts.length ∧ ∀ (i : Nat) (t : TypeId) (z : D), ts[i]? = some t → zs[i]? = some z → TyD P 8 t z
section
variable {H : Type} {enc : TypeId × Value → H} {P : Program}
theorem whole_of {W : World} {base : Nat} {t : TypeId} {v : Value} {d : D} {n : Nat} (hok : Value.okWide P W .any base t v) (o : Opened P W t (n + 1) v.cells.toList d) : VRel W (fun b => b < W.heap.size) noPhi v d := by
 have hty := o.ty
 have one : ∀ {x : Value}, v = x → x.cells = #[x] → d.cells = [d] → VRel W (fun b => b < W.heap.size) noPhi v d := fun {x} hv hc hd => by
  subst hv
  have hr := o.rel
  rw [hc, hd] at hr
  exact hr.head
 simp only [TyD] at hty
 cases hu : P.underlying t with
 | none => rw [hu] at hty; exact hty.elim
 | some u =>
  rw [hu] at hty
  cases u <;> try exact hty.elim
  case bool => obtain ⟨b, rfl⟩ := hty; obtain ⟨x, hx⟩ := WideShapes.okWide_bool hu hok; exact one hx rfl rfl
  case int k => obtain ⟨m, rfl, _⟩ := hty; obtain ⟨x, hx⟩ := WideShapes.okWide_int hu hok; exact one hx rfl rfl
  case string => obtain ⟨m, rfl, _⟩ := hty; obtain ⟨x, hx⟩ := WideShapes.okWide_string hu hok; exact one hx rfl rfl
  case slice e =>
   obtain ⟨a, l, c, hx⟩ := WideShapes.okWide_slice hu hok
   have hd : d.cells = [d] := by
    simp only at hty
    split at hty
    ·obtain ⟨xs, rfl, _⟩ := hty; rfl
    ·obtain ⟨xs, rfl, _⟩ := hty; rfl
   exact one hx rfl hd
  case struct fs =>
   obtain ⟨ps, rfl, _⟩ := hty
   unfold Value.okWide at hok
   rw [hu] at hok
   obtain ⟨cs, rfl, _⟩ := hok
   exact VRel.agg_iff.2 o.rel
theorem args_open {W : World} {base : Nat} {spare : Nat → Bool} {held : Bool} : ∀ {ts : List TypeId} {vs : List Value} {ds : List (DataW H)} {p : List MemPlace}, DataW.TrodAll enc P W 0 spare held ts vs ds p → (∀ t ∈ ts, flatOk P 8 t = true) →
  (∀ (j : Nat) (t : TypeId) (v : Value), ts[j]? = some t → vs[j]? = some v → Value.okWide P W .any base t v) → ∃ zs, Typed P ts zs ∧ VsRel W (fun b => b < W.heap.size) noPhi vs zs := by
 intro ts
 induction ts with
 | nil =>
  intro vs ds p hA _ _
  obtain ⟨rfl, _, _⟩ := trodAll_nil hA
  exact ⟨[], ⟨rfl, fun i t z h => by simp at h⟩, .nil⟩
 | cons t ts ih =>
  intro vs ds p hA hf hok
  obtain ⟨v, vs', d, ds', q, q', rfl, rfl, rfl, ⟨fuel, h0⟩, r0⟩ := trodAll_cons hA
  obtain ⟨z, hz⟩ := open_D 8 t fuel _ _ (hf t (by simp)) h0
  obtain ⟨zs, h1, h2⟩ := ih r0 (fun t ht => hf t (by simp [ht])) (fun j t v hj hv => hok (j + 1) t v (by simpa using hj) (by simpa using hv))
  refine ⟨z :: zs, ⟨by simp [h1.1], fun i t' z' hi hz' => ?_⟩, .cons (whole_of (hok 0 t v rfl rfl) hz) h2⟩
  cases i with
  | zero => simp at hi hz'; subst hi; subst hz'; exact hz.ty
  | succ i => exact h1.2 i t' z' (by simpa using hi) (by simpa using hz')
theorem law_calls {C : Cx} {F : Forget} (hf : Fine C) {f : FuncId} {W : World} {base : Nat} {spare : Nat → Bool} {held : Bool} {ts : List TypeId} {args : Array Value} {ds : List (DataW H)} {p : List MemPlace} (hA : DataW.TrodAll enc C.P W 0 spare held ts args.toList ds p)
  (hfl : ∀ t ∈ ts, flatOk C.P 8 t = true) (hok : ∀ (j : Nat) (t : TypeId) (v : Value), ts[j]? = some t → args[j]? = some v → Value.okWide C.P W .any base t v)
  (hp : ∀ zs, Typed C.P ts zs → ∃ k h', run C F k f zs [] = some (.bool true, h')) : Calls C.P f args W fun e W' => e = .returned (.bool true) ∧ Below W.heap.size W W' := by
 obtain ⟨zs, h1, h2⟩ := args_open (base := base) hA hfl (fun j t v hj hv => hok j t v hj (by simpa using hv))
 obtain ⟨k, h', hr⟩ := hp zs h1
 have hc := (sound F hf k).1 f zs [] (.bool true) h' hr
 have := hc.2 W (fun b => b < W.heap.size) noPhi args.toList (hrel_nil W _ fun _ h => h) h2
 rw [Array.toArray_toList] at this
 refine this.mono fun e W' k => ?_
 obtain ⟨v, S', φ', rfl, hx, _, hv⟩ := k
 rw [hv.bool_inv]
 exact ⟨rfl, ⟨hx.os, hx.tape, hx.output, hx.size, fun b hb => hx.same b hb own_nil⟩⟩
theorem args_stay {W W' : World} (hl : laidOutB P = true) (bel : Below W.heap.size W W') : ∀ {ts : List TypeId} {vs : List Value} {ds : List (DataW H)} {p : List MemPlace}, DataW.TrodAll enc P W 0 (fun _ => true) true ts vs ds p → (∀ t ∈ ts, P.readableRec t = true ∧ t < P.types.size) →
  DataW.TrodAll enc P W' 0 (fun b => decide (b < W.heap.size)) true ts vs ds p := by
 intro ts
 induction ts with
 | nil =>
  intro vs ds p hA _
  obtain ⟨rfl, rfl, rfl⟩ := trodAll_nil hA
  exact trodAll_mk0
 | cons t ts ih =>
  intro vs ds p hA hr
  obtain ⟨v, vs', d, ds', q, q', rfl, rfl, rfl, h0, r0⟩ := trodAll_cons hA
  have lt0 : ∀ x ∈ q, x.block < W.heap.size := by obtain ⟨m, hm⟩ := h0; exact DataW.trod_lt m _ _ _ hm
  exact trodAll_cons_mk (Below.trod hl (hr t (by simp)).1 (hr t (by simp)).2 h0 bel lt0) (ih r0 fun t ht => hr t (by simp [ht]))
end
end Go.Proofs.YtlpbmajbalenjaaA
