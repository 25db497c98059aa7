/- One operation, and a region in the order of its text. -/
import Derived.Test.YtcmajlphfnihgaaA17
set_option linter.unusedVariables false
set_option linter.unusedSimpArgs false
namespace Go.Proofs.YtcmajlphfnihgaaA
open Go
variable {P : Program} {w w' : World} {S : Nat → Prop} {φ φ' : Phi} {h h' : Heap}

/-- The operation answers, or calls what answers, as the shadow says. -/
def GoodOp (P : Program) (w : World) (S : Nat → Prop) (φ : Phi) (h : Heap) (m : Sem Next) (d : D) (h' : Heap) : Prop :=
  Good P w S φ h m d h' ∨ ∃ f args, m.run P w = .ok (.enter f args) w ∧ Calls P f args w fun e w' => ∃ v S' φ', e = .returned v ∧ Ext w S φ h w' S' φ' h' ∧ HRel w' S' φ' h' ∧ VRel w' S' φ' v d
theorem GoodOp.wp {o : Oper} {a : Act} {d : D} (g : GoodOp P w S φ h (execOp a.eval o) d h') {K : Act → World → Prop} {Q : Exit → Act → World → Prop}
    (hK : ∀ v w' S' φ', Ext w S φ h w' S' φ' h' → HRel w' S' φ' h' → VRel w' S' φ' v d → K (a.put o.dst v) w') : o.wp P a w K Q := by
  unfold Oper.wp
  rcases g with ⟨v, w', S', φ', hr, h1, h2, h3⟩ | ⟨f, args, hr, hcall⟩
  · rcases hr with hr | ⟨hr, rfl⟩
    · rw [hr]; exact hK v w' S' φ' h1 h2 h3
    · rw [hr]; exact hK undef w' S' φ' h1 h2 h3
  · rw [hr]
    refine hcall.mono fun e w' k => ?_
    obtain ⟨v, S', φ', rfl, h1, h2, h3⟩ := k
    exact hK v w' S' φ' h1 h2 h3

theorem VRel.fn_inv {v : Value} {f : FuncId} {ds es : List D} (r : VRel w S φ v (.fn f ds es)) : ∃ as cs, v = .func (.func f) as cs ∧ VsRel w S φ as.toList ds ∧ VsRel w S φ cs.toList es := by
  cases r with
  | fn h1 h2 ha hc => exact ⟨_, _, rfl, ⟨by simpa using h1, fun i v d g1 g2 => ha i v d (by simpa using g1) g2⟩, ⟨by simpa using h2, fun i v d g1 g2 => hc i v d (by simpa using g1) g2⟩⟩
theorem callee_run {o : Oper} {c : Call} (ho : o.op = .call c) {ρ : Operand → Value} {σ : Env} (hρ : ∀ x, VRel w S φ (ρ x) (σ x)) {p : FuncId × List D} (e : callee c σ = some p)
    (hf : ∃ fn, P.funcs[p.1]? = some fn ∧ fn.body.isSome = true ∧ (fn.name == "runtime.NumGoroutine") = false) : ∃ vs : List Value, (execOp ρ o).run P w = .ok (.enter p.1 vs.toArray) w ∧ VsRel w S φ vs p.2 := by
  unfold callee at e
  split at e <;> try (cases e; done)
  rename_i x hx
  split at e <;> try (cases e; done)
  rename_i f a cp hfn
  cases e
  have rx := hρ x
  rw [hfn] at rx
  obtain ⟨as, cs, hv, r1, r2⟩ := rx.fn_inv
  obtain ⟨fn, g1, g2, g3⟩ := hf
  have g2' : fn.body.isNone = false := by cases hb : fn.body <;> simp_all
  refine ⟨as.toList ++ c.args.toList.map ρ ++ cs.toList, ?_, (r1.append (VsRel.map c.args.toList ρ σ fun y _ => hρ y)).append r2⟩
  have harr : (as.toList ++ c.args.toList.map ρ ++ cs.toList).toArray = as ++ c.args.map ρ ++ cs := by apply Array.ext'; simp
  rw [harr]
  simp only [execOp, ho, resolve, hx, hv, Deferred.ofValue, pure_bind, invoke, callFunc, Sem.run_bind, run_program, Result.andThen_ok, g1, g3, g2', Bool.false_eq_true, if_false, Sem.run_pure]

theorem bytesD_fold (xs : List Int) : bytesD xs = xs.foldl (fun r n => r.push (UInt8.ofNat n.toNat)) ByteArray.empty := by
  have key : ∀ (xs : List Int) (s : ByteArray), xs.foldl (fun r n => r.push (UInt8.ofNat n.toNat)) s = ⟨s.data ++ (xs.map fun n => UInt8.ofNat n.toNat).toArray⟩ := by
    intro xs
    induction xs with
    | nil => intro s; simp
    | cons x xs ih => intro s; rw [List.foldl_cons, ih]; simp [ByteArray.push]
  rw [key]
  simp [bytesD]
theorem bytes_run (H : HRel w S φ h) {src dst el : TypeId} (hs : P.underlying src = some (.slice el)) (hd : P.underlying dst = some .string) (he : P.underlying el = some (.int .u8)) {v : Value} {x : D} {xs : List Int} (r : VRel w S φ v x)
    (e : reify h DEPTH x = some (.ints .u8 xs)) : (convert src dst v).run P w = .ok (.string (bytesD xs)) w := by
  have hr := reify_sound H (S0 := fun _ => True) (fun _ _ => trivial) DEPTH v x _ r e (fun _ _ _ _ _ _ _ _ => trivial)
  cases hr with
  | @ints _ a cap _ _ hc B o ha hx =>
    rw [run_convert_bytes_string w src dst el a xs.length cap hs he hd, bytesD_fold]
    by_cases h0 : xs = []
    · subst h0
      cases a with
      | none => rfl
      | some a =>
        have := run_bytesToString (P := P) w a 0 cap [] (by simp [loadCells, loadCellsFrom])
        exact this
    · obtain ⟨rfl, _⟩ := ha h0
      refine run_bytesToString w ⟨B, o, none⟩ xs.length cap xs ?_
      have hl := run_loadCells (P := P) w ⟨B, o, none⟩ xs.length (fun j => .int .u8 (xs.getD j 0)) fun j hj => by rw [addr_add]; exact hx j hj
      rw [hl]
      congr 2
      apply List.ext_getElem?
      intro i
      rw [List.getElem?_map, List.getElem?_map]
      by_cases hi : i < xs.length
      · rw [List.getElem?_range hi, List.getElem?_eq_getElem hi]; simp [List.getD_eq_getElem?_getD, hi]
      · rw [List.getElem?_eq_none (by simp; omega), List.getElem?_eq_none (by omega)]; rfl

theorem opR_sound {C : Cx} {call : Run} (hc : CallOk C call) (H : HRel w S φ h) {o : Oper} {ρ : Operand → Value} {σ : Env} (hρ : ∀ x, VRel w S φ (ρ x) (σ x)) {d : D} (e : opR C call o σ h = some d) : GoodOp C.P w S φ h (execOp ρ o) d h := by
  unfold opR at e
  split at e
  · rename_i t p ho
    left
    simp only [execOp, ho]
    exact .quiet H (ld_sound H (hρ p) e)
  · rename_i src dst x ho
    left
    simp only [execOp, ho]
    split at e <;> try (cases e; done)
    rename_i el hs hd
    split at e <;> try (cases e; done)
    rename_i he
    split at e <;> try (cases e; done)
    rename_i xs hx
    cases e
    exact .quiet H ⟨_, bytes_run H hs hd he (hρ x) hx, .str⟩
  · rename_i c ho
    obtain ⟨p, hp, e2⟩ := Option.bind_eq_some_iff.1 e
    clear e
    split at e2 <;> try (cases e2; done)
    obtain ⟨ds, hds, e3⟩ := Option.bind_eq_some_iff.1 e2
    obtain ⟨r, hr, e4⟩ := Option.bind_eq_some_iff.1 e3
    clear e2 e3
    split at e4 <;> try (cases e4; done)
    rename_i hcond
    cases e4
    obtain ⟨g1, _⟩ := icall_sound hc hr
    obtain ⟨vs, v1, v2⟩ := callee_run (P := C.P) ho hρ hp g1
    obtain ⟨_, k2⟩ := call_apart hc H v2 hds hr
    right
    refine ⟨p.1, vs.toArray, v1, ?_⟩
    rw [if_pos hcond] at k2
    exact k2
  · cases e
theorem opW_sound {C : Cx} {call : Run} (hc : CallOk C call) (H : HRel w S φ h) {draw : Bool} {base : Nat} {o : Oper} {ρ : Operand → Value} {σ : Env} (hρ : ∀ x, VRel w S φ (ρ x) (σ x)) {d : D} (e : opW C call draw base o σ h = some (d, h')) :
    GoodOp C.P w S φ h (execOp ρ o) d h' := by
  unfold opW at e
  split at e
  · rename_i t a v ho
    obtain ⟨h1, hst, e2⟩ := Option.map_eq_some_iff.1 e
    cases e2
    obtain ⟨w', g1, g2, g3⟩ := st_sound H (hρ a) (hρ v) hst
    left
    refine ⟨undef, w', S, φ, .inr ⟨?_, rfl⟩, g3, g2, .tuple (by simp) fun i v d h => by simp at h⟩
    simp only [execOp, ho, Sem.run_bind, g1, Result.andThen_ok, Sem.run_pure]
  · rename_i c ho
    split at e
    · rename_i hcal
      split at e <;> try (cases e; done)
      rename_i x y t rest ha ht
      split at e <;> try (cases e; done)
      rename_i hrest
      obtain ⟨v, w', S', φ', g1, g2, g3, g4⟩ := appendD_sound H (hρ x) (hρ y) e ht hrest o.type
      have ha' : c.args.map ρ = #[ρ x, ρ y] := by
        have : c.args = #[x, y] := by rw [← Array.toArray_toList (xs := c.args), ha]
        rw [this]; simp
      left
      refine ⟨v, w', S', φ', .inl ?_, g2, g3, g4⟩
      simp only [execOp, ho, resolve, hcal, ha', pure_bind, invoke, builtin, Sem.run_bind, g1, Result.andThen_ok, Sem.run_pure]
    · rename_i hcal
      split at e <;> try (cases e; done)
      rename_i x y t rest ha ht
      obtain ⟨v, w', g1, g2, g3, g4⟩ := copyD_sound H (hρ x) (hρ y) e c.argTypes (by rw [← Array.getElem?_toList, ht]; rfl) o.type
      have ha' : c.args.map ρ = #[ρ x, ρ y] := by
        have : c.args = #[x, y] := by rw [← Array.toArray_toList (xs := c.args), ha]
        rw [this]; simp
      left
      refine ⟨v, w', S, φ, .inl ?_, g4, g3, g2⟩
      simp only [execOp, ho, resolve, hcal, ha', pure_bind, invoke, builtin, Sem.run_bind, g1, Result.andThen_ok, Sem.run_pure]
    · obtain ⟨p, hp, e2⟩ := Option.bind_eq_some_iff.1 e
      clear e
      split at e2
      · obtain ⟨g1, g2⟩ := hc _ _ _ _ _ e2
        obtain ⟨vs, v1, v2⟩ := callee_run (P := C.P) ho hρ hp g1
        exact .inr ⟨p.1, vs.toArray, v1, g2 w S φ vs H v2⟩
      · obtain ⟨ds, hds, e3⟩ := Option.bind_eq_some_iff.1 e2
        obtain ⟨r, hr, e4⟩ := Option.map_eq_some_iff.1 e3
        cases e4
        obtain ⟨g1, _⟩ := icall_sound hc hr
        obtain ⟨vs, v1, v2⟩ := callee_run (P := C.P) ho hρ hp g1
        obtain ⟨_, k2⟩ := call_apart hc H v2 hds hr
        exact .inr ⟨p.1, vs.toArray, v1, k2⟩
    · cases e
  · cases e
/-! ### reading with one more row -/
def Sub (h h' : Heap) : Prop := ∀ b v, h.get b v ≠ .dead → h'.get b v = h.get b v
theorem sub_set {h : Heap} {b : Nat} {B : Blk} (hB : h[b]? = some B) (hd : B.body = .dead) (B' : Blk) : Sub h (h.set b B') := by
  intro b' v hv
  by_cases hb : b = b'
  · subst hb
    unfold Heap.get at hv
    rw [hB] at hv
    simp only [hd, ite_self, ne_eq, not_true_eq_false] at hv
  · unfold Heap.get
    rw [List.getElem?_set_ne hb]
theorem cellsAt_sub {h h' : Heap} (s : Sub h h') {p : D} {cs : List D} (e : cellsAt h p = some cs) : cellsAt h' p = some cs := by
  cases p with
  | pref b v i off =>
    have hd : h.get b v ≠ .dead := fun hd => by simp [cellsAt, hd] at e
    simp only [cellsAt, s b v hd] at e ⊢
    exact e
  | ptr cs => exact e
  | _ => simp [cellsAt] at e
theorem ld_sub {P : Program} {h h' : Heap} (s : Sub h h') {t : TypeId} {p d : D} (e : ld P h t p = some d) : ld P h' t p = some d := by
  unfold ld at e ⊢
  obtain ⟨a, h1, e⟩ := Option.bind_eq_some_iff.1 e
  obtain ⟨z, h2, e⟩ := Option.bind_eq_some_iff.1 e
  obtain ⟨cs, h3, e⟩ := Option.bind_eq_some_iff.1 e
  simp only [h1, h2, cellsAt_sub s h3, Option.bind_some, e]
theorem mapM_sub {α β : Type} {f g : α → Option β} (hfg : ∀ a b, f a = some b → g a = some b) : ∀ {l : List α} {m : List β}, l.mapM f = some m → l.mapM g = some m
  | [], m, e => by simpa using e
  | x :: l, m, e => by
    rw [List.mapM_cons] at e ⊢
    obtain ⟨y, h1, e⟩ := Option.bind_eq_some_iff.1 e
    obtain ⟨ys, h2, e⟩ := Option.bind_eq_some_iff.1 e
    have g1 := hfg _ _ h1
    have g2 := mapM_sub hfg h2
    simp only [g1, g2]
    exact e
theorem reify_sub {h h' : Heap} (s : Sub h h') : ∀ (n : Nat) (d r : D), reify h n d = some r → reify h' n d = some r := by
  intro n
  induction n with
  | zero => intro d r e; exact e
  | succ n ih =>
    intro d r e
    cases d <;> simp only [reify] at e ⊢ <;> try exact e
    case agg cs => obtain ⟨m, h1, h2⟩ := Option.map_eq_some_iff.1 e; rw [mapM_sub ih h1]; exact h2 ▸ rfl
    case tuple cs => obtain ⟨m, h1, h2⟩ := Option.map_eq_some_iff.1 e; rw [mapM_sub ih h1]; exact h2 ▸ rfl
    case fn f a c =>
      obtain ⟨m, h1, e⟩ := Option.bind_eq_some_iff.1 e
      obtain ⟨m', h2, h3⟩ := Option.map_eq_some_iff.1 e
      rw [mapM_sub ih h1]
      simp only [Option.bind_some, mapM_sub ih h2]
      exact h3 ▸ rfl
    case sref b v sz off len =>
      have hd : h.get b v ≠ .dead := fun hd => by rw [hd] at e; cases e
      rw [s b v hd]; exact e
    case pref b v i off =>
      obtain ⟨cs, h1, e⟩ := Option.bind_eq_some_iff.1 e
      obtain ⟨m, h2, h3⟩ := Option.map_eq_some_iff.1 e
      rw [cellsAt_sub s h1]
      simp only [Option.bind_some, mapM_sub ih h2]
      exact h3 ▸ rfl
theorem opR_sub {C : Cx} {call : Run} {o : Oper} {σ : Env} {h h' : Heap} (s : Sub h h') {d : D} (e : opR C call o σ h = some d) : opR C call o σ h' = some d := by
  unfold opR at e ⊢
  split at e
  · exact ld_sub s e
  · split at e <;> try (cases e; done)
    split at e <;> try (cases e; done)
    split at e <;> try (cases e; done)
    rename_i hx
    simp only [*, reify_sub s _ _ _ hx]
  · obtain ⟨p, hp, e⟩ := Option.bind_eq_some_iff.1 e
    rw [hp]
    simp only [Option.bind_some]
    split at e <;> try (cases e; done)
    rename_i hsh
    obtain ⟨ds, h1, e⟩ := Option.bind_eq_some_iff.1 e
    rw [if_neg hsh, mapM_sub (fun a b => reify_sub s _ a b) h1]
    exact e
  · cases e

theorem sub_kill (h : Heap) (b : Nat) : Sub (kill1 h b) h := by
  intro b' v hv
  unfold Heap.get at hv ⊢
  rw [kill_get] at hv ⊢
  by_cases hb : b' = b
  · rw [if_pos hb] at hv ⊢
    cases hB : h[b']? with
    | none => rfl
    | some B => rw [hB] at hv; simp only [Option.map_some, ite_self, ne_eq, not_true_eq_false] at hv
  · rw [if_neg hb]
theorem sub_trans {h h' h'' : Heap} (a : Sub h h') (c : Sub h' h'') : Sub h h'' := fun b v hv => (c b v (by rw [a b v hv]; exact hv)).trans (a b v hv)
theorem sub_mask (base : Nat) : ∀ (m : List Nat) (h : Heap), Sub (maskH base m h) h
  | [], h => fun _ _ _ => rfl
  | t :: m, h => sub_trans (sub_mask base m (kill1 h (base + t))) (sub_kill h _)
theorem opv_sound {C : Cx} {call : Run} (hc : CallOk C call) (H : HRel w S φ h) {draw : Bool} {base : Nat} {o : Oper} {ρ : Operand → Value} {σ : Env} (hρ : ∀ x, VRel w S φ (ρ x) (σ x)) {m : List Nat} {d : D} (e : opv C call draw base m o σ h = some (d, h')) :
    GoodOp C.P w S φ h (execOp ρ o) d h' := by
  unfold opv at e
  split at e
  · obtain ⟨d', hd, e2⟩ := Option.map_eq_some_iff.1 e
    cases e2
    exact .inl (opP_sound H hρ hd)
  · obtain ⟨d', hd, e2⟩ := Option.map_eq_some_iff.1 e
    cases e2
    exact opR_sound hc H hρ (opR_sub (sub_mask base m h) hd)
  · obtain ⟨x, hx, e2⟩ := Option.bind_eq_some_iff.1 e
    exact .inl (opA_sound H hρ hx e2)
  · split at e <;> try (cases e; done)
    exact opW_sound hc H hρ e

/-- An activation, and the shadow's. -/
structure ARel (w : World) (S : Nat → Prop) (φ : Phi) (a : Act) (s : St) : Prop where
  tmps : VsRel w S φ a.tmps.toList s.tmps
  defers : a.defers = []
  heap : HRel w S φ s.heap
theorem ARel.ev {a : Act} {s : St} (r : ARel w S φ a s) (x : Operand) : VRel w S φ (a.eval x) (s.ev x) := by
  cases x with
  | tmp t =>
    have hl : a.tmps.size = s.tmps.length := by simpa using r.tmps.1
    show VRel w S φ (a.tmps.getD t undef) (s.tmps.getD t (.tuple []))
    by_cases ht : t < a.tmps.size
    · have h1 : a.tmps[t]? = some (a.tmps[t]'ht) := Array.getElem?_eq_getElem ht
      have ht2 : t < s.tmps.length := hl ▸ ht
      have h2 : s.tmps[t]? = some (s.tmps[t]'ht2) := List.getElem?_eq_getElem ht2
      rw [List.getD_eq_getElem?_getD, h2]
      simp only [Array.getD, ht, dif_pos, Option.getD_some]
      exact r.tmps.2 t _ _ (by rw [Array.getElem?_toList]; exact h1) h2
    · have ht2 : ¬ t < s.tmps.length := hl ▸ ht
      rw [List.getD_eq_getElem?_getD, List.getElem?_eq_none (Nat.le_of_not_lt ht2)]
      simp only [Array.getD, ht, dif_neg, not_false_eq_true, Option.getD_none]
      exact .tuple rfl fun i v d h => by simp at h
  | const v => exact .ofV v
  | global g => exact .top
  | func f => exact .fn rfl rfl (fun i v d h => by simp at h) (fun i v d h => by simp at h)
theorem ARel.put {a : Act} {s : St} (r : ARel w S φ a s) {w' : World} {S' : Nat → Prop} {φ' : Phi} {h' : Heap} (e : Ext w S φ s.heap w' S' φ' h') (H : HRel w' S' φ' h') {v : Value} {d : D} (rv : VRel w' S' φ' v d) (dst : Option Tmp) :
    ARel w' S' φ' (a.put dst v) ⟨putT s.tmps dst d, h'⟩ := by
  cases dst with
  | none => exact ⟨r.tmps.vrel r.heap e, r.defers, H⟩
  | some t =>
    refine ⟨⟨by simpa [Act.put, putT] using r.tmps.1, fun i x y h1 h2 => ?_⟩, r.defers, H⟩
    simp only [Act.put, putT, Array.getElem?_toList] at h1 h2
    by_cases hi : t = i
    · subst hi
      rw [List.getElem?_set] at h2
      rw [Array.getElem?_setIfInBounds] at h1
      simp at h1 h2
      rw [← h1.2, ← h2.2]; exact rv
    · rw [List.getElem?_set_ne hi] at h2
      rw [Array.getElem?_setIfInBounds_ne hi] at h1
      exact e.vrel r.heap (r.tmps.2 i x y (by simpa using h1) h2)
theorem want_sound {a : Act} {s : St} (r : ARel w S φ a s) {ops : Array Oper} {o : Oper} {b : Bool} (e : wantD ops o s = some b) : Region.wanted o (yielded ops a.tmps) = b := by
  unfold wantD at e
  unfold Region.wanted
  cases hg : o.guard with
  | none => rw [hg] at e; cases e; rfl
  | some p =>
    obtain ⟨j, want⟩ := p
    rw [hg] at e
    simp only at e ⊢
    cases ht : (ops[j]?).bind (·.dst) with
    | none => rw [ht] at e; cases e
    | some t =>
      rw [ht] at e
      simp only at e
      have hy : yielded ops a.tmps j = match a.tmps[t]? with | some (.bool b) => some b | _ => none := by
        unfold yielded; rw [ht]; rfl
      cases hs : s.tmps[t]? with
      | none => rw [List.getD_eq_getElem?_getD, hs] at e; cases e
      | some d =>
        have hl := r.tmps.1
        have hlt := (List.getElem?_eq_some_iff.1 hs).1
        have hsz : t < a.tmps.size := by
          have : a.tmps.size = s.tmps.length := by simpa using hl
          exact this ▸ hlt
        have hv : a.tmps[t]? = some (a.tmps[t]'hsz) := Array.getElem?_eq_getElem hsz
        have rv := r.tmps.2 t _ d (by rw [Array.getElem?_toList]; exact hv) hs
        rw [List.getD_eq_getElem?_getD, hs] at e
        rw [hy, hv]
        generalize a.tmps[t]'hsz = v at *
        cases d <;> simp only [Option.getD_some] at e <;> try (cases e; done)
        · cases e; rw [rv.bool_inv]; rfl
        · cases e; obtain ⟨vs, rfl, _⟩ := rv.tuple_inv; rfl
theorem opStep_sound {C : Cx} {call : Run} (hc : CallOk C call) {draw : Bool} {base : Nat} {ops : Array Oper} {i : Nat} {o : Oper} (ho : ops[i]? = some o) {a : Act} {s s' : St} (r : ARel w S φ a s) {m : List Nat} (e : opStep C call draw base ops m o s = some s')
    {K : Act → World → Prop} {Q : Exit → Act → World → Prop} (hK : ∀ a' w' S' φ', ARel w' S' φ' a' s' → Ext w S φ s.heap w' S' φ' s'.heap → K a' w') : wpOp C.P ops Q i K a w := by
  unfold opStep at e
  obtain ⟨b, hb, e2⟩ := Option.bind_eq_some_iff.1 e
  unfold wpOp
  rw [ho]
  simp only
  rw [want_sound r hb]
  cases b with
  | true =>
    simp only [if_true] at e2 ⊢
    obtain ⟨q, hq, e3⟩ := Option.map_eq_some_iff.1 e2
    cases e3
    left
    refine (opv_sound (h' := q.2) (d := q.1) hc r.heap r.ev hq).wp fun v w' S' φ' h1 h2 h3 => ?_
    exact hK _ w' S' φ' (r.put h1 h2 h3 o.dst) h1
  | false =>
    simp only [Bool.false_eq_true, if_false] at e2 ⊢
    cases e2
    exact hK _ w S φ (r.put (.refl ..) r.heap (.tuple (by simp [undef]) fun i v d h => by simp at h) o.dst) (.refl ..)
theorem opsRun_sound {C : Cx} {call : Run} (hc : CallOk C call) {draw : Bool} {base : Nat} {ops : Array Oper} {p : Plan} {Q : Exit → Act → World → Prop} : ∀ (L : List Nat) (l : List Oper) (n : Nat), (L.map fun i => ops[i]?) = l.map some → ∀ {w : World} {S : Nat → Prop} {φ : Phi} {a : Act} {s s' : St},
    ARel w S φ a s → opsRun C call draw base ops p n l s = some s' → (∀ a' w' S' φ', ARel w' S' φ' a' s' → Ext w S φ s.heap w' S' φ' s'.heap → Q .normal a' w') → wpOps C.P ops Q L a w := by
  intro L
  induction L with
  | nil =>
    intro l n hl w S φ a s s' r e hQ
    cases l with
    | nil => simp [opsRun] at e; subst e; exact hQ a w S φ r (.refl ..)
    | cons => simp at hl
  | cons i L ih =>
    intro l n hl w S φ a s s' r e hQ
    cases l with
    | nil => simp at hl
    | cons o l =>
      simp only [List.map_cons, List.cons.injEq] at hl
      obtain ⟨s1, h1, h2⟩ := Option.bind_eq_some_iff.1 e
      rw [wpOps_cons]
      refine opStep_sound hc hl.1 r h1 fun a' w' S' φ' r' x' => ?_
      exact ih l (n + 1) hl.2 r' h2 fun a2 w2 S2 φ2 r2 x2 => hQ a2 w2 S2 φ2 r2 (x'.trans x2)
end Go.Proofs.YtcmajlphfnihgaaA
