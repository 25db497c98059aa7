/- The machine comes to what the shadow comes to. -/
import Derived.Test.YtcmajlphfnihgaaA21
set_option linter.unusedVariables false
set_option linter.unusedSimpArgs false
namespace Go.Proofs.YtcmajlphfnihgaaA
open Go
variable {w : World} {S : Nat → Prop} {φ : Phi} {h : Heap}

def okCode (C : Cx) (f : FuncId) : Code → Bool
  | .region id ops draw => !draw || drawOk C ops (C.plan f id)
  | .seq x y => okCode C f x && okCode C f y
  | .cond _ x y => okCode C f x && okCode C f y
  | .block _ x => okCode C f x
  | .loop x => okCode C f x
  | _ => true
/-- What is to be known of a program, ahead. -/
structure Fine (C : Cx) : Prop where
  mixed : C.P.follows .mixedOrders = true
  name : ∀ (f : FuncId) (fn : Func), C.P.funcs[f]? = some fn → (fn.name == "runtime.NumGoroutine") = false
  draws : ∀ (f : FuncId) (fn : Func) (c : Code), C.ok f = true → C.P.funcs[f]? = some fn → fn.body = some c → okCode C f c = true

theorem ARel.heapTo {a : Act} {s : St} (r : ARel w S φ a s) {h' : Heap} (k : HRel w S φ h' ∧ Ext w S φ s.heap w S φ h') : ARel w S φ a ⟨s.tmps, h'⟩ := ⟨r.tmps, r.defers, k.1⟩
theorem kills (H : HRel w S φ h) : ∀ (l : List Nat), HRel w S φ (l.foldl (fun h t => kill1 h t) h) ∧ Ext w S φ h w S φ (l.foldl (fun h t => kill1 h t) h) := by
  intro l
  induction l generalizing h with
  | nil => exact ⟨H, .refl ..⟩
  | cons b l ih =>
    obtain ⟨g1, g2⟩ := kill_sound H b
    obtain ⟨k1, k2⟩ := ih g1
    exact ⟨k1, g2.trans k2⟩
theorem tops_rel : ∀ (l : List Nat) {vs : List Value} {ds : List D}, VsRel w S φ vs ds → VsRel w S φ vs (l.foldl (fun l t => l.set t .top) ds) := by
  intro l
  induction l with
  | nil => intro vs ds r; exact r
  | cons t l ih =>
    intro vs ds r
    refine ih ⟨by simp [r.1], fun i v d h1 h2 => ?_⟩
    rw [List.getElem?_set] at h2
    split at h2
    · split at h2
      · cases h2; exact .top
      · cases h2
    · exact r.2 i v d h1 h2
theorem forget_sound {a : Act} {s : St} (r : ARel w S φ a s) (base : Nat) (x : List Nat × List Nat) : ARel w S φ a (forget base x s) ∧ Ext w S φ s.heap w S φ (forget base x s).heap := by
  have h1 : x.2.foldl (fun h t => kill1 h (base + t)) s.heap = (x.2.map (base + ·)).foldl (fun h t => kill1 h t) s.heap := by rw [List.foldl_map]
  obtain ⟨k1, k2⟩ := kills r.heap (x.2.map (base + ·))
  refine ⟨⟨tops_rel x.1 r.tmps, r.defers, ?_⟩, ?_⟩
  · show HRel w S φ (x.2.foldl (fun h t => kill1 h (base + t)) s.heap)
    rw [h1]; exact k1
  · show Ext w S φ s.heap w S φ (x.2.foldl (fun h t => kill1 h (base + t)) s.heap)
    rw [h1]; exact k2
theorem killA_sound {C : Cx} (base : Nat) : ∀ (l : List Oper) {h : Heap}, HRel w S φ h → 
    HRel w S φ (l.foldl (fun h o => if cls C true o = .A then match o.dst with | some t => kill1 h (base + t) | none => h else h) h) ∧
    Ext w S φ h w S φ (l.foldl (fun h o => if cls C true o = .A then match o.dst with | some t => kill1 h (base + t) | none => h else h) h) := by
  intro l
  induction l with
  | nil => intro h H; exact ⟨H, .refl ..⟩
  | cons o l ih =>
    intro h H
    rw [List.foldl_cons]
    have step : HRel w S φ (if cls C true o = .A then match o.dst with | some t => kill1 h (base + t) | none => h else h) ∧ Ext w S φ h w S φ (if cls C true o = .A then match o.dst with | some t => kill1 h (base + t) | none => h else h) := by
      split
      · split
        · exact kill_sound H _
        · exact ⟨H, .refl ..⟩
      · exact ⟨H, .refl ..⟩
    obtain ⟨k1, k2⟩ := ih step.1
    exact ⟨k1, step.2.trans k2⟩
theorem kill_dead {h : Heap} {b b' : Nat} {B : Blk} (hd : ∀ B, h[b]? = some B → B.body = .dead) (e : (kill1 h b')[b]? = some B) : B.body = .dead := by
  rw [kill_get] at e
  split at e
  · obtain ⟨B0, _, rfl⟩ := Option.map_eq_some_iff.1 e; rfl
  · exact hd B e
theorem killA_waits {C : Cx} (base : Nat) : ∀ (l : List Oper) (h : Heap) (o : Oper), (o ∈ l ∨ Waits C base h o) → Waits C base (l.foldl (fun h o => if cls C true o = .A then match o.dst with | some t => kill1 h (base + t) | none => h else h) h) o := by
  intro l
  induction l with
  | nil => intro h o ho; exact ho.resolve_left (by simp)
  | cons x l ih =>
    intro h o ho
    rw [List.foldl_cons]
    refine ih _ o ?_
    rcases ho with ho | ho
    · rcases List.mem_cons.1 ho with rfl | ho
      · right
        intro ha t ht B hB
        rw [if_pos ha] at hB
        simp only [ht] at hB
        rw [kill_get, if_pos rfl] at hB
        obtain ⟨B0, _, rfl⟩ := Option.map_eq_some_iff.1 hB; rfl
      · exact .inl ho
    · right
      intro ha t ht B hB
      split at hB
      · split at hB
        · exact kill_dead (ho ha t ht) hB
        · exact ho ha t ht B hB
      · exact ho ha t ht B hB

/-! ### the rows of an activation -/
theorem more_sound (H : HRel w S φ h) (n : Nat) : HRel w S φ (h ++ List.replicate n noBlk) ∧ Ext w S φ h w S φ (h ++ List.replicate n noBlk) := by
  have get : ∀ {b : Nat} {B : Blk}, (h ++ List.replicate n noBlk)[b]? = some B → h[b]? = some B ∨ B = noBlk := fun {b B} e => by
    by_cases hb : b < h.length
    · rw [List.getElem?_append_left hb] at e; exact .inl e
    · rw [List.getElem?_append_right (by omega), List.getElem?_replicate] at e
      split at e
      · cases e; exact .inr rfl
      · cases e
  have live : ∀ {b : Nat} {B : Blk}, (h ++ List.replicate n noBlk)[b]? = some B → B.body ≠ .dead → h[b]? = some B := fun {b B} e hl => (get e).resolve_right fun e => hl (by rw [e]; rfl)
  refine ⟨⟨fun b B e => ?_, fun b b' B B' A x x' e e' hl hl' => H.inj b b' B B' A x x' (live e hl) (live e' hl') hl hl', fun b v x hp => ?_, H.lt⟩,
    ⟨rfl, rfl, rfl, Nat.le_refl _, fun _ h => h, fun _ _ _ h => h, fun _ _ _ => rfl, fun _ h => .inl h, fun A ho => ?_⟩⟩
  · rcases get e with e | rfl
    · exact H.blk b B e
    · exact .dead
  · obtain ⟨B, h1, h2, h3⟩ := H.dom b v x hp
    exact ⟨B, by rw [List.getElem?_append_left (List.getElem?_eq_some_iff.1 h1).1]; exact h1, h2, h3⟩
  · obtain ⟨b, B, x, h1, h2, h3, h4⟩ := ho
    exact .inl ⟨b, B, x, live h1 h2, h2, h3, h4⟩
theorem tidy_sound (H : HRel w S φ h) (n : Nat) : HRel w S φ (tidy h n) ∧ Ext w S φ h w S φ (tidy h n) := by
  unfold tidy
  split
  · rename_i hall
    have take : ∀ {b : Nat} {B : Blk}, (h.take n)[b]? = some B → h[b]? = some B := fun {b B} e => by
      rw [List.getElem?_take] at e
      split at e
      · exact e
      · cases e
    refine ⟨⟨fun b B e => H.blk b B (take e), fun b b' B B' A x x' e e' => H.inj b b' B B' A x x' (take e) (take e'), fun b v x hp => ?_, H.lt⟩,
      ⟨rfl, rfl, rfl, Nat.le_refl _, fun _ h => h, fun _ _ _ h => h, fun _ _ _ => rfl, fun _ h => .inl h, fun A ho => ?_⟩⟩
    · obtain ⟨B, h1, h2, h3⟩ := H.dom b v x hp
      by_cases hb : b < n
      · exact ⟨B, by rw [List.getElem?_take, if_pos hb]; exact h1, h2, h3⟩
      · exfalso
        rw [List.all_eq_true] at hall
        have hm : B ∈ h.drop n := List.mem_of_getElem? (i := b - n) (by rw [List.getElem?_drop, show n + (b - n) = b by omega]; exact h1)
        have := hall B hm
        simp at this
        omega
    · obtain ⟨b, B, x, h1, h2, h3, h4⟩ := ho
      exact .inl ⟨b, B, x, take h1, h2, h3, h4⟩
  · exact ⟨H, .refl ..⟩
theorem ld_var {P : Program} (H : HRel w S φ h) {t : TypeId} {x : Value} {p d : D} (r : VRel w S φ x p) (e : ld P h t p = some d) : ∃ A o y, x = .pointer (some ⟨A, o, none⟩) ∧ (loadVar t ⟨A, o, none⟩).run P w = .ok y w ∧ VRel w S φ y d := by
  unfold ld at e
  obtain ⟨a, ha, e⟩ := Option.bind_eq_some_iff.1 e
  obtain ⟨s, hs, e⟩ := Option.bind_eq_some_iff.1 e
  obtain ⟨cs, hc, e⟩ := Option.bind_eq_some_iff.1 e
  obtain ⟨A, o, rfl, hcs⟩ := cellsAt_sound H r hc
  obtain ⟨y, h1, h2⟩ := loadVar_sound ha hs hcs e
  exact ⟨A, o, y, rfl, h1, h2⟩
theorem mapM_runR {P : Program} {α : Type} (f : α → Sem Value) (g : α → Option D) (hfg : ∀ x d, g x = some d → ∃ v, (f x).run P w = .ok v w ∧ VRel w S φ v d) : ∀ (l : List α) (ds : List D), l.mapM g = some ds → ∃ vs, (l.mapM f).run P w = .ok vs w ∧ VsRel w S φ vs ds
  | [], ds, hd => by simp at hd; subst hd; exact ⟨[], rfl, .nil⟩
  | x :: l, ds, hd => by
    rw [List.mapM_cons] at hd
    obtain ⟨y, h1, hd⟩ := Option.bind_eq_some_iff.1 hd
    obtain ⟨ys, h2, hd⟩ := Option.bind_eq_some_iff.1 hd
    simp at hd; subst hd
    obtain ⟨vs, g1, g2⟩ := mapM_runR f g hfg l ys h2
    obtain ⟨v, k1, k2⟩ := hfg x y h1
    exact ⟨v :: vs, by rw [List.mapM_cons]; simp only [Sem.run_bind, k1, Result.andThen_ok, g1, Sem.run_pure], .cons k2 g2⟩
theorem results_sound {P : Program} {a : Act} {s : St} (r : ARel w S φ a s) {fn : Func} {d : D} (e : resultsD P fn s = some d) : ∃ v, (results fn a.tmps).run P w = .ok v w ∧ VRel w S φ v d := by
  unfold resultsD at e
  obtain ⟨ds, hds, e⟩ := Option.map_eq_some_iff.1 e
  have ev : ∀ t, VRel w S φ (a.tmps.getD t undef) (s.tmps.getD t (.tuple [])) := fun t => r.ev (.tmp t)
  obtain ⟨vs, g1, g2⟩ := mapM_runR (P := P) (fun (x : ResultVar) => match x with | .tmp t => pure (a.tmps.getD t undef) | .cell x t => do loadVar t (← asAddr (a.tmps.getD x undef))) _ (fun x d hd => by
    cases x with
    | tmp t => cases hd; exact ⟨_, rfl, ev t⟩
    | cell x t =>
      obtain ⟨A, o, y', k1, k2, k3⟩ := ld_var r.heap (ev x) hd
      exact ⟨y', by simp only [k1, asAddr, Sem.run_bind, Sem.run_pure, Result.andThen_ok, k2], k3⟩) fn.results.toList ds hds
  have hrun : (fn.results.mapM fun | .tmp t => pure (a.tmps.getD t undef) | .cell x t => do loadVar t (← asAddr (a.tmps.getD x undef)) : Sem (Array Value)).run P w = .ok vs.toArray w := by
    rw [Array.mapM_eq_mapM_toList, Sem.run_map, g1]; rfl
  have hres : (results fn a.tmps).run P w = ((fn.results.mapM fun | .tmp t => pure (a.tmps.getD t undef) | .cell x t => do loadVar t (← asAddr (a.tmps.getD x undef)) : Sem (Array Value)).run P w).andThen fun vs w' => .ok (if h : vs.size = 1 then vs[0] else .tuple vs) w' := by
    unfold results
    simp only [Sem.run_bind, Sem.run_pure]
    rfl
  rw [hres, hrun]
  refine ⟨_, rfl, ?_⟩
  subst e
  have hl := g2.1
  by_cases h1 : vs.length = 1
  · obtain ⟨v, rfl⟩ := List.length_eq_one_iff.1 h1
    obtain ⟨d, rfl⟩ := List.length_eq_one_iff.1 (hl.symm.trans h1)
    exact g2.head
  · have h2 : ¬ vs.toArray.size = 1 := by simpa using h1
    rw [dif_neg h2]
    split
    · simp at hl; exact absurd hl h1
    · exact VRel.tuple_iff.2 (by simpa using g2)

/-! ### code -/
def toExit : X → Exit
  | .normal => .normal
  | .exit id => .exit id
  | .ret => .ret
def ExecOk (C : Cx) (F : Forget) (k : Nat) : Prop := ∀ (f : FuncId) (base : Nat) (c : Code) (s : St) (x : X) (s' : St), okCode C f c = true → exec C F k f base c s = some (x, s') →
  ∀ (w : World) (S : Nat → Prop) (φ : Phi) (a : Act) (Q : Exit → Act → World → Prop), ARel w S φ a s → (∀ a' w' S' φ', ARel w' S' φ' a' s' → Ext w S φ s.heap w' S' φ' s'.heap → Q (toExit x) a' w') → c.wp C.P Q a w
def LoopOk (C : Cx) (F : Forget) (k : Nat) : Prop := ∀ (f : FuncId) (base : Nat) (c : Code) (s : St) (x : X) (s' : St), okCode C f c = true → exec C F k f base (.loop c) s = some (x, s') →
  ∀ (w : World) (S : Nat → Prop) (φ : Phi) (a : Act) (Q : Exit → Act → World → Prop), ARel w S φ a s → (∀ a' w' S' φ', ARel w' S' φ' a' s' → Ext w S φ s.heap w' S' φ' s'.heap → Q (toExit x) a' w') →
    ∀ (b : Frame) (kk : List Item) (cs : List Frame), ∃ e a' w', Q e a' w' ∧ Arrives C.P (lone (b.at a (.code c :: .inLoop c :: kk)) cs w) b kk cs e a' w'
theorem loop_step {C : Cx} {F : Forget} {k : Nat} (he : ExecOk C F k) (hl : LoopOk C F k) : LoopOk C F (k + 1) := by
  intro f base c s x s' hok e w S φ a Q r hQ b kk cs
  rw [exec] at e
  obtain ⟨⟨x1, s1⟩, h1, h2⟩ := Option.bind_eq_some_iff.1 e
  have := he f base c s x1 s1 hok h1 w S φ a (fun e a' w' => (e = toExit x1) ∧ ∃ S' φ', ARel w' S' φ' a' s1 ∧ Ext w S φ s.heap w' S' φ' s1.heap) r (fun a' w' S' φ' r' x' => ⟨rfl, S', φ', r', x'⟩) b (.inLoop c :: kk) cs
  obtain ⟨e1, a1, w1, ⟨he1, S1, φ1, r1, x1'⟩, harr⟩ := this
  subst he1
  cases x1 with
  | normal =>
    obtain ⟨e2, a2, w2, hq2, harr2⟩ := hl f base c s1 x s' hok h2 w1 S1 φ1 a1 Q r1 (fun a' w' S' φ' r' x' => hQ a' w' S' φ' r' (x1'.trans x')) b kk cs
    exact ⟨e2, a2, w2, hq2, .of_steps (Steps.trans harr (.one step_inLoop)) harr2⟩
  | exit id =>
    cases h2
    exact ⟨_, a1, w1, hQ a1 w1 S1 φ1 r1 x1', .pass (x := .inLoop c) rfl (fun _ _ => .inl (by simp [toExit])) harr⟩
  | ret =>
    cases h2
    exact ⟨_, a1, w1, hQ a1 w1 S1 φ1 r1 x1', .pass (x := .inLoop c) rfl (fun _ _ => .inl (by simp [toExit])) harr⟩
theorem exec_step {C : Cx} {F : Forget} (hf : Fine C) {k : Nat} (hc : CallOk C (run C F k)) (he : ExecOk C F k) (hl : LoopOk C F (k + 1)) : ExecOk C F (k + 1) := by
  intro f base c s x s' hok e w S φ a Q r hQ
  cases c with
  | skip => rw [exec] at e; cases e; exact wp_skip (hQ a w S φ r (.refl ..))
  | label l => rw [exec] at e; cases e; exact wp_label (hQ a w S φ r (.refl ..))
  | region id ops draw =>
    rw [exec] at e
    obtain ⟨s1, h1, h2⟩ := Option.map_eq_some_iff.1 e
    cases h2
    obtain ⟨r1, x1⟩ := forget_sound r base (F f id)
    cases draw with
    | false =>
      simp only [Bool.false_eq_true, if_false] at h1
      refine wp_region (opsRun_sound hc (List.range ops.size) ops.toList 0 ?_ r1 h1 fun a' w' S' φ' r' x' => hQ a' w' S' φ' r' (x1.trans x'))
      apply List.ext_getElem?
      intro i
      rw [List.getElem?_map, List.getElem?_map]
      by_cases hi : i < ops.size
      · rw [List.getElem?_range hi]; simp [hi]
      · rw [List.getElem?_eq_none (by simp; omega), List.getElem?_eq_none (by simp; omega)]; rfl
    | true =>
      simp only [if_true] at h1
      simp only [okCode, Bool.not_true, Bool.false_or] at hok
      obtain ⟨k1, k2⟩ := killA_sound (C := C) base ops.toList r1.heap
      exact draw_sound hc hf.mixed hok (a := a) (s := killA C base ops.toList (forget base (F f id) s)) ⟨r1.tmps, r1.defers, k1⟩ (fun o ho => killA_waits base ops.toList _ o (.inl (by simpa using ho))) h1
        (fun a' w' S' φ' r' x' => hQ a' w' S' φ' r' ((x1.trans k2).trans x')) id
  | seq x1 y1 =>
    rw [exec] at e
    simp only [okCode, Bool.and_eq_true] at hok
    obtain ⟨⟨e1, s1⟩, h1, h2⟩ := Option.bind_eq_some_iff.1 e
    refine wp_seq (he f base x1 s e1 s1 hok.1 h1 w S φ a _ r fun a' w' S' φ' r' x' => ?_)
    cases e1 with
    | normal => exact he f base y1 s1 x s' hok.2 h2 w' S' φ' a' Q r' fun a2 w2 S2 φ2 r2 x2 => hQ a2 w2 S2 φ2 r2 (x'.trans x2)
    | exit id => cases h2; exact hQ a' w' S' φ' r' x'
    | ret => cases h2; exact hQ a' w' S' φ' r' x'
  | cond c x1 y1 =>
    rw [exec] at e
    simp only [okCode, Bool.and_eq_true] at hok
    have rc := r.ev c
    split at e <;> try (cases e; done)
    rename_i t hct
    rw [hct] at rc
    refine wp_cond rc.bool_inv ?_
    cases t with
    | true => exact he f base x1 s x s' hok.1 e w S φ a Q r hQ
    | false => exact he f base y1 s x s' hok.2 e w S φ a Q r hQ
  | block id x1 =>
    rw [exec] at e
    simp only [okCode] at hok
    obtain ⟨⟨e1, s1⟩, h1, h2⟩ := Option.map_eq_some_iff.1 e
    refine wp_block (he f base x1 s e1 s1 hok h1 w S φ a _ r fun a' w' S' φ' r' x' => ?_)
    cases e1 with
    | normal => cases h2; exact hQ a' w' S' φ' r' x'
    | exit id' =>
      simp only at h2
      show (if id' = id then Q .normal a' w' else Q (.exit id') a' w')
      split at h2
      · rename_i hid; cases h2; rw [if_pos hid]; exact hQ a' w' S' φ' r' x'
      · rename_i hid; cases h2; rw [if_neg hid]; exact hQ a' w' S' φ' r' x'
    | ret => cases h2; exact hQ a' w' S' φ' r' x'
  | loop c =>
    intro b kk cs
    obtain ⟨e', a', w', hq, harr⟩ := hl f base c s x s' hok e w S φ a Q r hQ b kk cs
    exact ⟨e', a', w', hq, .of_steps (.one step_loop) harr⟩
  | exit id => rw [exec] at e; cases e; exact wp_exit (hQ a w S φ r (.refl ..))
  | ret => rw [exec] at e; cases e; exact wp_ret (hQ a w S φ r (.refl ..))
  | _ => simp [exec] at e
theorem run_step {C : Cx} {F : Forget} (hf : Fine C) {k : Nat} (he : ExecOk C F k) : CallOk C (run C F (k + 1)) := by
  intro f ds h d h' e
  rw [run] at e
  obtain ⟨fn, hfn, e2⟩ := Option.bind_eq_some_iff.1 e
  obtain ⟨c, hc, e3⟩ := Option.bind_eq_some_iff.1 e2
  clear e e2
  split at e3 <;> try (cases e3; done)
  rename_i hcond
  obtain ⟨⟨x, s'⟩, h1, h2⟩ := Option.bind_eq_some_iff.1 e3
  clear e3
  refine ⟨⟨fn, hfn, by rw [hc]; rfl, hf.name f fn hfn⟩, fun w S φ vs H rv => ?_⟩
  obtain ⟨m1, m2⟩ := more_sound H fn.ntmps
  have hsz : vs.toArray.size = ds.length := by simpa using rv.1
  have r0 : ARel w S φ { tmps := vs.toArray ++ Array.replicate (fn.ntmps - vs.toArray.size) undef, defers := [] } ⟨ds ++ List.replicate (fn.ntmps - ds.length) (.tuple []), h ++ List.replicate fn.ntmps noBlk⟩ := by
    refine ⟨?_, rfl, m1⟩
    have : (vs.toArray ++ Array.replicate (fn.ntmps - vs.toArray.size) undef).toList = vs ++ List.replicate (fn.ntmps - ds.length) undef := by
      rw [hsz]; simp
    simp only [this]
    exact rv.append (.replicate _ (.tuple rfl fun i v d h => by simp at h))
  refine calls_of_wp hfn hc (he f h.length c _ x s' (hf.draws f fn c hcond.1 hfn hc) h1 w S φ _ _ r0 fun a' w' S' φ' r' x' => ?_)
  have fin : (∃ d', resultsD C.P fn s' = some d' ∧ (d', tidy s'.heap h.length) = (d, h')) → a'.defers = [] ∧ ∃ v, (results fn a'.tmps).run C.P w' = .ok v w' ∧ ∃ v_1 S' φ', Ending.returned v = Ending.returned v_1 ∧ Ext w S φ h w' S' φ' h' ∧ HRel w' S' φ' h' ∧ VRel w' S' φ' v_1 d := by
    rintro ⟨d', hd', he'⟩
    cases he'
    obtain ⟨v, g1, g2⟩ := results_sound r' hd'
    obtain ⟨t1, t2⟩ := tidy_sound r'.heap h.length
    exact ⟨r'.defers, v, g1, v, S', φ', rfl, (m2.trans x').trans t2, t1, g2⟩
  cases x with
  | normal => exact fin (by obtain ⟨d', g1, g2⟩ := Option.map_eq_some_iff.1 h2; exact ⟨d', g1, g2⟩)
  | ret => exact fin (by obtain ⟨d', g1, g2⟩ := Option.map_eq_some_iff.1 h2; exact ⟨d', g1, g2⟩)
  | exit id => cases h2
/-- The machine comes to what the shadow comes to. -/
theorem sound {C : Cx} (F : Forget) (hf : Fine C) : ∀ k, CallOk C (run C F k) ∧ ExecOk C F k ∧ LoopOk C F k := by
  intro k
  induction k with
  | zero => exact ⟨(fun f ds h d h' e => by simp [run] at e), (fun f base c s x s' _ e => by simp [exec] at e), (fun f base c s x s' _ e => by simp [exec] at e)⟩
  | succ k ih =>
    obtain ⟨h1, h2, h3⟩ := ih
    have h4 := loop_step h2 h3
    exact ⟨run_step hf h2, exec_step hf h1 h2 h4, h4⟩
end Go.Proofs.YtcmajlphfnihgaaA
