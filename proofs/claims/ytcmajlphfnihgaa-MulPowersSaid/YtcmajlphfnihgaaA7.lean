/- Operations that touch no memory, continued: places, parts, rows that are written out. -/
import Derived.Test.YtcmajlphfnihgaaA6
set_option linter.unusedVariables false
set_option linter.unusedSimpArgs false
namespace Go.Proofs.YtcmajlphfnihgaaA
open Go
variable {P : Program} {w w' : World} {S : Nat → Prop} {φ φ' : Phi} {h h' : Heap}

/-- The operation answers as the shadow says, and all else goes on. -/
def Good (P : Program) (w : World) (S : Nat → Prop) (φ : Phi) (h : Heap) (m : Sem Next) (d : D) (h' : Heap) : Prop :=
  ∃ v w' S' φ', (m.run P w = .ok (.value v) w' ∨ (m.run P w = .ok .skip w' ∧ v = undef)) ∧ Ext w S φ h w' S' φ' h' ∧ HRel w' S' φ' h' ∧ VRel w' S' φ' v d
theorem Good.quiet (H : HRel w S φ h) {s : Sem Value} {d : D} (k : ∃ v, s.run P w = .ok v w ∧ VRel w S φ v d) : Good P w S φ h (do pure (Next.value (← s))) d h := by
  obtain ⟨v, h1, h2⟩ := k
  exact ⟨v, w, S, φ, .inl (by simp [h1]), .refl .., H, h2⟩
theorem Good.now (H : HRel w S φ h) {v : Value} {d : D} (k : VRel w S φ v d) : Good P w S φ h (pure (Next.value v)) d h := ⟨v, w, S, φ, .inl rfl, .refl .., H, k⟩

/-- A block is made that is read alone. -/
theorem frozen_new (H : HRel w S φ h) (hos : w'.os = w.os) (htape : w'.tape = w.tape) (hout : w'.output = w.output) (hsz : w'.heap.size = w.heap.size + 1) (hh : ∀ i, i < w.heap.size → w'.heap[i]? = w.heap[i]?) :
    HRel w' (fun A => S A ∨ A = w.heap.size) φ h ∧ Ext w S φ h w' (fun A => S A ∨ A = w.heap.size) φ h := by
  have hmono : ∀ v d, VRel w S φ v d → VRel w' (fun A => S A ∨ A = w.heap.size) φ v d := fun v d r => r.mono (fun _ h => .inl h) (fun b hb => hh b (H.lt b hb)) fun _ _ _ h => h
  refine ⟨⟨fun b B e => ?_, H.inj, H.dom, fun b hb => ?_⟩, ⟨hos, htape, hout, by omega, fun _ h => .inl h, fun _ _ _ h => h, fun b hb _ => hh b hb, fun b hb => ?_, fun b hb => .inl hb⟩⟩
  · exact (H.blk b B e).go B.fz rfl hmono (fun A x hp hl => hh A (live_some H e hl hp).1) fun A x hp hl => by
      have := live_some H e hl hp
      cases hf : B.fz with
      | true => rw [if_pos rfl]; exact .inl (this.2.1 hf)
      | false => rw [if_neg (by simp)]; exact fun hs => hs.elim (this.2.2 hf) (fun e => by omega)
  · rcases hb with hb | rfl
    · have := H.lt b hb; omega
    · omega
  · rcases hb with hb | rfl
    · exact .inl hb
    · exact .inr (.inr (Nat.le_refl _))

/-! ### nil, as of a type -/
theorem norm1_sound (t : TypeId) {v : Value} {d : D} (r : VRel w S φ v d) : VRel w S φ v (norm1 P t d) := by
  cases d <;> try exact r
  case nilS =>
    obtain ⟨a, rfl⟩ := r.nilS_inv
    simp only [norm1]
    split
    · split
      · exact .ints (xs := []) (Nat.le_refl _) 0 0 (fun h => absurd rfl h) (fun i hi => by simp at hi)
      · split
        · exact .list (xs := []) (Nat.le_refl _) 0 0 (fun _ _ => default) (fun h => absurd rfl h) (fun i d h => by simp at h) (fun i d j c h => by simp at h) (fun i d j c h => by simp at h)
        · exact r
    · exact r
  case lit d => exact bare_vrel r
theorem zip_get {α β γ : Type} (f : α → β → γ) (l : List α) (m : List β) (tl : List γ) (i : Nat) : (l.zipWith f m ++ tl)[i]? = if h : i < l.length ∧ i < m.length then some (f (l[i]'h.1) (m[i]'h.2)) else tl[i - min l.length m.length]? := by
  by_cases hi : i < l.length ∧ i < m.length
  · rw [dif_pos hi, List.getElem?_append_left (by simp; omega), List.getElem?_zipWith, List.getElem?_eq_getElem hi.1, List.getElem?_eq_getElem hi.2]
  · rw [dif_neg hi, List.getElem?_append_right (by simp; omega)]; simp
theorem normL_sound {α : Type} (f : α → D → D) (hf : ∀ a v d, VRel w S φ v d → VRel w S φ v (f a d)) (ts : List α) {vs : List Value} {ds : List D} (r : VsRel w S φ vs ds) : VsRel w S φ vs (ts.zipWith f ds ++ ds.drop ts.length) := by
  refine ⟨by rw [List.length_append, List.length_zipWith, List.length_drop]; have := r.1; omega, fun i v d h1 h2 => ?_⟩
  rw [zip_get] at h2
  by_cases hi : i < ts.length ∧ i < ds.length
  · rw [dif_pos hi] at h2
    simp at h2; subst h2
    exact hf _ _ _ (r.2 i v _ h1 (List.getElem?_eq_getElem hi.2))
  · rw [dif_neg hi, List.getElem?_drop] at h2
    have hv := (List.getElem?_eq_some_iff.1 h1).1
    have hr := r.1
    refine r.2 i v d h1 ?_
    rw [← h2]; congr 1; omega
theorem VRel.agg_iff {vs : Array Value} {ds : List D} : VRel w S φ (.agg vs) (.agg ds) ↔ VsRel w S φ vs.toList ds :=
  ⟨fun r => by cases r with | agg hl hx => exact ⟨by simpa using hl, fun i v d h1 h2 => hx i v d (by simpa using h1) h2⟩, fun r => .agg (by simpa using r.1) fun i v d h1 h2 => r.2 i v d (by simpa using h1) h2⟩
theorem VRel.tuple_iff {vs : Array Value} {ds : List D} : VRel w S φ (.tuple vs) (.tuple ds) ↔ VsRel w S φ vs.toList ds :=
  ⟨fun r => by cases r with | tuple hl hx => exact ⟨by simpa using hl, fun i v d h1 h2 => hx i v d (by simpa using h1) h2⟩, fun r => .tuple (by simpa using r.1) fun i v d h1 h2 => r.2 i v d (by simpa using h1) h2⟩
theorem VRel.agg_inv {v : Value} {ds : List D} (r : VRel w S φ v (.agg ds)) : ∃ vs, v = .agg vs ∧ VsRel w S φ vs.toList ds := by
  cases r with | agg hl hx => exact ⟨_, rfl, VRel.agg_iff.1 (.agg hl hx)⟩
theorem VRel.tuple_inv {v : Value} {ds : List D} (r : VRel w S φ v (.tuple ds)) : ∃ vs, v = .tuple vs ∧ VsRel w S φ vs.toList ds := by
  cases r with | tuple hl hx => exact ⟨_, rfl, VRel.tuple_iff.1 (.tuple hl hx)⟩
theorem norm_sound (t : TypeId) {v : Value} {d : D} (r : VRel w S φ v d) : VRel w S φ v (norm P t d) := by
  cases d <;> try exact norm1_sound (P := P) t r
  case agg ds =>
    obtain ⟨vs, rfl, rs⟩ := r.agg_inv
    exact VRel.agg_iff.2 (normL_sound (norm1 P) (fun a v d => norm1_sound a) _ rs)
theorem normR_sound (ts : List TypeId) {v : Value} {d : D} (r : VRel w S φ v d) : VRel w S φ v (normR P ts d) := by
  have one : ∀ d, VRel w S φ v d → VRel w S φ v (match ts with | [t] => norm P t d | _ => d) := fun d r => by
    split
    · exact norm_sound _ r
    · exact r
  cases d <;> try exact one _ r
  case tuple ds =>
    obtain ⟨vs, rfl, rs⟩ := r.tuple_inv
    exact VRel.tuple_iff.2 (normL_sound (norm P) (fun a v d => norm_sound a) _ rs)

/-! ### places -/
theorem offOf_run {s : TypeId} {f off : Nat} (e : offOf P s f = some off) (A o : Nat) : (Instr.fieldAt s (.pointer (some ⟨A, o, none⟩)) f).run P w = .ok (.pointer (some ⟨A, o + off, none⟩)) w := by
  unfold offOf at e
  split at e
  · rename_i fs hu
    obtain ⟨x, hx, e⟩ := Option.bind_eq_some_iff.1 e
    obtain ⟨z, hz, e⟩ := Option.bind_eq_some_iff.1 e
    by_cases h0 : z = 0
    · rw [if_pos h0] at e; cases e
    · rw [if_neg h0] at e; cases e
      simp [Instr.fieldAt, run_underlying hu, hx, Instr.sureAddr, fieldPlace, run_szOf hz, h0, addr_add]
  · cases e
theorem elem_run {t e : TypeId} (he : elemOf? P t = some e) : P.underlying t = some (.slice e) := by
  unfold elemOf? at he
  split at he
  · rename_i e' hu; cases he; exact hu
  · cases he
theorem index_run {t e : TypeId} {s : Nat} (he : elemOf? P t = some e) (hs : szOf P e = some s) {A o len cap i : Nat} {k : IntKind} (hi : i < len) :
    (Instr.indexAt t (.slice (some ⟨A, o, none⟩) len cap) (.int k (i : Int))).run P w = .ok (.pointer (some ⟨A, o + i * s, none⟩)) w := by
  have hu := elem_run he
  simp [Instr.indexAt, run_underlying hu, asIntOf, run_szOf hs, addr_add, hi]
theorem indexD_sound {t : TypeId} {x ix : Value} {a b d : D} (e : indexD P t a b = some d) (ra : VRel w S φ x a) (rb : VRel w S φ ix b) : ∃ v, (Instr.indexAt t x ix).run P w = .ok v w ∧ VRel w S φ v d := by
  unfold indexD at e
  obtain ⟨el, he, e⟩ := Option.bind_eq_some_iff.1 e
  obtain ⟨s, hs, e⟩ := Option.bind_eq_some_iff.1 e
  cases b with
  | int k i =>
    obtain rfl := rb.int_inv
    simp only at e
    by_cases h0 : 0 ≤ i
    · rw [if_pos h0] at e
      obtain ⟨i, rfl⟩ := Int.eq_ofNat_of_zero_le h0
      have ra := bare_vrel ra
      generalize a.bare = a at *
      cases ra with
      | @ints _ a cap k' xs hc B o ha hx =>
        simp only at e
        by_cases h1 : s = 1
        · by_cases h2 : ((i : Nat) : Int) < (xs.length : Int)
          · simp only [h1, h2, if_true, Option.some.injEq, Int.toNat_natCast] at e
            subst e; subst h1
            have hi : i < xs.length := by omega
            obtain ⟨rfl, hB⟩ := ha (fun e => by subst e; simp at hi)
            refine ⟨_, index_run he hs hi, ?_⟩
            rw [Nat.mul_one]
            refine .ptr (fun _ => .int k' (xs.getD i 0)) hB (fun j c hj => ?_) (fun j c hj => ?_)
            · cases j with
              | zero => simp at hj; rw [Nat.add_zero]; exact hx i hi
              | succ j => simp at hj
            · cases j with
              | zero => simp at hj; subst hj; simp only [List.getD_eq_getElem?_getD]; exact .int
              | succ j => simp at hj
          · simp only [h1, h2, if_true, if_false] at e; cases e
        · simp only [h1, if_false] at e; cases e
      | @list _ a cap sz xs hc B o vs ha hsz hx hv =>
        simp only at e
        by_cases h1 : s = sz
        · simp only [h1, if_true, Int.toNat_natCast] at e
          obtain ⟨y, hy, e⟩ := Option.map_eq_some_iff.1 e
          subst e; subst h1
          have hi : i < xs.length := (List.getElem?_eq_some_iff.1 hy).1
          obtain ⟨rfl, hB⟩ := ha (fun e => by subst e; simp at hi)
          exact ⟨_, index_run he hs hi, .ptr (vs i) hB (fun j c hj => by rw [Nat.add_assoc]; exact hx i y j c hy hj) (fun j c hj => hv i y j c hy hj)⟩
        · simp only [h1, if_false] at e; cases e
      | @sref _ A b' u sz n off len cap hp hc hn =>
        simp only at e
        by_cases h1 : s = sz
        · by_cases h2 : ((i : Nat) : Int) < (len : Int)
          · simp only [h1, h2, if_true, Option.some.injEq, Int.toNat_natCast] at e
            subst e; subst h1
            refine ⟨_, index_run he hs (by omega), ?_⟩
            rw [← Nat.add_mul]
            exact .pref (off := 0) hp
          · simp only [h1, h2, if_true, if_false] at e; cases e
        · simp only [h1, if_false] at e; cases e
      | sref0 =>
        simp only at e
        by_cases h2 : ((i : Nat) : Int) < ((0 : Nat) : Int)
        · omega
        · simp only [h2, if_false] at e; split at e <;> cases e
      | _ => simp at e
    · rw [if_neg h0] at e; cases e
  | _ => simp at e
/-! ### parts -/
theorem field_sound {t : TypeId} {f : Nat} {x : Value} {cs : List D} {fs : Array Field} {y : Field} {a : Bool} {s : Nat} {d : D} (hu : P.underlying t = some (.struct fs)) (hf : fs[f]? = some y) (ha : aggB P y.type = some a) (hs : szOf P y.type = some s)
    (r : VRel w S φ x (.agg cs)) (e : ldCells a s (cs.drop y.offset) = some d) : ∃ v, (Instr.field t x f).run P w = .ok v w ∧ VRel w S φ v d := by
  obtain ⟨vs, rfl, hl, hx⟩ := r.agg_inv
  have go : (Instr.field t (.agg vs) f).run P w = (part y.type vs y.offset).run P w := by
    simp [Instr.field, run_underlying hu, hf, asAgg]
  rw [go]
  cases a with
  | true =>
    simp only [ldCells, if_true] at e
    by_cases hle : s ≤ (cs.drop y.offset).length
    · rw [if_pos hle] at e; cases e
      rw [List.length_drop] at hle
      have hl' : vs.size = cs.length := by simpa using hl
      refine ⟨.agg (vs.extract y.offset (y.offset + s)), by simp [part, run_isAgg ha, run_szOf hs], .agg (by simp; omega) fun i v d h1 h2 => ?_⟩
      rw [List.getElem?_take] at h2
      by_cases hi : i < s
      · rw [if_pos hi, List.getElem?_drop] at h2
        rw [Array.getElem?_extract] at h1
        split at h1
        · exact hx (y.offset + i) v d (by simpa using h1) h2
        · cases h1
      · rw [if_neg hi] at h2; cases h2
    · rw [if_neg hle] at e; cases e
  | false =>
    simp only [ldCells, Bool.false_eq_true, if_false, List.head?_drop] at e
    have hi := (List.getElem?_eq_some_iff.1 e).1
    have hl' : vs.size = cs.length := by simpa using hl
    have hv : vs[y.offset]? = some (vs[y.offset]'(by omega)) := Array.getElem?_eq_getElem (by omega)
    exact ⟨_, by simp only [part, Sem.run_bind, run_isAgg ha, Result.andThen_ok, Bool.false_eq_true, if_false, hv]; rfl, hx y.offset _ d (by simp) e⟩
theorem extract_sound {x : Value} {vs : List D} {i : Nat} {d : D} (r : VRel w S φ x (.tuple vs)) (e : vs[i]? = some d) : ∃ v, (Instr.extract x i).run P w = .ok v w ∧ VRel w S φ v d := by
  obtain ⟨us, rfl, hl, hx⟩ := r.tuple_inv
  have hi := (List.getElem?_eq_some_iff.1 e).1
  have hl' : us.size = vs.length := by simpa using hl
  have hv : us[i]? = some (us[i]'(by omega)) := Array.getElem?_eq_getElem (by omega)
  exact ⟨us[i]'(by omega), by simp only [Instr.extract, hv]; rfl, hx i _ d (by rw [Array.getElem?_toList]; exact hv) e⟩
/-! ### parts of rows and of texts -/
theorem bound_run {o : Option D} {q : Option Value} {dflt most n : Nat} {code : BoundsCode} (e : boundD o dflt most = some n) (r : ∀ d, o = some d → ∃ v, q = some v ∧ VRel w S φ v d) (hn : o = none → q = none) :
    (match q with | some v => Instr.sliceBound v most code | none => pure dflt).run P w = .ok n w ∧ (n ≤ most ∨ n = dflt) := by
  cases o with
  | none =>
    rw [hn rfl]
    simp only [boundD, Option.some.injEq] at e
    subst e
    exact ⟨rfl, .inr rfl⟩
  | some d =>
    obtain ⟨v, rfl, rv⟩ := r d rfl
    cases d with
    | int k i =>
      obtain rfl := rv.int_inv
      simp only [boundD] at e
      by_cases h0 : 0 ≤ i
      · by_cases h1 : i ≤ (most : Int)
        · simp only [h0, h1, if_true, Option.some.injEq] at e
          subst e
          exact ⟨by simp [Instr.sliceBound, asIntOf, h0, h1], .inl (by omega)⟩
        · simp only [h0, h1, if_true, if_false] at e; cases e
      · simp only [h0, if_false] at e; cases e
    | _ => simp [boundD] at e
end Go.Proofs.YtcmajlphfnihgaaA
