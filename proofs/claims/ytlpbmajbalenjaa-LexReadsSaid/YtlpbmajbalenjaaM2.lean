/- Operations that touch no memory, continued: places, parts, rows that are written out. -/
import Derived.Test.YtlpbmajbalenjaaM1
import Derived.Laws.StructEq
import GoSem.Builtin.Clear
set_option linter.unusedVariables false
set_option linter.unusedSimpArgs false
namespace Go.Proofs.YtlpbmajbalenjaaA
open Go
variable {P : Program} {w w' : World} {S : Nat → Prop} {φ φ' : Phi} {h h' : Heap}

def Good (P : Program) (w : World) (S : Nat → Prop) (φ : Phi) (h : Heap) (m : Sem Next) (d : D) (h' : Heap) : Prop :=
 ∃ v w' S' φ', (m.run P w = .ok (.value v) w' ∨ (m.run P w = .ok .skip w' ∧ v = undef)) ∧ Ext w S φ h w' S' φ' h' ∧ HRel w' S' φ' h' ∧ VRel w' S' φ' v d
theorem Good.quiet (H : HRel w S φ h) {s : Sem Value} {d : D} (k : ∃ v, s.run P w = .ok v w ∧ VRel w S φ v d) : Good P w S φ h (do pure (Next.value (← s))) d h := by
 obtain ⟨v, h1, h2⟩ := k
 exact ⟨v, w, S, φ, .inl (by simp [h1]), .refl .., H, h2⟩
theorem Good.now (H : HRel w S φ h) {v : Value} {d : D} (k : VRel w S φ v d) : Good P w S φ h (pure (Next.value v)) d h := ⟨v, w, S, φ, .inl rfl, .refl .., H, k⟩

theorem frozen_new (H : HRel w S φ h) (hos : w'.os = w.os) (htape : w'.tape = w.tape) (hout : w'.output = w.output) (hsz : w'.heap.size = w.heap.size + 1) (hh : ∀ i, i < w.heap.size → w'.heap[i]? = w.heap[i]?) :
  HRel w' (fun A => S A ∨ A = w.heap.size) φ h ∧ Ext w S φ h w' (fun A => S A ∨ A = w.heap.size) φ h := by
 have hmono : ∀ v d, VRel w S φ v d → VRel w' (fun A => S A ∨ A = w.heap.size) φ v d := fun v d r => r.mono (fun _ h => .inl h) (fun b hb => hh b (H.lt b hb)) fun _ _ _ h => h
 refine ⟨⟨fun b B e => ?_, H.inj, H.dom, fun b hb => ?_⟩, ⟨hos, htape, hout, by omega, fun _ h => .inl h, fun _ _ _ h => h, fun b hb _ => hh b hb, fun b hb => ?_, fun b hb => .inl hb⟩⟩
 ·exact (H.blk b B e).go B.fz rfl hmono (fun A x hp hl => hh A (live_some H e hl hp).1) fun A x hp hl => by
   have := live_some H e hl hp
   cases hf : B.fz with
   | true => rw [if_pos rfl]; exact .inl (this.2.1 hf)
   | false => rw [if_neg (by simp)]; exact fun hs => hs.elim (this.2.2 hf) (fun e => by omega)
 ·rcases hb with hb | rfl
  ·have := H.lt b hb; omega
  ·omega
 ·rcases hb with hb | rfl
  ·exact .inl hb
  ·exact .inr (.inr (Nat.le_refl _))

theorem norm1_sound (t : TypeId) {v : Value} {d : D} (r : VRel w S φ v d) : VRel w S φ v (norm1 P t d) := by
 cases d <;> try exact r
 case nilS =>
  obtain ⟨a, rfl⟩ := r.nilS_inv
  simp only [norm1]
  split
  ·split
   ·exact .ints (xs := []) (Nat.le_refl _) 0 0 (fun h => absurd rfl h) (fun i hi => by simp at hi)
   ·split
    ·exact .list (xs := []) (Nat.le_refl _) 0 0 (fun _ _ => default) (fun h => absurd rfl h) (fun i d h => by simp at h) (fun i d j c h => by simp at h) (fun i d j c h => by simp at h)
    ·exact r
  ·exact r
 case nilM =>
  cases r
  simp only [norm1]
  split
  ·exact .mlit0
  ·exact .nilM
 case lit d => exact bare_vrel r
theorem zip_get {α β γ : Type} (f : α → β → γ) (l : List α) (m : List β) (tl : List γ) (i : Nat) : (l.zipWith f m ++ tl)[i]? = if h : i < l.length ∧ i < m.length then some (f (l[i]'h.1) (m[i]'h.2)) else tl[i - min l.length m.length]? := by
 by_cases hi : i < l.length ∧ i < m.length
 ·rw [dif_pos hi, List.getElem?_append_left (by simp; omega), List.getElem?_zipWith, List.getElem?_eq_getElem hi.1, List.getElem?_eq_getElem hi.2]
 ·rw [dif_neg hi, List.getElem?_append_right (by simp; omega)]; simp
theorem normL_sound {α : Type} (f : α → D → D) (hf : ∀ a v d, VRel w S φ v d → VRel w S φ v (f a d)) (ts : List α) {vs : List Value} {ds : List D} (r : VsRel w S φ vs ds) : VsRel w S φ vs (ts.zipWith f ds ++ ds.drop ts.length) := by
 refine ⟨by rw [List.length_append, List.length_zipWith, List.length_drop]; have := r.1; omega, fun i v d h1 h2 => ?_⟩
 rw [zip_get] at h2
 by_cases hi : i < ts.length ∧ i < ds.length
 ·rw [dif_pos hi] at h2
  simp at h2; subst h2
  exact hf _ _ _ (r.2 i v _ h1 (List.getElem?_eq_getElem hi.2))
 ·rw [dif_neg hi, List.getElem?_drop] at h2
  have hv := (List.getElem?_eq_some_iff.1 h1).1
  have hr := r.1
  refine r.2 i v d h1 ?_
  rw [← h2]; congr 1; omega
theorem VRel.agg_iff {vs : Array Value} {ds : List D} : VRel w S φ (.agg vs) (.agg ds) ↔ VsRel w S φ vs.toList ds :=
 ⟨fun r => by cases r with | agg hl hx => exact ⟨by simpa using hl, fun i v d h1 h2 => hx i v d (by simpa using h1) h2⟩, fun r => .agg (by simpa using r.1) fun i v d h1 h2 => r.2 i v d (by simpa using h1) h2⟩
theorem VRel.tuple_iff {vs : Array Value} {ds : List D} : VRel w S φ (.tuple vs) (.tuple ds) ↔ VsRel w S φ vs.toList ds :=
 ⟨fun r => by cases r with | tuple hl hx => exact ⟨by simpa using hl, fun i v d h1 h2 => hx i v d (by simpa using h1) h2⟩, fun r => .tuple (by simpa using r.1) fun i v d h1 h2 => r.2 i v d (by simpa using h1) h2⟩
theorem VRel.agg_inv {v : Value} {ds : List D} (r : VRel w S φ v (.agg ds)) : ∃ vs, v = .agg vs ∧ VsRel w S φ vs.toList ds := by
 cases r with | agg hl hx => exact ⟨_, rfl, VRel.agg_iff.1 (.agg hl hx)⟩
theorem VRel.tuple_inv {v : Value} {ds : List D} (r : VRel w S φ v (.tuple ds)) : ∃ vs, v = .tuple vs ∧ VsRel w S φ vs.toList ds := by
 cases r with | tuple hl hx => exact ⟨_, rfl, VRel.tuple_iff.1 (.tuple hl hx)⟩
theorem norm_sound (t : TypeId) {v : Value} {d : D} (r : VRel w S φ v d) : VRel w S φ v (norm P t d) := by
 cases d <;> try exact norm1_sound (P := P) t r
 case agg ds =>
  obtain ⟨vs, rfl, rs⟩ := r.agg_inv
  exact VRel.agg_iff.2 (normL_sound (norm1 P) (fun a v d => norm1_sound a) _ rs)
theorem normR_sound (ts : List TypeId) {v : Value} {d : D} (r : VRel w S φ v d) : VRel w S φ v (normR P ts d) := by
 have one : ∀ d, VRel w S φ v d → VRel w S φ v (match ts with | [t] => norm P t d | _ => d) := fun d r => by
  split
  ·exact norm_sound _ r
  ·exact r
 cases d <;> try exact one _ r
 case tuple ds =>
  obtain ⟨vs, rfl, rs⟩ := r.tuple_inv
  exact VRel.tuple_iff.2 (normL_sound (norm P) (fun a v d => norm_sound a) _ rs)

theorem offOf_run {s : TypeId} {f off : Nat} (e : offOf P s f = some off) (A o : Nat) : (Instr.fieldAt s (.pointer (some ⟨A, o, none⟩)) f).run P w = .ok (.pointer (some ⟨A, o + off, none⟩)) w := by
 unfold offOf at e
 split at e
 ·rename_i fs hu
  obtain ⟨x, hx, e⟩ := Option.bind_eq_some_iff.1 e
  obtain ⟨z, hz, e⟩ := Option.bind_eq_some_iff.1 e
  by_cases h0 : z = 0
  ·rw [if_pos h0] at e; cases e
  ·rw [if_neg h0] at e; cases e
   simp [Instr.fieldAt, run_underlying hu, hx, Instr.sureAddr, fieldPlace, run_szOf hz, h0, addr_add]
 ·cases e
theorem elem_run {t e : TypeId} (he : elemOf? P t = some e) : P.underlying t = some (.slice e) := by
 unfold elemOf? at he
 split at he
 ·rename_i e' hu; cases he; exact hu
 ·cases he
theorem index_run {t e : TypeId} {s : Nat} (he : elemOf? P t = some e) (hs : szOf P e = some s) {A o len cap i : Nat} {k : IntKind} (hi : i < len) :
  (Instr.indexAt t (.slice (some ⟨A, o, none⟩) len cap) (.int k (i : Int))).run P w = .ok (.pointer (some ⟨A, o + i * s, none⟩)) w := by
 have hu := elem_run he
 simp [Instr.indexAt, run_underlying hu, asIntOf, run_szOf hs, addr_add, hi]
theorem indexD_sound {t : TypeId} {x ix : Value} {a b d : D} (e : indexD P t a b = some d) (ra : VRel w S φ x a) (rb : VRel w S φ ix b) : ∃ v, (Instr.indexAt t x ix).run P w = .ok v w ∧ VRel w S φ v d := by
 unfold indexD at e
 obtain ⟨el, he, e⟩ := Option.bind_eq_some_iff.1 e
 obtain ⟨s, hs, e⟩ := Option.bind_eq_some_iff.1 e
 cases b with
 | int k i =>
  obtain rfl := rb.int_inv
  simp only at e
  by_cases h0 : 0 ≤ i
  ·rw [if_pos h0] at e
   obtain ⟨i, rfl⟩ := Int.eq_ofNat_of_zero_le h0
   have ra := bare_vrel ra
   generalize a.bare = a at *
   cases ra with
   | @ints _ a cap k' xs hc B o ha hx =>
    simp only at e
    by_cases h1 : s = 1
    ·by_cases h2 : ((i : Nat) : Int) < (xs.length : Int)
     ·simp only [h1, h2, if_true, Option.some.injEq, Int.toNat_natCast] at e
      subst e; subst h1
      have hi : i < xs.length := by omega
      obtain ⟨rfl, hB⟩ := ha (fun e => by subst e; simp at hi)
      refine ⟨_, index_run he hs hi, ?_⟩
      rw [Nat.mul_one]
      refine .ptr (fun _ => .int k' (xs.getD i 0)) hB (fun j c hj => ?_) (fun j c hj => ?_)
      ·cases j with
       | zero => simp at hj; rw [Nat.add_zero]; exact hx i hi
       | succ j => simp at hj
      ·cases j with
       | zero => simp at hj; subst hj; simp only [List.getD_eq_getElem?_getD]; exact .int
       | succ j => simp at hj
     ·simp only [h1, h2, if_true, if_false] at e; cases e
    ·simp only [h1, if_false] at e; cases e
   | @list _ a cap sz xs hc B o vs ha hsz hx hv =>
    simp only at e
    by_cases h1 : s = sz
    ·simp only [h1, if_true, Int.toNat_natCast] at e
     obtain ⟨y, hy, e⟩ := Option.map_eq_some_iff.1 e
     subst e; subst h1
     have hi : i < xs.length := (List.getElem?_eq_some_iff.1 hy).1
     obtain ⟨rfl, hB⟩ := ha (fun e => by subst e; simp at hi)
     exact ⟨_, index_run he hs hi, .ptr (vs i) hB (fun j c hj => by rw [Nat.add_assoc]; exact hx i y j c hy hj) (fun j c hj => hv i y j c hy hj)⟩
    ·simp only [h1, if_false] at e; cases e
   | @sref _ A b' u sz n off len cap hp hc hn =>
    simp only at e
    by_cases h1 : s = sz
    ·by_cases h2 : ((i : Nat) : Int) < (len : Int)
     ·simp only [h1, h2, if_true, Option.some.injEq, Int.toNat_natCast] at e
      subst e; subst h1
      refine ⟨_, index_run he hs (by omega), ?_⟩
      rw [← Nat.add_mul]
      exact .pref (off := 0) hp
     ·simp only [h1, h2, if_true, if_false] at e; cases e
    ·simp only [h1, if_false] at e; cases e
   | sref0 =>
    simp only at e
    by_cases h2 : ((i : Nat) : Int) < ((0 : Nat) : Int)
    ·omega
    ·simp only [h2, if_false] at e; split at e <;> cases e
   | _ => simp at e
  ·rw [if_neg h0] at e; cases e
 | _ => simp at e
theorem field_sound {t : TypeId} {f : Nat} {x : Value} {cs : List D} {fs : Array Field} {y : Field} {a : Bool} {s : Nat} {d : D} (hu : P.underlying t = some (.struct fs)) (hf : fs[f]? = some y) (ha : aggB P y.type = some a) (hs : szOf P y.type = some s)
  (r : VRel w S φ x (.agg cs)) (e : ldCells a s (cs.drop y.offset) = some d) : ∃ v, (Instr.field t x f).run P w = .ok v w ∧ VRel w S φ v d := by
 obtain ⟨vs, rfl, hl, hx⟩ := r.agg_inv
 have go : (Instr.field t (.agg vs) f).run P w = (part y.type vs y.offset).run P w := by
  simp [Instr.field, run_underlying hu, hf, asAgg]
 rw [go]
 cases a with
 | true =>
  simp only [ldCells, if_true] at e
  by_cases hle : s ≤ (cs.drop y.offset).length
  ·rw [if_pos hle] at e; cases e
   rw [List.length_drop] at hle
   have hl' : vs.size = cs.length := by simpa using hl
   refine ⟨.agg (vs.extract y.offset (y.offset + s)), by simp [part, run_isAgg ha, run_szOf hs], .agg (by simp; omega) fun i v d h1 h2 => ?_⟩
   rw [List.getElem?_take] at h2
   by_cases hi : i < s
   ·rw [if_pos hi, List.getElem?_drop] at h2
    rw [Array.getElem?_extract] at h1
    split at h1
    ·exact hx (y.offset + i) v d (by simpa using h1) h2
    ·cases h1
   ·rw [if_neg hi] at h2; cases h2
  ·rw [if_neg hle] at e; cases e
 | false =>
  simp only [ldCells, Bool.false_eq_true, if_false, List.head?_drop] at e
  have hi := (List.getElem?_eq_some_iff.1 e).1
  have hl' : vs.size = cs.length := by simpa using hl
  have hv : vs[y.offset]? = some (vs[y.offset]'(by omega)) := Array.getElem?_eq_getElem (by omega)
  exact ⟨_, by simp only [part, Sem.run_bind, run_isAgg ha, Result.andThen_ok, Bool.false_eq_true, if_false, hv]; rfl, hx y.offset _ d (by simp) e⟩
theorem extract_sound {x : Value} {vs : List D} {i : Nat} {d : D} (r : VRel w S φ x (.tuple vs)) (e : vs[i]? = some d) : ∃ v, (Instr.extract x i).run P w = .ok v w ∧ VRel w S φ v d := by
 obtain ⟨us, rfl, hl, hx⟩ := r.tuple_inv
 have hi := (List.getElem?_eq_some_iff.1 e).1
 have hl' : us.size = vs.length := by simpa using hl
 have hv : us[i]? = some (us[i]'(by omega)) := Array.getElem?_eq_getElem (by omega)
 exact ⟨us[i]'(by omega), by simp only [Instr.extract, hv]; rfl, hx i _ d (by rw [Array.getElem?_toList]; exact hv) e⟩
theorem part_sound {t : TypeId} {o : Nat} {vs : Array Value} {cs : List D} {a : Bool} {s : Nat} {d : D} (ha : aggB P t = some a) (hs : szOf P t = some s)
  (r : VRel w S φ (.agg vs) (.agg cs)) (e : ldCells a s (cs.drop o) = some d) : ∃ v, (part t vs o).run P w = .ok v w ∧ VRel w S φ v d := by
 obtain ⟨vs', hvs, hl, hx⟩ := r.agg_inv
 cases hvs
 cases a with
 | true =>
  simp only [ldCells, if_true] at e
  by_cases hle : s ≤ (cs.drop o).length
  ·rw [if_pos hle] at e; cases e
   rw [List.length_drop] at hle
   have hl' : vs.size = cs.length := by simpa using hl
   refine ⟨.agg (vs.extract o (o + s)), by simp [part, run_isAgg ha, run_szOf hs], .agg (by simp; omega) fun i v d h1 h2 => ?_⟩
   rw [List.getElem?_take] at h2
   by_cases hi : i < s
   ·rw [if_pos hi, List.getElem?_drop] at h2
    rw [Array.getElem?_extract] at h1
    split at h1
    ·exact hx (o + i) v d (by simpa using h1) h2
    ·cases h1
   ·rw [if_neg hi] at h2; cases h2
  ·rw [if_neg hle] at e; cases e
 | false =>
  simp only [ldCells, Bool.false_eq_true, if_false, List.head?_drop] at e
  have hi := (List.getElem?_eq_some_iff.1 e).1
  have hl' : vs.size = cs.length := by simpa using hl
  have hv : vs[o]? = some (vs[o]'(by omega)) := Array.getElem?_eq_getElem (by omega)
  exact ⟨_, by simp only [part, Sem.run_bind, run_isAgg ha, Result.andThen_ok, Bool.false_eq_true, if_false, hv]; rfl, hx o _ d (by simp) e⟩
theorem eqF_sound {r : TypeId → D → D → Option Bool} {m : Nat} (hr : ∀ t x y b v u, r t x y = some b → VRel w S φ v x → VRel w S φ u y → (Op.equalIn m t v u).run P w = .ok b w) {vs us : Array Value} {xs ys : List D}
  (ra : VRel w S φ (.agg vs) (.agg xs)) (rb : VRel w S φ (.agg us) (.agg ys)) : ∀ (fs : List Field) {b : Bool}, eqF P r xs ys fs = some b → (Op.eqFields m vs us fs).run P w = .ok b w
 | [], b, e => by cases e; simp [Op.eqFields]
 | f :: fs, b, e => by
  rw [eqF] at e
  split at e <;> try (cases e; done)
  rename_i hn
  obtain ⟨a, ha, e⟩ := Option.bind_eq_some_iff.1 e
  obtain ⟨s, hs, e⟩ := Option.bind_eq_some_iff.1 e
  obtain ⟨x, hx, e⟩ := Option.bind_eq_some_iff.1 e
  obtain ⟨y, hy, e⟩ := Option.bind_eq_some_iff.1 e
  obtain ⟨c, hc, e⟩ := Option.bind_eq_some_iff.1 e
  obtain ⟨v, v1, v2⟩ := part_sound (P := P) ha hs ra hx
  obtain ⟨u, u1, u2⟩ := part_sound (P := P) ha hs rb hy
  have k := hr _ _ _ _ _ _ hc v2 u2
  have hn' : f.name ≠ "_" := hn
  simp only [Op.eqFields, hn', ne_eq, not_false_eq_true, if_true, Sem.run_bind, v1, u1, k, Result.andThen_ok]
  cases c with
  | true => simp only [if_true] at e; simpa using eqF_sound hr ra rb fs e
  | false => simp only [Bool.false_eq_true, if_false] at e; cases e; simp
theorem eqV_sound : ∀ (n : Nat) (t : TypeId) (x y : D) (b : Bool) (v u : Value), eqV P n t x y = some b → VRel w S φ v x → VRel w S φ u y → ∀ m, (Op.equalIn (m + n) t v u).run P w = .ok b w
 | 0, t, x, y, b, v, u, e, ra, rb, m => by cases e
 | n + 1, t, x, y, b, v, u, e, ra, rb, m => by
  rw [eqV] at e
  obtain ⟨k, hk, e1⟩ := Option.bind_eq_some_iff.1 e
  clear e
  have e := e1
  clear e1
  split at e <;> try (cases e; done)
  ·cases e
   obtain rfl := ra.bool_inv
   obtain rfl := rb.bool_inv
   exact run_equalIn_bool' w _ t _ _ hk
  ·split at e <;> try (cases e; done)
   rename_i hkk
   cases e
   subst hkk
   obtain rfl := ra.int_inv
   obtain rfl := rb.int_inv
   exact run_equalIn_int w _ t _ _ _ _ hk
  ·cases e
   obtain rfl := ra.str_inv
   obtain rfl := rb.str_inv
   rw [beq_toListBytes]
   exact run_equalIn_string w _ t _ _ hk
  ·rename_i fs xs ys
   split at e <;> try (cases e; done)
   rename_i hst
   obtain ⟨vs, rfl, _⟩ := ra.agg_inv
   obtain ⟨us, rfl, _⟩ := rb.agg_inv
   have hfs : P.fieldsOf t = fs := by simp [Program.fieldsOf, hk]
   rw [← Nat.add_assoc, run_equalIn_struct w _ t vs us (by rw [hfs]; exact hk) (by simpa using hst), hfs]
   exact eqF_sound (fun t x y b v u h1 h2 h3 => eqV_sound n t x y b v u h1 h2 h3 m) ra rb fs.toList e
theorem eqS_sound {op : BinOp} {t : TypeId} {x y : Value} {a b d : D} (e : eqS P op t a b = some d) (ra : VRel w S φ x a) (rb : VRel w S φ y b) (X Y : Operand) :
  ∃ v, (do eqGuard op t X Y x y; binOp op t x y : Sem Value).run P w = .ok v w ∧ VRel w S φ v d := by
 unfold eqS at e
 split at e <;> try (cases e; done)
 split at e <;> try (cases e; done)
 rename_i xs ys hg
 obtain ⟨c, hc, e⟩ := Option.bind_eq_some_iff.1 e
 obtain ⟨vs, rfl, _⟩ := ra.agg_inv
 obtain ⟨us, rfl, _⟩ := rb.agg_inv
 have k := eqV_sound 4 t _ _ c _ _ hc ra rb 9996
 unfold eqB at e
 split at e <;> cases e
 ·refine ⟨.bool c, ?_, .bool⟩
  simp only [Sem.run_bind, run_eqGuard_agg w _ _ _ _ _ _ (by simpa using hg), Result.andThen_ok, run_eql_struct, k]
 ·refine ⟨.bool (!c), ?_, .bool⟩
  simp only [Sem.run_bind, run_eqGuard_agg w _ _ _ _ _ _ (by simpa using hg), Result.andThen_ok, run_neq_struct, k]
theorem equal_slice1 {t e : TypeId} (hu : P.underlying t = some (.slice e)) (q : Addr) (n m : Nat) : (Op.equal t (.slice (some q) n m) (.slice none 0 0)).run P w = .ok false w :=
 equal_at fun k => by simp [Op.equalIn, run_underlying hu]
theorem eqN_sound {op : BinOp} {u : TypeDesc} {t : TypeId} {x : Value} {a d : D} {Y : Operand} (hu : P.underlying t = some u) (e : eqN op u a Y = some d) (ra : VRel w S φ x a) (X : Operand) {y : Value} (hy : ∀ v, Y = .const v → y = v) :
  ∃ v, (do eqGuard op t X Y x y; binOp op t x y : Sem Value).run P w = .ok v w ∧ VRel w S φ v d := by
 have rb := bare_vrel ra
 have fin : ∀ {el : TypeId} {q : Addr} {n m : Nat}, u = .slice el → x = .slice (some q) n m → Y = .const (.slice none 0 0) → eqB op false = some d → ∃ v, (do eqGuard op t X Y x y; binOp op t x y : Sem Value).run P w = .ok v w ∧ VRel w S φ v d := fun {el q n m} h1 h2 h3 h4 => by
  subst h1; subst h2
  rw [hy _ h3, eqGuard_at_slice]
  obtain ⟨v, k1, k2⟩ := eqB_sound h4 (equal_slice1 hu q n m) rfl rfl
  exact ⟨v, by simpa using k1, k2⟩
 unfold eqN at e
 split at e <;> try (cases e; done)
 ·rename_i hb
  rw [hb] at rb
  cases rb with
  | ints hc B o ha hx => exact fin rfl (by rw [(ha (by simp)).1]) rfl e
 ·rename_i hb
  rw [hb] at rb
  cases rb with
  | list hc B o vs ha => exact fin rfl (by rw [(ha (by simp)).1]) rfl e
 ·rename_i hb
  rw [hb] at rb
  cases rb with
  | sref hp => exact fin rfl rfl rfl e
end Go.Proofs.YtlpbmajbalenjaaA
namespace Go.Proofs.YtlpbmajbalenjaaA
open Go
variable {P : Program} {w w' : World} {S : Nat → Prop} {φ φ' : Phi} {h h' : Heap}

theorem bound_inv {o : Option Operand} {ρ : Operand → Value} {σ : Env} (hρ : ∀ x, VRel w S φ (ρ x) (σ x)) {dflt most n : Nat} (e : boundD (o.map σ) dflt most = some n) :
  (o.map ρ = none ∧ n = dflt) ∨ ∃ k, ∃ m : Nat, o.map ρ = some (.int k (m : Int)) ∧ m ≤ most ∧ n = m := by
 cases o with
 | none => simp [boundD] at e; exact .inl ⟨rfl, e.symm⟩
 | some x =>
  have rx := hρ x
  simp only [Option.map_some] at e ⊢
  cases hx : σ x with
  | int k i =>
   rw [hx] at e rx
   simp only [boundD] at e
   by_cases h0 : 0 ≤ i
   ·by_cases h1 : i ≤ (most : Int)
    ·simp only [h0, h1, if_true, Option.some.injEq] at e
     obtain ⟨m, rfl⟩ := Int.eq_ofNat_of_zero_le h0
     exact .inr ⟨k, m, by rw [rx.int_inv], by omega, by rw [← e]; simp⟩
    ·simp only [h0, h1, if_true, if_false] at e; cases e
   ·simp only [h0, if_false] at e; cases e
  | _ => rw [hx] at e; simp [boundD] at e
theorem bounds_run {lo hi : Option Value} {len cap l h : Nat} (isS : Bool) (hh : (hi = none ∧ h = len) ∨ ∃ k, ∃ m : Nat, hi = some (.int k (m : Int)) ∧ m ≤ cap ∧ h = m)
  (hl : (lo = none ∧ l = 0) ∨ ∃ k, ∃ m : Nat, lo = some (.int k (m : Int)) ∧ m ≤ h ∧ l = m) : (Instr.sliceBounds isS len cap lo hi none).run P w = .ok (l, h, cap) w := by
 have b : ∀ (k : IntKind) (m y : Nat) (code : BoundsCode), m ≤ y → (Instr.sliceBound (.int k (m : Int)) y code).run P w = .ok m w := fun k m y code hm => by
  simp [Instr.sliceBound, asIntOf, hm]
 rcases hh with ⟨rfl, rfl⟩ | ⟨k, m, rfl, hm, rfl⟩
 ·rcases hl with ⟨rfl, rfl⟩ | ⟨k', m', rfl, hm', rfl⟩
  ·simp [Instr.sliceBounds]
  ·simp [Instr.sliceBounds, b k' _ _ _ hm']
 ·rcases hl with ⟨rfl, rfl⟩ | ⟨k', m', rfl, hm', rfl⟩
  ·simp [Instr.sliceBounds, b k _ _ _ hm]
  ·simp [Instr.sliceBounds, b k _ _ _ hm, b k' _ _ _ hm']
theorem getD_drop_take (xs : List Int) (l h i : Nat) (hi : i < h - l) : ((xs.take h).drop l).getD i 0 = xs.getD (l + i) 0 := by
 simp only [List.getD_eq_getElem?_getD, List.getElem?_drop, List.getElem?_take]
 rw [if_pos (by omega)]
theorem sliceAt_slice {t e : TypeId} {s : Nat} (hu : P.underlying t = some (.slice e)) (hs : szOf P e = some s) {a : Option Addr} {len cap l h : Nat} {lo hi : Option Value}
  (hb : (Instr.sliceBounds true len cap lo hi none).run P w = .ok (l, h, cap) w) :
  (Instr.sliceAt t (.slice a len cap) lo hi none).run P w = .ok (.slice (if cap = l then a else a.map (·.add (l * s))) (h - l) (cap - l)) w := by
 simp [Instr.sliceAt, Instr.slice, run_underlying hu, hb, run_szOf hs]
theorem sliceD_sound {t : TypeId} {x : Operand} {lo hi mx : Option Operand} {ρ : Operand → Value} {σ : Env} (hρ : ∀ x, VRel w S φ (ρ x) (σ x)) {d : D} (e : sliceD P t (σ x) (lo.map σ) (hi.map σ) (mx.map σ) = some d) :
  ∃ v, (Instr.sliceAt t (ρ x) (lo.map ρ) (hi.map ρ) (mx.map ρ)).run P w = .ok v w ∧ VRel w S φ v d := by
 cases mx with
 | some m => simp [sliceD] at e
 | none =>
  have rx := bare_vrel (hρ x)
  simp only [Option.map_none, sliceD] at e ⊢
  generalize (σ x).bare = a at *
  generalize ρ x = v at *
  cases rx with
  | @str _ s =>
   simp only at e
   split at e
   ·rename_i hu
    obtain ⟨h, hh, e⟩ := Option.bind_eq_some_iff.1 e
    obtain ⟨l, hl, e⟩ := Option.map_eq_some_iff.1 e
    subst e
    exact ⟨_, by simp [Instr.sliceAt, Instr.slice, run_underlying hu, bounds_run false (bound_inv hρ hh) (bound_inv hρ hl)], .str⟩
   ·cases e
  | @ints _ a cap k xs hc B o ha hx =>
   obtain ⟨h, hh, e⟩ := Option.bind_eq_some_iff.1 e
   obtain ⟨l, hl, e⟩ := Option.bind_eq_some_iff.1 e
   obtain ⟨el, he, e⟩ := Option.bind_eq_some_iff.1 e
   obtain ⟨s, hs, e⟩ := Option.bind_eq_some_iff.1 e
   by_cases h1 : s = 1
   ·rw [if_pos h1] at e; cases e; subst h1
    have bh := bound_inv hρ hh
    have bl := bound_inv hρ hl
    have hh' : h ≤ xs.length := by rcases bh with ⟨_, rfl⟩ | ⟨_, m, _, hm, rfl⟩ <;> omega
    have hl' : l ≤ h := by rcases bl with ⟨_, rfl⟩ | ⟨_, m, _, hm, rfl⟩ <;> omega
    refine ⟨_, sliceAt_slice (elem_run he) hs (bounds_run true (bh.imp id fun ⟨k, m, h1, h2, h3⟩ => ⟨k, m, h1, by omega, h3⟩) bl), ?_⟩
    have hlen : ((xs.take h).drop l).length = h - l := by simp; omega
    have key := VRel.ints (w := w) (S := S) (φ := φ) (a := if cap = l then a else a.map (·.add (l * 1))) (cap := cap - l) (k := k) (xs := (xs.take h).drop l) (by omega) B (o + l) (fun hne => ?_) (fun i hi => ?_)
    ·rw [hlen] at key; exact key
    ·have hpos : 0 < h - l := by rw [← hlen]; exact List.length_pos_iff.2 hne
     obtain ⟨rfl, hB⟩ := ha (fun e => by subst e; simp at hh'; omega)
     exact ⟨by rw [if_neg (by omega)]; simp [addr_add], hB⟩
    ·rw [hlen] at hi
     rw [getD_drop_take _ _ _ _ hi, Nat.add_assoc]
     exact hx (l + i) (by omega)
   ·rw [if_neg h1] at e; cases e
  | @list _ a cap sz xs hc B o vs ha hsz hx hv =>
   obtain ⟨h, hh, e⟩ := Option.bind_eq_some_iff.1 e
   obtain ⟨l, hl, e⟩ := Option.bind_eq_some_iff.1 e
   obtain ⟨el, he, e⟩ := Option.bind_eq_some_iff.1 e
   obtain ⟨s, hs, e⟩ := Option.bind_eq_some_iff.1 e
   by_cases h1 : s = sz
   ·rw [if_pos h1] at e; cases e; subst h1
    have bh := bound_inv hρ hh
    have bl := bound_inv hρ hl
    have hh' : h ≤ xs.length := by rcases bh with ⟨_, rfl⟩ | ⟨_, m, _, hm, rfl⟩ <;> omega
    have hl' : l ≤ h := by rcases bl with ⟨_, rfl⟩ | ⟨_, m, _, hm, rfl⟩ <;> omega
    refine ⟨_, sliceAt_slice (elem_run he) hs (bounds_run true (bh.imp id fun ⟨k, m, h1, h2, h3⟩ => ⟨k, m, h1, by omega, h3⟩) bl), ?_⟩
    have hlen : ((xs.take h).drop l).length = h - l := by simp; omega
    have hget : ∀ (i : Nat) (d : D), ((xs.take h).drop l)[i]? = some d → xs[l + i]? = some d := fun i d hd => by
     rw [List.getElem?_drop, List.getElem?_take] at hd
     split at hd
     ·exact hd
     ·cases hd
    have key := VRel.list (w := w) (S := S) (φ := φ) (a := if cap = l then a else a.map (·.add (l * s))) (cap := cap - l) (sz := s) (xs := (xs.take h).drop l) (by omega) B (o + l * s) (fun i j => vs (l + i) j)
     (fun hne => ?_) (fun i d hd => hsz _ d (hget i d hd)) (fun i d j c hd hc' => ?_) (fun i d j c hd hc' => hv _ d j c (hget i d hd) hc')
    ·rw [hlen] at key; exact key
    ·have hpos : 0 < h - l := by rw [← hlen]; exact List.length_pos_iff.2 hne
     obtain ⟨rfl, hB⟩ := ha (fun e => by subst e; simp at hh'; omega)
     exact ⟨by rw [if_neg (by omega)]; simp [addr_add], hB⟩
    ·have := hx _ d j c (hget i d hd) hc'
     rw [← this]
     congr 2
     rw [Nat.add_mul]; omega
   ·rw [if_neg h1] at e; cases e
  | @sref _ A b u sz n off len cap hp hc hn =>
   obtain ⟨h, hh, e⟩ := Option.bind_eq_some_iff.1 e
   obtain ⟨l, hl, e⟩ := Option.bind_eq_some_iff.1 e
   obtain ⟨el, he, e⟩ := Option.bind_eq_some_iff.1 e
   obtain ⟨s, hs, e⟩ := Option.bind_eq_some_iff.1 e
   by_cases h1 : s = sz
   ·rw [if_pos h1] at e; cases e; subst h1
    have bh := bound_inv hρ hh
    have bl := bound_inv hρ hl
    have hh' : h ≤ len := by rcases bh with ⟨_, rfl⟩ | ⟨_, m, _, hm, rfl⟩ <;> omega
    have hl' : l ≤ h := by rcases bl with ⟨_, rfl⟩ | ⟨_, m, _, hm, rfl⟩ <;> omega
    refine ⟨_, sliceAt_slice (elem_run he) hs (bounds_run true (bh.imp id fun ⟨k, m, h1, h2, h3⟩ => ⟨k, m, h1, by omega, h3⟩) bl), ?_⟩
    by_cases hcl : cap = l
    ·have : h - l = 0 := by omega
     rw [this, show cap - l = 0 by omega]
     exact .sref0
    ·rw [if_neg hcl]
     simp only [Option.map_some, addr_add]
     rw [← Nat.add_mul]
     exact .sref hp (by omega) (by rw [show off + l + (cap - l) = off + cap by omega]; exact hn)
   ·rw [if_neg h1] at e; cases e
  | @sref0 _ a b u sz off =>
   obtain ⟨h, hh, e⟩ := Option.bind_eq_some_iff.1 e
   obtain ⟨l, hl, e⟩ := Option.bind_eq_some_iff.1 e
   obtain ⟨el, he, e⟩ := Option.bind_eq_some_iff.1 e
   obtain ⟨s, hs, e⟩ := Option.bind_eq_some_iff.1 e
   by_cases h1 : s = sz
   ·rw [if_pos h1] at e; cases e
    have bh := bound_inv hρ hh
    have bl := bound_inv hρ hl
    have hh' : h = 0 := by rcases bh with ⟨_, rfl⟩ | ⟨_, m, _, hm, rfl⟩ <;> omega
    have hl' : l = 0 := by rcases bl with ⟨_, rfl⟩ | ⟨_, m, _, hm, rfl⟩ <;> omega
    subst hh'; subst hl'
    exact ⟨_, sliceAt_slice (elem_run he) hs (bounds_run true bh bl), .sref0⟩
   ·rw [if_neg h1] at e; cases e
  | @nilS _ a =>
   obtain ⟨h, hh, e⟩ := Option.bind_eq_some_iff.1 e
   obtain ⟨l, hl, e⟩ := Option.bind_eq_some_iff.1 e
   obtain ⟨el, he, e⟩ := Option.bind_eq_some_iff.1 e
   obtain ⟨s, hs, e⟩ := Option.map_eq_some_iff.1 e
   subst e
   have bh := bound_inv hρ hh
   have bl := bound_inv hρ hl
   have hh' : h = 0 := by rcases bh with ⟨_, rfl⟩ | ⟨_, m, _, hm, rfl⟩ <;> omega
   have hl' : l = 0 := by rcases bl with ⟨_, rfl⟩ | ⟨_, m, _, hm, rfl⟩ <;> omega
   subst hh'; subst hl'
   exact ⟨_, sliceAt_slice (elem_run he) hs (bounds_run true bh bl), .nilS⟩
  | _ => simp at e

theorem lenD_sound {t : TypeId} {v : Value} {a : D} {n : Nat} (e : lenD P t a = some n) (r : VRel w S φ v a) (ts : Array TypeId) (ht : ts[0]? = some t) (ty : TypeId) : (Builtin.len_ ts ty #[v]).run P w = .ok (.int .i64 n) w := by
 unfold lenD at e
 split at e
 ·rename_i hu
  cases a <;> try (simp at e; done)
  obtain rfl := r.str_inv
  simp at e
  simp [Builtin.len_, ht, run_underlying hu, goInt, e]
 ·rename_i el hu
  have r := bare_vrel r
  generalize a.bare = a at *
  have key : ∀ {q : Option Addr} {l c : Nat}, v = .slice q l c → l = n → (Builtin.len_ ts ty #[v]).run P w = .ok (.int .i64 n) w := fun {q l c} hv hl => by
   subst hv; subst hl
   simp [Builtin.len_, ht, run_underlying hu, goInt]
  cases r <;> try (simp at e; done)
  all_goals (simp only [Option.some.injEq] at e; exact key rfl e)
 ·cases e
theorem min_fold {k : IntKind} : ∀ (l : List D) (us : List Value) (x : Int) (d : D), VsRel w S φ us l → minD (.int k x) l = some d → ∃ n, d = .int k n ∧ (us.foldlM Builtin.min2 (.int k x)).run P w = .ok (.int k n) w
 | [], us, x, d, r, e => by
  have : us = [] := List.length_eq_zero_iff.1 r.1
  subst this
  simp [minD] at e
  exact ⟨x, e.symm, rfl⟩
 | y :: l, us, x, d, r, e => by
  cases us with
  | nil => simp [VsRel] at r
  | cons u us =>
   cases y <;> try (simp [minD] at e; done)
   rename_i k' y
   obtain rfl := r.head.int_inv
   by_cases hk : k = k'
   ·subst hk
    simp only [minD, if_true] at e
    obtain ⟨n, h1, h2⟩ := min_fold l us _ d r.tail e
    exact ⟨n, h1, by simp only [List.foldlM_cons, Builtin.min2, pure_bind]; exact h2⟩
   ·simp [minD, hk] at e
theorem max_fold {k : IntKind} : ∀ (l : List D) (us : List Value) (x : Int) (d : D), VsRel w S φ us l → maxD (.int k x) l = some d → ∃ n, d = .int k n ∧ (us.foldlM Builtin.max2 (.int k x)).run P w = .ok (.int k n) w
 | [], us, x, d, r, e => by
  have : us = [] := List.length_eq_zero_iff.1 r.1
  subst this
  simp [maxD] at e
  exact ⟨x, e.symm, rfl⟩
 | y :: l, us, x, d, r, e => by
  cases us with
  | nil => simp [VsRel] at r
  | cons u us =>
   cases y <;> try (simp [maxD] at e; done)
   rename_i k' y
   obtain rfl := r.head.int_inv
   by_cases hk : k = k'
   ·subst hk
    simp only [maxD, if_true] at e
    obtain ⟨n, h1, h2⟩ := max_fold l us _ d r.tail e
    exact ⟨n, h1, by simp only [List.foldlM_cons, Builtin.max2, pure_bind]; exact h2⟩
   ·simp [maxD, hk] at e
theorem minD_sound {us : List Value} {u : Value} {a d : D} {l : List D} (e : minD a l = some d) (r : VRel w S φ u a) (rs : VsRel w S φ us l) (ts : Array TypeId) (ty : TypeId) :
  ∃ v, (Builtin.min_ ts ty (u :: us).toArray).run P w = .ok v w ∧ VRel w S φ v d := by
 cases a with
 | int k x =>
  obtain rfl := r.int_inv
  obtain ⟨n, rfl, h2⟩ := min_fold (P := P) l us x d rs e
  exact ⟨_, by simpa [Builtin.min_] using h2, .int⟩
 | _ => cases l <;> simp [minD] at e
theorem maxD_sound {us : List Value} {u : Value} {a d : D} {l : List D} (e : maxD a l = some d) (r : VRel w S φ u a) (rs : VsRel w S φ us l) (ts : Array TypeId) (ty : TypeId) :
  ∃ v, (Builtin.max_ ts ty (u :: us).toArray).run P w = .ok v w ∧ VRel w S φ v d := by
 cases a with
 | int k x =>
  obtain rfl := r.int_inv
  obtain ⟨n, rfl, h2⟩ := max_fold (P := P) l us x d rs e
  exact ⟨_, by simpa [Builtin.max_] using h2, .int⟩
 | _ => cases l <;> simp [maxD] at e
end Go.Proofs.YtlpbmajbalenjaaA
namespace Go.Proofs.YtlpbmajbalenjaaA
open Go
variable {P : Program} {w w' : World} {S : Nat → Prop} {φ φ' : Phi} {h h' : Heap}

theorem fold_set (off : Nat) : ∀ (l : List Value) (k : Nat) (cs : Array Value), ((l.zipIdx k).foldl (fun (cs : Array Value) (p : Value × Nat) => cs.setIfInBounds (off + p.2) p.1) cs).size = cs.size ∧
  ∀ q, ((l.zipIdx k).foldl (fun (cs : Array Value) (p : Value × Nat) => cs.setIfInBounds (off + p.2) p.1) cs)[q]? = if off + k ≤ q ∧ q < off + k + l.length ∧ q < cs.size then l[q - (off + k)]? else cs[q]?
 | [], k, cs => ⟨rfl, fun q => by rw [if_neg (by simp; omega)]; rfl⟩
 | v :: l, k, cs => by
  simp only [List.zipIdx_cons, List.foldl_cons]
  obtain ⟨h1, h2⟩ := fold_set off l (k + 1) (cs.setIfInBounds (off + k) v)
  refine ⟨by rw [h1]; simp, fun q => ?_⟩
  rw [h2, Array.size_setIfInBounds, List.length_cons]
  by_cases hq : off + (k + 1) ≤ q ∧ q < off + (k + 1) + l.length ∧ q < cs.size
  ·rw [if_pos hq, if_pos ⟨by omega, by omega, hq.2.2⟩, show q - (off + k) = (q - (off + (k + 1))) + 1 by omega, List.getElem?_cons_succ]
  ·rw [if_neg hq]
   by_cases hk : q = off + k
   ·subst hk
    by_cases hs : off + k < cs.size
    ·rw [if_pos ⟨by omega, by omega, hs⟩, Array.getElem?_setIfInBounds_self_of_lt hs, Nat.sub_self]; rfl
    ·rw [if_neg (by omega), Array.getElem?_eq_none (by simp; omega), Array.getElem?_eq_none (by omega)]
   ·rw [Array.getElem?_setIfInBounds_ne (by omega), if_neg (by omega)]
def putCells (off : Nat) (v : Array Value) (cs : Array Value) : Array Value := v.zipIdx.foldl (fun (cs : Array Value) (p : Value × Nat) => cs.setIfInBounds (off + p.2) p.1) cs
theorem putCells_size (off : Nat) (v cs : Array Value) : (putCells off v cs).size = cs.size := by
 unfold putCells
 rw [← Array.foldl_toList, Array.toList_zipIdx]
 exact (fold_set off v.toList 0 cs).1
theorem putCells_get (off : Nat) (v cs : Array Value) (q : Nat) : (putCells off v cs)[q]? = if off ≤ q ∧ q < off + v.size ∧ q < cs.size then v[q - off]? else cs[q]? := by
 unfold putCells
 rw [← Array.foldl_toList, Array.toList_zipIdx]
 have := (fold_set off v.toList 0 cs).2 q
 simpa using this
theorem fill_cons (place : Nat → Option (Nat × Nat)) (cells : Array Value) (i : Nat) (v : Value) (rest : List (Nat × Value)) {off size : Nat} (hp : place i = some (off, size)) (h1 : v.cells.size = size) (h2 : off + v.cells.size ≤ cells.size) :
  Instr.fill place cells ((i, v) :: rest) = Instr.fill place (putCells off v.cells cells) rest := by
 have e : (v.cells.size ≠ size || off + v.cells.size > cells.size : Bool) = false := by simp; omega
 simp only [Instr.fill, hp]
 rw [if_neg (by simp; omega)]
 rfl

theorem one_top {d : D} (hd : d.cells.all D.one = true) : d ≠ .top := fun e => by subst e; simp [D.cells, D.one] at hd
theorem upd_get (cs vs : List D) (off q : Nat) (hl : off + vs.length ≤ cs.length) : (upd cs off vs)[q]? = if off ≤ q ∧ q < off + vs.length then vs[q - off]? else cs[q]? := by
 unfold upd
 by_cases h1 : q < off
 ·rw [if_neg (by omega), List.append_assoc, List.getElem?_append_left (by simp; omega), List.getElem?_take, if_pos h1]
 ·by_cases h2 : q < off + vs.length
  ·rw [if_pos ⟨by omega, h2⟩, List.getElem?_append_left (by simp; omega), List.getElem?_append_right (by simp; omega)]
   congr 1; simp; omega
  ·rw [if_neg (by omega), List.getElem?_append_right (by simp; omega), List.getElem?_drop]
   congr 1; simp; omega
theorem upd_len (cs vs : List D) (off : Nat) (hl : off + vs.length ≤ cs.length) : (upd cs off vs).length = cs.length := by simp [upd]; omega
theorem put_rel {cells : Array Value} {cs : List D} {v : Value} {d : D} {off : Nat} (r : VsRel w S φ cells.toList cs) (rv : VRel w S φ v d) (hd : d ≠ .top) (hl : off + d.cells.length ≤ cs.length) :
  VsRel w S φ (putCells off v.cells cells).toList (upd cs off d.cells) := by
 obtain ⟨hc, hx⟩ := rv.cells hd
 have hr : cells.size = cs.length := by simpa using r.1
 refine ⟨by rw [upd_len _ _ _ hl]; simp [putCells_size, hr], fun i x e h1 h2 => ?_⟩
 rw [Array.getElem?_toList, putCells_get] at h1
 rw [upd_get _ _ _ _ hl] at h2
 by_cases hq : off ≤ i ∧ i < off + d.cells.length
 ·rw [if_pos hq] at h2
  rw [if_pos ⟨hq.1, by omega, by omega⟩] at h1
  exact hx _ x e h1 h2
 ·rw [if_neg hq] at h2
  rw [if_neg (by omega)] at h1
  exact r.2 i x e (by simpa using h1) h2
theorem buildD_sound {fs : List Field} {place : Nat → Option (Nat × Nat)} (hplace : ∀ i f s, fs[i]? = some f → szOf P f.type = some s → place i = some (f.offset, s)) {ρ : Operand → Value} {σ : Env} (hρ : ∀ x, VRel w S φ (ρ x) (σ x)) :
  ∀ (parts : List (Nat × Operand)) (cells : Array Value) (cs cs' : List D), VsRel w S φ cells.toList cs → buildD P fs (parts.map fun p => (p.1, σ p.2)) cs = some cs' →
   ∃ cells', Instr.fill place cells (parts.map fun p => (p.1, ρ p.2)) = some cells' ∧ VsRel w S φ cells'.toList cs'
 | [], cells, cs, cs', r, e => by simp [buildD] at e; subst e; exact ⟨cells, rfl, r⟩
 | (i, x) :: parts, cells, cs, cs', r, e => by
  simp only [List.map_cons, buildD] at e
  obtain ⟨f, hf, e⟩ := Option.bind_eq_some_iff.1 e
  obtain ⟨s, hs, e⟩ := Option.bind_eq_some_iff.1 e
  by_cases hc : (σ x).cells.length = s ∧ f.offset + s ≤ cs.length ∧ (σ x).cells.all D.one = true
  ·rw [if_pos hc] at e
   have hx := hρ x
   have ht := one_top hc.2.2
   have hsz := (hx.cells ht).1
   have hr : cells.size = cs.length := by simpa using r.1
   obtain ⟨cells', h1, h2⟩ := buildD_sound hplace hρ parts _ _ cs' (put_rel (off := f.offset) r hx ht (by omega)) e
   exact ⟨cells', (fill_cons place cells i (ρ x) _ (hplace i f s hf hs) (by omega) (by omega)).trans h1, h2⟩
  ·rw [if_neg hc] at e; cases e

theorem mapM_run {α β : Type} (f : α → Sem β) (g : α → β) : ∀ (l : List α), (∀ a ∈ l, (f a).run P w = .ok (g a) w) → (l.mapM f).run P w = .ok (l.map g) w
 | [], _ => rfl
 | a :: l, hf => by
  rw [List.mapM_cons]
  simp [hf a (by simp), mapM_run f g l fun b hb => hf b (by simp [hb])]
theorem amapM_run {α β : Type} (f : α → Sem β) (g : α → β) (l : Array α) (hf : ∀ a ∈ l, (f a).run P w = .ok (g a) w) : (l.mapM f).run P w = .ok (l.map g) w := by
 rw [Array.mapM_eq_mapM_toList]
 have h1 := mapM_run (P := P) (w := w) f g l.toList fun a ha => hf a (by simpa using ha)
 have h2 : (l.toList.map g).toArray = l.map g := by apply Array.ext'; simp
 simp only [Sem.run_map, h1, Result.andThen_ok, h2]
theorem zero_run {t : TypeId} {z : D} (hz : zeroD P t = some z) : ∃ v, (zeroValue t).run P w = .ok v w ∧ z = ofV v := by
 unfold zeroD at hz
 obtain ⟨i, hi, hz⟩ := Option.bind_eq_some_iff.1 hz
 obtain ⟨v, hv, hz⟩ := Option.map_eq_some_iff.1 hz
 exact ⟨v, by simp [zeroValue, typeInfo, hi, hv], hz.symm⟩
theorem build_sound {t : TypeId} {parts : Array (Nat × Operand)} {fs : Array Field} {z cs' : List D} (hu : P.underlying t = some (.struct fs)) (hz : zeroD P t = some (.agg z)) (hall : fs.toList.all (fun f => (szOf P f.type).isSome) = true)
  {ρ : Operand → Value} {σ : Env} (hρ : ∀ x, VRel w S φ (ρ x) (σ x)) (e : buildD P fs.toList (parts.toList.map fun p => (p.1, σ p.2)) z = some cs') :
  ∃ v, (Instr.build t (parts.map fun p => (p.1, ρ p.2))).run P w = .ok v w ∧ VRel w S φ v (.agg cs') := by
 obtain ⟨v, hv, hzv⟩ := zero_run (P := P) (w := w) hz
 have hcells := ofV_cells (w := w) (S := S) (φ := φ) v
 rw [← hzv] at hcells
 obtain ⟨hc1, hc2⟩ := hcells
 have r0 : VsRel w S φ v.cells.toList z := ⟨by have := hc1; simp only [D.cells] at this; simpa using this, fun i x e h1 h2 => hc2 i x e (by simpa using h1) h2⟩
 obtain ⟨cells', h1, h2⟩ := buildD_sound (P := P) (fs := fs.toList) (place := fun i => (fs.map fun f => (f.offset, (szOf P f.type).getD 0))[i]?) (fun i f s hf hs => by
  rw [Array.getElem?_map]
  rw [Array.getElem?_toList] at hf
  rw [hf]; simp [hs]) hρ parts.toList v.cells z cs' r0 e
 refine ⟨.agg cells', ?_, VRel.agg_iff.2 h2⟩
 have hplaces : (fs.mapM fun f => do pure (f.offset, ← sizeOf f.type) : Sem (Array (Nat × Nat))).run P w = .ok (fs.map fun f => (f.offset, (szOf P f.type).getD 0)) w :=
  amapM_run _ _ _ fun f hf => by
   rw [List.all_eq_true] at hall
   have := hall f (by simpa using hf)
   obtain ⟨s, hs⟩ := Option.isSome_iff_exists.1 this
   simp [run_szOf hs, hs]
 simp only [bind_pure_comp] at hplaces
 simp only [Array.getElem?_map] at h1
 simp [Instr.build, hv, run_underlying hu, hplaces, h1]

def RowRel (w : World) (S : Nat → Prop) (φ : Phi) (s : Nat) (cells : Array Value) (l : List D) : Prop :=
 cells.size = l.length * s ∧ ∀ (i : Nat) (d : D), l[i]? = some d → d.wide s ∧ ∀ (j : Nat) (e : D), d.cells[j]? = some e → ∃ x, cells[i * s + j]? = some x ∧ VRel w S φ x e
theorem row_idx {s i j i' j' : Nat} (hj : j < s) (hj' : j' < s) (e : i * s + j = i' * s + j') : i = i' ∧ j = j' := by
 have h1 : (i * s + j) / s = i := by rw [Nat.mul_comm, Nat.mul_add_div (by omega), Nat.div_eq_of_lt hj, Nat.add_zero]
 have h2 : (i' * s + j') / s = i' := by rw [Nat.mul_comm, Nat.mul_add_div (by omega), Nat.div_eq_of_lt hj', Nat.add_zero]
 have : i = i' := by rw [← h1, ← h2, e]
 subst this
 exact ⟨rfl, by omega⟩
theorem row_lt {s i j n : Nat} (hj : j < s) (hi : i < n) : i * s + j < n * s := by
 have : (i + 1) * s ≤ n * s := Nat.mul_le_mul_right s hi
 rw [Nat.add_mul] at this
 omega
theorem buildS_sound {s : Nat} {ρ : Operand → Value} {σ : Env} (hρ : ∀ x, VRel w S φ (ρ x) (σ x)) : ∀ (parts : List (Nat × Operand)) (cells : Array Value) (l l' : List D), RowRel w S φ s cells l →
  buildS s (parts.map fun p => (p.1, σ p.2)) l = some l' → ∃ cells', Instr.fill (fun i => some (i * s, s)) cells (parts.map fun p => (p.1, ρ p.2)) = some cells' ∧ RowRel w S φ s cells' l' ∧ l'.length = l.length
 | [], cells, l, l', r, e => by simp [buildS] at e; subst e; exact ⟨cells, rfl, r, rfl⟩
 | (i, x) :: parts, cells, l, l', r, e => by
  simp only [List.map_cons, buildS] at e
  by_cases hc : i < l.length ∧ (σ x).cells.length = s ∧ (σ x).cells.all D.one = true
  ·rw [if_pos hc] at e
   have hx := hρ x
   obtain ⟨hsz, hcx⟩ := hx.cells (one_top hc.2.2)
   have hle : i * s + s ≤ l.length * s := by
    have : (i + 1) * s ≤ l.length * s := Nat.mul_le_mul_right s hc.1
    rw [Nat.add_mul] at this; omega
   have r' : RowRel w S φ s (putCells (i * s) (ρ x).cells cells) (l.set i (σ x)) := by
    refine ⟨by rw [putCells_size, List.length_set]; exact r.1, fun i' d hd => ?_⟩
    rw [List.getElem?_set] at hd
    by_cases hi : i = i'
    ·subst hi
     rw [if_pos rfl, if_pos hc.1] at hd
     cases hd
     refine ⟨hc.2, fun j e he => ?_⟩
     have hj := (List.getElem?_eq_some_iff.1 he).1
     have hvj : (ρ x).cells[j]? = some ((ρ x).cells[j]'(by omega)) := Array.getElem?_eq_getElem (by omega)
     refine ⟨_, ?_, hcx j _ e hvj he⟩
     rw [putCells_get, if_pos ⟨by omega, by omega, by rw [r.1]; omega⟩, show i * s + j - i * s = j by omega]
     exact hvj
    ·rw [if_neg hi] at hd
     obtain ⟨g1, g2⟩ := r.2 i' d hd
     refine ⟨g1, fun j e he => ?_⟩
     obtain ⟨y, k1, k2⟩ := g2 j e he
     have hj := (List.getElem?_eq_some_iff.1 he).1
     have g1' := g1.1
     refine ⟨y, ?_, k2⟩
     rw [putCells_get, if_neg]
     ·exact k1
     ·rintro ⟨q1, q2, _⟩
      have g1 := g1.1
      have : i * s + (i' * s + j - i * s) = i' * s + j := by omega
      exact hi (row_idx (s := s) (by omega) (by omega) this).1
   obtain ⟨cells', h1, h2, h3⟩ := buildS_sound hρ parts _ _ l' r' e
   exact ⟨cells', (fill_cons (fun i => some (i * s, s)) cells i (ρ x) _ rfl (by omega) (by rw [r.1]; omega)).trans h1, h2, by rw [h3, List.length_set]⟩
  ·rw [if_neg hc] at e; cases e
theorem zeros_row {s len : Nat} {v : Value} {z : D} (hz : z = ofV v) (hs : z.wide s) (h0 : 0 < s) : RowRel w S φ s ((Array.range (len * s)).map (v.cells[· % v.cells.size]!)) (List.replicate len z) := by
 have hcells := ofV_cells (w := w) (S := S) (φ := φ) v
 rw [← hz] at hcells
 obtain ⟨h1, h2⟩ := hcells
 refine ⟨by simp, fun i d hd => ?_⟩
 rw [List.getElem?_replicate] at hd
 by_cases hi : i < len
 ·rw [if_pos hi] at hd; cases hd
  refine ⟨hs, fun j e he => ?_⟩
  have hs := hs.1
  have hj := (List.getElem?_eq_some_iff.1 he).1
  have hvj : v.cells[j]? = some (v.cells[j]'(by omega)) := Array.getElem?_eq_getElem (by omega)
  refine ⟨v.cells[j]'(by omega), ?_, h2 j _ e hvj he⟩
  have hlt : i * s + j < len * s := row_lt (by omega) hi
  rw [Array.getElem?_map, Array.getElem?_range, if_pos hlt]
  simp only [Option.map_some, Option.some.injEq]
  have hm : (i * s + j) % v.cells.size = j := by
   rw [h1, hs, Nat.mul_comm, Nat.mul_add_mod, Nat.mod_eq_of_lt (by omega)]
  rw [hm]
  simp [show j < v.cells.size by omega]
 ·rw [if_neg hi] at hd; cases hd
end Go.Proofs.YtlpbmajbalenjaaA
namespace Go.Proofs.YtlpbmajbalenjaaA
open Go
variable {P : Program} {w w' : World} {S : Nat → Prop} {φ φ' : Phi} {h h' : Heap}

theorem asInts_get {k : IntKind} : ∀ {l : List D} {ns : List Int}, asInts k l = some ns → l.length = ns.length ∧ ∀ i, i < ns.length → l[i]? = some (.int k (ns.getD i 0))
 | [], ns, e => by simp [asInts] at e; subst e; exact ⟨rfl, fun i hi => by simp at hi⟩
 | .int k' n :: l, ns, e => by
  by_cases hk : k = k'
  ·subst hk
   simp only [asInts, if_true] at e
   obtain ⟨m, hm, rfl⟩ := Option.map_eq_some_iff.1 e
   obtain ⟨h1, h2⟩ := asInts_get hm
   refine ⟨by simp [h1], fun i hi => ?_⟩
   cases i with
   | zero => rfl
   | succ i => simpa using h2 i (by simpa using hi)
  ·simp [asInts, hk] at e
 | .top :: l, ns, e | .bool _ :: l, ns, e | .str _ :: l, ns, e | .nilS :: l, ns, e | .ints _ _ :: l, ns, e | .list _ _ :: l, ns, e | .nilP :: l, ns, e | .ptr _ :: l, ns, e | .agg _ :: l, ns, e | .tuple _ :: l, ns, e
 | .nilM :: l, ns, e | .sref _ _ _ _ _ :: l, ns, e | .pref _ _ _ _ :: l, ns, e | .fn _ _ _ :: l, ns, e | .nilF :: l, ns, e | .nilI :: l, ns, e | .lit _ :: l, ns, e | .mlit _ _ :: l, ns, e => by simp [asInts] at e

theorem Good.made (H : HRel w S φ h) {s : Sem Value} {v : Value} {d : D} (hr : s.run P w = .ok v w') (hos : w'.os = w.os) (htape : w'.tape = w.tape) (hout : w'.output = w.output) (hsz : w'.heap.size = w.heap.size + 1)
  (hh : ∀ i, i < w.heap.size → w'.heap[i]? = w.heap[i]?) (hv : VRel w' (fun A => S A ∨ A = w.heap.size) φ v d) : Good P w S φ h (do pure (Next.value (← s))) d h := by
 obtain ⟨h1, h2⟩ := frozen_new H hos htape hout hsz hh
 exact ⟨v, w', _, φ, .inl (by simp [hr]), h2, h1, hv⟩
theorem alloc_old (w : World) (o : Obj) (i : Nat) (hi : i < w.heap.size) : (w.alloc o).heap[i]? = w.heap[i]? := by
 show (w.heap.push o)[i]? = _
 rw [Array.getElem?_push, if_neg (by omega)]
theorem buildSlice_good (H : HRel w S φ h) {C : Cx} {t : TypeId} {len : Nat} {parts : Array (Nat × Operand)} {ρ : Operand → Value} {σ : Env} (hρ : ∀ x, VRel w S φ (ρ x) (σ x)) {o : Oper} (ho : o.op = .buildSlice t len parts) {d : D}
    (e : opP C o σ = some d) : Good C.P w S φ h (do pure (Next.value (← Instr.buildSlice t len (parts.map fun p => (p.1, ρ p.2))))) d h := by
  simp only [opP, ho, buildL] at e
  obtain ⟨el, he, e⟩ := Option.bind_eq_some_iff.1 e
  obtain ⟨s, hs, e⟩ := Option.bind_eq_some_iff.1 e
  have hu := elem_run he
  by_cases hlen : len ≤ 4096
  · rw [if_pos hlen] at e
    by_cases h0 : len = 0
    · subst h0
      simp only [if_true] at e
      rw [List.isEmpty_map] at e
      by_cases hp : parts.toList.isEmpty = true
      · rw [if_pos hp] at e; cases e
        have hp' : parts = #[] := by simpa using hp
        subst hp'
        refine Good.made H (w' := w.alloc (.cells #[] el)) (v := .slice (some ⟨w.heap.size, 0, none⟩) 0 0) ?_ rfl rfl rfl (by simp) (alloc_old w _) .nilS
        simp [Instr.buildSlice, run_underlying hu, run_szOf hs, Instr.fill, newRow, Array.range_zero']
      · rw [if_neg hp] at e; cases e
    · rw [if_neg h0] at e
      obtain ⟨z, hz, e⟩ := Option.bind_eq_some_iff.1 e
      by_cases hc : 0 < s ∧ s ≤ 4096 ∧ z.cells.length = s ∧ z.cells.all D.one = true
      · rw [if_pos hc] at e
        obtain ⟨l, hl, e⟩ := Option.bind_eq_some_iff.1 e
        rw [List.map_map] at hl
        obtain ⟨v, hv, hzv⟩ := zero_run (P := C.P) (w := w) hz
        obtain ⟨cells, hf, hr, hll⟩ := buildS_sound (ρ := ρ) (σ := fun x => norm C.P el (σ x)) (fun x => norm_sound el (hρ x)) parts.toList _ _ l (zeros_row (len := len) hzv hc.2.2 hc.1) hl
        rw [List.length_replicate] at hll
        have hle : len * s ≤ 4096 * 4096 := Nat.mul_le_mul hlen hc.2.1
        have hne : len * s ≠ 0 := by
          have : 0 < len * s := Nat.mul_pos (by omega) hc.1
          omega
        have hrun : (Instr.buildSlice t len (parts.map fun p => (p.1, ρ p.2))).run C.P w = .ok (.slice (some ⟨w.heap.size, 0, none⟩) len len) (w.alloc (.cells cells el)) := by
          have h2 : ¬ (len * s > 2 ^ 24) := by have : (2 : Nat) ^ 24 = 4096 * 4096 := by decide
                                               omega
          have hf' : Instr.fill (fun i => some (i * s, s)) ((Array.range (len * s)).map fun x => v.cells[x % v.cells.size]!) (parts.map fun p => (p.1, ρ p.2)).toList = some cells := by
            rw [Array.toList_map]; exact hf
          simp only [Instr.buildSlice, Sem.run_bind, run_underlying hu, Result.andThen_ok, run_szOf hs, h2, if_false, hne, hv, Sem.run_pure, hf', Sem.run_ite]
          simp [newRow]
        have hmono : ∀ {x : Value} {e : D}, VRel w S φ x e → e.isT 2 = true → VRel (w.alloc (.cells cells el)) (fun A => S A ∨ A = w.heap.size) noPhi x e := fun {x e} r ht =>
          (isT_vrel 2 r ht).mono (fun _ h => .inl h) (fun b hb => alloc_old w _ b (H.lt b hb)) (fun _ _ _ h => h)
        by_cases hT : (l.all fun d => d.cells.all fun c => c.isT 2) = true
        · rw [if_pos hT] at e
          have hT' : ∀ (i : Nat) (d : D) (j : Nat) (c : D), l[i]? = some d → d.cells[j]? = some c → c.isT 2 = true := fun i d j c h1 h2 => by
            rw [List.all_eq_true] at hT
            have := hT d (List.mem_of_getElem? h1)
            rw [List.all_eq_true] at this
            exact this c (List.mem_of_getElem? h2)
          refine Good.made H hrun rfl rfl rfl (by simp) (alloc_old w _) ?_
          split at e
          · rename_i k hk
            obtain ⟨ns, hns, rfl⟩ := Option.map_eq_some_iff.1 e
            obtain ⟨g1, g2⟩ := asInts_get hns
            have hnl : ns.length = len := by omega
            have key := VRel.ints (w := w.alloc (.cells cells el)) (S := fun A => S A ∨ A = w.heap.size) (φ := noPhi) (a := some ⟨w.heap.size, 0, none⟩) (cap := len) (k := k) (xs := ns) (by omega) w.heap.size 0 (fun _ => ⟨rfl, .inr rfl⟩) (fun i hi => by
              have hd := g2 i hi
              obtain ⟨k1, k2⟩ := hr.2 i _ hd
              have hs1 : s = 1 := by rw [← k1.1]; rfl
              subst hs1
              obtain ⟨x, m1, m2⟩ := k2 0 _ rfl
              rw [World.cell?_alloc_new]
              simp at m1
              rw [Nat.zero_add, m1, m2.int_inv])
            rw [hnl] at key
            exact .lit key rfl
          · cases e
            have key := VRel.list (w := w.alloc (.cells cells el)) (S := fun A => S A ∨ A = w.heap.size) (φ := noPhi) (a := some ⟨w.heap.size, 0, none⟩) (cap := len) (sz := s) (xs := l) (by omega) w.heap.size 0
              (fun i j => (cells[i * s + j]?).getD default) (fun _ => ⟨rfl, .inr rfl⟩) (fun i d hd => (hr.2 i d hd).1) (fun i d j c hd hc' => by
                obtain ⟨x, m1, m2⟩ := (hr.2 i d hd).2 j c hc'
                rw [World.cell?_alloc_new, Nat.zero_add, m1]; rfl) (fun i d j c hd hc' => by
                obtain ⟨x, m1, m2⟩ := (hr.2 i d hd).2 j c hc'
                rw [m1]; exact hmono m2 (hT' i d j c hd hc'))
            rw [hll] at key
            exact .lit key rfl
        · rw [if_neg hT] at e; cases e
      · rw [if_neg hc] at e; cases e
  · rw [if_neg hlen] at e; cases e

theorem freeze_heap (w : World) (a : Addr) (n i : Nat) (hi : i ≠ a.block) : (w.freeze a n).heap[i]? = w.heap[i]? := by
 unfold World.freeze
 split
 ·rfl
 ·simp only [Array.getElem?_modify]; rw [if_neg (Ne.symm hi)]
theorem freeze_cell (w : World) (a b : Addr) (n : Nat) : (w.freeze a n).cell? b = w.cell? b := by
 unfold World.freeze
 split
 ·rfl
 ·simp only [World.cell?, Array.getElem?_modify]
  by_cases hb : a.block = b.block
  ·rw [if_pos hb]
   cases hw : w.heap[b.block]? with
   | none => rfl
   | some o => cases o <;> rfl
  ·rw [if_neg hb]
theorem freeze_size (w : World) (a : Addr) (n : Nat) : (w.freeze a n).heap.size = w.heap.size := by unfold World.freeze; split <;> simp
theorem freeze_rest (w : World) (a : Addr) (n : Nat) : (w.freeze a n).os = w.os ∧ (w.freeze a n).tape = w.tape ∧ (w.freeze a n).output = w.output := by unfold World.freeze; split <;> exact ⟨rfl, rfl, rfl⟩
theorem bytes_good (H : HRel w S φ h) {src dst el : TypeId} (hsrc : P.underlying src = some .string) (hdst : P.underlying dst = some (.slice el)) (hel : P.underlying el = some (.int .u8)) (s : ByteArray) :
  Good P w S φ h (do pure (Next.value (← convert src dst (.string s)))) (.ints .u8 (s.data.toList.map fun b => (b.toNat : Int))) h := by
 have hq : (Question.appendCap s.size 0 el).forced = false := rfl
 obtain ⟨cap, hcap⟩ : ∃ cap, (Question.appendCap s.size 0 el).cut (w.tape w.drawn (.appendCap s.size 0 el)) = cap := ⟨_, rfl⟩
 have hge : s.size ≤ cap := by rw [← hcap]; exact Nat.le_add_right _ _
 generalize hcells : (s.data.map fun b => (Value.int .u8 b.toNat)) ++ Array.replicate (cap - s.size) (Value.int .u8 0) = cells
 have hdata : s.data.size = s.size := rfl
 have hcs : cells.size = cap := by rw [← hcells]; simp [hdata]; omega
 have hrun : (convert src dst (.string s)).run P w = .ok (.slice (some ⟨w.heap.size, 0, none⟩) s.size cap) (((w.drew.alloc (.cells cells el))).freeze ⟨w.heap.size, cap, none⟩ 1) := by
  simp only [convert, Sem.run_bind, run_underlying hsrc, run_underlying hdst, Result.andThen_ok, run_underlying hel, Conv.stringToBytes, run_choose, hq, Bool.false_eq_true, if_false, hcap, newRow, run_newObj, hcells, Sem.run_pure, markStringish, run_shape]
  have hsh : (w.drew.alloc (.cells cells el)).shape? w.heap.size = some (el, cap) := by
   have : (w.drew.alloc (.cells cells el)).heap[w.heap.size]? = some (.cells cells el) := by
    show (w.heap.push _)[w.heap.size]? = _
    simp
   simp only [World.shape?, this, hcs]
  have e1 : ({ ({ w with drawn := w.drawn + 1 } : World) with heap := w.heap.push (.cells cells el) } : World) = w.drew.alloc (.cells cells el) := rfl
  rw [e1, hsh]
  simp
 obtain ⟨f1, f2, f3⟩ := freeze_rest (w.drew.alloc (.cells cells el)) ⟨w.heap.size, cap, none⟩ 1
 refine Good.made H hrun f1 f2 f3 (by rw [freeze_size]; simp) (fun i hi => ?_) ?_
 ·rw [freeze_heap _ _ _ _ (by simp; omega)]
  exact alloc_old w.drew _ i hi
 ·have hl : (s.data.toList.map fun b => (b.toNat : Int)).length = s.size := by simp [hdata]
  have key := VRel.ints (w := ((w.drew.alloc (.cells cells el))).freeze ⟨w.heap.size, cap, none⟩ 1) (S := fun A => S A ∨ A = w.heap.size) (φ := φ) (a := some ⟨w.heap.size, 0, none⟩) (cap := cap) (k := .u8)
   (xs := s.data.toList.map fun b => (b.toNat : Int)) (by rw [hl]; exact hge) w.heap.size 0 (fun _ => ⟨rfl, .inr rfl⟩) (fun i hi => by
    rw [hl] at hi
    rw [freeze_cell]
    have := World.cell?_alloc_new w.drew cells el i
    rw [show w.drew.heap.size = w.heap.size from rfl] at this
    rw [Nat.zero_add, this, ← hcells, Array.getElem?_append_left (by simp [hdata]; exact hi)]
    have hi' : i < s.data.size := hi
    exact by
     rw [Array.getElem?_map]
     simp only [List.getD_eq_getElem?_getD, List.getElem?_map, Array.getElem?_toList, Array.getElem?_eq_getElem hi', Option.map_some, Option.getD_some])
  rw [hl] at key
  exact key

theorem fieldPtr_sound {s : TypeId} {f off : Nat} (hoff : offOf P s f = some off) {x : Value} {cs : List D} (r : VRel w S φ x (.ptr cs)) : ∃ v, (Instr.fieldAt s x f).run P w = .ok v w ∧ VRel w S φ v (.ptr (cs.drop off)) := by
 cases r with
 | @ptr _ B q cs vs hB hx hv =>
  exact ⟨_, offOf_run hoff B q, .ptr (fun j => vs (off + j)) hB (fun j c hj => by rw [List.getElem?_drop] at hj; rw [Nat.add_assoc]; exact hx _ c hj) (fun j c hj => by rw [List.getElem?_drop] at hj; exact hv _ c hj)⟩
theorem fieldPref_sound {s : TypeId} {f off : Nat} (hoff : offOf P s f = some off) {x : Value} {b u i q : Nat} (r : VRel w S φ x (.pref b u i q)) : ∃ v, (Instr.fieldAt s x f).run P w = .ok v w ∧ VRel w S φ v (.pref b u i (q + off)) := by
 cases r with
 | pref hp => exact ⟨_, offOf_run hoff _ _, by rw [Nat.add_assoc]; exact .pref hp⟩
theorem convD_sound {src dst : TypeId} {x : Value} {a d : D} (e : convD P src dst a = some d) (r : VRel w S φ x a) : ∃ v, (convert src dst x).run P w = .ok v w ∧ VRel w S φ v d := by
 unfold convD at e
 split at e
 ·rename_i k1 k2 k n hs hd
  cases e
  obtain rfl := r.int_inv
  exact ⟨_, by simp [convert, run_underlying hs, run_underlying hd, Conv.intToInt], .int⟩
 ·rename_i s hs hd
  cases e
  obtain rfl := r.str_inv
  exact ⟨_, by simp [convert, run_underlying hs, run_underlying hd], .str⟩
 ·cases e
theorem opP_sound (H : HRel w S φ h) {C : Cx} {o : Oper} {ρ : Operand → Value} {σ : Env} (hρ : ∀ x, VRel w S φ (ρ x) (σ x)) (hk : ∀ v, ρ (.const v) = v) {d : D} (e : opP C o σ = some d) : Good C.P w S φ h (execOp ρ o) d h := by
 have e0 := e
 unfold execOp
 unfold opP at e
 split at e
 ·rename_i x ho; rw [ho]; cases e; exact .now H (hρ x)
 ·rename_i x ho; rw [ho]; cases e; exact .now H (hρ x)
 ·rename_i c a b ho
  rw [ho]
  have rc := hρ c
  split at e
  ·rename_i t hc
   rw [hc] at rc
   cases e
   have hb := rc.bool_inv
   refine ⟨if t then ρ a else ρ b, w, S, φ, .inl ?_, .refl .., H, ?_⟩
   ·simp only [hb, asBool, pure_bind, Sem.run_pure]
   ·cases t
    ·exact hρ b
    ·exact hρ a
  ·cases e
 ·rename_i t parts ho
  rw [ho]
  split at e
  ·rename_i fs hu
   split at e
   ·rename_i z hz
    split at e
    ·rename_i hall
     obtain ⟨cs, hcs, rfl⟩ := Option.map_eq_some_iff.1 e
     exact .quiet H (build_sound hu hz hall hρ hcs)
    ·cases e
   ·cases e
  ·cases e
 ·rename_i t len parts ho
  rw [ho]
  exact buildSlice_good H hρ ho e0
 ·rename_i x ho
  rw [ho]
  have rx := hρ x
  split at e
  ·rename_i cs hx
   rw [hx] at rx
   cases e
   obtain ⟨q, hq⟩ := rx.ptr_inv
   simp only [hq] at rx ⊢
   exact .now H rx
  ·rename_i b v i off hx
   rw [hx] at rx
   cases e
   obtain ⟨q, hq⟩ := rx.pref_inv
   simp only [hq] at rx ⊢
   exact .now H rx
  ·rename_i f a c hx
   rw [hx] at rx
   cases e
   obtain ⟨as, cs, hq⟩ : ∃ as cs, ρ x = .func (.func f) as cs := by generalize ρ x = v at *; cases rx; exact ⟨_, _, rfl⟩
   simp only [hq] at rx ⊢
   exact .now H rx
  ·cases e
 ·rename_i op t x y t' ho
  rw [ho]
  split at e
  ·rename_i d' hd
   cases e
   exact .quiet H (binD_sound hd (hρ x) (hρ y) t x y)
  ·obtain ⟨u, hu, e⟩ := Option.bind_eq_some_iff.1 e
   split at e
   ·rename_i d' hd
    cases e
    exact .quiet H (eqD_sound hu hd (hρ x) (hρ y) x y)
   ·split at e
    ·rename_i d' hd
     cases e
     exact .quiet H (eqS_sound hd (hρ x) (hρ y) x y)
    ·exact .quiet H (eqN_sound hu e (hρ x) x fun v hv => by rw [hv, hk])
 ·rename_i op t x ho
  rw [ho]
  exact .quiet H (unD_sound e (hρ x))
 ·rename_i src dst x ho
  rw [ho]
  have rx := hρ x
  split at e
  ·rename_i el s hs hd hx
   split at e
   ·rename_i hel
    split at e
    ·cases e
     rw [hx] at rx
     simp only [rx.str_inv]
     exact bytes_good H hs hd hel s
    ·cases e
   ·cases e
  ·exact .quiet H (convD_sound e rx)
 ·rename_i f first captured ho
  rw [ho]
  cases e
  refine .quiet H ⟨_, rfl, .fn (by simp) (by simp) (fun i v d h1 h2 => ?_) (fun i v d h1 h2 => ?_)⟩
  ·rw [Array.getElem?_map] at h1
   rw [List.getElem?_map, Array.getElem?_toList] at h2
   cases hx : first[i]? with
   | none => rw [hx] at h1; cases h1
   | some x => rw [hx] at h1 h2; simp at h1 h2; subst h1; subst h2; exact hρ x
  ·rw [Array.getElem?_map] at h1
   rw [List.getElem?_map, Array.getElem?_toList] at h2
   cases hx : captured[i]? with
   | none => rw [hx] at h1; cases h1
   | some x => rw [hx] at h1 h2; simp at h1 h2; subst h1; subst h2; exact hρ x
 ·rename_i s x f ho
  rw [ho]
  obtain ⟨off, hoff, e⟩ := Option.bind_eq_some_iff.1 e
  have rx := hρ x
  split at e
  ·rename_i cs hx
   rw [hx] at rx
   cases e
   exact .quiet H (fieldPtr_sound hoff rx)
  ·rename_i b v i q hx
   rw [hx] at rx
   cases e
   exact .quiet H (fieldPref_sound hoff rx)
  ·cases e
 ·rename_i t x f ho
  rw [ho]
  split at e
  ·rename_i fs hu
   obtain ⟨y, hy, e⟩ := Option.bind_eq_some_iff.1 e
   obtain ⟨a, ha, e⟩ := Option.bind_eq_some_iff.1 e
   obtain ⟨s, hs, e⟩ := Option.bind_eq_some_iff.1 e
   have rx := hρ x
   split at e
   ·rename_i cs hx
    rw [hx] at rx
    exact .quiet H (field_sound hu hy ha hs rx e)
   ·cases e
  ·cases e
 ·rename_i t x ix ho
  rw [ho]
  exact .quiet H (indexD_sound e (hρ x) (hρ ix))
 ·rename_i t x ix ho
  rw [ho]
  have rx := hρ x
  have ri := hρ ix
  split at e
  ·rename_i s k i hu hx hi
   rw [hx] at rx
   rw [hi] at ri
   by_cases h0 : 0 ≤ i
   ·by_cases h1 : i < (s.size : Int)
    ·simp only [h0, h1, if_true, Option.some.injEq] at e
     subst e
     refine .quiet H ⟨.int .u8 ((s.data.getD i.toNat 0).toNat : Int), ?_, .int⟩
     have hlt : i.toNat < s.size := by omega
     have hlt' : i.toNat < s.data.size := hlt
     simp only [rx.str_inv, ri.int_inv, Instr.index, asIntOf, Sem.run_bind, Sem.run_pure, Result.andThen_ok, run_underlying hu, h0, if_true, ByteArray.getElem?_lt' s _ hlt]
     simp only [Array.getD, hlt', dif_pos]
     rfl
    ·simp only [h0, h1, if_true, if_false] at e; cases e
   ·simp only [h0, if_false] at e; cases e
  ·cases e
 ·rename_i x i ho
  rw [ho]
  have rx := hρ x
  split at e
  ·rename_i vs hx
   rw [hx] at rx
   exact .quiet H (extract_sound rx e)
  ·cases e
 ·rename_i t x lo hi mx ho
  rw [ho]
  exact .quiet H (sliceD_sound hρ e)
 ·rename_i c ho
  rw [ho]
  split at e
  ·rename_i hc
   split at e
   ·rename_i x t l ha ht
    obtain ⟨n, hn, rfl⟩ := Option.map_eq_some_iff.1 e
    have ha' : c.args = #[x] := by rw [← Array.toArray_toList (xs := c.args), ha]
    have ht' : c.argTypes[0]? = some t := by rw [← Array.getElem?_toList, ht]; rfl
    simp only [resolve, hc, pure_bind, invoke, builtin, ha']
    have hm : (#[x] : Array Operand).map ρ = #[ρ x] := by simp
    rw [hm]
    exact .quiet H ⟨_, lenD_sound hn (hρ x) _ ht' _, .int⟩
   ·cases e
  ·rename_i hc
   split at e
   ·rename_i x l ha
    have ha' : c.args = (x :: l).toArray := by rw [← Array.toArray_toList (xs := c.args), ha]
    simp only [resolve, hc, pure_bind, invoke, builtin, ha']
    have := minD_sound (P := C.P) e (hρ x) (VsRel.map (S := S) (φ := φ) (w := w) l ρ σ fun y _ => hρ y) c.argTypes o.type
    exact .quiet H (by simpa using this)
   ·cases e
  ·rename_i hc
   split at e
   ·rename_i x l ha
    have ha' : c.args = (x :: l).toArray := by rw [← Array.toArray_toList (xs := c.args), ha]
    simp only [resolve, hc, pure_bind, invoke, builtin, ha']
    have := maxD_sound (P := C.P) e (hρ x) (VsRel.map (S := S) (φ := φ) (w := w) l ρ σ fun y _ => hρ y) c.argTypes o.type
    exact .quiet H (by simpa using this)
   ·cases e
  ·cases e
 ·cases e
end Go.Proofs.YtlpbmajbalenjaaA
namespace Go.Proofs.YtlpbmajbalenjaaA
open Go
variable {P : Program} {w w' : World} {S : Nat → Prop} {φ φ' : Phi} {h h' : Heap}

theorem one_cell {v : Value} {d : D} (r : VRel w S φ v d) (hd : d.one = true) : v.oneCell' = true := by
 cases r <;> first | rfl | (simp [D.one] at hd; done)
theorem zero_cells {v : Value} {z : D} {s : Nat} (hz : z = ofV v) (hs : z.wide s) : v.cells.size = s ∧ BodyOk w S φ s v.cells (.rows s [z]) := by
 have hcells := ofV_cells (w := w) (S := S) (φ := φ) v
 rw [← hz] at hcells
 obtain ⟨h1, h2⟩ := hcells
 have hl := hs.1
 refine ⟨by omega, rfl, by simp; omega, fun i d hd => ?_, fun i d j e hd he => ?_⟩
 ·cases i with
  | zero => simp at hd; subst hd; exact hs
  | succ i => simp at hd
 ·cases i with
  | zero =>
   simp at hd; subst hd
   have hj := (List.getElem?_eq_some_iff.1 he).1
   have hv : v.cells[j]? = some (v.cells[j]'(by omega)) := Array.getElem?_eq_getElem (by omega)
   exact ⟨_, by rw [Nat.zero_mul, Nat.zero_add]; exact hv, h2 j _ e hv he⟩
  | succ i => simp at hd
theorem box_cells {v : Value} {d : D} {s : Nat} (r : VRel w S φ v d) (hs : d.wide s) : v.cells.size = s ∧ BodyOk w S φ s v.cells (.rows s [d]) := by
 obtain ⟨h1, h2⟩ := r.cells (one_top hs.2)
 have hl := hs.1
 refine ⟨by omega, rfl, by simp; omega, fun i d' hd => ?_, fun i d' j e hd he => ?_⟩
 ·cases i with
  | zero => simp at hd; subst hd; exact hs
  | succ i => simp at hd
 ·cases i with
  | zero =>
   simp at hd; subst hd
   have hj := (List.getElem?_eq_some_iff.1 he).1
   have hv : v.cells[j]? = some (v.cells[j]'(by omega)) := Array.getElem?_eq_getElem (by omega)
   exact ⟨_, by rw [Nat.zero_mul, Nat.zero_add]; exact hv, h2 j _ e hv he⟩
  | succ i => simp at hd
theorem Good.block (H : HRel w S φ h) {s : Sem Value} {v : Value} {d : D} {b : Nat} {B : Blk} {body : Body} {sz : Nat} {c : Array Value} {T : TypeId} (hr : s.run P w = .ok v w') (hB : h[b]? = some B) (hos : w'.os = w.os) (htape : w'.tape = w.tape) (hout : w'.output = w.output)
  (hheap : w'.heap = w.heap.push (.cells c T (0, 0))) (ok : BodyOk w S φ sz c body) (hv : VRel w' S (newPhi φ b (B.ver + 1) (w.heap.size, sz, c.size)) v d) :
  Good P w S φ h (do pure (Next.value (← s))) d (h.set b ⟨B.ver + 1, false, body⟩) := by
 obtain ⟨h1, h2⟩ := fresh_sound H hB hos htape hout hheap ok
 exact ⟨v, w', S, _, .inl (by simp [hr]), h2, h1, hv⟩
theorem replicate_ok {n m s : Nat} {z : D} {cells : Array Value} (r : RowRel w S φ s cells (List.replicate m z)) (hn : n ≤ m) (hz : z.wide s) : BodyOk w S φ s cells (.rows s (List.replicate n z)) := by
 refine ⟨rfl, ?_, fun i d hd => ?_, fun i d j e hd he => ?_⟩
 ·rw [r.1]; simp; exact Nat.mul_le_mul_right s hn
 ·rw [List.getElem?_replicate] at hd
  split at hd
  ·cases hd; exact hz
  ·cases hd
 ·rw [List.getElem?_replicate] at hd
  split at hd
  ·rename_i hi
   exact (r.2 i d (by rw [List.getElem?_replicate, if_pos (by omega)]; exact hd)).2 j e he
  ·cases hd
theorem Good.blockMap (H : HRel w S φ h) {s : Sem Value} {b : Nat} {B : Blk} (hr : s.run P w = .ok (.map (some w.heap.size)) w') (hB : h[b]? = some B) (hos : w'.os = w.os) (htape : w'.tape = w.tape) (hout : w'.output = w.output)
  (hheap : w'.heap = w.heap.push (.map #[] 0)) : Good P w S φ h (do pure (Next.value (← s))) (.mref b (B.ver + 1)) (h.set b ⟨B.ver + 1, false, .map []⟩) := by
 obtain ⟨g1, g2⟩ := freshMap_sound H hB hos htape hout hheap
 exact ⟨_, w', S, _, .inl (by simp [hr]), g2, g1, .mref (newPhi_at _ _ _ _)⟩
theorem Good.blockIter (H : HRel w S φ h) {s : Sem Value} {t : ByteArray} {b : Nat} {B : Blk} (hr : s.run P w = .ok (.pointer (some ⟨w.heap.size, 0, none⟩)) w') (hB : h[b]? = some B) (hos : w'.os = w.os) (htape : w'.tape = w.tape) (hout : w'.output = w.output)
  (hheap : w'.heap = w.heap.push (.stringIter t 0)) : Good P w S φ h (do pure (Next.value (← s))) (.pref b (B.ver + 1) 0 0) (h.set b ⟨B.ver + 1, false, .iter t 0⟩) := by
 obtain ⟨g1, g2⟩ := freshIter_sound H hB hos htape hout hheap
 have := VRel.pref (w := w') (S := S) (i := 0) (off := 0) (newPhi_at φ b (B.ver + 1) (w.heap.size, 0, 0))
 exact ⟨.pointer (some ⟨w.heap.size, 0, none⟩), w', S, _, .inl (by simp [hr]), g2, g1, by simpa using this⟩
theorem replicate_zrow {n m s : Nat} {z : D} {e : TypeId} {cells : Array Value} (r : RowRel w S φ s cells (List.replicate m z)) (hn : n ≤ m) (hz : z.wide s) (hz2 : (zrow P e z).wide s) : BodyOk w S φ s cells (.rows s (List.replicate n (zrow P e z))) := by
 cases z with
 | agg cs =>
  have k := replicate_ok r hn hz
  obtain ⟨k1, k2, k3, k4⟩ := k
  refine ⟨rfl, by simpa using k2, fun i d hd => ?_, fun i d j c hd he => ?_⟩
  ·rw [List.getElem?_replicate] at hd
   split at hd
   ·cases hd; exact hz2
   ·cases hd
  ·rw [List.getElem?_replicate] at hd
   split at hd
   ·rename_i hi
    cases hd
    have hl := hz2.1
    have hl0 := hz.1
    have hj := (List.getElem?_eq_some_iff.1 he).1
    have hj0 : j < cs.length := by simp only [D.cells] at hl0; omega
    obtain ⟨v, v1, v2⟩ := k4 i (.agg cs) j (cs[j]'hj0) (by rw [List.getElem?_replicate, if_pos hi]) (by simp [D.cells])
    refine ⟨v, v1, ?_⟩
    simp only [zrow, norm, D.cells] at he
    rw [zip_get] at he
    split at he
    ·cases he
     exact norm1_sound _ v2
    ·rename_i hn2
     rw [List.getElem?_drop] at he
     have : cs[j]? = some c := by rw [← he]; congr 1; omega
     rw [List.getElem?_eq_getElem hj0] at this
     cases this
     exact v2
   ·cases hd
 | _ => exact replicate_ok r hn hz
theorem opA_sound (H : HRel w S φ h) {C : Cx} {o : Oper} {ρ : Operand → Value} {σ : Env} (hρ : ∀ x, VRel w S φ (ρ x) (σ x)) {base : Nat} {x : Body × (Nat → Nat → D)} (e : opA C o σ = some x) {d : D} {h' : Heap}
  (ep : putA base o.dst h x = some (d, h')) : Good C.P w S φ h (execOp ρ o) d h' := by
 unfold putA at ep
 obtain ⟨t, ht, ep⟩ := Option.bind_eq_some_iff.1 ep
 obtain ⟨B, hB, ep⟩ := Option.map_eq_some_iff.1 ep
 cases ep
 unfold execOp
 unfold opA at e
 split at e
 ·rename_i t' ho
  rw [ho]
  cases e
  refine Good.blockMap H (w' := w.alloc (.map #[] 0)) ?_ hB rfl rfl rfl rfl
  simp [Instr.makeMap]
 ·rename_i t' y ho
  rw [ho]
  obtain ⟨u, hu, e⟩ := Option.bind_eq_some_iff.1 e
  have ry := hρ y
  split at e <;> try (cases e; done)
  rename_i s hy
  cases e
  rw [hy] at ry
  refine Good.blockIter H (w' := w.alloc (.stringIter s 0)) ?_ hB rfl rfl rfl rfl
  simp [Instr.range, run_underlying hu, ry.str_inv]
 ·rename_i t' ho
  rw [ho]
  obtain ⟨z, hz, e⟩ := Option.bind_eq_some_iff.1 e
  obtain ⟨s, hs, e⟩ := Option.bind_eq_some_iff.1 e
  split at e
  ·rename_i hc
   cases e
   obtain ⟨v, hv, hzv⟩ := zero_run (P := C.P) (w := w) hz
   obtain ⟨g1, g2⟩ := zero_cells (w := w) (S := S) (φ := φ) hzv hc.2
   refine Good.block H (w' := w.alloc (.cells v.cells t')) (v := .pointer (some ⟨w.heap.size, 0, none⟩)) ?_ hB rfl rfl rfl rfl g2 ?_
   ·simp [Instr.alloc, hv, newVar, newRow]
   ·have := VRel.pref (w := w.alloc (.cells v.cells t')) (S := S) (i := 0) (off := 0) (newPhi_at φ (base + t) (B.ver + 1) (w.heap.size, s, v.cells.size))
    simpa using this
  ·cases e
 ·rename_i t' y ho
  rw [ho]
  obtain ⟨s, hs, e⟩ := Option.bind_eq_some_iff.1 e
  split at e
  ·rename_i hc
   cases e
   obtain ⟨g1, g2⟩ := box_cells (hρ y) hc.2
   refine Good.block H (w' := w.alloc (.cells (ρ y).cells t')) (v := .pointer (some ⟨w.heap.size, 0, none⟩)) ?_ hB rfl rfl rfl rfl g2 ?_
   ·simp [Instr.box, newVar, newRow]
   ·have := VRel.pref (w := w.alloc (.cells (ρ y).cells t')) (S := S) (i := 0) (off := 0) (newPhi_at φ (base + t) (B.ver + 1) (w.heap.size, s, (ρ y).cells.size))
    simpa using this
  ·cases e
 ·rename_i t' l c ho
  rw [ho]
  obtain ⟨el, he, e⟩ := Option.bind_eq_some_iff.1 e
  obtain ⟨s, hs, e⟩ := Option.bind_eq_some_iff.1 e
  obtain ⟨by_, hby, e⟩ := Option.bind_eq_some_iff.1 e
  obtain ⟨z, hz, e⟩ := Option.bind_eq_some_iff.1 e
  have rl := hρ l
  have rc := hρ c
  split at e
  ·rename_i k1 n k2 m hl hm
   rw [hl] at rl
   rw [hm] at rc
   by_cases q1 : 0 ≤ n <;> by_cases q2 : n ≤ m <;> by_cases q3 : m ≤ 140737488351232 <;> by_cases q4 : (by_ : Int) * m ≤ 140737488351232 <;> simp only [q1, q2, q3, q4, if_true, if_false] at e <;> try (cases e; done)
   by_cases hc : 0 < s ∧ z.cells.length = s ∧ z.cells.all D.one = true
   ·rw [if_pos hc] at e
    obtain ⟨v, hv, hzv⟩ := zero_run (P := C.P) (w := w) hz
    obtain ⟨n, rfl⟩ := Int.eq_ofNat_of_zero_le q1
    obtain ⟨m, rfl⟩ := Int.eq_ofNat_of_zero_le (show (0 : Int) ≤ m by omega)
    have hrow := zeros_row (w := w) (S := S) (φ := φ) (len := m) hzv hc.2 hc.1
    have hu := elem_run he
    obtain ⟨info, hinfo, hsi⟩ : ∃ info, C.P.info? el = some info ∧ info.size = s := by
     unfold szOf at hs; obtain ⟨i, h1, h2⟩ := Option.map_eq_some_iff.1 hs; exact ⟨i, h1, h2⟩
    have hbi : info.bytes = by_ := by
     unfold bytesOf at hby; rw [hinfo] at hby; simpa using hby
    have w1 : IntKind.i64.wrap (n : Int) = n := by simp [IntKind.wrap, IntKind.bits, IntKind.signed]; omega
    have w2 : IntKind.i64.wrap (m : Int) = m := by simp [IntKind.wrap, IntKind.bits, IntKind.signed]; omega
    obtain ⟨cells, hcells⟩ : ∃ cells, cells = (Array.range (m * s)).map (v.cells[· % v.cells.size]!) := ⟨_, rfl⟩
    rw [← hcells] at hrow
    have hrun : (Instr.makeSlice t' (ρ l) (ρ c)).run C.P w = .ok (.slice (some ⟨w.heap.size, 0, none⟩) n m) (w.alloc (.cells cells el)) := by
     have b1 : ¬ ((m : Int) < 0) := by omega
     have b2 : ¬ ((info.bytes : Int) * (m : Int) > 2 ^ 48) := by rw [hbi]; omega
     have b3 : ¬ ((n : Int) < 0) := by omega
     have b4 : ¬ ((n : Int) > (m : Int)) := by omega
     have hcond : (decide ((m : Int) < 0) || decide ((info.bytes : Int) * (m : Int) > 2 ^ 48) || decide ((n : Int) < 0) || decide ((n : Int) > (m : Int))) = false := by rw [decide_eq_false b1, decide_eq_false b2, decide_eq_false b3, decide_eq_false b4]; rfl
     simp only [Instr.makeSlice, Sem.run_bind, run_underlying hu, Result.andThen_ok, rl.int_inv, rc.int_inv, asInt, asIntOf, Sem.run_pure, typeInfo, run_program, hinfo, w1, w2, hcond, Bool.false_eq_true, if_false, run_askRoom, sizeOf, hsi, Int.toNat_natCast]
     by_cases hms : m * s = 0
     ·rw [if_pos hms]
      have hc0 : cells = #[] := by rw [hcells, hms, Array.range_zero']; simp
      simp [newRow, hms, Array.range_zero', hc0]
     ·rw [if_neg hms]
      simp only [Sem.run_bind, hv, Result.andThen_ok, Sem.run_pure, newRow, run_newObj, hcells]
      rfl
    have fin : ∀ {body : Body} {sz : Nat} {d : D}, BodyOk w S φ sz cells body → sz = s → d = .sref (base + t) (B.ver + 1) sz 0 n → Good C.P w S φ h (do pure (Next.value (← Instr.makeSlice t' (ρ l) (ρ c)))) d (h.set (base + t) ⟨B.ver + 1, false, body⟩) := fun {body sz d} ok hsz hd => by
     subst hd
     refine Good.block H hrun hB rfl rfl rfl rfl ok ?_
     have := VRel.sref (w := w.alloc (.cells cells el)) (S := S) (off := 0) (len := n) (cap := m) (newPhi_at φ (base + t) (B.ver + 1) (w.heap.size, sz, cells.size)) (by omega) (by rw [Nat.zero_add, hsz, hrow.1]; simp)
     simpa using this
    split at e
    ·rename_i k k' hk
     split at e
     ·rename_i hkk
      cases e
      subst hkk
      have hs1 : s = 1 := by have := hc.2.1; simp [D.cells] at this; omega
      subst hs1
      refine fin ?_ rfl (by simp)
      refine ⟨rfl, by simp [hrow.1]; omega, fun i hi => ?_⟩
      simp only [Int.toNat_natCast, List.length_replicate] at hi
      obtain ⟨x, m1, m2⟩ := (hrow.2 i _ (by rw [List.getElem?_replicate, if_pos (by omega)])).2 0 _ rfl
      rw [Nat.mul_one, Nat.add_zero] at m1
      rw [m1, m2.int_inv]
      simp [List.getD_eq_getElem?_getD, List.getElem?_replicate, hi]
     ·cases e
    ·split at e <;> try (cases e; done)
     rename_i hz2
     cases e
     exact fin (replicate_zrow hrow (by simp; omega) hc.2 hz2) rfl (by simp)
   ·rw [if_neg hc] at e; cases e
  ·cases e
 ·cases e
end Go.Proofs.YtlpbmajbalenjaaA
namespace Go.Proofs.YtlpbmajbalenjaaA
open Go
variable {P : Program} {w w' : World} {S : Nat → Prop} {φ φ' : Phi} {h h' : Heap}

def patch (c : Array Value) (o : Nat) (us : List Value) : Array Value := (c.toList.take o ++ us ++ c.toList.drop (o + us.length)).toArray
theorem patch_size (c : Array Value) (o : Nat) (us : List Value) (hl : o + us.length ≤ c.size) : (patch c o us).size = c.size := by
 simp [patch]; omega
theorem patch_get (c : Array Value) (o : Nat) (us : List Value) (hl : o + us.length ≤ c.size) (q : Nat) : (patch c o us)[q]? = if o ≤ q ∧ q < o + us.length then us[q - o]? else c[q]? := by
 unfold patch
 rw [List.getElem?_toArray]
 by_cases h1 : q < o
 ·rw [if_neg (by omega), List.append_assoc, List.getElem?_append_left (by simp; omega), List.getElem?_take, if_pos h1]; simp
 ·by_cases h2 : q < o + us.length
  ·rw [if_pos ⟨by omega, h2⟩, List.getElem?_append_left (by simp; omega), List.getElem?_append_right (by simp; omega)]
   congr 1; simp; omega
  ·rw [if_neg (by omega), List.getElem?_append_right (by simp; omega), List.getElem?_drop, Array.getElem?_toList]
   congr 1; simp; omega
theorem setRow_heapEq {A : Nat} {c c' : Array Value} {T : TypeId} (hA : w.heap[A]? = some (.cells c T (0, 0))) : (w.setRow A c').heap = w.heap.setIfInBounds A (.cells c' T (0, 0)) := by
 have hlt : A < w.heap.size := by
  rcases Nat.lt_or_ge A w.heap.size with h | h
  ·exact h
  ·rw [Array.getElem?_eq_none h] at hA; cases hA
 apply Array.ext_getElem?
 intro i
 by_cases hi : i = A
 ·subst hi
  rw [setRow_heap w i c c' T (0, 0) hA, Array.getElem?_setIfInBounds_self_of_lt hlt]
 ·rw [setRow_other w A i c' hi, Array.getElem?_setIfInBounds_ne (Ne.symm hi)]
theorem store_run {A o : Nat} {c : Array Value} {T : TypeId} (hA : w.heap[A]? = some (.cells c T (0, 0))) (us : List Value) (hl : o + us.length ≤ c.size) (h1 : ∀ v ∈ us, v.oneCell' = true) :
  (storeCells ⟨A, o, none⟩ us).run P w = .ok () (w.setRow A (patch c o us)) := by
 have := run_storeCells_at P A o T us 0 c w hA (by omega) h1
 simpa [patch] using this
theorem ones {vs : List Value} {ds : List D} (r : VsRel w S φ vs ds) (hd : ds.all D.one = true) : ∀ v ∈ vs, v.oneCell' = true := by
 intro v hv
 obtain ⟨i, hi⟩ := List.getElem?_of_mem hv
 have hlt := (List.getElem?_eq_some_iff.1 hi).1
 have hr := r.1
 have hdi : ds[i]? = some (ds[i]'(by omega)) := List.getElem?_eq_getElem (by omega)
 rw [List.all_eq_true] at hd
 exact one_cell (r.2 i v _ hi hdi) (hd _ (List.getElem_mem _))
theorem cells_rel {v : Value} {d : D} (r : VRel w S φ v d) (hd : d.cells.all D.one = true) : VsRel w S φ v.cells.toList d.cells := by
 obtain ⟨h1, h2⟩ := r.cells (one_top hd)
 exact ⟨by simpa using h1, fun i x e g1 g2 => h2 i x e (by simpa using g1) g2⟩

theorem st_sound (H : HRel w S φ h) {t : TypeId} {p v : D} {pv vv : Value} (rp : VRel w S φ pv p) (rv : VRel w S φ vv v) (e : st P h t p v = some h') :
  ∃ w', (Instr.storeAt t pv vv).run P w = .ok () w' ∧ HRel w' S φ h' ∧ Ext w S φ h w' S φ h' := by
 unfold st at e
 obtain ⟨s, hs, e2⟩ := Option.bind_eq_some_iff.1 e
 clear e
 cases rp with
 | @pref _ A b u sz n i off hp =>
  simp only at e2
  cases hB : h[b]? with
  | none => rw [hB] at e2; cases e2
  | some B =>
   rw [hB] at e2
   simp only at e2
   by_cases hc : B.ver = u ∧ B.fz = false
   ·rw [if_pos hc] at e2
    obtain ⟨hver, hfz⟩ := hc
    subst hver
    have run : ∀ {c : Array Value} {T : TypeId}, w.heap[A]? = some (.cells c T (0, 0)) → vv.cells.size = s → i * sz + off + s ≤ c.size → v.cells.all D.one = true → VRel w S φ vv v →
      (Instr.storeAt t (.pointer (some ⟨A, i * sz + off, none⟩)) vv).run P w = .ok () (w.setRow A (patch c (i * sz + off) vv.cells.toList)) := fun {c T} hA hsz hle hone r => by
     have := store_run (P := P) hA vv.cells.toList (o := i * sz + off) (by simp; omega) (ones (cells_rel r hone) hone)
     simp [Instr.storeAt, Instr.sureAddr, storeVar, run_szOf hs, hsz, this]
    cases hbody : B.body with
    | dead => rw [hbody] at e2; cases e2
    | map _ => rw [hbody] at e2; cases e2
    | iter _ _ => rw [hbody] at e2; cases e2
    | ints k xs =>
     rw [hbody] at e2
     obtain ⟨c, T, rfl, hA, hn, hl, hx⟩ := get_ints H (b := b) (v := B.ver) (k := k) (xs := xs) (by simp [Heap.get, hB, hbody]) hp
     cases v <;> try (simp at e2; done)
     rename_i k' m
     simp only at e2
     by_cases hq : k = k' ∧ off = 0 ∧ i < xs.length ∧ s = 1
     ·rw [if_pos hq] at e2
      cases e2
      obtain ⟨rfl, rfl, hi, rfl⟩ := hq
      obtain rfl := rv.int_inv
      have hle : i * 1 + 0 + 1 ≤ c.size := by omega
      refine ⟨_, run hA rfl hle rfl .int, ?_⟩
      have hcl : (Value.int k m).cells.toList = [.int k m] := rfl
      have hle' : i * 1 + 0 + (Value.int k m).cells.toList.length ≤ c.size := by rw [hcl]; simp; omega
      refine written_sound H hB (by rw [hbody]; simp) hfz hp hA (by rw [patch_size _ _ _ hle']; exact hn) rfl rfl rfl (setRow_heapEq hA) ⟨rfl, by rw [patch_size _ _ _ hle', List.length_set]; omega, fun j hj => ?_⟩
      rw [List.length_set] at hj
      rw [patch_get _ _ _ hle', hcl]
      by_cases hji : j = i
      ·subst hji
       rw [if_pos ⟨by omega, by simp⟩, show j - (j * 1 + 0) = 0 by omega]
       simp [List.getD_eq_getElem?_getD, hj]
      ·rw [if_neg (by simp; omega), hx j hj]
       simp [List.getD_eq_getElem?_getD, List.getElem?_set, Ne.symm hji]
     ·rw [if_neg hq] at e2; cases e2
    | rows sz' xs =>
     rw [hbody] at e2
     obtain ⟨c, T, rfl, hA, hn, hl, hsz, hx⟩ := get_rows H (b := b) (v := B.ver) (sz' := sz') (xs := xs) (by simp [Heap.get, hB, hbody]) hp
     simp only at e2
     cases hd : xs[i]? with
     | none => rw [hd] at e2; cases e2
     | some d =>
      rw [hd] at e2
      simp only at e2
      by_cases hq : v.cells.length = s ∧ off + s ≤ d.cells.length ∧ v.cells.all D.one = true
      ·rw [if_pos hq] at e2
       cases e2
       obtain ⟨q1, q2, q3⟩ := hq
       obtain ⟨v1, v2⟩ := rv.cells (one_top q3)
       obtain ⟨w1, w2⟩ := hsz i d hd
       have hi := (List.getElem?_eq_some_iff.1 hd).1
       have hrow : i * sz' + sz' ≤ xs.length * sz' := by
        have : (i + 1) * sz' ≤ xs.length * sz' := Nat.mul_le_mul_right sz' hi
        rw [Nat.add_mul] at this; omega
       have hvl : vv.cells.toList.length = s := by simp; omega
       have hd' : (if off = 0 ∧ s = sz' then v else D.agg (upd d.cells off v.cells)).cells = upd d.cells off v.cells := by
        split
        ·rename_i hz
         obtain ⟨rfl, rfl⟩ := hz
         simp [upd, w1, q1]
        ·rfl
       refine ⟨_, run hA (by omega) (by omega) q3 rv, ?_⟩
       refine written_sound H hB (by rw [hbody]; simp) hfz hp hA (by rw [patch_size _ _ _ (by rw [hvl]; omega)]; exact hn) rfl rfl rfl (setRow_heapEq hA) ⟨rfl, by rw [patch_size _ _ _ (by rw [hvl]; omega), List.length_set]; omega, fun i' d' hd1 => ?_, fun i' d' j e hd1 he => ?_⟩
       ·rw [List.getElem?_set] at hd1
        by_cases hii : i = i'
        ·rw [if_pos hii, if_pos hi] at hd1
         cases hd1
         refine ⟨by rw [hd', upd_len _ _ _ (by omega)]; exact w1, ?_⟩
         rw [hd', List.all_eq_true]
         intro x hxm
         obtain ⟨q, hq⟩ := List.getElem?_of_mem hxm
         rw [upd_get _ _ _ _ (by omega)] at hq
         rw [List.all_eq_true] at q3 w2
         split at hq
         ·exact q3 x (List.mem_of_getElem? hq)
         ·exact w2 x (List.mem_of_getElem? hq)
        ·rw [if_neg hii] at hd1
         exact hsz i' d' hd1
       ·rw [List.getElem?_set] at hd1
        rw [patch_get _ _ _ (by rw [hvl]; omega), hvl]
        by_cases hii : i = i'
        ·rw [if_pos hii, if_pos hi] at hd1
         cases hd1
         rw [hd', upd_get _ _ _ _ (by omega)] at he
         subst hii
         by_cases hj : off ≤ j ∧ j < off + v.cells.length
         ·rw [if_pos hj] at he
          rw [if_pos ⟨by omega, by omega⟩, Array.getElem?_toList, show i * sz' + j - (i * sz' + off) = j - off by omega]
          have hvj : vv.cells[j - off]? = some (vv.cells[j - off]'(by omega)) := Array.getElem?_eq_getElem (by omega)
          exact ⟨_, hvj, v2 _ _ e hvj he⟩
         ·rw [if_neg hj] at he
          rw [if_neg (by omega)]
          exact hx i d j e hd he
        ·rw [if_neg hii] at hd1
         have hj := (List.getElem?_eq_some_iff.1 he).1
         have w3 := (hsz i' d' hd1).1
         rw [if_neg]
         ·exact hx i' d' j e hd1 he
         ·rintro ⟨g1, g2⟩
          have : i' * sz' + j = i * sz' + (i' * sz' + j - i * sz') := by omega
          exact hii (row_idx (s := sz') (by omega) (by omega) this).1.symm
      ·rw [if_neg hq] at e2; cases e2
   ·rw [if_neg hc] at e2; cases e2
 | _ => simp at e2
theorem zeroCells_len {v : Value} {s n : Nat} (h : v.cells.size = s) : (Builtin.zeroCells v.cells n).toList.length = n * s := by
 simp [Builtin.zeroCells, h]
theorem zeroCells_one (w : World) (S : Nat → Prop) (φ : Phi) {v : Value} {z : D} {n : Nat} (hz : z = ofV v) (hs : z.cells.all D.one = true) : ∀ x ∈ (Builtin.zeroCells v.cells n).toList, x.oneCell' = true := by
 intro x hx
 have r : VRel w S φ v z := by rw [hz]; exact .ofV v
 have h1 := ones (cells_rel r hs) hs
 simp only [Builtin.zeroCells, Array.toList_map, List.mem_map] at hx
 obtain ⟨i, hi, rfl⟩ := hx
 have hi' : i < n * v.cells.size := by simpa using hi
 have hp : 0 < v.cells.size := by
  rcases Nat.eq_zero_or_pos v.cells.size with h | h
  ·rw [h] at hi'; omega
  ·exact h
 have hm : i % v.cells.size < v.cells.size := Nat.mod_lt _ hp
 rw [getElem!_pos v.cells _ hm]
 exact h1 _ (by simp)
theorem clearD_sound (H : HRel w S φ h) {t : TypeId} {x : D} {xv : Value} (rx : VRel w S φ xv x) {r : D} (e : clearD P h t x = some (r, h')) (ty : TypeId) (ts : Array TypeId) (ht : ts[0]? = some t) :
  ∃ v w', (Builtin.clear_ ts ty #[xv]).run P w = .ok v w' ∧ HRel w' S φ h' ∧ Ext w S φ h w' S φ h' ∧ VRel w' S φ v r := by
 have tup : ∀ {w' : World}, VRel w' S φ (.tuple #[]) (.tuple []) := .tuple rfl fun i v d h => by simp at h
 unfold clearD at e
 obtain ⟨el, he, e1⟩ := Option.bind_eq_some_iff.1 e
 clear e
 obtain ⟨s, hs, e2⟩ := Option.bind_eq_some_iff.1 e1
 clear e1
 obtain ⟨z, hz, e3⟩ := Option.bind_eq_some_iff.1 e2
 clear e2
 split at e3 <;> try (cases e3; done)
 rename_i hzc
 have hu := elem_run he
 obtain ⟨zv, hzv, hzo⟩ := zero_run (P := P) (w := w) hz
 have none0 : ∀ {a : Option Addr} {m : Nat}, (Builtin.clear_ ts ty #[.slice a 0 m]).run P w = .ok (.tuple #[]) w := fun {a m} => by
  cases a <;> simp [Builtin.clear_, ht, run_underlying hu]
 have rb := bare_vrel rx
 generalize x.bare = y at *
 split at e3 <;> try (cases e3; done)
 ·cases e3
  cases rb
  exact ⟨_, w, none0, H, .refl .., tup⟩
 ·cases e3
  cases rb
  exact ⟨_, w, none0, H, .refl .., tup⟩
 ·cases e3
  cases rb
  exact ⟨_, w, none0, H, .refl .., tup⟩
 ·rename_i b v sz off len
  split at e3
  ·rename_i h0
   subst h0
   cases e3
   cases rb with
   | sref => exact ⟨_, w, none0, H, .refl .., tup⟩
   | sref0 => exact ⟨_, w, none0, H, .refl .., tup⟩
  ·rename_i h0
   obtain ⟨B, hB, e4⟩ := Option.bind_eq_some_iff.1 e3
   clear e3
   split at e4 <;> try (cases e4; done)
   rename_i hc
   obtain ⟨hver, hfz, hss⟩ := hc
   subst hver; subst hss
   split at e4 <;> try (cases e4; done)
   rename_i s' xs hbody
   split at e4 <;> try (cases e4; done)
   rename_i hs'
   subst hs'
   cases e4
   cases rb with
   | sref0 => exact absurd rfl h0
   | @sref _ A _ _ _ n _ _ cap hp hlc hn =>
    obtain ⟨c, T, _, hA, hcn, hl, hsz, hx⟩ := get_rows H (b := b) (v := B.ver) (sz' := s') (xs := xs) (by simp [Heap.get, hB, hbody]) hp
    have hvs : zv.cells.size = s' := by
     have r : VRel w S φ zv z := by rw [hzo]; exact .ofV zv
     obtain ⟨k1, _⟩ := r.cells (one_top hzc.2)
     omega
    have hlen := zeroCells_len (n := len) hvs
    have hle : off * s' + (Builtin.zeroCells zv.cells len).toList.length ≤ c.size := by
     rw [hlen, hcn]
     have h1 : (off + cap) * s' = off * s' + cap * s' := Nat.add_mul ..
     have h2 : len * s' ≤ cap * s' := Nat.mul_le_mul_right _ hlc
     omega
    have hst := store_run (P := P) hA (o := off * s') (Builtin.zeroCells zv.cells len).toList hle (zeroCells_one w S φ hzo hzc.2)
    refine ⟨.tuple #[], w.setRow A (patch c (off * s') (Builtin.zeroCells zv.cells len).toList), ?_, ?_⟩
    ·obtain ⟨m, rfl⟩ : ∃ m, len = m + 1 := ⟨len - 1, by omega⟩
     simp [Builtin.clear_, ht, run_underlying hu, hzv, hst]
    ·have ok : BodyOk w S φ s' (patch c (off * s') (Builtin.zeroCells zv.cells len).toList) (.rows s' (xs.take off)) := by
      refine ⟨rfl, ?_, fun i d hd => ?_, fun i d j e hd he => ?_⟩
      ·rw [patch_size _ _ _ hle, List.length_take, hcn]
       exact Nat.le_trans (Nat.mul_le_mul_right _ (Nat.min_le_right _ _)) hl
      ·rw [List.getElem?_take] at hd
       split at hd
       ·exact hsz i d hd
       ·cases hd
      ·rw [List.getElem?_take] at hd
       split at hd
       ·rename_i hi
        obtain ⟨v, v1, v2⟩ := hx i d j e hd he
        refine ⟨v, ?_, v2⟩
        rw [patch_get _ _ _ hle, if_neg]
        ·exact v1
        ·have hj := (List.getElem?_eq_some_iff.1 he).1
         rw [(hsz i d hd).1] at hj
         have : (i + 1) * s' ≤ off * s' := Nat.mul_le_mul_right _ hi
         rw [Nat.add_mul] at this
         omega
       ·cases hd
     obtain ⟨g1, g2⟩ := written_sound (w' := w.setRow A (patch c (off * s') (Builtin.zeroCells zv.cells len).toList)) H hB (by rw [hbody]; simp) hfz hp hA (by rw [patch_size _ _ _ hle]; exact hcn) rfl rfl rfl (setRow_heapEq hA) ok
     exact ⟨g1, g2, tup⟩
end Go.Proofs.YtlpbmajbalenjaaA
