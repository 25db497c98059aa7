/- Structs and rows that are written out; conversions. -/
import Derived.Test.YtcmajlphfnihgaaA8
set_option linter.unusedVariables false
set_option linter.unusedSimpArgs false
namespace Go.Proofs.YtcmajlphfnihgaaA
open Go
variable {P : Program} {w w' : World} {S : Nat → Prop} {φ φ' : Phi} {h h' : Heap}

theorem fold_set (off : Nat) : ∀ (l : List Value) (k : Nat) (cs : Array Value), ((l.zipIdx k).foldl (fun (cs : Array Value) (p : Value × Nat) => cs.setIfInBounds (off + p.2) p.1) cs).size = cs.size ∧
    ∀ q, ((l.zipIdx k).foldl (fun (cs : Array Value) (p : Value × Nat) => cs.setIfInBounds (off + p.2) p.1) cs)[q]? = if off + k ≤ q ∧ q < off + k + l.length ∧ q < cs.size then l[q - (off + k)]? else cs[q]?
  | [], k, cs => ⟨rfl, fun q => by rw [if_neg (by simp; omega)]; rfl⟩
  | v :: l, k, cs => by
    simp only [List.zipIdx_cons, List.foldl_cons]
    obtain ⟨h1, h2⟩ := fold_set off l (k + 1) (cs.setIfInBounds (off + k) v)
    refine ⟨by rw [h1]; simp, fun q => ?_⟩
    rw [h2, Array.size_setIfInBounds, List.length_cons]
    by_cases hq : off + (k + 1) ≤ q ∧ q < off + (k + 1) + l.length ∧ q < cs.size
    · rw [if_pos hq, if_pos ⟨by omega, by omega, hq.2.2⟩, show q - (off + k) = (q - (off + (k + 1))) + 1 by omega, List.getElem?_cons_succ]
    · rw [if_neg hq]
      by_cases hk : q = off + k
      · subst hk
        by_cases hs : off + k < cs.size
        · rw [if_pos ⟨by omega, by omega, hs⟩, Array.getElem?_setIfInBounds_self_of_lt hs, Nat.sub_self]; rfl
        · rw [if_neg (by omega), Array.getElem?_eq_none (by simp; omega), Array.getElem?_eq_none (by omega)]
      · rw [Array.getElem?_setIfInBounds_ne (by omega), if_neg (by omega)]
def putCells (off : Nat) (v : Array Value) (cs : Array Value) : Array Value := v.zipIdx.foldl (fun (cs : Array Value) (p : Value × Nat) => cs.setIfInBounds (off + p.2) p.1) cs
theorem putCells_size (off : Nat) (v cs : Array Value) : (putCells off v cs).size = cs.size := by
  unfold putCells
  rw [← Array.foldl_toList, Array.toList_zipIdx]
  exact (fold_set off v.toList 0 cs).1
theorem putCells_get (off : Nat) (v cs : Array Value) (q : Nat) : (putCells off v cs)[q]? = if off ≤ q ∧ q < off + v.size ∧ q < cs.size then v[q - off]? else cs[q]? := by
  unfold putCells
  rw [← Array.foldl_toList, Array.toList_zipIdx]
  have := (fold_set off v.toList 0 cs).2 q
  simpa using this
theorem fill_cons (place : Nat → Option (Nat × Nat)) (cells : Array Value) (i : Nat) (v : Value) (rest : List (Nat × Value)) {off size : Nat} (hp : place i = some (off, size)) (h1 : v.cells.size = size) (h2 : off + v.cells.size ≤ cells.size) :
    Instr.fill place cells ((i, v) :: rest) = Instr.fill place (putCells off v.cells cells) rest := by
  have e : (v.cells.size ≠ size || off + v.cells.size > cells.size : Bool) = false := by simp; omega
  simp only [Instr.fill, hp]
  rw [if_neg (by simp; omega)]
  rfl

theorem one_top {d : D} (hd : d.cells.all D.one = true) : d ≠ .top := fun e => by subst e; simp [D.cells, D.one] at hd
theorem upd_get (cs vs : List D) (off q : Nat) (hl : off + vs.length ≤ cs.length) : (upd cs off vs)[q]? = if off ≤ q ∧ q < off + vs.length then vs[q - off]? else cs[q]? := by
  unfold upd
  by_cases h1 : q < off
  · rw [if_neg (by omega), List.append_assoc, List.getElem?_append_left (by simp; omega), List.getElem?_take, if_pos h1]
  · by_cases h2 : q < off + vs.length
    · rw [if_pos ⟨by omega, h2⟩, List.getElem?_append_left (by simp; omega), List.getElem?_append_right (by simp; omega)]
      congr 1; simp; omega
    · rw [if_neg (by omega), List.getElem?_append_right (by simp; omega), List.getElem?_drop]
      congr 1; simp; omega
theorem upd_len (cs vs : List D) (off : Nat) (hl : off + vs.length ≤ cs.length) : (upd cs off vs).length = cs.length := by simp [upd]; omega
theorem put_rel {cells : Array Value} {cs : List D} {v : Value} {d : D} {off : Nat} (r : VsRel w S φ cells.toList cs) (rv : VRel w S φ v d) (hd : d ≠ .top) (hl : off + d.cells.length ≤ cs.length) :
    VsRel w S φ (putCells off v.cells cells).toList (upd cs off d.cells) := by
  obtain ⟨hc, hx⟩ := rv.cells hd
  have hr : cells.size = cs.length := by simpa using r.1
  refine ⟨by rw [upd_len _ _ _ hl]; simp [putCells_size, hr], fun i x e h1 h2 => ?_⟩
  rw [Array.getElem?_toList, putCells_get] at h1
  rw [upd_get _ _ _ _ hl] at h2
  by_cases hq : off ≤ i ∧ i < off + d.cells.length
  · rw [if_pos hq] at h2
    rw [if_pos ⟨hq.1, by omega, by omega⟩] at h1
    exact hx _ x e h1 h2
  · rw [if_neg hq] at h2
    rw [if_neg (by omega)] at h1
    exact r.2 i x e (by simpa using h1) h2
theorem buildD_sound {fs : List Field} {place : Nat → Option (Nat × Nat)} (hplace : ∀ i f s, fs[i]? = some f → szOf P f.type = some s → place i = some (f.offset, s)) {ρ : Operand → Value} {σ : Env} (hρ : ∀ x, VRel w S φ (ρ x) (σ x)) :
    ∀ (parts : List (Nat × Operand)) (cells : Array Value) (cs cs' : List D), VsRel w S φ cells.toList cs → buildD P fs (parts.map fun p => (p.1, σ p.2)) cs = some cs' →
      ∃ cells', Instr.fill place cells (parts.map fun p => (p.1, ρ p.2)) = some cells' ∧ VsRel w S φ cells'.toList cs'
  | [], cells, cs, cs', r, e => by simp [buildD] at e; subst e; exact ⟨cells, rfl, r⟩
  | (i, x) :: parts, cells, cs, cs', r, e => by
    simp only [List.map_cons, buildD] at e
    obtain ⟨f, hf, e⟩ := Option.bind_eq_some_iff.1 e
    obtain ⟨s, hs, e⟩ := Option.bind_eq_some_iff.1 e
    by_cases hc : (σ x).cells.length = s ∧ f.offset + s ≤ cs.length ∧ (σ x).cells.all D.one = true
    · rw [if_pos hc] at e
      have hx := hρ x
      have ht := one_top hc.2.2
      have hsz := (hx.cells ht).1
      have hr : cells.size = cs.length := by simpa using r.1
      obtain ⟨cells', h1, h2⟩ := buildD_sound hplace hρ parts _ _ cs' (put_rel (off := f.offset) r hx ht (by omega)) e
      exact ⟨cells', (fill_cons place cells i (ρ x) _ (hplace i f s hf hs) (by omega) (by omega)).trans h1, h2⟩
    · rw [if_neg hc] at e; cases e

theorem mapM_run {α β : Type} (f : α → Sem β) (g : α → β) : ∀ (l : List α), (∀ a ∈ l, (f a).run P w = .ok (g a) w) → (l.mapM f).run P w = .ok (l.map g) w
  | [], _ => rfl
  | a :: l, hf => by
    rw [List.mapM_cons]
    simp [hf a (by simp), mapM_run f g l fun b hb => hf b (by simp [hb])]
theorem amapM_run {α β : Type} (f : α → Sem β) (g : α → β) (l : Array α) (hf : ∀ a ∈ l, (f a).run P w = .ok (g a) w) : (l.mapM f).run P w = .ok (l.map g) w := by
  rw [Array.mapM_eq_mapM_toList]
  have h1 := mapM_run (P := P) (w := w) f g l.toList fun a ha => hf a (by simpa using ha)
  have h2 : (l.toList.map g).toArray = l.map g := by apply Array.ext'; simp
  simp only [Sem.run_map, h1, Result.andThen_ok, h2]
theorem zero_run {t : TypeId} {z : D} (hz : zeroD P t = some z) : ∃ v, (zeroValue t).run P w = .ok v w ∧ z = ofV v := by
  unfold zeroD at hz
  obtain ⟨i, hi, hz⟩ := Option.bind_eq_some_iff.1 hz
  obtain ⟨v, hv, hz⟩ := Option.map_eq_some_iff.1 hz
  exact ⟨v, by simp [zeroValue, typeInfo, hi, hv], hz.symm⟩
theorem build_sound {t : TypeId} {parts : Array (Nat × Operand)} {fs : Array Field} {z cs' : List D} (hu : P.underlying t = some (.struct fs)) (hz : zeroD P t = some (.agg z)) (hall : fs.toList.all (fun f => (szOf P f.type).isSome) = true)
    {ρ : Operand → Value} {σ : Env} (hρ : ∀ x, VRel w S φ (ρ x) (σ x)) (e : buildD P fs.toList (parts.toList.map fun p => (p.1, σ p.2)) z = some cs') :
    ∃ v, (Instr.build t (parts.map fun p => (p.1, ρ p.2))).run P w = .ok v w ∧ VRel w S φ v (.agg cs') := by
  obtain ⟨v, hv, hzv⟩ := zero_run (P := P) (w := w) hz
  have hcells := ofV_cells (w := w) (S := S) (φ := φ) v
  rw [← hzv] at hcells
  obtain ⟨hc1, hc2⟩ := hcells
  have r0 : VsRel w S φ v.cells.toList z := ⟨by have := hc1; simp only [D.cells] at this; simpa using this, fun i x e h1 h2 => hc2 i x e (by simpa using h1) h2⟩
  obtain ⟨cells', h1, h2⟩ := buildD_sound (P := P) (fs := fs.toList) (place := fun i => (fs.map fun f => (f.offset, (szOf P f.type).getD 0))[i]?) (fun i f s hf hs => by
    rw [Array.getElem?_map]
    rw [Array.getElem?_toList] at hf
    rw [hf]; simp [hs]) hρ parts.toList v.cells z cs' r0 e
  refine ⟨.agg cells', ?_, VRel.agg_iff.2 h2⟩
  have hplaces : (fs.mapM fun f => do pure (f.offset, ← sizeOf f.type) : Sem (Array (Nat × Nat))).run P w = .ok (fs.map fun f => (f.offset, (szOf P f.type).getD 0)) w :=
    amapM_run _ _ _ fun f hf => by
      rw [List.all_eq_true] at hall
      have := hall f (by simpa using hf)
      obtain ⟨s, hs⟩ := Option.isSome_iff_exists.1 this
      simp [run_szOf hs, hs]
  simp only [bind_pure_comp] at hplaces
  simp only [Array.getElem?_map] at h1
  simp [Instr.build, hv, run_underlying hu, hplaces, h1]

/-! ### a row that is written out -/
def RowRel (w : World) (S : Nat → Prop) (φ : Phi) (s : Nat) (cells : Array Value) (l : List D) : Prop :=
  cells.size = l.length * s ∧ ∀ (i : Nat) (d : D), l[i]? = some d → d.wide s ∧ ∀ (j : Nat) (e : D), d.cells[j]? = some e → ∃ x, cells[i * s + j]? = some x ∧ VRel w S φ x e
theorem row_idx {s i j i' j' : Nat} (hj : j < s) (hj' : j' < s) (e : i * s + j = i' * s + j') : i = i' ∧ j = j' := by
  have h1 : (i * s + j) / s = i := by rw [Nat.mul_comm, Nat.mul_add_div (by omega), Nat.div_eq_of_lt hj, Nat.add_zero]
  have h2 : (i' * s + j') / s = i' := by rw [Nat.mul_comm, Nat.mul_add_div (by omega), Nat.div_eq_of_lt hj', Nat.add_zero]
  have : i = i' := by rw [← h1, ← h2, e]
  subst this
  exact ⟨rfl, by omega⟩
theorem row_lt {s i j n : Nat} (hj : j < s) (hi : i < n) : i * s + j < n * s := by
  have : (i + 1) * s ≤ n * s := Nat.mul_le_mul_right s hi
  rw [Nat.add_mul] at this
  omega
theorem buildS_sound {s : Nat} {ρ : Operand → Value} {σ : Env} (hρ : ∀ x, VRel w S φ (ρ x) (σ x)) : ∀ (parts : List (Nat × Operand)) (cells : Array Value) (l l' : List D), RowRel w S φ s cells l →
    buildS s (parts.map fun p => (p.1, σ p.2)) l = some l' → ∃ cells', Instr.fill (fun i => some (i * s, s)) cells (parts.map fun p => (p.1, ρ p.2)) = some cells' ∧ RowRel w S φ s cells' l' ∧ l'.length = l.length
  | [], cells, l, l', r, e => by simp [buildS] at e; subst e; exact ⟨cells, rfl, r, rfl⟩
  | (i, x) :: parts, cells, l, l', r, e => by
    simp only [List.map_cons, buildS] at e
    by_cases hc : i < l.length ∧ (σ x).cells.length = s ∧ (σ x).cells.all D.one = true
    · rw [if_pos hc] at e
      have hx := hρ x
      obtain ⟨hsz, hcx⟩ := hx.cells (one_top hc.2.2)
      have hle : i * s + s ≤ l.length * s := by
        have : (i + 1) * s ≤ l.length * s := Nat.mul_le_mul_right s hc.1
        rw [Nat.add_mul] at this; omega
      have r' : RowRel w S φ s (putCells (i * s) (ρ x).cells cells) (l.set i (σ x)) := by
        refine ⟨by rw [putCells_size, List.length_set]; exact r.1, fun i' d hd => ?_⟩
        rw [List.getElem?_set] at hd
        by_cases hi : i = i'
        · subst hi
          rw [if_pos rfl, if_pos hc.1] at hd
          cases hd
          refine ⟨hc.2, fun j e he => ?_⟩
          have hj := (List.getElem?_eq_some_iff.1 he).1
          have hvj : (ρ x).cells[j]? = some ((ρ x).cells[j]'(by omega)) := Array.getElem?_eq_getElem (by omega)
          refine ⟨_, ?_, hcx j _ e hvj he⟩
          rw [putCells_get, if_pos ⟨by omega, by omega, by rw [r.1]; omega⟩, show i * s + j - i * s = j by omega]
          exact hvj
        · rw [if_neg hi] at hd
          obtain ⟨g1, g2⟩ := r.2 i' d hd
          refine ⟨g1, fun j e he => ?_⟩
          obtain ⟨y, k1, k2⟩ := g2 j e he
          have hj := (List.getElem?_eq_some_iff.1 he).1
          have g1' := g1.1
          refine ⟨y, ?_, k2⟩
          rw [putCells_get, if_neg]
          · exact k1
          · rintro ⟨q1, q2, _⟩
            have g1 := g1.1
            have : i * s + (i' * s + j - i * s) = i' * s + j := by omega
            exact hi (row_idx (s := s) (by omega) (by omega) this).1
      obtain ⟨cells', h1, h2, h3⟩ := buildS_sound hρ parts _ _ l' r' e
      exact ⟨cells', (fill_cons (fun i => some (i * s, s)) cells i (ρ x) _ rfl (by omega) (by rw [r.1]; omega)).trans h1, h2, by rw [h3, List.length_set]⟩
    · rw [if_neg hc] at e; cases e
theorem zeros_row {s len : Nat} {v : Value} {z : D} (hz : z = ofV v) (hs : z.wide s) (h0 : 0 < s) : RowRel w S φ s ((Array.range (len * s)).map (v.cells[· % v.cells.size]!)) (List.replicate len z) := by
  have hcells := ofV_cells (w := w) (S := S) (φ := φ) v
  rw [← hz] at hcells
  obtain ⟨h1, h2⟩ := hcells
  refine ⟨by simp, fun i d hd => ?_⟩
  rw [List.getElem?_replicate] at hd
  by_cases hi : i < len
  · rw [if_pos hi] at hd; cases hd
    refine ⟨hs, fun j e he => ?_⟩
    have hs := hs.1
    have hj := (List.getElem?_eq_some_iff.1 he).1
    have hvj : v.cells[j]? = some (v.cells[j]'(by omega)) := Array.getElem?_eq_getElem (by omega)
    refine ⟨v.cells[j]'(by omega), ?_, h2 j _ e hvj he⟩
    have hlt : i * s + j < len * s := row_lt (by omega) hi
    rw [Array.getElem?_map, Array.getElem?_range, if_pos hlt]
    simp only [Option.map_some, Option.some.injEq]
    have hm : (i * s + j) % v.cells.size = j := by
      rw [h1, hs, Nat.mul_comm, Nat.mul_add_mod, Nat.mod_eq_of_lt (by omega)]
    rw [hm]
    simp [show j < v.cells.size by omega]
  · rw [if_neg hi] at hd; cases hd
end Go.Proofs.YtcmajlphfnihgaaA
