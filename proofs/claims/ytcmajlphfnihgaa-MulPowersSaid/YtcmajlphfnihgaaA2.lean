/- What the shadow's values tell of a world: relations, and how they go on. -/
import Derived.Test.YtcmajlphfnihgaaA1
import Derived.Laws.CopyRow
set_option linter.unusedVariables false
set_option linter.unusedSimpArgs false
namespace Go.Proofs.YtcmajlphfnihgaaA
open Go

/-- Of a row (its place, its making): the block, the size of an element, the number of cells. -/
abbrev Phi := Nat → Nat → Option (Nat × Nat × Nat)
def noPhi : Phi := fun _ _ => none

inductive VRel (w : World) (S : Nat → Prop) : Phi → Value → D → Prop
  | top {φ v} : VRel w S φ v .top
  | bool {φ b} : VRel w S φ (.bool b) (.bool b)
  | int {φ k n} : VRel w S φ (.int k n) (.int k n)
  | str {φ s} : VRel w S φ (.string s) (.str s)
  | nilS {φ a} : VRel w S φ (.slice a 0 0) .nilS
  | ints {φ : Phi} {a : Option Addr} {cap : Nat} {k : IntKind} {xs : List Int} (hc : xs.length ≤ cap) (B o : Nat) (ha : xs ≠ [] → a = some ⟨B, o, none⟩ ∧ S B)
      (hx : ∀ i, i < xs.length → w.cell? ⟨B, o + i, none⟩ = some (.int k (xs.getD i 0))) : VRel w S φ (.slice a xs.length cap) (.ints k xs)
  | list {φ : Phi} {a : Option Addr} {cap sz : Nat} {xs : List D} (hc : xs.length ≤ cap) (B o : Nat) (vs : Nat → Nat → Value) (ha : xs ≠ [] → a = some ⟨B, o, none⟩ ∧ S B)
      (hsz : ∀ (i : Nat) (d : D), xs[i]? = some d → d.wide sz)
      (hx : ∀ (i : Nat) (d : D) (j : Nat) (c : D), xs[i]? = some d → d.cells[j]? = some c → w.cell? ⟨B, o + (i * sz + j), none⟩ = some (vs i j))
      (hv : ∀ (i : Nat) (d : D) (j : Nat) (c : D), xs[i]? = some d → d.cells[j]? = some c → VRel w S noPhi (vs i j) c) : VRel w S φ (.slice a xs.length cap) (.list sz xs)
  | nilP {φ} : VRel w S φ (.pointer none) .nilP
  | ptr {φ : Phi} {B o : Nat} {cs : List D} (vs : Nat → Value) (hS : S B) (hx : ∀ (j : Nat) (c : D), cs[j]? = some c → w.cell? ⟨B, o + j, none⟩ = some (vs j))
      (hv : ∀ (j : Nat) (c : D), cs[j]? = some c → VRel w S noPhi (vs j) c) : VRel w S φ (.pointer (some ⟨B, o, none⟩)) (.ptr cs)
  | agg {φ : Phi} {vs : Array Value} {ds : List D} (hl : vs.size = ds.length) (h : ∀ (i : Nat) (v : Value) (d : D), vs[i]? = some v → ds[i]? = some d → VRel w S φ v d) : VRel w S φ (.agg vs) (.agg ds)
  | tuple {φ : Phi} {vs : Array Value} {ds : List D} (hl : vs.size = ds.length) (h : ∀ (i : Nat) (v : Value) (d : D), vs[i]? = some v → ds[i]? = some d → VRel w S φ v d) : VRel w S φ (.tuple vs) (.tuple ds)
  | sref {φ : Phi} {A b v sz n off len cap : Nat} (h : φ b v = some (A, sz, n)) (hc : len ≤ cap) (hn : (off + cap) * sz ≤ n) :
      VRel w S φ (.slice (some ⟨A, off * sz, none⟩) len cap) (.sref b v sz off len)
  | sref0 {φ : Phi} {a : Option Addr} {b v sz off : Nat} : VRel w S φ (.slice a 0 0) (.sref b v sz off 0)
  | pref {φ : Phi} {A b v sz n i off : Nat} (h : φ b v = some (A, sz, n)) : VRel w S φ (.pointer (some ⟨A, i * sz + off, none⟩)) (.pref b v i off)
  | fn {φ : Phi} {f : FuncId} {as cs : Array Value} {ds es : List D} (h1 : as.size = ds.length) (h2 : cs.size = es.length) (ha : ∀ (i : Nat) (v : Value) (d : D), as[i]? = some v → ds[i]? = some d → VRel w S φ v d)
      (hc : ∀ (i : Nat) (v : Value) (d : D), cs[i]? = some v → es[i]? = some d → VRel w S φ v d) : VRel w S φ (.func (.func f) as cs) (.fn f ds es)
  | nilF {φ} : VRel w S φ .nilFunc .nilF
  | nilI {φ} : VRel w S φ .nilIface .nilI
  | nilM {φ} : VRel w S φ (.map none) .nilM
  | lit {φ : Phi} {a : Option Addr} {n : Nat} {d : D} (h : VRel w S noPhi (.slice a n n) d) (hd : d.bare = d) : VRel w S φ (.slice a n n) (.lit d)

theorem World.cell_heap {w w' : World} {b o : Nat} (h : w'.heap[b]? = w.heap[b]?) : w'.cell? ⟨b, o, none⟩ = w.cell? ⟨b, o, none⟩ := by
  simp only [World.cell?, h]

theorem VRel.mono {w w' : World} {S S' : Nat → Prop} (hS : ∀ b, S b → S' b) (hw : ∀ b, S b → w'.heap[b]? = w.heap[b]?) {φ : Phi} {v : Value} {d : D} (h : VRel w S φ v d) :
    ∀ {φ' : Phi}, (∀ b u x, φ b u = some x → φ' b u = some x) → VRel w' S' φ' v d := by
  induction h with
  | top => intros; exact .top
  | bool => intros; exact .bool
  | int => intros; exact .int
  | str => intros; exact .str
  | nilS => intros; exact .nilS
  | @ints _ _ _ _ xs hc B o ha hx =>
    intro φ' _
    refine .ints hc B o (fun h => ⟨(ha h).1, hS _ (ha h).2⟩) (fun i hi => ?_)
    have hne : xs ≠ [] := fun e => by rw [e] at hi; simp at hi
    rw [World.cell_heap (hw _ (ha hne).2)]; exact hx i hi
  | @list _ _ _ _ xs hc B o vs ha hsz hx hv ih =>
    intro φ' _
    refine .list hc B o vs (fun h => ⟨(ha h).1, hS _ (ha h).2⟩) hsz (fun i d j c h1 h2 => ?_) (fun i d j c h1 h2 => ih i d j c h1 h2 fun _ _ _ h => h)
    have hne : xs ≠ [] := fun e => by rw [e] at h1; simp at h1
    rw [World.cell_heap (hw _ (ha hne).2)]; exact hx i d j c h1 h2
  | nilP => intros; exact .nilP
  | ptr vs hB hx hv ih =>
    intro φ' _
    refine .ptr vs (hS _ hB) (fun j c h => ?_) (fun j c h => ih j c h fun _ _ _ h => h)
    rw [World.cell_heap (hw _ hB)]; exact hx j c h
  | agg hl h ih => intro φ' hφ; exact .agg hl fun i v d h1 h2 => ih i v d h1 h2 hφ
  | tuple hl h ih => intro φ' hφ; exact .tuple hl fun i v d h1 h2 => ih i v d h1 h2 hφ
  | sref h hc hn => intro φ' hφ; exact .sref (hφ _ _ _ h) hc hn
  | sref0 => intros; exact .sref0
  | pref h => intro φ' hφ; exact .pref (hφ _ _ _ h)
  | fn h1 h2 _ _ ih1 ih2 => intro φ' hφ; exact .fn h1 h2 (fun i v d g1 g2 => ih1 i v d g1 g2 hφ) fun i v d g1 g2 => ih2 i v d g1 g2 hφ
  | nilF => intros; exact .nilF
  | nilI => intros; exact .nilI
  | nilM => intros; exact .nilM
  | lit h hd ih => intro φ' _; exact .lit (ih fun _ _ _ h => h) hd

/-- Cells of an element: their values. -/
theorem VRel.cells {w : World} {S : Nat → Prop} {φ : Phi} {v : Value} {d : D} (h : VRel w S φ v d) (hd : d ≠ .top) : v.cells.size = d.cells.length ∧ ∀ (i : Nat) x e, v.cells[i]? = some x → d.cells[i]? = some e → VRel w S φ x e := by
  cases h with
  | top => exact absurd rfl hd
  | agg hl h => exact ⟨hl, h⟩
  | _ =>
    refine ⟨rfl, fun i x e h1 h2 => ?_⟩
    cases i with
    | zero =>
      simp [Value.cells, D.cells] at h1 h2
      subst h1; subst h2
      first
        | exact .bool
        | exact .int
        | exact .str
        | exact .nilS
        | (apply VRel.ints <;> assumption)
        | (apply VRel.list <;> assumption)
        | exact .nilP
        | (apply VRel.ptr <;> assumption)
        | (apply VRel.tuple <;> assumption)
        | (apply VRel.sref <;> assumption)
        | exact .sref0
        | (apply VRel.pref <;> assumption)
        | (apply VRel.fn <;> assumption)
        | exact .nilF
        | exact .nilI
        | exact .nilM
        | (apply VRel.lit <;> assumption)
    | succ i => simp [Value.cells] at h1

/-- A row of the shadow's, in a world. -/
inductive BRel (w : World) (S : Nat → Prop) (φ : Phi) (b : Nat) : Blk → Prop
  | dead {v fz} : BRel w S φ b ⟨v, fz, .dead⟩
  | ints {v : Nat} {fz : Bool} {k : IntKind} {xs : List Int} {A n : Nat} {c : Array Value} {T : TypeId} (hφ : φ b v = some (A, 1, n)) (hA : w.heap[A]? = some (.cells c T (0, 0))) (hn : c.size = n) (hl : xs.length ≤ n)
      (hx : ∀ i, i < xs.length → c[i]? = some (.int k (xs.getD i 0))) (hS : if fz then S A else ¬ S A) : BRel w S φ b ⟨v, fz, .ints k xs⟩
  | rows {v : Nat} {fz : Bool} {sz : Nat} {xs : List D} {A n : Nat} {c : Array Value} {T : TypeId} (hφ : φ b v = some (A, sz, n)) (hA : w.heap[A]? = some (.cells c T (0, 0))) (hn : c.size = n) (hl : xs.length * sz ≤ n)
      (hsz : ∀ (i : Nat) (d : D), xs[i]? = some d → d.wide sz)
      (hx : ∀ (i : Nat) (d : D) (j : Nat) (e : D), xs[i]? = some d → d.cells[j]? = some e → ∃ x, c[i * sz + j]? = some x ∧ VRel w S φ x e) (hS : if fz then S A else ¬ S A) : BRel w S φ b ⟨v, fz, .rows sz xs⟩
  | ints0 {v fz k} (hφ : φ b v = none) : BRel w S φ b ⟨v, fz, .ints k []⟩
  | rows0 {v fz sz} (hφ : φ b v = none) : BRel w S φ b ⟨v, fz, .rows sz []⟩

def Own (φ : Phi) (h : Heap) (A : Nat) : Prop := ∃ b B x, h[b]? = some B ∧ B.body ≠ .dead ∧ B.fz = false ∧ φ b B.ver = some (A, x)

structure HRel (w : World) (S : Nat → Prop) (φ : Phi) (h : Heap) : Prop where
  blk : ∀ (b : Nat) (B : Blk), h[b]? = some B → BRel w S φ b B
  inj : ∀ (b b' : Nat) (B B' : Blk) (A : Nat) (x x' : Nat × Nat), h[b]? = some B → h[b']? = some B' → B.body ≠ .dead → B'.body ≠ .dead → φ b B.ver = some (A, x) → φ b' B'.ver = some (A, x') → b = b'
  dom : ∀ b v x, φ b v = some x → ∃ B, h[b]? = some B ∧ 1 ≤ v ∧ v ≤ B.ver
  lt : ∀ b, S b → b < w.heap.size

/-- One goes on to the other: what is frozen stays; what was there and is not owned stays. -/
structure Ext (w : World) (S : Nat → Prop) (φ : Phi) (h : Heap) (w' : World) (S' : Nat → Prop) (φ' : Phi) (h' : Heap) : Prop where
  os : w'.os = w.os
  tape : w'.tape = w.tape
  output : w'.output = w.output
  size : w.heap.size ≤ w'.heap.size
  sub : ∀ b, S b → S' b
  ph : ∀ b v x, φ b v = some x → φ' b v = some x
  same : ∀ b, b < w.heap.size → ¬ Own φ h b → w'.heap[b]? = w.heap[b]?
  new : ∀ b, S' b → S b ∨ Own φ h b ∨ w.heap.size ≤ b
  own : ∀ b, Own φ' h' b → Own φ h b ∨ w.heap.size ≤ b

theorem Ext.refl (w : World) (S : Nat → Prop) (φ : Phi) (h : Heap) : Ext w S φ h w S φ h :=
  ⟨rfl, rfl, rfl, Nat.le_refl _, fun _ h => h, fun _ _ _ h => h, fun _ _ _ => rfl, fun _ h => .inl h, fun _ h => .inl h⟩
theorem Ext.trans {w S φ h w' S' φ' h' w'' S'' φ'' h''} (a : Ext w S φ h w' S' φ' h') (c : Ext w' S' φ' h' w'' S'' φ'' h'') : Ext w S φ h w'' S'' φ'' h'' where
  os := c.os.trans a.os
  tape := c.tape.trans a.tape
  output := c.output.trans a.output
  size := Nat.le_trans a.size c.size
  sub b h := c.sub b (a.sub b h)
  ph b v x h := c.ph b v x (a.ph b v x h)
  same b hb ho := by
    have h1 : ¬ Own φ' h' b := fun h => by
      rcases a.own b h with h | h
      · exact ho h
      · omega
    exact (c.same b (Nat.lt_of_lt_of_le hb a.size) h1).trans (a.same b hb ho)
  new b h := by
    rcases c.new b h with h | h | h
    · exact a.new b h
    · rcases a.own b h with h | h
      · exact .inr (.inl h)
      · exact .inr (.inr h)
    · exact .inr (.inr (Nat.le_trans a.size h))
  own b h := by
    rcases c.own b h with h | h
    · exact a.own b h
    · exact .inr (Nat.le_trans a.size h)

theorem Own.notS {w : World} {S : Nat → Prop} {φ : Phi} {h : Heap} {A : Nat} (H : HRel w S φ h) (o : Own φ h A) : ¬ S A := by
  obtain ⟨b, B, x, hb, hl, hf, hp⟩ := o
  have := H.blk b B hb
  cases this with
  | dead => exact absurd rfl hl
  | ints hφ _ _ _ _ hS => rw [hφ] at hp; cases hp; simp only at hf; simpa [hf] using hS
  | rows hφ _ _ _ _ _ hS => rw [hφ] at hp; cases hp; simp only at hf; simpa [hf] using hS
  | ints0 hφ => rw [hφ] at hp; cases hp
  | rows0 hφ => rw [hφ] at hp; cases hp
theorem Ext.keepS {w S φ h w' S' φ' h'} (H : HRel w S φ h) (e : Ext w S φ h w' S' φ' h') (b : Nat) (hb : S b) : w'.heap[b]? = w.heap[b]? :=
  e.same b (H.lt b hb) fun o => o.notS H hb
theorem Ext.vrel {w S φ h w' S' φ' h'} (H : HRel w S φ h) (e : Ext w S φ h w' S' φ' h') {v d} (r : VRel w S φ v d) : VRel w' S' φ' v d :=
  r.mono e.sub (e.keepS H) e.ph

/-- Values row for row. -/
def VsRel (w : World) (S : Nat → Prop) (φ : Phi) (vs : List Value) (ds : List D) : Prop := vs.length = ds.length ∧ ∀ (i : Nat) (v : Value) (d : D), vs[i]? = some v → ds[i]? = some d → VRel w S φ v d
theorem VsRel.nil {w S φ} : VsRel w S φ [] [] := ⟨rfl, fun i v d h => by simp at h⟩
theorem VsRel.cons {w S φ v d vs ds} (h : VRel w S φ v d) (hs : VsRel w S φ vs ds) : VsRel w S φ (v :: vs) (d :: ds) := by
  refine ⟨by simp [hs.1], fun i x e h1 h2 => ?_⟩
  cases i with
  | zero => simp at h1 h2; subst h1; subst h2; exact h
  | succ i => simp at h1 h2; exact hs.2 i x e h1 h2
theorem VsRel.tail {w S φ v d vs ds} (h : VsRel w S φ (v :: vs) (d :: ds)) : VsRel w S φ vs ds :=
  ⟨by simpa using h.1, fun i x e h1 h2 => h.2 (i + 1) x e (by simpa using h1) (by simpa using h2)⟩
theorem VsRel.head {w S φ v d vs ds} (h : VsRel w S φ (v :: vs) (d :: ds)) : VRel w S φ v d := h.2 0 v d rfl rfl
theorem VsRel.append {w S φ vs ds us es} (h : VsRel w S φ vs ds) (g : VsRel w S φ us es) : VsRel w S φ (vs ++ us) (ds ++ es) := by
  refine ⟨by simp [h.1, g.1], fun i x e h1 h2 => ?_⟩
  by_cases hi : i < vs.length
  · rw [List.getElem?_append_left hi] at h1
    rw [List.getElem?_append_left (by rw [← h.1]; exact hi)] at h2
    exact h.2 i x e h1 h2
  · rw [List.getElem?_append_right (by omega)] at h1
    rw [List.getElem?_append_right (by rw [← h.1]; omega), ← h.1] at h2
    exact g.2 _ x e h1 h2
theorem VsRel.map {w S φ} {α : Type} (l : List α) (f : α → Value) (g : α → D) (h : ∀ x ∈ l, VRel w S φ (f x) (g x)) : VsRel w S φ (l.map f) (l.map g) := by
  refine ⟨by simp, fun i x e h1 h2 => ?_⟩
  rw [List.getElem?_map] at h1 h2
  cases hl : l[i]? with
  | none => simp [hl] at h1
  | some y =>
    simp [hl] at h1 h2
    subst h1; subst h2
    exact h y (List.mem_of_getElem? hl)
theorem VsRel.vrel {w S φ h w' S' φ' h'} (H : HRel w S φ h) (e : Ext w S φ h w' S' φ' h') {vs ds} (r : VsRel w S φ vs ds) : VsRel w' S' φ' vs ds :=
  ⟨r.1, fun i v d h1 h2 => e.vrel H (r.2 i v d h1 h2)⟩
theorem VsRel.replicate {w S φ} (n : Nat) {v d} (h : VRel w S φ v d) : VsRel w S φ (List.replicate n v) (List.replicate n d) := by
  refine ⟨by simp, fun i x e h1 h2 => ?_⟩
  simp [List.getElem?_replicate] at h1 h2
  rw [← h1.2, ← h2.2]; exact h

theorem VRel.ofV1 {w S φ} (v : Value) : VRel w S φ v (ofV1 v) := by
  cases v with
  | bool b => exact .bool
  | int k n => exact .int
  | string s => exact .str
  | pointer a => cases a with | none => exact .nilP | some a => exact .top
  | slice a l c => cases l with
    | zero => cases c with | zero => exact .nilS | succ c => exact .top
    | succ l => exact .top
  | nilFunc => exact .nilF
  | nilIface => exact .nilI
  | map m => cases m with | none => exact .nilM | some m => exact .top
  | func fn a c =>
    cases fn with
    | func f =>
      show VRel w S φ _ (if a.isEmpty && c.isEmpty then .fn f [] [] else .top)
      by_cases h : (a.isEmpty && c.isEmpty) = true
      · rw [if_pos h]
        simp at h
        obtain ⟨rfl, rfl⟩ := h
        exact .fn rfl rfl (fun i v d h => by simp at h) (fun i v d h => by simp at h)
      · rw [if_neg h]; exact .top
    | _ => exact .top
  | _ => exact .top
theorem ofV1_cells (v : Value) : (ofV1 v).cells = [ofV1 v] := by
  cases v with
  | pointer a => cases a <;> rfl
  | map m => cases m <;> rfl
  | slice a l c => cases l <;> cases c <;> rfl
  | func fn a c =>
    cases fn <;> try rfl
    rename_i f
    show D.cells (if a.isEmpty && c.isEmpty then .fn f [] [] else .top) = [if a.isEmpty && c.isEmpty then .fn f [] [] else .top]
    split <;> rfl
  | _ => rfl
theorem VRel.ofV {w S φ} (v : Value) : VRel w S φ v (ofV v) := by
  have key : ∀ cs : Array Value, ∀ (i : Nat) x e, cs[i]? = some x → (cs.toList.map Go.Proofs.YtcmajlphfnihgaaA.ofV1)[i]? = some e → VRel w S φ x e := fun cs i x e h1 h2 => by
    rw [List.getElem?_map, Array.getElem?_toList, h1] at h2
    simp at h2; subst h2; exact .ofV1 x
  cases v with
  | agg cs => exact .agg (by simp) (key cs)
  | tuple cs => exact .tuple (by simp) (key cs)
  | _ => exact .ofV1 _
theorem ofV_cells1 {w : World} {S : Nat → Prop} {φ : Phi} (v : Value) (hv : v.cells = #[v]) (ho : ofV v = ofV1 v) : v.cells.size = (ofV v).cells.length ∧ ∀ (i : Nat) x e, v.cells[i]? = some x → (ofV v).cells[i]? = some e → VRel w S φ x e := by
  rw [hv, ho, ofV1_cells]
  refine ⟨rfl, fun i x e h1 h2 => ?_⟩
  cases i with
  | zero => simp at h1 h2; subst h1; subst h2; exact .ofV1 _
  | succ i => simp at h1
/-- The cells of what a value is taken for. -/
theorem ofV_cells {w S φ} (v : Value) : v.cells.size = (ofV v).cells.length ∧ ∀ (i : Nat) x e, v.cells[i]? = some x → (ofV v).cells[i]? = some e → VRel w S φ x e := by
  cases v with
  | agg cs =>
    refine ⟨by simp [Value.cells, ofV, D.cells], fun i x e h1 h2 => ?_⟩
    simp only [Value.cells, Go.Proofs.YtcmajlphfnihgaaA.ofV, D.cells] at h1 h2
    rw [List.getElem?_map, Array.getElem?_toList, h1] at h2
    simp at h2; subst h2; exact .ofV1 x
  | tuple cs =>
    refine ⟨by simp [Value.cells, ofV, D.cells], fun i x e h1 h2 => ?_⟩
    cases i with
    | zero => simp [Value.cells, ofV, D.cells] at h1 h2; subst h1; subst h2; exact .ofV (.tuple cs)
    | succ i => simp [Value.cells] at h1
  | _ => exact ofV_cells1 _ rfl rfl
end Go.Proofs.YtcmajlphfnihgaaA
