/- Appends, continued. -/
import Derived.Test.YtcmajlphfnihgaaA14
set_option linter.unusedVariables false
set_option linter.unusedSimpArgs false
namespace Go.Proofs.YtcmajlphfnihgaaA
open Go
variable {P : Program} {w w' : World} {S : Nat → Prop} {φ φ' : Phi} {h h' : Heap}

def Pre (w : World) (S : Nat → Prop) (φ : Phi) (s : Nat) (c : Array Value) (l : List D) : Prop :=
  l.length * s ≤ c.size ∧ ∀ (i : Nat) (d : D), l[i]? = some d → d.wide s ∧ ∀ (j : Nat) (e : D), d.cells[j]? = some e → ∃ x, c[i * s + j]? = some x ∧ VRel w S φ x e
theorem Pre.ok_rows {s : Nat} {c : Array Value} {l : List D} (p : Pre w S φ s c l) : BodyOk w S φ s c (.rows s l) :=
  ⟨rfl, p.1, fun i d hd => (p.2 i d hd).1, fun i d j e hd he => (p.2 i d hd).2 j e he⟩
theorem ok_rows_pre {s s' : Nat} {c : Array Value} {l : List D} (p : BodyOk w S φ s c (.rows s' l)) : Pre w S φ s c l :=
  ⟨p.2.1, fun i d hd => ⟨p.2.2.1 i d hd, fun j e he => p.2.2.2 i d j e hd he⟩⟩
theorem Pre.ok_ints {c : Array Value} {k : IntKind} {xs : List Int} (p : Pre w S φ 1 c (xs.map (.int k))) : BodyOk w S φ 1 c (.ints k xs) := by
  refine ⟨rfl, by have := p.1; simpa using this, fun i hi => ?_⟩
  have hd : (xs.map (D.int k))[i]? = some (.int k (xs.getD i 0)) := by
    rw [List.getElem?_map, List.getElem?_eq_getElem hi]; simp [List.getD_eq_getElem?_getD, hi]
  obtain ⟨x, h1, h2⟩ := (p.2 i _ hd).2 0 _ rfl
  rw [Nat.mul_one, Nat.add_zero] at h1
  rw [h1, h2.int_inv]
theorem ints_row {us : Array Value} {k : IntKind} {ys : List Int} (h1 : us.size = ys.length) (h2 : ∀ i, i < ys.length → us[i]? = some (.int k (ys.getD i 0))) : RowRel w S φ 1 us (ys.map (.int k)) := by
  refine ⟨by simp [h1], fun i d hd => ?_⟩
  rw [List.getElem?_map] at hd
  obtain ⟨y, hy, rfl⟩ := Option.map_eq_some_iff.1 hd
  have hi := (List.getElem?_eq_some_iff.1 hy).1
  refine ⟨⟨rfl, rfl⟩, fun j e he => ?_⟩
  cases j with
  | zero =>
    simp [D.cells] at he; subst he
    refine ⟨_, by rw [Nat.mul_one, Nat.add_zero]; exact h2 i hi, ?_⟩
    simp only [List.getD_eq_getElem?_getD, hy, Option.getD_some]
    exact .int
  | succ j => simp [D.cells] at he
theorem Pre.append {s : Nat} {c c' us : Array Value} {xs ys : List D} (p : Pre w S φ s c xs) (r : RowRel w S φ s us ys) (h1 : ∀ q, q < xs.length * s → c'[q]? = c[q]?) (h2 : ∀ q, q < ys.length * s → c'[xs.length * s + q]? = us[q]?)
    (hl : (xs.length + ys.length) * s ≤ c'.size) : Pre w S φ s c' (xs ++ ys) := by
  refine ⟨by rw [List.length_append]; exact hl, fun i d hd => ?_⟩
  by_cases hi : i < xs.length
  · rw [List.getElem?_append_left hi] at hd
    obtain ⟨g1, g2⟩ := p.2 i d hd
    refine ⟨g1, fun j e he => ?_⟩
    have hj := (List.getElem?_eq_some_iff.1 he).1
    rw [h1 _ (row_lt (by rw [← g1.1]; exact hj) hi)]
    exact g2 j e he
  · rw [List.getElem?_append_right (by omega)] at hd
    obtain ⟨g1, g2⟩ := r.2 _ d hd
    have hi' := (List.getElem?_eq_some_iff.1 hd).1
    refine ⟨g1, fun j e he => ?_⟩
    have hj := (List.getElem?_eq_some_iff.1 he).1
    obtain ⟨x, k1, k2⟩ := g2 j e he
    refine ⟨x, ?_, k2⟩
    have hq := row_lt (s := s) (j := j) (by rw [← g1.1]; exact hj) hi'
    rw [← h2 _ hq] at k1
    rw [← k1]
    congr 1
    have : i * s = xs.length * s + (i - xs.length) * s := by rw [← Nat.add_mul]; congr 1; omega
    omega
theorem RowRel.pre {s : Nat} {us : Array Value} {ys : List D} (r : RowRel w S φ s us ys) : Pre w S φ s us ys := ⟨by rw [r.1]; exact Nat.le_refl _, r.2⟩
theorem RowRel.mono {w' : World} {S' : Nat → Prop} {φ' : Phi} {s : Nat} {us : Array Value} {ys : List D} (r : RowRel w S φ s us ys) (hm : ∀ v d, VRel w S φ v d → VRel w' S' φ' v d) : RowRel w' S' φ' s us ys :=
  ⟨r.1, fun i d hd => ⟨(r.2 i d hd).1, fun j e he => let ⟨x, h1, h2⟩ := (r.2 i d hd).2 j e he; ⟨x, h1, hm _ _ h2⟩⟩⟩

/-- The second argument of an append, read. -/
structure SrcOk (P : Program) (w : World) (S : Nat → Prop) (φ : Phi) (s : Nat) (y : Value) (ys : List D) (us : Array Value) : Prop where
  len : (Builtin.lenOf y).run P w = .ok ys.length w
  cells : (Builtin.firstCells s ys.length y).run P w = .ok us w
  drew : (Builtin.firstCells s ys.length y).run P w.drew = .ok us w.drew
  row : RowRel w S φ s us ys
theorem firstCells_drew {s n : Nat} {y : Value} {us : Array Value} (hf : (Builtin.firstCells s n y).run P w = .ok us w) : (Builtin.firstCells s n y).run P w.drew = .ok us w.drew := by
  have load : ∀ (k i : Nat) (a : Addr) (acc us : Array Value), (loadCellsFrom a i k acc).run P w = .ok us w → (loadCellsFrom a i k acc).run P w.drew = .ok us w.drew := by
    intro k
    induction k with
    | zero => intro i a acc us hk; simp [loadCellsFrom] at hk ⊢; exact hk
    | succ k ih =>
      intro i a acc us hk
      simp only [loadCellsFrom, Sem.run_bind, run_load] at hk ⊢
      have hc : w.drew.cell? (a.add i) = w.cell? (a.add i) := rfl
      rw [hc]
      cases hv : w.cell? (a.add i) with
      | some v =>
        rw [hv] at hk
        simp only [Result.andThen_ok] at hk ⊢
        exact ih _ _ _ _ hk
      | none =>
        rw [hv] at hk
        simp only at hk ⊢
        have hfar : w.drew.farLoad P (a.add i) (Mode.plain == .atomic) = w.farLoad P (a.add i) (Mode.plain == .atomic) := rfl
        rw [hfar]
        cases hq : w.farLoad P (a.add i) (Mode.plain == .atomic) with
        | error e => rw [hq] at hk; cases hk
        | ok x =>
          rw [hq] at hk
          simp only [Result.andThen_ok] at hk ⊢
          exact ih _ _ _ _ hk
  cases y with
  | slice a l c =>
    cases a with
    | none => simp [Builtin.firstCells] at hf ⊢; exact hf
    | some a => simp only [Builtin.firstCells, loadCells] at hf ⊢; exact load _ _ _ _ _ hf
  | string t => simp [Builtin.firstCells] at hf ⊢; exact hf
  | _ => simp [Builtin.firstCells] at hf

/-- An append to nothing. -/
theorem grow_empty (H : HRel w S φ h) {t e : TypeId} {s by_ : Nat} {z : Value} {ts : Array TypeId} (a : AppT P t e s by_ z ts) (ty : TypeId) {base : Option Addr} {y : Value} {ys : List D} {us : Array Value} (sr : SrcOk P w S φ s y ys us) (hroom : roomy ys.length by_ = true)
    {b : Nat} {B : Blk} (hB : h[b]? = some B) {body : Body} (hbody : ∀ w φ c, Pre w S φ s c ys → BodyOk w S φ s c body) (hempty : ys = [] → (∃ k, body = .ints k []) ∨ ∃ s, body = .rows s []) :
    ∃ v w' φ', (Builtin.append_ ts ty #[.slice base 0 0, y]).run P w = .ok v w' ∧ Ext w S φ h w' S φ' (h.set b ⟨B.ver + 1, false, body⟩) ∧ HRel w' S φ' (h.set b ⟨B.ver + 1, false, body⟩) ∧ VRel w' S φ' v (.sref b (B.ver + 1) s 0 ys.length) := by
  by_cases h0 : ys = []
  · subst h0
    have hst : (match base with | some b => storeCells (b.add (0 * s)) us.toList | none => pure ()).run P w = .ok () w := by
      have : us = #[] := Array.eq_empty_of_size_eq_zero (by have := sr.row.1; simpa using this)
      subst this
      cases base <;> simp [storeCells]
    refine ⟨_, w, φ, append_fits a ty sr.len sr.cells (Nat.le_refl _) hst, ?_⟩
    obtain ⟨h1, h2⟩ := hollow (h' := h.set b ⟨B.ver + 1, false, body⟩) H rfl rfl rfl rfl (fun i B' e => by
      rw [List.getElem?_set] at e
      by_cases hi : b = i
      · subst hi
        rw [if_pos rfl, if_pos (List.getElem?_eq_some_iff.1 hB).1] at e
        cases e
        exact ⟨B, hB, Nat.le_succ _, .inr (.inr ⟨Nat.lt_succ_self _, hempty rfl⟩)⟩
      · rw [if_neg hi] at e
        exact ⟨B', e, Nat.le_refl _, .inr (.inl rfl)⟩) (by simp)
    exact ⟨h2, h1, .sref0⟩
  · have hpos : 0 < ys.length := List.length_pos_iff.2 h0
    obtain ⟨cap, rest, h1, h2, h3⟩ := append_grows (olds := #[]) a ty sr.len sr.drew (firstCells_zero (w := w.drew) (a := base) (len := 0) (cap := 0)) (by omega) (by rw [Nat.zero_add]; exact hroom)
    rw [Nat.zero_add] at h1 h2 h3
    have hsz : (#[] ++ us ++ rest).size = cap * s := by
      simp only [Array.size_append]
      rw [sr.row.1, h3]
      simp only [List.size_toArray, List.length_nil, Nat.zero_add]
      rw [← Nat.add_mul]; congr 1; omega
    have hpre : Pre w S φ s (#[] ++ us ++ rest) ys := by
      have := Pre.append (xs := []) (c := #[]) (c' := #[] ++ us ++ rest) (p := ⟨by simp, fun i d hd => by simp at hd⟩) sr.row (fun q hq => by simp at hq) (fun q hq => by
        rw [Array.getElem?_append_left (by simp; rw [sr.row.1]; omega)]
        simp) (by rw [hsz]; simp only [List.length_nil, Nat.zero_add]; exact Nat.mul_le_mul_right s h2)
      simpa using this
    obtain ⟨k1, k2⟩ := fresh_sound (w' := w.drew.alloc (.cells (#[] ++ us ++ rest) e)) H hB rfl rfl rfl rfl (hbody w φ _ hpre)
    refine ⟨_, _, _, h1, k2, k1, ?_⟩
    have := VRel.sref (w := w.drew.alloc (.cells (#[] ++ us ++ rest) e)) (S := S) (off := 0) (len := ys.length) (cap := cap) (newPhi_at φ b (B.ver + 1) (w.heap.size, s, (#[] ++ us ++ rest).size)) h2 (by rw [Nat.zero_add, hsz]; exact Nat.le_refl _)
    rw [Nat.zero_mul] at this
    exact this
/-- An append to a row of the call's own. -/
theorem grow_some (H : HRel w S φ h) {t e : TypeId} {s by_ : Nat} {z : Value} {ts : Array TypeId} (a : AppT P t e s by_ z ts) (ty : TypeId) {y : Value} {xs ys : List D} {us : Array Value} (sr : SrcOk P w S φ s y ys us) (hroom : roomy (xs.length + ys.length) by_ = true) (hone : ∀ v ∈ us, v.oneCell' = true)
    {b0 : Nat} {B0 : Blk} (hB0 : h[b0]? = some B0) (hl : B0.body ≠ .dead) (hf : B0.fz = false) {A n : Nat} (hp : φ b0 B0.ver = some (A, s, n)) {c : Array Value} {T : TypeId} (hA : w.heap[A]? = some (.cells c T (0, 0))) (hn : c.size = n) (hpre : Pre w S φ s c xs) {cap : Nat} (hcap : xs.length ≤ cap) (hcn : cap * s ≤ n)
    {b : Nat} {B : Blk} (hB : (kill1 h b0)[b]? = some B) {body : Body} (hbody : ∀ w φ c, Pre w S φ s c (xs ++ ys) → BodyOk w S φ s c body) :
    ∃ v w' φ', (Builtin.append_ ts ty #[.slice (some ⟨A, 0, none⟩) xs.length cap, y]).run P w = .ok v w' ∧ Ext w S φ h w' S φ' ((kill1 h b0).set b ⟨B.ver + 1, false, body⟩) ∧ HRel w' S φ' ((kill1 h b0).set b ⟨B.ver + 1, false, body⟩) ∧
      VRel w' S φ' v (.sref b (B.ver + 1) s 0 (xs.length + ys.length)) := by
  have husl : us.toList.length = ys.length * s := by simp [sr.row.1]
  by_cases hfit : xs.length + ys.length ≤ cap
  · have hfit' : (xs.length + ys.length) * s ≤ c.size := by
      have := Nat.mul_le_mul_right s hfit; omega
    rw [Nat.add_mul] at hfit'
    have hle : xs.length * s + us.toList.length ≤ c.size := by omega
    have hst := store_run (P := P) hA us.toList hle (fun v hv => hone v (by simpa using hv))
    have hst' : (match (some ⟨A, 0, none⟩ : Option Addr) with | some b => storeCells (b.add (xs.length * s)) us.toList | none => pure ()).run P w = .ok () (w.setRow A (patch c (xs.length * s) us.toList)) := by
      simp only [addr_add, Nat.zero_add]; exact hst
    refine ⟨_, _, newPhi φ b (B.ver + 1) (A, s, n), append_fits a ty sr.len sr.cells hfit hst', ?_⟩
    obtain ⟨k1, k2⟩ := moved_sound (w' := w.setRow A (patch c (xs.length * s) us.toList)) H hB0 hl hf hp hB (body := body) hA (by rw [patch_size _ _ _ hle]; exact hn) rfl rfl rfl (setRow_heapEq hA)
      (hbody w φ _ (hpre.append sr.row (fun q hq => by rw [patch_get _ _ _ hle, if_neg (by omega)]) (fun q hq => by
        rw [patch_get _ _ _ hle, if_pos ⟨by omega, by omega⟩, Array.getElem?_toList]; congr 1; omega) (by rw [patch_size _ _ _ hle, Nat.add_mul]; exact hfit')))
    refine ⟨k2, k1, ?_⟩
    have := VRel.sref (w := w.setRow A (patch c (xs.length * s) us.toList)) (S := S) (off := 0) (len := xs.length + ys.length) (cap := cap) (newPhi_at φ b (B.ver + 1) (A, s, n)) hfit (by rw [Nat.zero_add]; exact hcn)
    rw [Nat.zero_mul] at this
    exact this
  · have hall : ∀ q, q < xs.length * s → ∃ x, c[q]? = some x := fun q hq => by
      have := hpre.1
      exact ⟨c[q]'(by omega), Array.getElem?_eq_getElem (by omega)⟩
    have holds := firstCells_at (P := P) (w := w.drew) (s := s) (n := xs.length) (m := 0) (A := A) (o := 0) (len := xs.length) (cap := cap) (f := fun j => (c[j]?).getD default) fun j hj => by
      obtain ⟨x, hx⟩ := hall j hj
      have : w.drew.cell? ⟨A, 0 + j, none⟩ = c[0 + j]? := cell_of (w := w.drew) hA
      rw [this, Nat.zero_add, hx]; rfl
    obtain ⟨olds, holds_def⟩ : ∃ olds : Array Value, olds = ((List.range (xs.length * s)).map fun j => (c[j]?).getD default).toArray := ⟨_, rfl⟩
    rw [← holds_def] at holds
    have hos : olds.size = xs.length * s := by rw [holds_def]; simp
    have hog : ∀ q, q < xs.length * s → olds[q]? = c[q]? := fun q hq => by
      obtain ⟨x, hx⟩ := hall q hq
      rw [holds_def, range_get hq, hx]; rfl
    obtain ⟨cap', rest, h1, h2, h3⟩ := append_grows a ty sr.len sr.drew holds (by omega) hroom
    have hsz : (olds ++ us ++ rest).size = cap' * s := by
      simp only [Array.size_append]
      rw [hos, sr.row.1, h3, ← Nat.add_mul, ← Nat.add_mul]; congr 1; omega
    have hpre' : Pre w S φ s (olds ++ us ++ rest) (xs ++ ys) := hpre.append sr.row (fun q hq => by
        rw [Array.getElem?_append_left (by simp; omega), Array.getElem?_append_left (by omega)]; exact hog q hq) (fun q hq => by
        rw [Array.getElem?_append_left (by simp [hos, sr.row.1]; omega), Array.getElem?_append_right (by omega), hos]; congr 1; omega) (by rw [hsz]; exact Nat.mul_le_mul_right s h2)
    obtain ⟨g1, g2⟩ := kill_sound H b0
    obtain ⟨k1, k2⟩ := fresh_sound (w' := w.drew.alloc (.cells (olds ++ us ++ rest) e)) g1 hB rfl rfl rfl rfl (hbody w φ _ hpre')
    refine ⟨_, _, _, h1, g2.trans k2, k1, ?_⟩
    have := VRel.sref (w := w.drew.alloc (.cells (olds ++ us ++ rest) e)) (S := S) (off := 0) (len := xs.length + ys.length) (cap := cap') (newPhi_at φ b (B.ver + 1) (w.heap.size, s, (olds ++ us ++ rest).size)) h2 (by rw [Nat.zero_add, hsz]; exact Nat.le_refl _)
    rw [Nat.zero_mul] at this
    exact this
/-- An append to a row that is written out: what comes is read alone. -/
theorem grow_lit (H : HRel w S φ h) {ψ : Phi} {t e : TypeId} {s by_ : Nat} {z : Value} {ts : Array TypeId} (a : AppT P t e s by_ z ts) (ty : TypeId) {base : Option Addr} {y : Value} {xs ys : List D} {os us : Array Value} (sr : SrcOk P w S ψ s y ys us) (ho : (Builtin.firstCells s xs.length (.slice base xs.length xs.length)).run P w = .ok os w) (hor : RowRel w S ψ s os xs)
    (hroom : roomy (xs.length + ys.length) by_ = true) : ∃ v w' S', (Builtin.append_ ts ty #[.slice base xs.length xs.length, y]).run P w = .ok v w' ∧ Ext w S φ h w' S' φ h ∧ HRel w' S' φ h ∧
      ((ys = [] ∧ w' = w ∧ S' = S ∧ v = .slice base xs.length xs.length) ∨ ∃ cap A c, v = .slice (some ⟨A, 0, none⟩) (xs.length + ys.length) cap ∧ xs.length + ys.length ≤ cap ∧ S' A ∧ (∀ o, w'.cell? ⟨A, o, none⟩ = c[o]?) ∧ Pre w' S' ψ s c (xs ++ ys)) := by
  by_cases h0 : ys = []
  · subst h0
    have hst : (match base with | some b => storeCells (b.add (xs.length * s)) us.toList | none => pure ()).run P w = .ok () w := by
      have : us = #[] := Array.eq_empty_of_size_eq_zero (by have := sr.row.1; simpa using this)
      subst this
      cases base <;> simp [storeCells]
    exact ⟨_, w, S, append_fits a ty sr.len sr.cells (Nat.le_refl _) hst, .refl .., H, .inl ⟨rfl, rfl, rfl, rfl⟩⟩
  · have hpos : 0 < ys.length := List.length_pos_iff.2 h0
    obtain ⟨cap, rest, h1, h2, h3⟩ := append_grows a ty sr.len sr.drew (firstCells_drew ho) (by omega) hroom
    have hsz : (os ++ us ++ rest).size = cap * s := by
      simp only [Array.size_append]
      rw [hor.1, sr.row.1, h3, ← Nat.add_mul, ← Nat.add_mul]; congr 1; omega
    obtain ⟨k1, k2⟩ := frozen_new (w' := w.drew.alloc (.cells (os ++ us ++ rest) e)) H rfl rfl rfl (by simp) (alloc_old w.drew _)
    refine ⟨_, _, _, h1, k2, k1, .inr ⟨cap, w.heap.size, os ++ us ++ rest, rfl, h2, .inr rfl, fun o => World.cell?_alloc_new w.drew _ _ o, ?_⟩⟩
    have hm : ∀ v d, VRel w S ψ v d → VRel (w.drew.alloc (.cells (os ++ us ++ rest) e)) (fun A => S A ∨ A = w.heap.size) ψ v d := fun v d r => r.mono k2.sub (k2.keepS H) (fun _ _ _ h => h)
    refine Pre.append (hor.mono hm).pre (sr.row.mono hm) (fun q hq => ?_) (fun q hq => ?_) (by rw [hsz]; exact Nat.mul_le_mul_right s h2)
    · rw [Array.getElem?_append_left (by simp [hor.1]; omega), Array.getElem?_append_left (by rw [hor.1]; omega)]
    · rw [Array.getElem?_append_left (by simp [hor.1, sr.row.1]; omega), Array.getElem?_append_right (by rw [hor.1]; omega), hor.1]; congr 1; omega
end Go.Proofs.YtcmajlphfnihgaaA
