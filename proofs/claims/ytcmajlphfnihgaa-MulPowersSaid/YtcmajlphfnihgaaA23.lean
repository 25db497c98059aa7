/- An argument is opened: what it holds, as the shadow's value. -/
import Derived.Test.YtcmajlphfnihgaaA22
import Derived.ChangeSlices
import Derived.ChangeArms
import Derived.WideShapes
set_option linter.unusedVariables false
set_option linter.unusedSimpArgs false
namespace Go.Proofs.YtcmajlphfnihgaaA
open Go

/-- A value of a type. -/
def TyD (P : Program) : Nat → TypeId → D → Prop
  | 0, _, _ => False
  | n + 1, t, d => match P.underlying t with
    | some .bool => ∃ b, d = .bool b
    | some (.int k) => ∃ m, d = .int k m ∧ (Lit.int k m).wf = true
    | some .string => ∃ s, d = .str s ∧ s.size ≤ maxLen
    | some (.slice e) => match P.underlying e with
      | some (.int k) => ∃ xs, d = .ints k xs ∧ xs.length ≤ maxLen ∧ ∀ x ∈ xs, (Lit.int k x).wf = true
      | _ => ∃ xs : List D, d = .list (P.cellsOf e) xs ∧ xs.length ≤ maxLen ∧ ∀ x ∈ xs, TyD P n e x
    | some (.struct fs) => ∃ ps : List D, d = .agg (ps.flatMap D.cells) ∧ ps.length = fs.size ∧ ∀ (i : Nat) (f : Field) (p : D), fs[i]? = some f → ps[i]? = some p → TyD P n f.type p
    | _ => False
/-- Types that the shadow's values are of, whose fields lie one behind the other. -/
def flatOk (P : Program) : Nat → TypeId → Bool
  | 0, _ => false
  | n + 1, t => match P.underlying t with
    | some .bool | some (.int _) | some .string => P.cellsOf t == 1
    | some (.slice e) => P.cellsOf t == 1 && decide (0 < P.cellsOf e) && flatOk P n e
    | some (.struct fs) => (fs.toList.foldl (fun (o : Option Nat) f => o.bind fun o => if f.offset == o && flatOk P n f.type then some (o + P.cellsOf f.type) else none) (some 0)) == some (P.cellsOf t)
    | _ => false

section
variable {H : Type} {enc : TypeId × Value → H} {P : Program} {w : World} {base : Nat} {spare : Nat → Bool} {held : Bool}
/-- Cells of an opened value. -/
structure Opened (P : Program) (w : World) (t : TypeId) (n : Nat) (cs : List Value) (d : D) : Prop where
  ty : TyD P n t d
  wide : d.wide (P.cellsOf t)
  rel : VsRel w (fun b => b < w.heap.size) noPhi cs d.cells
theorem opened_one {t : TypeId} {n : Nat} {v : Value} {d : D} (hd : d.cells = [d]) (ho : d.one = true) (hty : TyD P n t d) (hc : P.cellsOf t = 1) (r : VRel w (fun b => b < w.heap.size) noPhi v d) : Opened P w t n [v] d :=
  ⟨hty, ⟨by rw [hd, hc]; rfl, by rw [hd]; simp [ho]⟩, by rw [hd]; exact .cons r .nil⟩
theorem fields_open {n : Nat} {cs : List Value} {fuel : Nat} (ih : ∀ (t : TypeId) (fuel : Nat) (cs : List Value) (x : DataW H × List MemPlace), flatOk P n t = true → DataW.trod enc P w base spare held fuel t cs = some x → ∃ d, Opened P w t n cs d) :
    ∀ (l : List Field) (o m : Nat) (xs : List (DataW H × List MemPlace)), l.foldl (fun (o : Option Nat) f => o.bind fun o => if f.offset == o && flatOk P n f.type then some (o + P.cellsOf f.type) else none) (some o) = some m → m = cs.length → xs.length = l.length →
      (∀ (i : Nat) (f : Field), l[i]? = some f → DataW.trod enc P w base spare held fuel f.type ((cs.drop f.offset).take (P.cellsOf f.type)) = xs[i]?) →
      ∃ ps : List D, ps.length = l.length ∧ (∀ (i : Nat) (f : Field) (p : D), l[i]? = some f → ps[i]? = some p → TyD P n f.type p) ∧ (ps.flatMap D.cells).all D.one = true ∧ VsRel w (fun b => b < w.heap.size) noPhi (cs.drop o) (ps.flatMap D.cells) := by
  intro l
  induction l with
  | nil =>
    intro o m xs hf hm _ _
    simp at hf
    subst hf
    exact ⟨[], rfl, fun i f p h => by simp at h, rfl, by rw [List.drop_eq_nil_of_le (by omega)]; exact .nil⟩
  | cons f l ihl =>
    intro o m xs hf hm hl hx
    rw [List.foldl_cons] at hf
    simp only [Option.bind_some] at hf
    have none_fold : ∀ l : List Field, l.foldl (fun (o : Option Nat) f => o.bind fun o => if f.offset == o && flatOk P n f.type then some (o + P.cellsOf f.type) else none) none = none := by
      intro l; induction l with | nil => rfl | cons f l ih => simpa using ih
    by_cases hc : (f.offset == o && flatOk P n f.type) = true
    · rw [if_pos hc] at hf
      simp only [Bool.and_eq_true, beq_iff_eq] at hc
      cases xs with
      | nil => simp at hl
      | cons x xs =>
        have h0 := hx 0 f rfl
        simp only [List.getElem?_cons_zero] at h0
        obtain ⟨d, hd⟩ := ih _ _ _ _ hc.2 h0
        obtain ⟨ps, p1, p2, p3, p4⟩ := ihl _ m xs hf hm (by simpa using hl) (fun i g hg => by have := hx (i + 1) g (by simpa using hg); simpa using this)
        refine ⟨d :: ps, by simp [p1], fun i g p hg hp => ?_, by rw [List.flatMap_cons, List.all_append, hd.wide.2, p3]; rfl, ?_⟩
        · cases i with
          | zero => simp at hg hp; subst hg; subst hp; exact hd.ty
          | succ i => exact p2 i g p (by simpa using hg) (by simpa using hp)
        · rw [List.flatMap_cons]
          have hsplit : cs.drop o = (cs.drop f.offset).take (P.cellsOf f.type) ++ cs.drop (o + P.cellsOf f.type) := by
            rw [hc.1, ← List.drop_drop, List.take_append_drop]
          rw [hsplit]
          exact hd.rel.append p4
    · rw [if_neg hc, none_fold] at hf; cases hf
theorem open_D : ∀ (n : Nat) (t : TypeId) (fuel : Nat) (cs : List Value) (x : DataW H × List MemPlace), flatOk P n t = true → DataW.trod enc P w base spare held fuel t cs = some x → ∃ d, Opened P w t n cs d := by
  intro n
  induction n with
  | zero => intro t fuel cs x hf; simp [flatOk] at hf
  | succ n ih =>
    intro t fuel cs x hf hx
    cases hu : P.underlying t with
    | none => simp [flatOk, hu] at hf
    | some u =>
      cases u <;> try (simp [flatOk, hu] at hf; done)
      case bool =>
        simp only [flatOk, hu, beq_iff_eq] at hf
        obtain ⟨b, rfl, _⟩ := DataW.trod_bool hu hx
        exact ⟨.bool b, opened_one rfl rfl (by simp [TyD, hu]) hf .bool⟩
      case int k =>
        simp only [flatOk, hu, beq_iff_eq] at hf
        obtain ⟨m, rfl, _, hw⟩ := DataW.trod_int hu hx
        exact ⟨.int k m, opened_one rfl rfl (by simp [TyD, hu, hw]) hf .int⟩
      case string =>
        simp only [flatOk, hu, beq_iff_eq] at hf
        obtain ⟨s, rfl, _, hs⟩ := DataW.trod_string hu hx
        exact ⟨.str s, opened_one rfl rfl (by simp [TyD, hu, hs]) hf .str⟩
      case struct fs =>
        simp only [flatOk, hu, beq_iff_eq] at hf
        obtain ⟨xs, m, _, hl, h1, h2, h3⟩ := DataW.trod_struct hu hx
        obtain ⟨ps, p1, p2, p3, p4⟩ := fields_open (n := n) (cs := cs) (fuel := m) ih fs.toList 0 (P.cellsOf t) xs hf (by omega) (by simpa using h2) (fun i f hi => h3 i f (by simpa using hi))
        rw [List.drop_zero] at p4
        refine ⟨.agg (ps.flatMap D.cells), ⟨?_, ⟨?_, p3⟩, p4⟩⟩
        · simp only [TyD, hu]
          exact ⟨ps, rfl, by simpa using p1, fun i f p hi hp => p2 i f p (by simpa using hi) hp⟩
        · have := p4.1
          show (ps.flatMap D.cells).length = _
          omega
      case slice e =>
        simp only [flatOk, hu, Bool.and_eq_true, beq_iff_eq, decide_eq_true_eq] at hf
        obtain ⟨⟨hc1, hpos⟩, hfe⟩ := hf
        rcases DataW.trod_slice hu hx with ⟨rfl, _⟩ | ⟨a, len, cap, elems, rest, m, _, rfl, _, hb, hl, hm, hlen, hel, _, _⟩
        · cases hue : P.underlying e with
          | none => cases n <;> simp [flatOk, hue] at hfe
          | some ue =>
            by_cases hk : ∃ k, ue = .int k
            · obtain ⟨k, rfl⟩ := hk
              exact ⟨.ints k [], opened_one rfl rfl (by simp [TyD, hu, hue]) hc1 (.ints (xs := []) (Nat.le_refl _) 0 0 (fun h => absurd rfl h) (fun i hi => by simp at hi))⟩
            · refine ⟨.list (P.cellsOf e) [], opened_one rfl rfl ?_ hc1 (.list (xs := []) (Nat.le_refl _) 0 0 (fun _ _ => default) (fun h => absurd rfl h) (fun i d h => by simp at h) (fun i d j c h => by simp at h) (fun i d j c h => by simp at h))⟩
              simp only [TyD, hu, hue]
              cases ue <;> first | exact absurd ⟨_, rfl⟩ hk | exact ⟨[], rfl, Nat.zero_le _, fun x hx => by simp at hx⟩
        · have each : ∀ i, i < len → ∃ c d, w.cells? base (a.add (i * P.cellsOf e)) (P.cellsOf e) = some c ∧ Opened P w e n c d := fun i hi => by
            have h1 := hel i hi
            rw [List.getElem?_eq_getElem (by omega)] at h1
            obtain ⟨c, h2, h3⟩ := Option.bind_eq_some_iff.1 h1
            obtain ⟨d, hd⟩ := ih _ _ _ _ hfe h3
            exact ⟨c, d, h2, hd⟩
          have all : ∀ k, k ≤ len → ∃ ds : List D, ds.length = k ∧ ∀ (j : Nat) (d : D), ds[j]? = some d → ∃ c, w.cells? base (a.add (j * P.cellsOf e)) (P.cellsOf e) = some c ∧ Opened P w e n c d := by
            intro k
            induction k with
            | zero => intro _; exact ⟨[], rfl, fun j d h => by simp at h⟩
            | succ k ihk =>
              intro hk
              obtain ⟨ds, g1, g2⟩ := ihk (by omega)
              obtain ⟨c, d, g3, g4⟩ := each k (by omega)
              refine ⟨ds ++ [d], by simp [g1], fun j z hz => ?_⟩
              by_cases hj : j < ds.length
              · rw [List.getElem?_append_left hj] at hz; exact g2 j z hz
              · rw [List.getElem?_append_right (by omega)] at hz
                have hj0 : j - ds.length = 0 := by have := (List.getElem?_eq_some_iff.1 hz).1; simp at this; omega
                rw [hj0] at hz
                simp at hz; subst hz
                have : j = k := by omega
                subst this
                exact ⟨c, g3, g4⟩
          obtain ⟨ds, g1, g2⟩ := all len (Nat.le_refl _)
          -- the place
          have place : 0 < len → ∃ B o, a = ⟨B, o, none⟩ ∧ B < w.heap.size := fun hl0 => by
            obtain ⟨c, d, g3, g4⟩ := each 0 hl0
            obtain ⟨_, h6, h7⟩ := World.cells?_some g3
            have h8 := h7 0 (by omega)
            rw [Nat.zero_mul, Addr.add_zero', Addr.add_zero'] at h8
            have hcl : 0 < c.length := by omega
            rw [List.getElem?_eq_getElem hcl] at h8
            have hs := World.cell?_spot h8
            have hb := World.block_lt_of_cell? _ _ h8
            exact ⟨a.block, a.off, by cases a; simp_all, hb⟩
          obtain ⟨B, o, hBo⟩ : ∃ B o, 0 < len → a = ⟨B, o, none⟩ ∧ B < w.heap.size := by
            by_cases hl0 : 0 < len
            · obtain ⟨B, o, h1, h2⟩ := place hl0; exact ⟨B, o, fun _ => ⟨h1, h2⟩⟩
            · exact ⟨0, 0, fun h => absurd h hl0⟩
          have cells : ∀ (i : Nat) (d : D), ds[i]? = some d → d.wide (P.cellsOf e) ∧ ∀ (j : Nat) (y : D), d.cells[j]? = some y → ∃ v, w.cell? ⟨B, o + (i * P.cellsOf e + j), none⟩ = some v ∧ VRel w (fun b => b < w.heap.size) noPhi v y := fun i d hd => by
            obtain ⟨c, h3, h4⟩ := g2 i d hd
            have hi := (List.getElem?_eq_some_iff.1 hd).1
            obtain ⟨rfl, _⟩ := hBo (by omega)
            obtain ⟨_, h6, h7⟩ := World.cells?_some h3
            refine ⟨h4.wide, fun j y hy => ?_⟩
            have hj := (List.getElem?_eq_some_iff.1 hy).1
            have hcl := h4.rel.1
            have hcj : c[j]? = some (c[j]'(by omega)) := List.getElem?_eq_getElem (by omega)
            have h8 := h7 j (by omega)
            rw [addr_add, addr_add, Nat.add_assoc] at h8
            exact ⟨_, by rw [h8]; exact hcj, h4.rel.2 j _ y hcj hy⟩
          cases hue : P.underlying e with
          | none => cases n <;> simp [flatOk, hue] at hfe
          | some ue =>
            by_cases hk : ∃ k, ue = .int k
            · obtain ⟨k, rfl⟩ := hk
              have hn : ∃ n', n = n' + 1 := by cases n with | zero => simp [flatOk] at hfe | succ n' => exact ⟨n', rfl⟩
              obtain ⟨n', rfl⟩ := hn
              simp only [flatOk, hue, beq_iff_eq] at hfe
              have ints : ∀ (i : Nat) (d : D), ds[i]? = some d → ∃ m, d = .int k m ∧ (Lit.int k m).wf = true := fun i d hd => by
                obtain ⟨c, _, h4⟩ := g2 i d hd
                have := h4.ty
                simpa only [TyD, hue] using this
              refine ⟨.ints k (ds.map fun d => match d with | .int _ m => m | _ => 0), opened_one rfl rfl ?_ hc1 ?_⟩
              · simp only [TyD, hu, hue]
                refine ⟨_, rfl, by rw [List.length_map, g1]; exact Nat.le_trans hl hm, fun x hx => ?_⟩
                obtain ⟨d, hd, rfl⟩ := List.mem_map.1 hx
                obtain ⟨i, hi⟩ := List.getElem?_of_mem hd
                obtain ⟨m, rfl, hw⟩ := ints i d hi
                exact hw
              · have key := VRel.ints (w := w) (S := fun b => b < w.heap.size) (φ := noPhi) (a := some a) (cap := cap) (k := k) (xs := ds.map fun d => match d with | .int _ m => m | _ => 0) (by rw [List.length_map, g1]; exact hl) B o
                  (fun hne => by
                    have : 0 < len := by rw [← g1]; exact List.length_pos_iff.2 fun e => hne (by rw [e]; rfl)
                    obtain ⟨h1, h2⟩ := hBo this
                    exact ⟨by rw [h1], h2⟩) (fun i hi => by
                    rw [List.length_map] at hi
                    have hd : ds[i]? = some (ds[i]'hi) := List.getElem?_eq_getElem hi
                    obtain ⟨m, hm', _⟩ := ints i _ hd
                    obtain ⟨_, h5⟩ := cells i _ hd
                    obtain ⟨v, h6, h7⟩ := h5 0 (.int k m) (by rw [hm']; rfl)
                    rw [hfe, Nat.mul_one, Nat.add_zero] at h6
                    rw [h6, h7.int_inv]
                    simp only [List.getD_eq_getElem?_getD, List.getElem?_map, hd, Option.map_some, Option.getD_some, hm'])
                rw [List.length_map, g1] at key
                exact key
            · refine ⟨.list (P.cellsOf e) ds, opened_one rfl rfl ?_ hc1 ?_⟩
              · simp only [TyD, hu, hue]
                have hgood : ∃ xs : List D, D.list (P.cellsOf e) ds = .list (P.cellsOf e) xs ∧ xs.length ≤ maxLen ∧ ∀ x ∈ xs, TyD P n e x := ⟨ds, rfl, by rw [g1]; exact Nat.le_trans hl hm, fun x hx => by
                  obtain ⟨i, hi⟩ := List.getElem?_of_mem hx
                  obtain ⟨c, _, h4⟩ := g2 i x hi
                  exact h4.ty⟩
                cases ue <;> first | exact absurd ⟨_, rfl⟩ hk | exact hgood
              · have key := VRel.list (w := w) (S := fun b => b < w.heap.size) (φ := noPhi) (a := some a) (cap := cap) (sz := P.cellsOf e) (xs := ds) (by rw [g1]; exact hl) B o (fun i j => (w.cell? ⟨B, o + (i * P.cellsOf e + j), none⟩).getD default)
                  (fun hne => by
                    have : 0 < len := by rw [← g1]; exact List.length_pos_iff.2 hne
                    obtain ⟨h1, h2⟩ := hBo this
                    exact ⟨by rw [h1], h2⟩) (fun i d hd => (cells i d hd).1) (fun i d j y hd hy => by
                    obtain ⟨v, h1, _⟩ := (cells i d hd).2 j y hy
                    rw [h1]; rfl) (fun i d j y hd hy => by
                    obtain ⟨v, h1, h2⟩ := (cells i d hd).2 j y hy
                    rw [h1]; exact h2)
                rw [g1] at key
                exact key
end
end Go.Proofs.YtcmajlphfnihgaaA
