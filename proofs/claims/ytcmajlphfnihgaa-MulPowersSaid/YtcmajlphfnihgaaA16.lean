/- Appends, all of them. -/
import Derived.Test.YtcmajlphfnihgaaA15
set_option linter.unusedVariables false
set_option linter.unusedSimpArgs false
namespace Go.Proofs.YtcmajlphfnihgaaA
open Go
variable {P : Program} {w w' : World} {S : Nat → Prop} {φ φ' : Phi} {h h' : Heap}

theorem RowRel.ones {s : Nat} {us : Array Value} {l : List D} (r : RowRel w S φ s us l) : ∀ v ∈ us, v.oneCell' = true := by
  intro v hv
  obtain ⟨q, hq⟩ := Array.getElem?_of_mem hv
  have hlt := (Array.getElem?_eq_some_iff.1 hq).1
  rw [r.1] at hlt
  have hs : 0 < s := Nat.pos_of_ne_zero fun e => by subst e; simp at hlt
  have hi : q / s < l.length := Nat.div_lt_of_lt_mul (by rw [Nat.mul_comm]; exact hlt)
  have hl : l[q / s]? = some (l[q / s]'hi) := List.getElem?_eq_getElem hi
  obtain ⟨g1, g2⟩ := r.2 _ _ hl
  have hm : q % s < (l[q / s]'hi).cells.length := by rw [g1.1]; exact Nat.mod_lt _ hs
  obtain ⟨x, k1, k2⟩ := g2 (q % s) _ (List.getElem?_eq_getElem hm)
  have : q / s * s + q % s = q := by rw [Nat.mul_comm]; exact Nat.div_add_mod q s
  rw [this, hq] at k1
  cases k1
  have ho := g1.2
  rw [List.all_eq_true] at ho
  exact one_cell k2 (ho _ (List.getElem_mem _))
theorem slice_of {v : Value} {x : D} (r : VRel w S φ v x) (hx : (match x.bare with | .nilS | .ints _ _ | .list _ _ | .sref _ _ _ _ _ => true | _ => false) = true) : ∃ a l c, v = .slice a l c ∧ l ≤ c := by
  have r := bare_vrel r
  generalize x.bare = y at *
  cases r <;> first
    | (simp at hx; done)
    | exact ⟨_, _, _, rfl, by assumption⟩
    | exact ⟨_, _, _, rfl, Nat.le_refl _⟩
/-- Of a row of the call's own, by its name. -/
theorem row_at (H : HRel w S φ h) {b : Nat} {B : Blk} (hB : h[b]? = some B) {A sz n : Nat} (hp : φ b B.ver = some (A, sz, n)) :
    (∀ s xs, B.body = .rows s xs → s = sz ∧ ∃ c T, w.heap[A]? = some (.cells c T (0, 0)) ∧ c.size = n ∧ Pre w S φ sz c xs) ∧
    (∀ k xs, B.body = .ints k xs → sz = 1 ∧ ∃ c T, w.heap[A]? = some (.cells c T (0, 0)) ∧ c.size = n ∧ Pre w S φ 1 c (xs.map (.int k))) := by
  refine ⟨fun s xs hb => ?_, fun k xs hb => ?_⟩
  · obtain ⟨c, T, g1, g2, g3, g4, g5, g6⟩ := get_rows H (b := b) (v := B.ver) (sz' := s) (xs := xs) (by simp [Heap.get, hB, hb]) hp
    exact ⟨g1, c, T, g2, g3, by rw [g3]; exact g4, fun i d hd => ⟨g5 i d hd, fun j e he => g6 i d j e hd he⟩⟩
  · obtain ⟨c, T, rfl, g2, g3, g4, g5⟩ := get_ints H (b := b) (v := B.ver) (k := k) (xs := xs) (by simp [Heap.get, hB, hb]) hp
    refine ⟨rfl, c, T, g2, g3, by rw [List.length_map, g3]; omega, fun i d hd => ?_⟩
    rw [List.getElem?_map] at hd
    obtain ⟨y, hy, rfl⟩ := Option.map_eq_some_iff.1 hd
    have hi := (List.getElem?_eq_some_iff.1 hy).1
    refine ⟨⟨rfl, rfl⟩, fun j e he => ?_⟩
    cases j with
    | zero =>
      simp [D.cells] at he; subst he
      refine ⟨_, by rw [Nat.mul_one, Nat.add_zero]; exact g5 i hi, ?_⟩
      simp only [List.getD_eq_getElem?_getD, hy, Option.getD_some]
      exact .int
    | succ j => simp [D.cells] at he
theorem map_app (k : IntKind) (xs ys : List Int) : xs.map (D.int k) ++ ys.map (.int k) = (xs ++ ys).map (.int k) := by simp
theorem appendD_sound (H : HRel w S φ h) {base : Nat} {dst : Option Tmp} {t : TypeId} {x y d : D} {xv yv : Value} (rx : VRel w S φ xv x) (ry : VRel w S φ yv y) (e : appendD P base dst h t x y = some (d, h')) {ts : Array TypeId} {rest : List TypeId}
    (hts : ts.toList = t :: rest) (hrest : rest.all (fun u => (P.underlying u).isSome && (intK P u).isNone) = true) (ty : TypeId) :
    ∃ v w' S' φ', (Builtin.append_ ts ty #[xv, yv]).run P w = .ok v w' ∧ Ext w S φ h w' S' φ' h' ∧ HRel w' S' φ' h' ∧ VRel w' S' φ' v d := by
  unfold appendD at e
  obtain ⟨el, he, e2⟩ := Option.bind_eq_some_iff.1 e
  obtain ⟨s, hs, e3⟩ := Option.bind_eq_some_iff.1 e2
  obtain ⟨by_, hby, e4⟩ := Option.bind_eq_some_iff.1 e3
  obtain ⟨z, hz, e5⟩ := Option.bind_eq_some_iff.1 e4
  clear e e2 e3 e4
  split at e5 <;> try (cases e5; done)
  rename_i hzl
  obtain ⟨zv, hzv⟩ : ∃ zv, z = ofV zv ∧ ∀ w, (zeroValue el).run P w = .ok zv w := by
    obtain ⟨i, hi, hz⟩ := Option.bind_eq_some_iff.1 hz
    obtain ⟨v, hv, hz⟩ := Option.map_eq_some_iff.1 hz
    exact ⟨v, hz.symm, fun w => by simp [zeroValue, typeInfo, hi, hv]⟩
  have app : AppT P t el s by_ zv ts := by
    refine ⟨elem_run he, hs, hby, hzv.2, ?_, by rw [← Array.getElem?_toList, hts]; rfl, fun u hu => ?_⟩
    · have := (ofV_cells (w := w) (S := S) (φ := φ) zv).1
      rw [← hzv.1, hzl] at this; exact this
    · rw [← Array.getElem?_toList, hts] at hu
      simp only [List.getElem?_cons_succ] at hu
      rw [List.all_eq_true] at hrest
      have := hrest u (List.mem_of_getElem? hu)
      simp only [Bool.and_eq_true, Option.isNone_iff_eq_none] at this
      obtain ⟨dd, hd⟩ := Option.isSome_iff_exists.1 this.1
      refine ⟨dd, hd, fun k hk => ?_⟩
      subst hk
      have h2 := this.2
      unfold intK at h2
      rw [hd] at h2
      cases h2
  have put : ∀ {h1 : Heap} {xx : Body × (Nat → Nat → D)} {d : D} {h' : Heap}, putA base dst h1 xx = some (d, h') → ∃ b B, h1[b]? = some B ∧ d = xx.2 b (B.ver + 1) ∧ h' = h1.set b ⟨B.ver + 1, false, xx.1⟩ := fun {h1 xx d h'} ep => by
    unfold putA at ep
    obtain ⟨t', _, ep⟩ := Option.bind_eq_some_iff.1 ep
    obtain ⟨B, hB, ep⟩ := Option.map_eq_some_iff.1 ep
    cases ep
    exact ⟨_, B, hB, rfl, rfl⟩
  split at e5
  · rename_i hsrc
    obtain ⟨a', rfl⟩ := src_nil ry hsrc
    have hx : (match x.bare with | .nilS | .ints _ _ | .list _ _ | .sref _ _ _ _ _ => true | _ => false) = true ∧ d = x ∧ h' = h := by
      split at e5 <;> first | (cases e5; exact ⟨by simp [*], rfl, rfl⟩) | cases e5
    obtain ⟨hx, rfl, rfl⟩ := hx
    obtain ⟨a, l, c, rfl, hlc⟩ := slice_of rx hx
    have hst : (match a with | some b => storeCells (b.add (l * s)) (#[] : Array Value).toList | none => pure ()).run P w = .ok () w := by cases a <;> simp [storeCells]
    exact ⟨_, w, S, φ, append_fits app ty (n := 0) rfl firstCells_zero hlc hst, .refl .., H, rx⟩
  · rename_i k ys hsrc
    split at e5 <;> try (cases e5; done)
    rename_i hs1
    subst hs1
    obtain ⟨l1, l2⟩ := src_ints (P := P) H ry hsrc
    obtain ⟨us, u1, u2, u3⟩ := l2 ys.length (Nat.le_refl _)
    have sr : SrcOk P w S φ 1 yv (ys.map (.int k)) us := by
      refine ⟨by rw [List.length_map]; exact l1, by rw [List.length_map]; exact u1, by rw [List.length_map]; exact firstCells_drew u1, ints_row u2 u3⟩
    have tolen : ∀ l : List Int, (l.map (D.int k)).length = l.length := fun l => List.length_map ..
    split at e5
    · rename_i k' xs
      split at e5 <;> try (cases e5; done)
      rename_i hk
      subst hk
      split at e5 <;> try (cases e5; done)
      rename_i hroom
      cases e5
      cases rx with
      | @lit _ a n0 d0 hd _ =>
        cases hd with
        | @ints _ _ cap _ _ hc B o ha hx =>
          have hfo : ∃ os, (Builtin.firstCells 1 (xs.map (D.int k)).length (.slice a (xs.map (D.int k)).length (xs.map (D.int k)).length)).run P w = .ok os w ∧ RowRel w S φ 1 os (xs.map (.int k)) := by
            by_cases h0 : xs = []
            · subst h0; exact ⟨#[], firstCells_zero, by simp [RowRel]⟩
            · obtain ⟨rfl, hB⟩ := ha h0
              have key := firstCells_at (P := P) (w := w) (s := 1) (n := xs.length) (m := 0) (A := B) (o := o) (len := xs.length) (cap := xs.length) (f := fun j => .int k (xs.getD j 0)) fun j hj => hx j (by omega)
              rw [tolen]
              exact ⟨_, key, ints_row (by simp) fun i hi => range_get (n := xs.length * 1) (by omega)⟩
          obtain ⟨os, ho, hor⟩ := hfo
          obtain ⟨v, w', S', h1, h2, h3, h4⟩ := grow_lit H app ty sr ho hor (by rw [tolen, tolen]; exact hroom)
          rw [tolen] at h1
          refine ⟨v, w', S', φ, h1, h2, h3, ?_⟩
          rcases h4 with ⟨g1, rfl, rfl, rfl⟩ | ⟨cap', A, c, rfl, g1, g2, g3, g4⟩
          · have : ys = [] := by simpa using g1
            subst this
            rw [List.append_nil, tolen]
            exact .ints (Nat.le_refl _) B o ha hx
          · rw [tolen, tolen] at g1 ⊢
            rw [map_app] at g4
            obtain ⟨_, q2, q3⟩ := g4.ok_ints
            have := VRel.ints (w := w') (S := S') (φ := φ) (a := some ⟨A, 0, none⟩) (cap := cap') (k := k) (xs := xs ++ ys) (by rw [List.length_append]; exact g1) A 0 (fun _ => ⟨rfl, g2⟩) (fun i hi => by rw [g3, Nat.zero_add]; exact q3 i hi)
            rw [List.length_append] at this
            exact this
    · unfold growI at e5
      split at e5
      · split at e5 <;> try (cases e5; done)
        rename_i hroom
        obtain ⟨b, B, hB, rfl, rfl⟩ := put e5
        obtain ⟨a, rfl⟩ := rx.nilS_inv
        obtain ⟨v, w', φ', k1, k2, k3, k4⟩ := grow_empty (body := .ints k ys) H app ty sr (base := a) (by rw [tolen]; exact hroom) hB (fun w φ c p => p.ok_ints) (fun h0 => .inl ⟨k, by rw [show ys = [] by simpa using h0]⟩)
        rw [tolen] at k4
        exact ⟨v, w', S, φ', k1, k2, k3, k4⟩
      · rename_i b v len _
        split at e5 <;> try (cases e5; done)
        rename_i B hB
        split at e5 <;> try (cases e5; done)
        rename_i hc
        split at e5 <;> try (cases e5; done)
        rename_i k' xs hbody
        split at e5 <;> try (cases e5; done)
        rename_i hq
        split at e5 <;> try (cases e5; done)
        rename_i hroom
        obtain ⟨rfl, hfz⟩ := hc
        obtain ⟨rfl, rfl⟩ := hq
        obtain ⟨b', B', hB', rfl, rfl⟩ := put e5
        obtain ⟨g1, g2⟩ := kill_sound H b
        generalize hlen : xs.length = len at rx
        cases rx with
        | @sref _ A _ _ _ n _ _ cap hp hcap hn =>
          subst hlen
          obtain ⟨_, c, T, hA, hcn, hpre⟩ := (row_at H hB hp).2 k' xs hbody
          have := grow_some (body := .ints k' (xs ++ ys)) H app ty (xs := xs.map (.int k')) sr (by rw [tolen, tolen]; exact hroom) sr.row.ones hB (by rw [hbody]; simp) hfz hp hA hcn hpre (by rw [tolen]; exact hcap) (by omega) hB' (fun w φ c p => by rw [map_app] at p; exact p.ok_ints)
          obtain ⟨v, w', φ', k1, k2, k3, k4⟩ := this
          rw [tolen] at k1
          rw [tolen, tolen] at k4
          exact ⟨v, w', S, φ', by rw [Nat.zero_mul]; exact k1, k2, k3, k4⟩
        | @sref0 _ a b _ _ _ =>
          have hx0 : xs = [] := List.length_eq_zero_iff.1 hlen
          subst hx0
          obtain ⟨v, w', φ', k1, k2, k3, k4⟩ := grow_empty (body := .ints k' ([] ++ ys)) g1 app ty sr (base := a) (by rw [tolen]; simpa using hroom) hB' (fun w φ c p => p.ok_ints) (fun h0 => .inl ⟨k', by rw [show ys = [] by simpa using h0]; rfl⟩)
          rw [tolen] at k4
          exact ⟨v, w', S, φ', k1, g2.trans k2, k3, by simpa using k4⟩
      · cases e5
  · rename_i s' ys hsrc
    split at e5 <;> try (cases e5; done)
    rename_i hs1
    obtain ⟨rfl, hik⟩ := hs1
    obtain ⟨l1, us, u1, u2⟩ := src_rows (P := P) H ry hsrc
    have srn : SrcOk P w S noPhi s yv ys us := ⟨l1, u1, firstCells_drew u1, u2⟩
    have sr : SrcOk P w S φ s yv ys us := ⟨l1, u1, firstCells_drew u1, u2.mono fun v d r => r.ofNo⟩
    split at e5
    · rename_i s'' xs
      split at e5 <;> try (cases e5; done)
      rename_i hk
      subst hk
      split at e5 <;> try (cases e5; done)
      rename_i hroom
      cases e5
      cases rx with
      | @lit _ a n0 d0 hd _ =>
        cases hd with
        | @list _ _ cap _ _ hc B o vs ha hsz hx hv =>
          have rr := src_rows (P := P) (h := h) (s := s'') (ys := xs) H (VRel.list (φ := φ) hc B o vs ha hsz hx hv) rfl
          obtain ⟨_, os, ho, hor⟩ := rr
          obtain ⟨v, w', S', h1, h2, h3, h4⟩ := grow_lit H app ty srn ho hor hroom
          refine ⟨v, w', S', φ, h1, h2, h3, ?_⟩
          rcases h4 with ⟨rfl, rfl, rfl, rfl⟩ | ⟨cap', A, c, rfl, g1, g2, g3, g4⟩
          · rw [List.append_nil]
            exact .list (Nat.le_refl _) B o vs ha hsz hx hv
          · have hcell : ∀ (i : Nat) (d : D) (j : Nat) (e : D), (xs ++ ys)[i]? = some d → d.cells[j]? = some e → ∃ x, w'.cell? ⟨A, 0 + (i * s'' + j), none⟩ = some x ∧ VRel w' S' noPhi x e := fun i d j e hd he => by
              obtain ⟨x, q1, q2⟩ := (g4.2 i d hd).2 j e he
              exact ⟨x, by rw [g3, Nat.zero_add]; exact q1, q2⟩
            have := VRel.list (w := w') (S := S') (φ := φ) (a := some ⟨A, 0, none⟩) (cap := cap') (sz := s'') (xs := xs ++ ys) (by rw [List.length_append]; exact g1) A 0 (fun i j => (w'.cell? ⟨A, 0 + (i * s'' + j), none⟩).getD default) (fun _ => ⟨rfl, g2⟩)
              (fun i d hd => (g4.2 i d hd).1) (fun i d j e hd he => by obtain ⟨x, q1, _⟩ := hcell i d j e hd he; rw [q1]; rfl) (fun i d j e hd he => by obtain ⟨x, q1, q2⟩ := hcell i d j e hd he; rw [q1]; exact q2)
            rw [List.length_append] at this
            exact this
    · unfold growR at e5
      split at e5
      · split at e5 <;> try (cases e5; done)
        rename_i hroom
        obtain ⟨b, B, hB, rfl, rfl⟩ := put e5
        obtain ⟨a, rfl⟩ := rx.nilS_inv
        obtain ⟨v, w', φ', k1, k2, k3, k4⟩ := grow_empty (body := .rows s ys) H app ty sr (base := a) hroom hB (fun w φ c p => p.ok_rows) (fun h0 => .inr ⟨s, by rw [h0]⟩)
        exact ⟨v, w', S, φ', k1, k2, k3, k4⟩
      · rename_i b v s'' len _
        split at e5 <;> try (cases e5; done)
        rename_i B hB
        split at e5 <;> try (cases e5; done)
        rename_i hc
        split at e5 <;> try (cases e5; done)
        rename_i s3 xs hbody
        split at e5 <;> try (cases e5; done)
        rename_i hq
        split at e5 <;> try (cases e5; done)
        rename_i hroom
        obtain ⟨rfl, hfz, rfl⟩ := hc
        obtain ⟨rfl, rfl⟩ := hq
        obtain ⟨b', B', hB', rfl, rfl⟩ := put e5
        obtain ⟨g1, g2⟩ := kill_sound H b
        generalize hlen : xs.length = len at rx
        cases rx with
        | @sref _ A _ _ _ n _ _ cap hp hcap hn =>
          subst hlen
          obtain ⟨_, c, T, hA, hcn, hpre⟩ := (row_at H hB hp).1 s3 xs hbody
          obtain ⟨v, w', φ', k1, k2, k3, k4⟩ := grow_some (body := .rows s3 (xs ++ ys)) H app ty (xs := xs) sr hroom sr.row.ones hB (by rw [hbody]; simp) hfz hp hA hcn hpre hcap (by rw [Nat.zero_add] at hn; exact hn) hB' (fun w φ c p => p.ok_rows)
          exact ⟨v, w', S, φ', by rw [Nat.zero_mul]; exact k1, k2, k3, k4⟩
        | @sref0 _ a b _ _ _ =>
          have hx0 : xs = [] := List.length_eq_zero_iff.1 hlen
          subst hx0
          obtain ⟨v, w', φ', k1, k2, k3, k4⟩ := grow_empty (body := .rows s3 ([] ++ ys)) g1 app ty (SrcOk.mk sr.len sr.cells sr.drew (sr.row.mono fun v d => g2.vrel H)) (base := a) (by simpa using hroom) hB' (fun w φ c p => p.ok_rows) (fun h0 => .inr ⟨s3, by rw [h0]; rfl⟩)
          exact ⟨v, w', S, φ', k1, g2.trans k2, k3, by simpa using k4⟩
      · cases e5
  · cases e5
end Go.Proofs.YtcmajlphfnihgaaA
