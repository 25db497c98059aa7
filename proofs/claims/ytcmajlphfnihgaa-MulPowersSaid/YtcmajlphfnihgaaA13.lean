/- Copies and appends. -/
import Derived.Test.YtcmajlphfnihgaaA12
set_option linter.unusedVariables false
set_option linter.unusedSimpArgs false
namespace Go.Proofs.YtcmajlphfnihgaaA
open Go
variable {P : Program} {w w' : World} {S : Nat → Prop} {φ φ' : Phi} {h h' : Heap}

theorem firstCells_at {s n m cap A o : Nat} {len : Nat} {f : Nat → Value} (hf : ∀ j, j < n * s → w.cell? ⟨A, o + j, none⟩ = some (f j)) :
    (Builtin.firstCells s n (.slice (some ⟨A, o, none⟩) len cap)).run P w = .ok ((List.range (n * s)).map f).toArray w := by
  have := run_loadCells (P := P) w ⟨A, o, none⟩ (n * s) f fun j hj => by rw [addr_add]; exact hf j hj
  simpa [Builtin.firstCells] using this
theorem firstCells_zero {s len cap : Nat} {a : Option Addr} : (Builtin.firstCells s 0 (.slice a len cap)).run P w = .ok #[] w := by
  cases a <;> simp [Builtin.firstCells, loadCells, loadCellsFrom]
theorem range_get {n : Nat} {f : Nat → Value} {i : Nat} (hi : i < n) : (((List.range n).map f).toArray)[i]? = some (f i) := by
  rw [List.getElem?_toArray, List.getElem?_map, List.getElem?_range hi]; rfl

theorem src_nil {d : D} {v : Value} (r : VRel w S φ v d) (e : src h d = some .nilS) : ∃ a, v = .slice a 0 0 := by
  have r := bare_vrel r
  unfold src at e
  generalize d.bare = d at *
  cases r with
  | @sref _ A b u sz n off len cap hp hc hn =>
    simp only [reify] at e
    cases hg : h.get b u with
    | dead => rw [hg] at e; cases e
    | ints k xs =>
      rw [hg] at e
      simp only at e
      repeat' (split at e)
      all_goals cases e
    | rows s xs =>
      rw [hg] at e
      simp only at e
      repeat' (split at e)
      all_goals cases e
  | nilS => exact ⟨_, rfl⟩
  | sref0 => exact ⟨_, rfl⟩
  | _ => simp at e
theorem src_ints (H : HRel w S φ h) {d : D} {v : Value} {k : IntKind} {ys : List Int} (r : VRel w S φ v d) (e : src h d = some (.ints k ys)) :
    (Builtin.lenOf v).run P w = .ok ys.length w ∧ ∀ m, m ≤ ys.length → ∃ us, (Builtin.firstCells 1 m v).run P w = .ok us w ∧ us.size = m ∧ ∀ i, i < m → us[i]? = some (.int k (ys.getD i 0)) := by
  have r := bare_vrel r
  unfold src at e
  generalize d.bare = d at *
  have tree : ∀ {a : Option Addr} {cap : Nat} (B o : Nat), (ys ≠ [] → a = some ⟨B, o, none⟩) → (∀ i, i < ys.length → w.cell? ⟨B, o + i, none⟩ = some (.int k (ys.getD i 0))) →
      (Builtin.lenOf (.slice a ys.length cap)).run P w = .ok ys.length w ∧ ∀ m, m ≤ ys.length → ∃ us, (Builtin.firstCells 1 m (.slice a ys.length cap)).run P w = .ok us w ∧ us.size = m ∧ ∀ i, i < m → us[i]? = some (.int k (ys.getD i 0)) := fun {a cap} B o ha hx => by
    refine ⟨rfl, fun m hm => ?_⟩
    by_cases h0 : m = 0
    · subst h0; exact ⟨#[], firstCells_zero, rfl, fun i hi => by omega⟩
    · have := ha (fun e => by subst e; simp at hm; omega)
      subst this
      have key := firstCells_at (P := P) (s := 1) (n := m) (m := m) (len := ys.length) (cap := cap) (f := fun j => .int k (ys.getD j 0)) fun j hj => hx j (by omega)
      rw [Nat.mul_one] at key
      exact ⟨_, key, by simp, fun i hi => range_get hi⟩
  cases r with
  | @str _ s =>
    simp only [Option.some.injEq, D.ints.injEq] at e
    obtain ⟨rfl, rfl⟩ := e
    have hl : (s.data.toList.map fun b => (b.toNat : Int)).length = s.size := by simp
    refine ⟨by rw [hl]; rfl, fun m hm => ?_⟩
    rw [hl] at hm
    refine ⟨(s.extract 0 m).data.map fun b => .int .u8 b.toNat, rfl, ?_, fun i hi => ?_⟩
    · have : (s.extract 0 m).data.size = (s.extract 0 m).size := rfl
      simp [this]; omega
    · have hi' : i < s.data.size := by have : s.data.size = s.size := rfl
                                       omega
      rw [Array.getElem?_map]
      have h1 : (s.extract 0 m).data[i]? = some (s.data[i]'hi') := by
        rw [ByteArray.data_extract, Array.getElem?_extract]
        rw [if_pos (by have : s.data.size = s.size := rfl
                       omega)]
        rw [Nat.zero_add, Array.getElem?_eq_getElem hi']
      rw [h1]
      simp only [List.getD_eq_getElem?_getD, List.getElem?_map, Array.getElem?_toList, Array.getElem?_eq_getElem hi', Option.map_some, Option.getD_some]
  | @ints _ a cap k' xs hc B o ha hx =>
    simp only [Option.some.injEq, D.ints.injEq] at e
    obtain ⟨rfl, rfl⟩ := e
    exact tree B o (fun hne => (ha hne).1) hx
  | @sref _ A b u sz n off len cap hp hc hn =>
    simp only [reify] at e
    cases hg : h.get b u with
    | dead => rw [hg] at e; cases e
    | rows s xs =>
      rw [hg] at e
      simp only at e
      repeat' (split at e)
      all_goals cases e
    | ints k' xs =>
      rw [hg] at e
      obtain ⟨c, T, rfl, hA, hn', hl, hx⟩ := get_ints H hg hp
      simp only [if_true] at e
      split at e
      · rename_i hle
        simp only [Option.some.injEq, D.ints.injEq] at e
        obtain ⟨rfl, rfl⟩ := e
        have hlen : ((xs.drop off).take len).length = len := by simp; omega
        have key := tree (a := some ⟨A, off * 1, none⟩) (cap := cap) A (off * 1) (fun _ => rfl) (fun i hi => by
          rw [hlen] at hi
          rw [cell_of hA, Nat.mul_one, hx (off + i) (by omega)]
          congr 2
          simp [List.getD_eq_getElem?_getD, List.getElem?_take, hi])
        rw [hlen] at key
        rw [hlen]
        exact key
      · cases e
  | @sref0 _ a b u sz off =>
    simp only [reify] at e
    cases hg : h.get b u with
    | dead => rw [hg] at e; cases e
    | rows s xs =>
      rw [hg] at e
      simp only at e
      repeat' (split at e)
      all_goals cases e
    | ints k' xs =>
      rw [hg] at e
      simp only at e
      split at e <;> try (cases e; done)
      split at e <;> try (cases e; done)
      simp only [Option.some.injEq, D.ints.injEq, List.take_zero] at e
      obtain ⟨rfl, rfl⟩ := e
      exact tree 0 0 (fun h => absurd rfl h) (fun i hi => by simp at hi)
  | _ => simp at e
theorem src_rows (H : HRel w S φ h) {d : D} {v : Value} {s : Nat} {ys : List D} (r : VRel w S φ v d) (e : src h d = some (.list s ys)) :
    (Builtin.lenOf v).run P w = .ok ys.length w ∧ ∃ us, (Builtin.firstCells s ys.length v).run P w = .ok us w ∧ RowRel w S noPhi s us ys := by
  have r := bare_vrel r
  unfold src at e
  generalize d.bare = d at *
  have tree : ∀ {a : Option Addr} {cap : Nat} (B o : Nat), (ys ≠ [] → a = some ⟨B, o, none⟩) → (∀ (i : Nat) (d : D), ys[i]? = some d → d.wide s) →
      (∀ (i : Nat) (d : D) (j : Nat) (c : D), ys[i]? = some d → d.cells[j]? = some c → ∃ x, w.cell? ⟨B, o + (i * s + j), none⟩ = some x ∧ VRel w S noPhi x c) →
      (Builtin.lenOf (.slice a ys.length cap)).run P w = .ok ys.length w ∧ ∃ us, (Builtin.firstCells s ys.length (.slice a ys.length cap)).run P w = .ok us w ∧ RowRel w S noPhi s us ys := fun {a cap} B o ha hw hx => by
    refine ⟨rfl, ?_⟩
    by_cases h0 : ys = []
    · subst h0; exact ⟨#[], firstCells_zero, by simp [RowRel]⟩
    · have := ha h0
      subst this
      have hall : ∀ j, j < ys.length * s → ∃ x, w.cell? ⟨B, o + j, none⟩ = some x := fun j hj => by
        have hs : 0 < s := Nat.pos_of_ne_zero fun e => by subst e; simp at hj
        have hi : j / s < ys.length := Nat.div_lt_of_lt_mul (by rw [Nat.mul_comm]; exact hj)
        have hy : ys[j / s]? = some (ys[j / s]'hi) := List.getElem?_eq_getElem hi
        have hwd := (hw _ _ hy).1
        have hm : j % s < (ys[j / s]'hi).cells.length := by rw [hwd]; exact Nat.mod_lt _ hs
        obtain ⟨x, h1, _⟩ := hx _ _ (j % s) _ hy (List.getElem?_eq_getElem hm)
        have : j / s * s + j % s = j := by rw [Nat.mul_comm]; exact Nat.div_add_mod j s
        rw [this] at h1
        exact ⟨x, h1⟩
      have key := firstCells_at (P := P) (s := s) (n := ys.length) (m := 0) (len := ys.length) (cap := cap) (f := fun j => (w.cell? ⟨B, o + j, none⟩).getD default) fun j hj => by
        obtain ⟨x, h1⟩ := hall j hj
        rw [h1]; rfl
      refine ⟨_, key, by simp, fun i d hd => ⟨hw i d hd, fun j c hc => ?_⟩⟩
      obtain ⟨x, h1, h2⟩ := hx i d j c hd hc
      have hj := (List.getElem?_eq_some_iff.1 hc).1
      have hi := (List.getElem?_eq_some_iff.1 hd).1
      refine ⟨x, ?_, h2⟩
      rw [range_get (row_lt (by rw [← (hw i d hd).1]; exact hj) hi), h1]; rfl
  cases r with
  | @list _ a cap sz xs hc B o vs ha hsz hx hv =>
    simp only [Option.some.injEq, D.list.injEq] at e
    obtain ⟨rfl, rfl⟩ := e
    exact tree B o (fun hne => (ha hne).1) hsz fun i d j c h1 h2 => ⟨_, hx i d j c h1 h2, hv i d j c h1 h2⟩
  | @sref _ A b u sz n off len cap hp hc hn =>
    simp only [reify] at e
    cases hg : h.get b u with
    | dead => rw [hg] at e; cases e
    | ints k xs =>
      rw [hg] at e
      simp only at e
      repeat' (split at e)
      all_goals cases e
    | rows s' xs =>
      rw [hg] at e
      obtain ⟨c, T, rfl, hA, hn', hl, hsz, hx⟩ := get_rows H hg hp
      simp only [if_true] at e
      split at e <;> try (cases e; done)
      rename_i hle
      split at e <;> try (cases e; done)
      rename_i hall
      simp only [Option.some.injEq, D.list.injEq] at e
      obtain ⟨rfl, rfl⟩ := e
      have hlen : ((xs.drop off).take len).length = len := by simp; omega
      have hget : ∀ (i : Nat) (d : D), ((xs.drop off).take len)[i]? = some d → xs[off + i]? = some d := fun i d hd => by
        rw [List.getElem?_take] at hd
        by_cases hi : i < len
        · rwa [if_pos hi, List.getElem?_drop] at hd
        · rw [if_neg hi] at hd; cases hd
      have key := tree (a := some ⟨A, off * s', none⟩) (cap := cap) A (off * s') (fun _ => rfl) (fun i d hd => hsz _ d (hget i d hd)) (fun i d j c' hd hc' => by
        obtain ⟨x, h1, h2⟩ := hx _ d j c' (hget i d hd) hc'
        rw [List.all_eq_true] at hall
        have h3 := hall d (List.mem_of_getElem? hd)
        rw [List.all_eq_true] at h3
        exact ⟨x, by rw [cell_of hA, ← Nat.add_assoc, ← Nat.add_mul]; exact h1, isT_vrel 2 h2 (h3 c' (List.mem_of_getElem? hc'))⟩)
      rw [hlen] at key
      rw [hlen]
      exact key
  | @sref0 _ a b u sz off =>
    simp only [reify] at e
    cases hg : h.get b u with
    | dead => rw [hg] at e; cases e
    | ints k xs =>
      rw [hg] at e
      simp only at e
      repeat' (split at e)
      all_goals cases e
    | rows s' xs =>
      rw [hg] at e
      simp only [List.take_zero, List.all_nil, if_true] at e
      split at e <;> try (cases e; done)
      split at e <;> try (cases e; done)
      simp only [Option.some.injEq, D.list.injEq] at e
      obtain ⟨rfl, rfl⟩ := e
      exact tree 0 0 (fun h => absurd rfl h) (fun i d h => by simp at h) (fun i d j c h => by simp at h)
  | _ => simp at e

/-! ### copy -/
theorem copyD_sound (H : HRel w S φ h) {t : TypeId} {x y d : D} {xv yv : Value} (rx : VRel w S φ xv x) (ry : VRel w S φ yv y) (e : copyD P h t x y = some (d, h')) (ts : Array TypeId) (ht : ts[0]? = some t) (ty : TypeId) :
    ∃ v w', (Builtin.copy_ ts ty #[xv, yv]).run P w = .ok v w' ∧ VRel w' S φ v d ∧ HRel w' S φ h' ∧ Ext w S φ h w' S φ h' := by
  unfold copyD at e
  obtain ⟨el, he, e2⟩ := Option.bind_eq_some_iff.1 e
  obtain ⟨s, hs, e3⟩ := Option.bind_eq_some_iff.1 e2
  clear e e2
  have hu := elem_run he
  split at e3 <;> try (cases e3; done)
  rename_i h1
  subst h1
  split at e3 <;> try (cases e3; done)
  rename_i b v off len k ys hsrc
  split at e3 <;> try (cases e3; done)
  rename_i B hB
  split at e3 <;> try (cases e3; done)
  rename_i hc
  split at e3 <;> try (cases e3; done)
  rename_i k' xs hbody
  split at e3 <;> try (cases e3; done)
  rename_i hq
  cases e3
  obtain ⟨hver, hfz⟩ := hc
  subst hver
  obtain ⟨rfl, hle⟩ := hq
  obtain ⟨l1, l2⟩ := src_ints (P := P) H ry hsrc
  obtain ⟨us, g1, g2, g3⟩ := l2 (min ys.length len) (Nat.min_le_left _ _)
  have run : ∀ {a : Option Addr} {cap : Nat} {w' : World}, (match a with | some a => storeCells a us.toList | none => pure ()).run P w = .ok () w' → (Builtin.copy_ ts ty #[.slice a len cap, yv]).run P w = .ok (.int .i64 ((min ys.length len : Nat) : Int)) w' := fun {a cap w'} hst => by
    have hmin : Nat.min ys.length len = min ys.length len := rfl
    cases a with
    | none =>
      cases hst
      simp [Builtin.copy_, ht, run_underlying hu, l1, run_szOf hs, hmin, g1, goInt]
    | some a =>
      simp only at hst
      simp [Builtin.copy_, ht, run_underlying hu, l1, run_szOf hs, hmin, g1, goInt, hst]
  cases rx with
  | @sref _ A _ _ _ n _ _ cap hp hcap hn =>
    obtain ⟨c, T, _, hA, hn', hl, hx⟩ := get_ints H (b := b) (v := B.ver) (k := k') (xs := xs) (by simp [Heap.get, hB, hbody]) hp
    have hul : us.toList.length = min ys.length len := by simp [g2]
    have hfit : off * 1 + us.toList.length ≤ c.size := by rw [hul]; omega
    have hone : ∀ v ∈ us.toList, v.oneCell' = true := fun v hv => by
      obtain ⟨i, hi⟩ := List.getElem?_of_mem hv
      have hlt := (List.getElem?_eq_some_iff.1 hi).1
      rw [Array.getElem?_toList, g3 i (by omega)] at hi
      cases hi; rfl
    have hst := store_run (P := P) hA us.toList hfit hone
    have hlen : (xs.take off ++ (ys.take (min ys.length len) ++ xs.drop (off + min ys.length len))).length = xs.length := by simp; omega
    obtain ⟨r1, r2⟩ := written_sound (w' := w.setRow A (patch c (off * 1) us.toList)) H hB (by rw [hbody]; simp) hfz hp (body := .ints k' (xs.take off ++ (ys.take (min ys.length len) ++ xs.drop (off + min ys.length len)))) hA (by rw [patch_size _ _ _ hfit]; exact hn') rfl rfl rfl (setRow_heapEq hA)
      ⟨rfl, by rw [hlen, patch_size _ _ _ hfit]; omega, fun i hi => by
        rw [hlen] at hi
        rw [patch_get _ _ _ hfit, hul, Nat.mul_one]
        by_cases hin : off ≤ i ∧ i < off + min ys.length len
        · rw [if_pos hin, Array.getElem?_toList, g3 (i - off) (by omega)]
          congr 2
          simp only [List.getD_eq_getElem?_getD]
          rw [List.getElem?_append_right (by simp; omega), List.getElem?_append_left (by simp; omega), List.getElem?_take, if_pos (by simp; omega)]
          simp
          rw [Nat.min_eq_left (by omega)]
        · rw [if_neg hin, hx i hi]
          congr 2
          simp only [List.getD_eq_getElem?_getD]
          by_cases hlo : i < off
          · rw [List.getElem?_append_left (by simp; omega), List.getElem?_take, if_pos hlo]
          · rw [List.getElem?_append_right (by simp; omega), List.getElem?_append_right (by simp; omega), List.getElem?_drop]
            congr 2
            simp; omega⟩
    exact ⟨_, _, run hst, .int, r1, r2⟩
  | @sref0 _ a =>
    have hus : us = #[] := by
      have : us.size = 0 := by simpa using g2
      exact Array.eq_empty_of_size_eq_zero this
    subst hus
    refine ⟨_, w, run (by cases a <;> simp [storeCells]), .int, ?_⟩
    have hset : h.set b { B with body := .ints k' (xs.take off ++ (ys.take (min ys.length 0) ++ xs.drop (off + min ys.length 0))) } = h := by
      have : ({ B with body := .ints k' (xs.take off ++ (ys.take (min ys.length 0) ++ xs.drop (off + min ys.length 0))) } : Blk) = B := by
        cases B; simp at hbody ⊢; exact hbody.symm
      rw [this]
      apply List.ext_getElem?
      intro i
      rw [List.getElem?_set]
      by_cases hi : b = i
      · subst hi; rw [if_pos rfl, if_pos (List.getElem?_eq_some_iff.1 hB).1, hB]
      · rw [if_neg hi]
    rw [hset]
    exact ⟨H, .refl ..⟩
end Go.Proofs.YtcmajlphfnihgaaA
