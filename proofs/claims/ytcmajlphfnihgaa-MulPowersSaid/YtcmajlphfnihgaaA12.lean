/- Rows are written. -/
import Derived.Test.YtcmajlphfnihgaaA11
set_option linter.unusedVariables false
set_option linter.unusedSimpArgs false
namespace Go.Proofs.YtcmajlphfnihgaaA
open Go
variable {P : Program} {w w' : World} {S : Nat → Prop} {φ φ' : Phi} {h h' : Heap}

def patch (c : Array Value) (o : Nat) (us : List Value) : Array Value := (c.toList.take o ++ us ++ c.toList.drop (o + us.length)).toArray
theorem patch_size (c : Array Value) (o : Nat) (us : List Value) (hl : o + us.length ≤ c.size) : (patch c o us).size = c.size := by
  simp [patch]; omega
theorem patch_get (c : Array Value) (o : Nat) (us : List Value) (hl : o + us.length ≤ c.size) (q : Nat) : (patch c o us)[q]? = if o ≤ q ∧ q < o + us.length then us[q - o]? else c[q]? := by
  unfold patch
  rw [List.getElem?_toArray]
  by_cases h1 : q < o
  · rw [if_neg (by omega), List.append_assoc, List.getElem?_append_left (by simp; omega), List.getElem?_take, if_pos h1]; simp
  · by_cases h2 : q < o + us.length
    · rw [if_pos ⟨by omega, h2⟩, List.getElem?_append_left (by simp; omega), List.getElem?_append_right (by simp; omega)]
      congr 1; simp; omega
    · rw [if_neg (by omega), List.getElem?_append_right (by simp; omega), List.getElem?_drop, Array.getElem?_toList]
      congr 1; simp; omega
theorem setRow_heapEq {A : Nat} {c c' : Array Value} {T : TypeId} (hA : w.heap[A]? = some (.cells c T (0, 0))) : (w.setRow A c').heap = w.heap.setIfInBounds A (.cells c' T (0, 0)) := by
  have hlt : A < w.heap.size := by
    rcases Nat.lt_or_ge A w.heap.size with h | h
    · exact h
    · rw [Array.getElem?_eq_none h] at hA; cases hA
  apply Array.ext_getElem?
  intro i
  by_cases hi : i = A
  · subst hi
    rw [setRow_heap w i c c' T (0, 0) hA, Array.getElem?_setIfInBounds_self_of_lt hlt]
  · rw [setRow_other w A i c' hi, Array.getElem?_setIfInBounds_ne (Ne.symm hi)]
theorem store_run {A o : Nat} {c : Array Value} {T : TypeId} (hA : w.heap[A]? = some (.cells c T (0, 0))) (us : List Value) (hl : o + us.length ≤ c.size) (h1 : ∀ v ∈ us, v.oneCell' = true) :
    (storeCells ⟨A, o, none⟩ us).run P w = .ok () (w.setRow A (patch c o us)) := by
  have := run_storeCells_at P A o T us 0 c w hA (by omega) h1
  simpa [patch] using this
theorem ones {vs : List Value} {ds : List D} (r : VsRel w S φ vs ds) (hd : ds.all D.one = true) : ∀ v ∈ vs, v.oneCell' = true := by
  intro v hv
  obtain ⟨i, hi⟩ := List.getElem?_of_mem hv
  have hlt := (List.getElem?_eq_some_iff.1 hi).1
  have hr := r.1
  have hdi : ds[i]? = some (ds[i]'(by omega)) := List.getElem?_eq_getElem (by omega)
  rw [List.all_eq_true] at hd
  exact one_cell (r.2 i v _ hi hdi) (hd _ (List.getElem_mem _))
theorem cells_rel {v : Value} {d : D} (r : VRel w S φ v d) (hd : d.cells.all D.one = true) : VsRel w S φ v.cells.toList d.cells := by
  obtain ⟨h1, h2⟩ := r.cells (one_top hd)
  exact ⟨by simpa using h1, fun i x e g1 g2 => h2 i x e (by simpa using g1) g2⟩

theorem st_sound (H : HRel w S φ h) {t : TypeId} {p v : D} {pv vv : Value} (rp : VRel w S φ pv p) (rv : VRel w S φ vv v) (e : st P h t p v = some h') :
    ∃ w', (Instr.storeAt t pv vv).run P w = .ok () w' ∧ HRel w' S φ h' ∧ Ext w S φ h w' S φ h' := by
  unfold st at e
  obtain ⟨s, hs, e2⟩ := Option.bind_eq_some_iff.1 e
  clear e
  cases rp with
  | @pref _ A b u sz n i off hp =>
    simp only at e2
    cases hB : h[b]? with
    | none => rw [hB] at e2; cases e2
    | some B =>
      rw [hB] at e2
      simp only at e2
      by_cases hc : B.ver = u ∧ B.fz = false
      · rw [if_pos hc] at e2
        obtain ⟨hver, hfz⟩ := hc
        subst hver
        have run : ∀ {c : Array Value} {T : TypeId}, w.heap[A]? = some (.cells c T (0, 0)) → vv.cells.size = s → i * sz + off + s ≤ c.size → v.cells.all D.one = true → VRel w S φ vv v →
            (Instr.storeAt t (.pointer (some ⟨A, i * sz + off, none⟩)) vv).run P w = .ok () (w.setRow A (patch c (i * sz + off) vv.cells.toList)) := fun {c T} hA hsz hle hone r => by
          have := store_run (P := P) hA vv.cells.toList (o := i * sz + off) (by simp; omega) (ones (cells_rel r hone) hone)
          simp [Instr.storeAt, Instr.sureAddr, storeVar, run_szOf hs, hsz, this]
        cases hbody : B.body with
        | dead => rw [hbody] at e2; cases e2
        | ints k xs =>
          rw [hbody] at e2
          obtain ⟨c, T, rfl, hA, hn, hl, hx⟩ := get_ints H (b := b) (v := B.ver) (k := k) (xs := xs) (by simp [Heap.get, hB, hbody]) hp
          cases v <;> try (simp at e2; done)
          rename_i k' m
          simp only at e2
          by_cases hq : k = k' ∧ off = 0 ∧ i < xs.length ∧ s = 1
          · rw [if_pos hq] at e2
            cases e2
            obtain ⟨rfl, rfl, hi, rfl⟩ := hq
            obtain rfl := rv.int_inv
            have hle : i * 1 + 0 + 1 ≤ c.size := by omega
            refine ⟨_, run hA rfl hle rfl .int, ?_⟩
            have hcl : (Value.int k m).cells.toList = [.int k m] := rfl
            have hle' : i * 1 + 0 + (Value.int k m).cells.toList.length ≤ c.size := by rw [hcl]; simp; omega
            refine written_sound H hB (by rw [hbody]; simp) hfz hp hA (by rw [patch_size _ _ _ hle']; exact hn) rfl rfl rfl (setRow_heapEq hA) ⟨rfl, by rw [patch_size _ _ _ hle', List.length_set]; omega, fun j hj => ?_⟩
            rw [List.length_set] at hj
            rw [patch_get _ _ _ hle', hcl]
            by_cases hji : j = i
            · subst hji
              rw [if_pos ⟨by omega, by simp⟩, show j - (j * 1 + 0) = 0 by omega]
              simp [List.getD_eq_getElem?_getD, hj]
            · rw [if_neg (by simp; omega), hx j hj]
              simp [List.getD_eq_getElem?_getD, List.getElem?_set, Ne.symm hji]
          · rw [if_neg hq] at e2; cases e2
        | rows sz' xs =>
          rw [hbody] at e2
          obtain ⟨c, T, rfl, hA, hn, hl, hsz, hx⟩ := get_rows H (b := b) (v := B.ver) (sz' := sz') (xs := xs) (by simp [Heap.get, hB, hbody]) hp
          simp only at e2
          cases hd : xs[i]? with
          | none => rw [hd] at e2; cases e2
          | some d =>
            rw [hd] at e2
            simp only at e2
            by_cases hq : v.cells.length = s ∧ off + s ≤ d.cells.length ∧ v.cells.all D.one = true
            · rw [if_pos hq] at e2
              cases e2
              obtain ⟨q1, q2, q3⟩ := hq
              obtain ⟨v1, v2⟩ := rv.cells (one_top q3)
              obtain ⟨w1, w2⟩ := hsz i d hd
              have hi := (List.getElem?_eq_some_iff.1 hd).1
              have hrow : i * sz' + sz' ≤ xs.length * sz' := by
                have : (i + 1) * sz' ≤ xs.length * sz' := Nat.mul_le_mul_right sz' hi
                rw [Nat.add_mul] at this; omega
              have hvl : vv.cells.toList.length = s := by simp; omega
              have hd' : (if off = 0 ∧ s = sz' then v else D.agg (upd d.cells off v.cells)).cells = upd d.cells off v.cells := by
                split
                · rename_i hz
                  obtain ⟨rfl, rfl⟩ := hz
                  simp [upd, w1, q1]
                · rfl
              refine ⟨_, run hA (by omega) (by omega) q3 rv, ?_⟩
              refine written_sound H hB (by rw [hbody]; simp) hfz hp hA (by rw [patch_size _ _ _ (by rw [hvl]; omega)]; exact hn) rfl rfl rfl (setRow_heapEq hA) ⟨rfl, by rw [patch_size _ _ _ (by rw [hvl]; omega), List.length_set]; omega, fun i' d' hd1 => ?_, fun i' d' j e hd1 he => ?_⟩
              · rw [List.getElem?_set] at hd1
                by_cases hii : i = i'
                · rw [if_pos hii, if_pos hi] at hd1
                  cases hd1
                  refine ⟨by rw [hd', upd_len _ _ _ (by omega)]; exact w1, ?_⟩
                  rw [hd', List.all_eq_true]
                  intro x hxm
                  obtain ⟨q, hq⟩ := List.getElem?_of_mem hxm
                  rw [upd_get _ _ _ _ (by omega)] at hq
                  rw [List.all_eq_true] at q3 w2
                  split at hq
                  · exact q3 x (List.mem_of_getElem? hq)
                  · exact w2 x (List.mem_of_getElem? hq)
                · rw [if_neg hii] at hd1
                  exact hsz i' d' hd1
              · rw [List.getElem?_set] at hd1
                rw [patch_get _ _ _ (by rw [hvl]; omega), hvl]
                by_cases hii : i = i'
                · rw [if_pos hii, if_pos hi] at hd1
                  cases hd1
                  rw [hd', upd_get _ _ _ _ (by omega)] at he
                  subst hii
                  by_cases hj : off ≤ j ∧ j < off + v.cells.length
                  · rw [if_pos hj] at he
                    rw [if_pos ⟨by omega, by omega⟩, Array.getElem?_toList, show i * sz' + j - (i * sz' + off) = j - off by omega]
                    have hvj : vv.cells[j - off]? = some (vv.cells[j - off]'(by omega)) := Array.getElem?_eq_getElem (by omega)
                    exact ⟨_, hvj, v2 _ _ e hvj he⟩
                  · rw [if_neg hj] at he
                    rw [if_neg (by omega)]
                    exact hx i d j e hd he
                · rw [if_neg hii] at hd1
                  have hj := (List.getElem?_eq_some_iff.1 he).1
                  have w3 := (hsz i' d' hd1).1
                  rw [if_neg]
                  · exact hx i' d' j e hd1 he
                  · rintro ⟨g1, g2⟩
                    have : i' * sz' + j = i * sz' + (i' * sz' + j - i * sz') := by omega
                    exact hii (row_idx (s := sz') (by omega) (by omega) this).1.symm
            · rw [if_neg hq] at e2; cases e2
      · rw [if_neg hc] at e2; cases e2
  | _ => simp at e2
end Go.Proofs.YtcmajlphfnihgaaA
