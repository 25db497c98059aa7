/- Rows are made and written. -/
import Derived.Test.YtcmajlphfnihgaaA10
set_option linter.unusedVariables false
set_option linter.unusedSimpArgs false
namespace Go.Proofs.YtcmajlphfnihgaaA
open Go
variable {P : Program} {w w' : World} {S : Nat → Prop} {φ φ' : Phi} {h h' : Heap}

theorem one_cell {v : Value} {d : D} (r : VRel w S φ v d) (hd : d.one = true) : v.oneCell' = true := by
  cases r <;> first | rfl | (simp [D.one] at hd; done)
theorem zero_cells {v : Value} {z : D} {s : Nat} (hz : z = ofV v) (hs : z.wide s) : v.cells.size = s ∧ BodyOk w S φ s v.cells (.rows s [z]) := by
  have hcells := ofV_cells (w := w) (S := S) (φ := φ) v
  rw [← hz] at hcells
  obtain ⟨h1, h2⟩ := hcells
  have hl := hs.1
  refine ⟨by omega, rfl, by simp; omega, fun i d hd => ?_, fun i d j e hd he => ?_⟩
  · cases i with
    | zero => simp at hd; subst hd; exact hs
    | succ i => simp at hd
  · cases i with
    | zero =>
      simp at hd; subst hd
      have hj := (List.getElem?_eq_some_iff.1 he).1
      have hv : v.cells[j]? = some (v.cells[j]'(by omega)) := Array.getElem?_eq_getElem (by omega)
      exact ⟨_, by rw [Nat.zero_mul, Nat.zero_add]; exact hv, h2 j _ e hv he⟩
    | succ i => simp at hd
theorem box_cells {v : Value} {d : D} {s : Nat} (r : VRel w S φ v d) (hs : d.wide s) : v.cells.size = s ∧ BodyOk w S φ s v.cells (.rows s [d]) := by
  obtain ⟨h1, h2⟩ := r.cells (one_top hs.2)
  have hl := hs.1
  refine ⟨by omega, rfl, by simp; omega, fun i d' hd => ?_, fun i d' j e hd he => ?_⟩
  · cases i with
    | zero => simp at hd; subst hd; exact hs
    | succ i => simp at hd
  · cases i with
    | zero =>
      simp at hd; subst hd
      have hj := (List.getElem?_eq_some_iff.1 he).1
      have hv : v.cells[j]? = some (v.cells[j]'(by omega)) := Array.getElem?_eq_getElem (by omega)
      exact ⟨_, by rw [Nat.zero_mul, Nat.zero_add]; exact hv, h2 j _ e hv he⟩
    | succ i => simp at hd
/-- A new block, and what names it. -/
theorem Good.block (H : HRel w S φ h) {s : Sem Value} {v : Value} {d : D} {b : Nat} {B : Blk} {body : Body} {sz : Nat} {c : Array Value} {T : TypeId} (hr : s.run P w = .ok v w') (hB : h[b]? = some B) (hos : w'.os = w.os) (htape : w'.tape = w.tape) (hout : w'.output = w.output)
    (hheap : w'.heap = w.heap.push (.cells c T (0, 0))) (ok : BodyOk w S φ sz c body) (hv : VRel w' S (newPhi φ b (B.ver + 1) (w.heap.size, sz, c.size)) v d) :
    Good P w S φ h (do pure (Next.value (← s))) d (h.set b ⟨B.ver + 1, false, body⟩) := by
  obtain ⟨h1, h2⟩ := fresh_sound H hB hos htape hout hheap ok
  exact ⟨v, w', S, _, .inl (by simp [hr]), h2, h1, hv⟩
theorem replicate_ok {n m s : Nat} {z : D} {cells : Array Value} (r : RowRel w S φ s cells (List.replicate m z)) (hn : n ≤ m) (hz : z.wide s) : BodyOk w S φ s cells (.rows s (List.replicate n z)) := by
  refine ⟨rfl, ?_, fun i d hd => ?_, fun i d j e hd he => ?_⟩
  · rw [r.1]; simp; exact Nat.mul_le_mul_right s hn
  · rw [List.getElem?_replicate] at hd
    split at hd
    · cases hd; exact hz
    · cases hd
  · rw [List.getElem?_replicate] at hd
    split at hd
    · rename_i hi
      exact (r.2 i d (by rw [List.getElem?_replicate, if_pos (by omega)]; exact hd)).2 j e he
    · cases hd
theorem opA_sound (H : HRel w S φ h) {C : Cx} {o : Oper} {ρ : Operand → Value} {σ : Env} (hρ : ∀ x, VRel w S φ (ρ x) (σ x)) {base : Nat} {x : Body × (Nat → Nat → D)} (e : opA C o σ = some x) {d : D} {h' : Heap}
    (ep : putA base o.dst h x = some (d, h')) : Good C.P w S φ h (execOp ρ o) d h' := by
  unfold putA at ep
  obtain ⟨t, ht, ep⟩ := Option.bind_eq_some_iff.1 ep
  obtain ⟨B, hB, ep⟩ := Option.map_eq_some_iff.1 ep
  cases ep
  unfold execOp
  unfold opA at e
  split at e
  · rename_i t' ho
    rw [ho]
    obtain ⟨z, hz, e⟩ := Option.bind_eq_some_iff.1 e
    obtain ⟨s, hs, e⟩ := Option.bind_eq_some_iff.1 e
    split at e
    · rename_i hc
      cases e
      obtain ⟨v, hv, hzv⟩ := zero_run (P := C.P) (w := w) hz
      obtain ⟨g1, g2⟩ := zero_cells (w := w) (S := S) (φ := φ) hzv hc.2
      refine Good.block H (w' := w.alloc (.cells v.cells t')) (v := .pointer (some ⟨w.heap.size, 0, none⟩)) ?_ hB rfl rfl rfl rfl g2 ?_
      · simp [Instr.alloc, hv, newVar, newRow]
      · have := VRel.pref (w := w.alloc (.cells v.cells t')) (S := S) (i := 0) (off := 0) (newPhi_at φ (base + t) (B.ver + 1) (w.heap.size, s, v.cells.size))
        simpa using this
    · cases e
  · rename_i t' y ho
    rw [ho]
    obtain ⟨s, hs, e⟩ := Option.bind_eq_some_iff.1 e
    split at e
    · rename_i hc
      cases e
      obtain ⟨g1, g2⟩ := box_cells (hρ y) hc.2
      refine Good.block H (w' := w.alloc (.cells (ρ y).cells t')) (v := .pointer (some ⟨w.heap.size, 0, none⟩)) ?_ hB rfl rfl rfl rfl g2 ?_
      · simp [Instr.box, newVar, newRow]
      · have := VRel.pref (w := w.alloc (.cells (ρ y).cells t')) (S := S) (i := 0) (off := 0) (newPhi_at φ (base + t) (B.ver + 1) (w.heap.size, s, (ρ y).cells.size))
        simpa using this
    · cases e
  · rename_i t' l c ho
    rw [ho]
    obtain ⟨el, he, e⟩ := Option.bind_eq_some_iff.1 e
    obtain ⟨s, hs, e⟩ := Option.bind_eq_some_iff.1 e
    obtain ⟨by_, hby, e⟩ := Option.bind_eq_some_iff.1 e
    obtain ⟨z, hz, e⟩ := Option.bind_eq_some_iff.1 e
    have rl := hρ l
    have rc := hρ c
    split at e
    · rename_i k1 n k2 m hl hm
      rw [hl] at rl
      rw [hm] at rc
      by_cases q1 : 0 ≤ n <;> by_cases q2 : n ≤ m <;> by_cases q3 : m ≤ 140737488351232 <;> by_cases q4 : (by_ : Int) * m ≤ 140737488351232 <;> simp only [q1, q2, q3, q4, if_true, if_false] at e <;> try (cases e; done)
      by_cases hc : 0 < s ∧ z.cells.length = s ∧ z.cells.all D.one = true
      · rw [if_pos hc] at e
        obtain ⟨v, hv, hzv⟩ := zero_run (P := C.P) (w := w) hz
        obtain ⟨n, rfl⟩ := Int.eq_ofNat_of_zero_le q1
        obtain ⟨m, rfl⟩ := Int.eq_ofNat_of_zero_le (show (0 : Int) ≤ m by omega)
        have hrow := zeros_row (w := w) (S := S) (φ := φ) (len := m) hzv hc.2 hc.1
        have hu := elem_run he
        obtain ⟨info, hinfo, hsi⟩ : ∃ info, C.P.info? el = some info ∧ info.size = s := by
          unfold szOf at hs; obtain ⟨i, h1, h2⟩ := Option.map_eq_some_iff.1 hs; exact ⟨i, h1, h2⟩
        have hbi : info.bytes = by_ := by
          unfold bytesOf at hby; rw [hinfo] at hby; simpa using hby
        have w1 : IntKind.i64.wrap (n : Int) = n := by simp [IntKind.wrap, IntKind.bits, IntKind.signed]; omega
        have w2 : IntKind.i64.wrap (m : Int) = m := by simp [IntKind.wrap, IntKind.bits, IntKind.signed]; omega
        obtain ⟨cells, hcells⟩ : ∃ cells, cells = (Array.range (m * s)).map (v.cells[· % v.cells.size]!) := ⟨_, rfl⟩
        rw [← hcells] at hrow
        have hrun : (Instr.makeSlice t' (ρ l) (ρ c)).run C.P w = .ok (.slice (some ⟨w.heap.size, 0, none⟩) n m) (w.alloc (.cells cells el)) := by
          have b1 : ¬ ((m : Int) < 0) := by omega
          have b2 : ¬ ((info.bytes : Int) * (m : Int) > 2 ^ 48) := by rw [hbi]; omega
          have b3 : ¬ ((n : Int) < 0) := by omega
          have b4 : ¬ ((n : Int) > (m : Int)) := by omega
          have hcond : (decide ((m : Int) < 0) || decide ((info.bytes : Int) * (m : Int) > 2 ^ 48) || decide ((n : Int) < 0) || decide ((n : Int) > (m : Int))) = false := by rw [decide_eq_false b1, decide_eq_false b2, decide_eq_false b3, decide_eq_false b4]; rfl
          simp only [Instr.makeSlice, Sem.run_bind, run_underlying hu, Result.andThen_ok, rl.int_inv, rc.int_inv, asInt, asIntOf, Sem.run_pure, typeInfo, run_program, hinfo, w1, w2, hcond, Bool.false_eq_true, if_false, run_askRoom, sizeOf, hsi, Int.toNat_natCast]
          by_cases hms : m * s = 0
          · rw [if_pos hms]
            have hc0 : cells = #[] := by rw [hcells, hms, Array.range_zero']; simp
            simp [newRow, hms, Array.range_zero', hc0]
          · rw [if_neg hms]
            simp only [Sem.run_bind, hv, Result.andThen_ok, Sem.run_pure, newRow, run_newObj, hcells]
            rfl
        have fin : ∀ {body : Body} {sz : Nat} {d : D}, BodyOk w S φ sz cells body → sz = s → d = .sref (base + t) (B.ver + 1) sz 0 n → Good C.P w S φ h (do pure (Next.value (← Instr.makeSlice t' (ρ l) (ρ c)))) d (h.set (base + t) ⟨B.ver + 1, false, body⟩) := fun {body sz d} ok hsz hd => by
          subst hd
          refine Good.block H hrun hB rfl rfl rfl rfl ok ?_
          have := VRel.sref (w := w.alloc (.cells cells el)) (S := S) (off := 0) (len := n) (cap := m) (newPhi_at φ (base + t) (B.ver + 1) (w.heap.size, sz, cells.size)) (by omega) (by rw [Nat.zero_add, hsz, hrow.1]; simp)
          simpa using this
        split at e
        · rename_i k k' hk
          split at e
          · rename_i hkk
            cases e
            subst hkk
            have hs1 : s = 1 := by have := hc.2.1; simp [D.cells] at this; omega
            subst hs1
            refine fin ?_ rfl (by simp)
            refine ⟨rfl, by simp [hrow.1]; omega, fun i hi => ?_⟩
            simp only [Int.toNat_natCast, List.length_replicate] at hi
            obtain ⟨x, m1, m2⟩ := (hrow.2 i _ (by rw [List.getElem?_replicate, if_pos (by omega)])).2 0 _ rfl
            rw [Nat.mul_one, Nat.add_zero] at m1
            rw [m1, m2.int_inv]
            simp [List.getD_eq_getElem?_getD, List.getElem?_replicate, hi]
          · cases e
        · cases e
          exact fin (replicate_ok hrow (by simp; omega) hc.2) rfl (by simp)
      · rw [if_neg hc] at e; cases e
    · cases e
  · cases e
end Go.Proofs.YtcmajlphfnihgaaA
