/- Copies and appends. -/
import Derived.Test.YtlpbmajbalenjaaM2
import Derived.Laws.BytesString
import Derived.MapKept
set_option linter.unusedVariables false
set_option linter.unusedSimpArgs false
namespace Go.Proofs.YtlpbmajbalenjaaA
open Go
variable {P : Program} {w w' : World} {S : Nat → Prop} {φ φ' : Phi} {h h' : Heap}

theorem firstCells_at {s n m cap A o : Nat} {len : Nat} {f : Nat → Value} (hf : ∀ j, j < n * s → w.cell? ⟨A, o + j, none⟩ = some (f j)) :
  (Builtin.firstCells s n (.slice (some ⟨A, o, none⟩) len cap)).run P w = .ok ((List.range (n * s)).map f).toArray w := by
 have := run_loadCells (P := P) w ⟨A, o, none⟩ (n * s) f fun j hj => by rw [addr_add]; exact hf j hj
 simpa [Builtin.firstCells] using this
theorem firstCells_zero {s len cap : Nat} {a : Option Addr} : (Builtin.firstCells s 0 (.slice a len cap)).run P w = .ok #[] w := by
 cases a <;> simp [Builtin.firstCells, loadCells, loadCellsFrom]
theorem range_get {n : Nat} {f : Nat → Value} {i : Nat} (hi : i < n) : (((List.range n).map f).toArray)[i]? = some (f i) := by
 rw [List.getElem?_toArray, List.getElem?_map, List.getElem?_range hi]; rfl

theorem src_nil {d : D} {v : Value} (r : VRel w S φ v d) (e : src h d = some .nilS) : ∃ a, v = .slice a 0 0 := by
 have r := bare_vrel r
 unfold src at e
 generalize d.bare = d at *
 cases r with
 | @sref _ A b u sz n off len cap hp hc hn =>
  simp only [reify] at e
  cases hg : h.get b u with
  | dead => rw [hg] at e; cases e
  | map _ => rw [hg] at e; cases e
  | iter _ _ => rw [hg] at e; cases e
  | ints k xs =>
   rw [hg] at e
   simp only at e
   repeat' (split at e)
   all_goals cases e
  | rows s xs =>
   rw [hg] at e
   simp only at e
   repeat' (split at e)
   all_goals cases e
 | nilS => exact ⟨_, rfl⟩
 | sref0 => exact ⟨_, rfl⟩
 | _ => simp at e
theorem src_ints (H : HRel w S φ h) {d : D} {v : Value} {k : IntKind} {ys : List Int} (r : VRel w S φ v d) (e : src h d = some (.ints k ys)) :
    (Builtin.lenOf v).run P w = .ok ys.length w ∧ ∀ m, m ≤ ys.length → ∃ us, (Builtin.firstCells 1 m v).run P w = .ok us w ∧ us.size = m ∧ ∀ i, i < m → us[i]? = some (.int k (ys.getD i 0)) := by
  have r := bare_vrel r
  unfold src at e
  generalize d.bare = d at *
  have tree : ∀ {a : Option Addr} {cap : Nat} (B o : Nat), (ys ≠ [] → a = some ⟨B, o, none⟩) → (∀ i, i < ys.length → w.cell? ⟨B, o + i, none⟩ = some (.int k (ys.getD i 0))) →
      (Builtin.lenOf (.slice a ys.length cap)).run P w = .ok ys.length w ∧ ∀ m, m ≤ ys.length → ∃ us, (Builtin.firstCells 1 m (.slice a ys.length cap)).run P w = .ok us w ∧ us.size = m ∧ ∀ i, i < m → us[i]? = some (.int k (ys.getD i 0)) := fun {a cap} B o ha hx => by
    refine ⟨rfl, fun m hm => ?_⟩
    by_cases h0 : m = 0
    · subst h0; exact ⟨#[], firstCells_zero, rfl, fun i hi => by omega⟩
    · have := ha (fun e => by subst e; simp at hm; omega)
      subst this
      have key := firstCells_at (P := P) (s := 1) (n := m) (m := m) (len := ys.length) (cap := cap) (f := fun j => .int k (ys.getD j 0)) fun j hj => hx j (by omega)
      rw [Nat.mul_one] at key
      exact ⟨_, key, by simp, fun i hi => range_get hi⟩
  cases r with
  | @str _ s =>
    simp only [Option.some.injEq, D.ints.injEq] at e
    obtain ⟨rfl, rfl⟩ := e
    have hl : (s.data.toList.map fun b => (b.toNat : Int)).length = s.size := by simp
    refine ⟨by rw [hl]; rfl, fun m hm => ?_⟩
    rw [hl] at hm
    refine ⟨(s.extract 0 m).data.map fun b => .int .u8 b.toNat, rfl, ?_, fun i hi => ?_⟩
    · have : (s.extract 0 m).data.size = (s.extract 0 m).size := rfl
      simp [this]; omega
    · have hi' : i < s.data.size := by have : s.data.size = s.size := rfl
                                       omega
      rw [Array.getElem?_map]
      have h1 : (s.extract 0 m).data[i]? = some (s.data[i]'hi') := by
        rw [ByteArray.data_extract, Array.getElem?_extract]
        rw [if_pos (by have : s.data.size = s.size := rfl
                       omega)]
        rw [Nat.zero_add, Array.getElem?_eq_getElem hi']
      rw [h1]
      simp only [List.getD_eq_getElem?_getD, List.getElem?_map, Array.getElem?_toList, Array.getElem?_eq_getElem hi', Option.map_some, Option.getD_some]
  | @ints _ a cap k' xs hc B o ha hx =>
    simp only [Option.some.injEq, D.ints.injEq] at e
    obtain ⟨rfl, rfl⟩ := e
    exact tree B o (fun hne => (ha hne).1) hx
  | @sref _ A b u sz n off len cap hp hc hn =>
    simp only [reify] at e
    cases hg : h.get b u with
    | dead => rw [hg] at e; cases e
    | map _ => rw [hg] at e; cases e
    | iter _ _ => rw [hg] at e; cases e
    | rows s xs =>
      rw [hg] at e
      simp only at e
      repeat' (split at e)
      all_goals cases e
    | ints k' xs =>
      rw [hg] at e
      obtain ⟨c, T, rfl, hA, hn', hl, hx⟩ := get_ints H hg hp
      simp only [if_true] at e
      split at e
      · rename_i hle
        simp only [Option.some.injEq, D.ints.injEq] at e
        obtain ⟨rfl, rfl⟩ := e
        have hlen : ((xs.drop off).take len).length = len := by simp; omega
        have key := tree (a := some ⟨A, off * 1, none⟩) (cap := cap) A (off * 1) (fun _ => rfl) (fun i hi => by
          rw [hlen] at hi
          rw [cell_of hA, Nat.mul_one, hx (off + i) (by omega)]
          congr 2
          simp [List.getD_eq_getElem?_getD, List.getElem?_take, hi])
        rw [hlen] at key
        rw [hlen]
        exact key
      · cases e
  | @sref0 _ a b u sz off =>
    simp only [reify] at e
    cases hg : h.get b u with
    | dead => rw [hg] at e; cases e
    | map _ => rw [hg] at e; cases e
    | iter _ _ => rw [hg] at e; cases e
    | rows s xs =>
      rw [hg] at e
      simp only at e
      repeat' (split at e)
      all_goals cases e
    | ints k' xs =>
      rw [hg] at e
      simp only at e
      split at e <;> try (cases e; done)
      split at e <;> try (cases e; done)
      simp only [Option.some.injEq, D.ints.injEq, List.take_zero] at e
      obtain ⟨rfl, rfl⟩ := e
      exact tree 0 0 (fun h => absurd rfl h) (fun i hi => by simp at hi)
  | _ => simp at e
theorem src_rows (H : HRel w S φ h) {d : D} {v : Value} {s : Nat} {ys : List D} (r : VRel w S φ v d) (e : src h d = some (.list s ys)) :
  (Builtin.lenOf v).run P w = .ok ys.length w ∧ ∃ us, (Builtin.firstCells s ys.length v).run P w = .ok us w ∧ RowRel w S noPhi s us ys := by
 have r := bare_vrel r
 unfold src at e
 generalize d.bare = d at *
 have tree : ∀ {a : Option Addr} {cap : Nat} (B o : Nat), (ys ≠ [] → a = some ⟨B, o, none⟩) → (∀ (i : Nat) (d : D), ys[i]? = some d → d.wide s) →
   (∀ (i : Nat) (d : D) (j : Nat) (c : D), ys[i]? = some d → d.cells[j]? = some c → ∃ x, w.cell? ⟨B, o + (i * s + j), none⟩ = some x ∧ VRel w S noPhi x c) →
   (Builtin.lenOf (.slice a ys.length cap)).run P w = .ok ys.length w ∧ ∃ us, (Builtin.firstCells s ys.length (.slice a ys.length cap)).run P w = .ok us w ∧ RowRel w S noPhi s us ys := fun {a cap} B o ha hw hx => by
  refine ⟨rfl, ?_⟩
  by_cases h0 : ys = []
  ·subst h0; exact ⟨#[], firstCells_zero, by simp [RowRel]⟩
  ·have := ha h0
   subst this
   have hall : ∀ j, j < ys.length * s → ∃ x, w.cell? ⟨B, o + j, none⟩ = some x := fun j hj => by
    have hs : 0 < s := Nat.pos_of_ne_zero fun e => by subst e; simp at hj
    have hi : j / s < ys.length := Nat.div_lt_of_lt_mul (by rw [Nat.mul_comm]; exact hj)
    have hy : ys[j / s]? = some (ys[j / s]'hi) := List.getElem?_eq_getElem hi
    have hwd := (hw _ _ hy).1
    have hm : j % s < (ys[j / s]'hi).cells.length := by rw [hwd]; exact Nat.mod_lt _ hs
    obtain ⟨x, h1, _⟩ := hx _ _ (j % s) _ hy (List.getElem?_eq_getElem hm)
    have : j / s * s + j % s = j := by rw [Nat.mul_comm]; exact Nat.div_add_mod j s
    rw [this] at h1
    exact ⟨x, h1⟩
   have key := firstCells_at (P := P) (s := s) (n := ys.length) (m := 0) (len := ys.length) (cap := cap) (f := fun j => (w.cell? ⟨B, o + j, none⟩).getD default) fun j hj => by
    obtain ⟨x, h1⟩ := hall j hj
    rw [h1]; rfl
   refine ⟨_, key, by simp, fun i d hd => ⟨hw i d hd, fun j c hc => ?_⟩⟩
   obtain ⟨x, h1, h2⟩ := hx i d j c hd hc
   have hj := (List.getElem?_eq_some_iff.1 hc).1
   have hi := (List.getElem?_eq_some_iff.1 hd).1
   refine ⟨x, ?_, h2⟩
   rw [range_get (row_lt (by rw [← (hw i d hd).1]; exact hj) hi), h1]; rfl
 cases r with
 | @list _ a cap sz xs hc B o vs ha hsz hx hv =>
  simp only [Option.some.injEq, D.list.injEq] at e
  obtain ⟨rfl, rfl⟩ := e
  exact tree B o (fun hne => (ha hne).1) hsz fun i d j c h1 h2 => ⟨_, hx i d j c h1 h2, hv i d j c h1 h2⟩
 | @sref _ A b u sz n off len cap hp hc hn =>
  simp only [reify] at e
  cases hg : h.get b u with
  | dead => rw [hg] at e; cases e
  | map _ => rw [hg] at e; cases e
  | iter _ _ => rw [hg] at e; cases e
  | ints k xs =>
   rw [hg] at e
   simp only at e
   repeat' (split at e)
   all_goals cases e
  | rows s' xs =>
   rw [hg] at e
   obtain ⟨c, T, rfl, hA, hn', hl, hsz, hx⟩ := get_rows H hg hp
   simp only [if_true] at e
   split at e <;> try (cases e; done)
   rename_i hle
   split at e <;> try (cases e; done)
   rename_i hall
   simp only [Option.some.injEq, D.list.injEq] at e
   obtain ⟨rfl, rfl⟩ := e
   have hlen : ((xs.drop off).take len).length = len := by simp; omega
   have hget : ∀ (i : Nat) (d : D), ((xs.drop off).take len)[i]? = some d → xs[off + i]? = some d := fun i d hd => by
    rw [List.getElem?_take] at hd
    by_cases hi : i < len
    ·rwa [if_pos hi, List.getElem?_drop] at hd
    ·rw [if_neg hi] at hd; cases hd
   have key := tree (a := some ⟨A, off * s', none⟩) (cap := cap) A (off * s') (fun _ => rfl) (fun i d hd => hsz _ d (hget i d hd)) (fun i d j c' hd hc' => by
    obtain ⟨x, h1, h2⟩ := hx _ d j c' (hget i d hd) hc'
    rw [List.all_eq_true] at hall
    have h3 := hall d (List.mem_of_getElem? hd)
    rw [List.all_eq_true] at h3
    exact ⟨x, by rw [cell_of hA, ← Nat.add_assoc, ← Nat.add_mul]; exact h1, isT_vrel 2 h2 (h3 c' (List.mem_of_getElem? hc'))⟩)
   rw [hlen] at key
   rw [hlen]
   exact key
 | @sref0 _ a b u sz off =>
  simp only [reify] at e
  cases hg : h.get b u with
  | dead => rw [hg] at e; cases e
  | map _ => rw [hg] at e; cases e
  | iter _ _ => rw [hg] at e; cases e
  | ints k xs =>
   rw [hg] at e
   simp only at e
   repeat' (split at e)
   all_goals cases e
  | rows s' xs =>
   rw [hg] at e
   simp only [List.take_zero, List.all_nil, if_true] at e
   split at e <;> try (cases e; done)
   split at e <;> try (cases e; done)
   simp only [Option.some.injEq, D.list.injEq] at e
   obtain ⟨rfl, rfl⟩ := e
   exact tree 0 0 (fun h => absurd rfl h) (fun i d h => by simp at h) (fun i d j c h => by simp at h)
 | _ => simp at e

theorem copyD_sound (H : HRel w S φ h) {t : TypeId} {x y d : D} {xv yv : Value} (rx : VRel w S φ xv x) (ry : VRel w S φ yv y) (e : copyD P h t x y = some (d, h')) (ts : Array TypeId) (ht : ts[0]? = some t) (ty : TypeId) :
  ∃ v w', (Builtin.copy_ ts ty #[xv, yv]).run P w = .ok v w' ∧ VRel w' S φ v d ∧ HRel w' S φ h' ∧ Ext w S φ h w' S φ h' := by
 unfold copyD at e
 obtain ⟨el, he, e2⟩ := Option.bind_eq_some_iff.1 e
 obtain ⟨s, hs, e3⟩ := Option.bind_eq_some_iff.1 e2
 clear e e2
 have hu := elem_run he
 split at e3 <;> try (cases e3; done)
 rename_i h1
 subst h1
 split at e3 <;> try (cases e3; done)
 rename_i b v off len k ys hsrc
 split at e3 <;> try (cases e3; done)
 rename_i B hB
 split at e3 <;> try (cases e3; done)
 rename_i hc
 split at e3 <;> try (cases e3; done)
 rename_i k' xs hbody
 split at e3 <;> try (cases e3; done)
 rename_i hq
 cases e3
 obtain ⟨hver, hfz⟩ := hc
 subst hver
 obtain ⟨rfl, hle⟩ := hq
 obtain ⟨l1, l2⟩ := src_ints (P := P) H ry hsrc
 obtain ⟨us, g1, g2, g3⟩ := l2 (min ys.length len) (Nat.min_le_left _ _)
 have run : ∀ {a : Option Addr} {cap : Nat} {w' : World}, (match a with | some a => storeCells a us.toList | none => pure ()).run P w = .ok () w' → (Builtin.copy_ ts ty #[.slice a len cap, yv]).run P w = .ok (.int .i64 ((min ys.length len : Nat) : Int)) w' := fun {a cap w'} hst => by
  have hmin : Nat.min ys.length len = min ys.length len := rfl
  cases a with
  | none =>
   cases hst
   simp [Builtin.copy_, ht, run_underlying hu, l1, run_szOf hs, hmin, g1, goInt]
  | some a =>
   simp only at hst
   simp [Builtin.copy_, ht, run_underlying hu, l1, run_szOf hs, hmin, g1, goInt, hst]
 cases rx with
 | @sref _ A _ _ _ n _ _ cap hp hcap hn =>
  obtain ⟨c, T, _, hA, hn', hl, hx⟩ := get_ints H (b := b) (v := B.ver) (k := k') (xs := xs) (by simp [Heap.get, hB, hbody]) hp
  have hul : us.toList.length = min ys.length len := by simp [g2]
  have hfit : off * 1 + us.toList.length ≤ c.size := by rw [hul]; omega
  have hone : ∀ v ∈ us.toList, v.oneCell' = true := fun v hv => by
   obtain ⟨i, hi⟩ := List.getElem?_of_mem hv
   have hlt := (List.getElem?_eq_some_iff.1 hi).1
   rw [Array.getElem?_toList, g3 i (by omega)] at hi
   cases hi; rfl
  have hst := store_run (P := P) hA us.toList hfit hone
  have hlen : (xs.take off ++ (ys.take (min ys.length len) ++ xs.drop (off + min ys.length len))).length = xs.length := by simp; omega
  obtain ⟨r1, r2⟩ := written_sound (w' := w.setRow A (patch c (off * 1) us.toList)) H hB (by rw [hbody]; simp) hfz hp (body := .ints k' (xs.take off ++ (ys.take (min ys.length len) ++ xs.drop (off + min ys.length len)))) hA (by rw [patch_size _ _ _ hfit]; exact hn') rfl rfl rfl (setRow_heapEq hA)
   ⟨rfl, by rw [hlen, patch_size _ _ _ hfit]; omega, fun i hi => by
    rw [hlen] at hi
    rw [patch_get _ _ _ hfit, hul, Nat.mul_one]
    by_cases hin : off ≤ i ∧ i < off + min ys.length len
    ·rw [if_pos hin, Array.getElem?_toList, g3 (i - off) (by omega)]
     congr 2
     simp only [List.getD_eq_getElem?_getD]
     rw [List.getElem?_append_right (by simp; omega), List.getElem?_append_left (by simp; omega), List.getElem?_take, if_pos (by simp; omega)]
     simp
     rw [Nat.min_eq_left (by omega)]
    ·rw [if_neg hin, hx i hi]
     congr 2
     simp only [List.getD_eq_getElem?_getD]
     by_cases hlo : i < off
     ·rw [List.getElem?_append_left (by simp; omega), List.getElem?_take, if_pos hlo]
     ·rw [List.getElem?_append_right (by simp; omega), List.getElem?_append_right (by simp; omega), List.getElem?_drop]
      congr 2
      simp; omega⟩
  exact ⟨_, _, run hst, .int, r1, r2⟩
 | @sref0 _ a =>
  have hus : us = #[] := by
   have : us.size = 0 := by simpa using g2
   exact Array.eq_empty_of_size_eq_zero this
  subst hus
  refine ⟨_, w, run (by cases a <;> simp [storeCells]), .int, ?_⟩
  have hset : h.set b { B with body := .ints k' (xs.take off ++ (ys.take (min ys.length 0) ++ xs.drop (off + min ys.length 0))) } = h := by
   have : ({ B with body := .ints k' (xs.take off ++ (ys.take (min ys.length 0) ++ xs.drop (off + min ys.length 0))) } : Blk) = B := by
    cases B; simp at hbody ⊢; exact hbody.symm
   rw [this]
   apply List.ext_getElem?
   intro i
   rw [List.getElem?_set]
   by_cases hi : b = i
   ·subst hi; rw [if_pos rfl, if_pos (List.getElem?_eq_some_iff.1 hB).1, hB]
   ·rw [if_neg hi]
  rw [hset]
  exact ⟨H, .refl ..⟩
end Go.Proofs.YtlpbmajbalenjaaA
namespace Go.Proofs.YtlpbmajbalenjaaA
open Go
variable {P : Program} {w w' : World} {S : Nat → Prop} {φ φ' : Phi} {h h' : Heap}

theorem growBy_le (n : Nat) : ∀ (r c : Nat), Builtin.growBy n r c ≤ max c (n + (n + 768) / 4)
 | 0, c => by simp only [Builtin.growBy]; omega
 | r + 1, c => by
  simp only [Builtin.growBy]
  split
  ·omega
  ·have := growBy_le n r (c + (c + 768) / 4)
   omega
theorem nextcap_le {n c : Nat} (hc : c < n) : Builtin.nextslicecap n c ≤ 2 * (n + 192) := by
 unfold Builtin.nextslicecap
 split
 ·omega
 ·split
  ·omega
  ·have := growBy_le n 4 c
   omega
theorem roomy_le {n by_ : Nat} (hr : roomy n by_ = true) {c : Nat} (hc : c < n) : ¬ (Builtin.nextslicecap n c * by_ > 2 ^ 48) ∧ ¬ ((n : Int) > IntKind.i64.max) := by
 simp only [roomy, decide_eq_true_eq] at hr
 have h1 := nextcap_le hc
 have h2 : Builtin.nextslicecap n c * by_ ≤ 2 * (n + 192) * by_ := Nat.mul_le_mul_right by_ h1
 have h3 : (n + 192) * by_ ≤ (n + 192) * (by_ + 1) := Nat.mul_le_mul_left _ (by omega)
 have h4 : 2 * (n + 192) * by_ = 2 * ((n + 192) * by_) := Nat.mul_assoc _ _ _
 have h5 : (n + 192) * 1 ≤ (n + 192) * (by_ + 1) := Nat.mul_le_mul_left _ (by omega)
 have h6 : IntKind.i64.max = 9223372036854775807 := by decide
 constructor
 ·omega
 ·rw [h6]; omega
structure AppT (P : Program) (t e : TypeId) (s by_ : Nat) (z : Value) (ts : Array TypeId) : Prop where
 hu : P.underlying t = some (.slice e)
 hs : szOf P e = some s
 hb : bytesOf P e = some by_
 hz : ∀ w, (zeroValue e).run P w = .ok z w
 hzs : z.cells.size = s
 h0 : ts[0]? = some t
 h1 : ∀ u, ts[1]? = some u → ∃ d, P.underlying u = some d ∧ ∀ k, d ≠ .int k
theorem AppT.cut {t e : TypeId} {s by_ : Nat} {z : Value} {ts : Array TypeId} (a : AppT P t e s by_ z ts) : ts[1]? = none ∨ ∃ u d, ts[1]? = some u ∧ P.underlying u = some d ∧ ∀ k, d ≠ .int k := by
 cases h : ts[1]? with
 | none => exact .inl rfl
 | some u =>
  obtain ⟨d, h1, h2⟩ := a.h1 u h
  exact .inr ⟨u, d, rfl, h1, h2⟩
theorem append_fits {t e : TypeId} {s by_ : Nat} {z : Value} {ts : Array TypeId} (a : AppT P t e s by_ z ts) (ty : TypeId) {base : Option Addr} {sLen sCap n : Nat} {y : Value} {us : Array Value} (hl : (Builtin.lenOf y).run P w = .ok n w)
  (hf : (Builtin.firstCells s n y).run P w = .ok us w) (hfit : sLen + n ≤ sCap) (hst : (match base with | some b => storeCells (b.add (sLen * s)) us.toList | none => pure ()).run P w = .ok () w') :
  (Builtin.append_ ts ty #[.slice base sLen sCap, y]).run P w = .ok (.slice base (sLen + n) sCap) w' := by
 have hz0 : (#[.slice base sLen sCap, y] : Array Value)[0]? = some (.slice base sLen sCap) := rfl
 have hz1 : (#[.slice base sLen sCap, y] : Array Value)[1]? = some y := rfl
 unfold Builtin.append_
 rcases a.cut with h | ⟨u, d, h, h1, h2⟩
 ·simp only [a.h0, hz0, hz1, Sem.run_bind, run_underlying a.hu, Result.andThen_ok, run_szOf a.hs, h, Bool.false_eq_true, if_false, hl, hfit, if_true, Bool.not_false, hf, Sem.run_pure]
  cases base with
  | none => simp only at hst; cases hst; rfl
  | some b => simp only at hst; simp only [Sem.run_bind, hst, Result.andThen_ok]; rfl
 ·cases base with
  | none =>
   simp only at hst; cases hst
   cases d <;> first
    | exact absurd rfl (h2 _)
    | (simp only [a.h0, hz0, hz1, Sem.run_bind, run_underlying a.hu, Result.andThen_ok, run_szOf a.hs, h, run_underlying h1, Bool.false_eq_true, if_false, hl, hfit, if_true, Bool.not_false, hf, Sem.run_pure])
  | some b =>
   simp only at hst
   cases d <;> first
    | exact absurd rfl (h2 _)
    | (simp only [a.h0, hz0, hz1, Sem.run_bind, run_underlying a.hu, Result.andThen_ok, run_szOf a.hs, h, run_underlying h1, Bool.false_eq_true, if_false, hl, hfit, if_true, Bool.not_false, hf, Sem.run_pure, hst])
theorem append_grows {t e : TypeId} {s by_ : Nat} {z : Value} {ts : Array TypeId} (a : AppT P t e s by_ z ts) (ty : TypeId) {base : Option Addr} {sLen sCap n : Nat} {y : Value} {olds us : Array Value} (hl : (Builtin.lenOf y).run P w = .ok n w)
  (hf : (Builtin.firstCells s n y).run P w.drew = .ok us w.drew) (ho : (Builtin.firstCells s sLen (.slice base sLen sCap)).run P w.drew = .ok olds w.drew) (hfit : sCap < sLen + n) (hroom : roomy (sLen + n) by_ = true) :
  ∃ cap rest, (Builtin.append_ ts ty #[.slice base sLen sCap, y]).run P w = .ok (.slice (some ⟨w.heap.size, 0, none⟩) (sLen + n) cap) (w.drew.alloc (.cells (olds ++ us ++ rest) e)) ∧ sLen + n ≤ cap ∧ rest.size = (cap - (sLen + n)) * s := by
 have hz0 : (#[.slice base sLen sCap, y] : Array Value)[0]? = some (.slice base sLen sCap) := rfl
 have hz1 : (#[.slice base sLen sCap, y] : Array Value)[1]? = some y := rfl
 obtain ⟨r1, r2⟩ := roomy_le hroom hfit
 obtain ⟨info, hinfo, hby⟩ : ∃ info, P.info? e = some info ∧ info.bytes = by_ := by
  have := a.hb; unfold bytesOf at this; obtain ⟨i, h1, h2⟩ := Option.map_eq_some_iff.1 this; exact ⟨i, h1, h2⟩
 have hti : ∀ w, (typeInfo e).run P w = .ok info w := fun w => by simp [typeInfo, hinfo]
 have hq : (Question.appendCap (sLen + n) sCap e).forced = false := rfl
 obtain ⟨cap, hcap⟩ : ∃ cap, (Question.appendCap (sLen + n) sCap e).cut (w.tape w.drawn (.appendCap (sLen + n) sCap e)) = cap := ⟨_, rfl⟩
 have hge : sLen + n ≤ cap := by rw [← hcap]; exact Nat.le_add_right _ _
 refine ⟨cap, Builtin.zeroCells z.cells (cap - (sLen + n)), ?_, hge, by simp [Builtin.zeroCells, a.hzs]⟩
 have hnf : ¬ (sLen + n ≤ sCap) := by omega
 have e1 : ({ w with drawn := w.drawn + 1 } : World) = w.drew := rfl
 have r2' : ∀ q : Prop, ¬ (((sLen + n : Nat) : Int) > IntKind.i64.max ∧ q) := fun q hq => r2 hq.1
 unfold Builtin.append_
 rcases a.cut with h | ⟨u, d, h, h1, h2⟩
 ·simp only [a.h0, hz0, hz1, Sem.run_bind, run_underlying a.hu, Result.andThen_ok, run_szOf a.hs, h, Bool.false_eq_true, if_false, hl, hnf, hti, hby, r1, r2', Bool.not_false, if_true, Sem.run_ite, Sem.run_pure, run_choose, hq, hcap, e1, run_askRoom, ho, hf, a.hz, newRow, run_newObj]
  rfl
 ·cases d <;> first
   | exact absurd rfl (h2 _)
   | (simp only [a.h0, hz0, hz1, Sem.run_bind, run_underlying a.hu, Result.andThen_ok, run_szOf a.hs, h, run_underlying h1, Bool.false_eq_true, if_false, hl, hnf, hti, hby, r1, r2', Bool.not_false, if_true, Sem.run_ite, Sem.run_pure, run_choose, hq, hcap, e1, run_askRoom, ho, hf, a.hz, newRow, run_newObj]; rfl)

end Go.Proofs.YtlpbmajbalenjaaA
namespace Go.Proofs.YtlpbmajbalenjaaA
open Go
variable {P : Program} {w w' : World} {S : Nat → Prop} {φ φ' : Phi} {h h' : Heap}

def Pre (w : World) (S : Nat → Prop) (φ : Phi) (s : Nat) (c : Array Value) (l : List D) : Prop :=
 l.length * s ≤ c.size ∧ ∀ (i : Nat) (d : D), l[i]? = some d → d.wide s ∧ ∀ (j : Nat) (e : D), d.cells[j]? = some e → ∃ x, c[i * s + j]? = some x ∧ VRel w S φ x e
theorem Pre.ok_rows {s : Nat} {c : Array Value} {l : List D} (p : Pre w S φ s c l) : BodyOk w S φ s c (.rows s l) :=
 ⟨rfl, p.1, fun i d hd => (p.2 i d hd).1, fun i d j e hd he => (p.2 i d hd).2 j e he⟩
theorem Pre.ok_ints {c : Array Value} {k : IntKind} {xs : List Int} (p : Pre w S φ 1 c (xs.map (.int k))) : BodyOk w S φ 1 c (.ints k xs) := by
 refine ⟨rfl, by have := p.1; simpa using this, fun i hi => ?_⟩
 have hd : (xs.map (D.int k))[i]? = some (.int k (xs.getD i 0)) := by
  rw [List.getElem?_map, List.getElem?_eq_getElem hi]; simp [List.getD_eq_getElem?_getD, hi]
 obtain ⟨x, h1, h2⟩ := (p.2 i _ hd).2 0 _ rfl
 rw [Nat.mul_one, Nat.add_zero] at h1
 rw [h1, h2.int_inv]
theorem ints_row {us : Array Value} {k : IntKind} {ys : List Int} (h1 : us.size = ys.length) (h2 : ∀ i, i < ys.length → us[i]? = some (.int k (ys.getD i 0))) : RowRel w S φ 1 us (ys.map (.int k)) := by
 refine ⟨by simp [h1], fun i d hd => ?_⟩
 rw [List.getElem?_map] at hd
 obtain ⟨y, hy, rfl⟩ := Option.map_eq_some_iff.1 hd
 have hi := (List.getElem?_eq_some_iff.1 hy).1
 refine ⟨⟨rfl, rfl⟩, fun j e he => ?_⟩
 cases j with
 | zero =>
  simp [D.cells] at he; subst he
  refine ⟨_, by rw [Nat.mul_one, Nat.add_zero]; exact h2 i hi, ?_⟩
  simp only [List.getD_eq_getElem?_getD, hy, Option.getD_some]
  exact .int
 | succ j => simp [D.cells] at he
theorem Pre.append {s : Nat} {c c' us : Array Value} {xs ys : List D} (p : Pre w S φ s c xs) (r : RowRel w S φ s us ys) (h1 : ∀ q, q < xs.length * s → c'[q]? = c[q]?) (h2 : ∀ q, q < ys.length * s → c'[xs.length * s + q]? = us[q]?)
  (hl : (xs.length + ys.length) * s ≤ c'.size) : Pre w S φ s c' (xs ++ ys) := by
 refine ⟨by rw [List.length_append]; exact hl, fun i d hd => ?_⟩
 by_cases hi : i < xs.length
 ·rw [List.getElem?_append_left hi] at hd
  obtain ⟨g1, g2⟩ := p.2 i d hd
  refine ⟨g1, fun j e he => ?_⟩
  have hj := (List.getElem?_eq_some_iff.1 he).1
  rw [h1 _ (row_lt (by rw [← g1.1]; exact hj) hi)]
  exact g2 j e he
 ·rw [List.getElem?_append_right (by omega)] at hd
  obtain ⟨g1, g2⟩ := r.2 _ d hd
  have hi' := (List.getElem?_eq_some_iff.1 hd).1
  refine ⟨g1, fun j e he => ?_⟩
  have hj := (List.getElem?_eq_some_iff.1 he).1
  obtain ⟨x, k1, k2⟩ := g2 j e he
  refine ⟨x, ?_, k2⟩
  have hq := row_lt (s := s) (j := j) (by rw [← g1.1]; exact hj) hi'
  rw [← h2 _ hq] at k1
  rw [← k1]
  congr 1
  have : i * s = xs.length * s + (i - xs.length) * s := by rw [← Nat.add_mul]; congr 1; omega
  omega
theorem RowRel.pre {s : Nat} {us : Array Value} {ys : List D} (r : RowRel w S φ s us ys) : Pre w S φ s us ys := ⟨by rw [r.1]; exact Nat.le_refl _, r.2⟩
theorem RowRel.mono {w' : World} {S' : Nat → Prop} {φ' : Phi} {s : Nat} {us : Array Value} {ys : List D} (r : RowRel w S φ s us ys) (hm : ∀ v d, VRel w S φ v d → VRel w' S' φ' v d) : RowRel w' S' φ' s us ys :=
 ⟨r.1, fun i d hd => ⟨(r.2 i d hd).1, fun j e he => let ⟨x, h1, h2⟩ := (r.2 i d hd).2 j e he; ⟨x, h1, hm _ _ h2⟩⟩⟩

structure SrcOk (P : Program) (w : World) (S : Nat → Prop) (φ : Phi) (s : Nat) (y : Value) (ys : List D) (us : Array Value) : Prop where
 len : (Builtin.lenOf y).run P w = .ok ys.length w
 cells : (Builtin.firstCells s ys.length y).run P w = .ok us w
 drew : (Builtin.firstCells s ys.length y).run P w.drew = .ok us w.drew
 row : RowRel w S φ s us ys
theorem firstCells_drew {s n : Nat} {y : Value} {us : Array Value} (hf : (Builtin.firstCells s n y).run P w = .ok us w) : (Builtin.firstCells s n y).run P w.drew = .ok us w.drew := by
 have load : ∀ (k i : Nat) (a : Addr) (acc us : Array Value), (loadCellsFrom a i k acc).run P w = .ok us w → (loadCellsFrom a i k acc).run P w.drew = .ok us w.drew := by
  intro k
  induction k with
  | zero => intro i a acc us hk; simp [loadCellsFrom] at hk ⊢; exact hk
  | succ k ih =>
   intro i a acc us hk
   simp only [loadCellsFrom, Sem.run_bind, run_load] at hk ⊢
   have hc : w.drew.cell? (a.add i) = w.cell? (a.add i) := rfl
   rw [hc]
   cases hv : w.cell? (a.add i) with
   | some v =>
    rw [hv] at hk
    simp only [Result.andThen_ok] at hk ⊢
    exact ih _ _ _ _ hk
   | none =>
    rw [hv] at hk
    simp only at hk ⊢
    have hfar : w.drew.farLoad P (a.add i) (Mode.plain == .atomic) = w.farLoad P (a.add i) (Mode.plain == .atomic) := rfl
    rw [hfar]
    cases hq : w.farLoad P (a.add i) (Mode.plain == .atomic) with
    | error e => rw [hq] at hk; cases hk
    | ok x =>
     rw [hq] at hk
     simp only [Result.andThen_ok] at hk ⊢
     exact ih _ _ _ _ hk
 cases y with
 | slice a l c =>
  cases a with
  | none => simp [Builtin.firstCells] at hf ⊢; exact hf
  | some a => simp only [Builtin.firstCells, loadCells] at hf ⊢; exact load _ _ _ _ _ hf
 | string t => simp [Builtin.firstCells] at hf ⊢; exact hf
 | _ => simp [Builtin.firstCells] at hf

theorem grow_empty (H : HRel w S φ h) {t e : TypeId} {s by_ : Nat} {z : Value} {ts : Array TypeId} (a : AppT P t e s by_ z ts) (ty : TypeId) {base : Option Addr} {y : Value} {ys : List D} {us : Array Value} (sr : SrcOk P w S φ s y ys us) (hroom : roomy ys.length by_ = true)
  {b : Nat} {B : Blk} (hB : h[b]? = some B) {body : Body} (hbody : ∀ w φ c, Pre w S φ s c ys → BodyOk w S φ s c body) (hempty : ys = [] → (∃ k, body = .ints k []) ∨ ∃ s, body = .rows s []) :
  ∃ v w' φ', (Builtin.append_ ts ty #[.slice base 0 0, y]).run P w = .ok v w' ∧ Ext w S φ h w' S φ' (h.set b ⟨B.ver + 1, false, body⟩) ∧ HRel w' S φ' (h.set b ⟨B.ver + 1, false, body⟩) ∧ VRel w' S φ' v (.sref b (B.ver + 1) s 0 ys.length) := by
 by_cases h0 : ys = []
 ·subst h0
  have hst : (match base with | some b => storeCells (b.add (0 * s)) us.toList | none => pure ()).run P w = .ok () w := by
   have : us = #[] := Array.eq_empty_of_size_eq_zero (by have := sr.row.1; simpa using this)
   subst this
   cases base <;> simp [storeCells]
  refine ⟨_, w, φ, append_fits a ty sr.len sr.cells (Nat.le_refl _) hst, ?_⟩
  obtain ⟨h1, h2⟩ := hollow (h' := h.set b ⟨B.ver + 1, false, body⟩) H rfl rfl rfl rfl (fun i B' e => by
   rw [List.getElem?_set] at e
   by_cases hi : b = i
   ·subst hi
    rw [if_pos rfl, if_pos (List.getElem?_eq_some_iff.1 hB).1] at e
    cases e
    exact ⟨B, hB, Nat.le_succ _, .inr (.inr ⟨Nat.lt_succ_self _, hempty rfl⟩)⟩
   ·rw [if_neg hi] at e
    exact ⟨B', e, Nat.le_refl _, .inr (.inl rfl)⟩) (by simp)
  exact ⟨h2, h1, .sref0⟩
 ·have hpos : 0 < ys.length := List.length_pos_iff.2 h0
  obtain ⟨cap, rest, h1, h2, h3⟩ := append_grows (olds := #[]) a ty sr.len sr.drew (firstCells_zero (w := w.drew) (a := base) (len := 0) (cap := 0)) (by omega) (by rw [Nat.zero_add]; exact hroom)
  rw [Nat.zero_add] at h1 h2 h3
  have hsz : (#[] ++ us ++ rest).size = cap * s := by
   simp only [Array.size_append]
   rw [sr.row.1, h3]
   simp only [List.size_toArray, List.length_nil, Nat.zero_add]
   rw [← Nat.add_mul]; congr 1; omega
  have hpre : Pre w S φ s (#[] ++ us ++ rest) ys := by
   have := Pre.append (xs := []) (c := #[]) (c' := #[] ++ us ++ rest) (p := ⟨by simp, fun i d hd => by simp at hd⟩) sr.row (fun q hq => by simp at hq) (fun q hq => by
    rw [Array.getElem?_append_left (by simp; rw [sr.row.1]; omega)]
    simp) (by rw [hsz]; simp only [List.length_nil, Nat.zero_add]; exact Nat.mul_le_mul_right s h2)
   simpa using this
  obtain ⟨k1, k2⟩ := fresh_sound (w' := w.drew.alloc (.cells (#[] ++ us ++ rest) e)) H hB rfl rfl rfl rfl (hbody w φ _ hpre)
  refine ⟨_, _, _, h1, k2, k1, ?_⟩
  have := VRel.sref (w := w.drew.alloc (.cells (#[] ++ us ++ rest) e)) (S := S) (off := 0) (len := ys.length) (cap := cap) (newPhi_at φ b (B.ver + 1) (w.heap.size, s, (#[] ++ us ++ rest).size)) h2 (by rw [Nat.zero_add, hsz]; exact Nat.le_refl _)
  rw [Nat.zero_mul] at this
  exact this
theorem grow_some (H : HRel w S φ h) {t e : TypeId} {s by_ : Nat} {z : Value} {ts : Array TypeId} (a : AppT P t e s by_ z ts) (ty : TypeId) {y : Value} {xs ys : List D} {us : Array Value} (sr : SrcOk P w S φ s y ys us) (hroom : roomy (xs.length + ys.length) by_ = true) (hone : ∀ v ∈ us, v.oneCell' = true)
  {b0 : Nat} {B0 : Blk} (hB0 : h[b0]? = some B0) (hl : B0.body ≠ .dead) (hf : B0.fz = false) {A n : Nat} (hp : φ b0 B0.ver = some (A, s, n)) {c : Array Value} {T : TypeId} (hA : w.heap[A]? = some (.cells c T (0, 0))) (hn : c.size = n) (hpre : Pre w S φ s c xs) {cap : Nat} (hcap : xs.length ≤ cap) (hcn : cap * s ≤ n)
  {b : Nat} {B : Blk} (hB : (kill1 h b0)[b]? = some B) {body : Body} (hbody : ∀ w φ c, Pre w S φ s c (xs ++ ys) → BodyOk w S φ s c body) :
  ∃ v w' φ', (Builtin.append_ ts ty #[.slice (some ⟨A, 0, none⟩) xs.length cap, y]).run P w = .ok v w' ∧ Ext w S φ h w' S φ' ((kill1 h b0).set b ⟨B.ver + 1, false, body⟩) ∧ HRel w' S φ' ((kill1 h b0).set b ⟨B.ver + 1, false, body⟩) ∧
   VRel w' S φ' v (.sref b (B.ver + 1) s 0 (xs.length + ys.length)) := by
 have husl : us.toList.length = ys.length * s := by simp [sr.row.1]
 by_cases hfit : xs.length + ys.length ≤ cap
 ·have hfit' : (xs.length + ys.length) * s ≤ c.size := by
   have := Nat.mul_le_mul_right s hfit; omega
  rw [Nat.add_mul] at hfit'
  have hle : xs.length * s + us.toList.length ≤ c.size := by omega
  have hst := store_run (P := P) hA us.toList hle (fun v hv => hone v (by simpa using hv))
  have hst' : (match (some ⟨A, 0, none⟩ : Option Addr) with | some b => storeCells (b.add (xs.length * s)) us.toList | none => pure ()).run P w = .ok () (w.setRow A (patch c (xs.length * s) us.toList)) := by
   simp only [addr_add, Nat.zero_add]; exact hst
  refine ⟨_, _, newPhi φ b (B.ver + 1) (A, s, n), append_fits a ty sr.len sr.cells hfit hst', ?_⟩
  obtain ⟨k1, k2⟩ := moved_sound (w' := w.setRow A (patch c (xs.length * s) us.toList)) H hB0 hl hf hp hB (body := body) hA (by rw [patch_size _ _ _ hle]; exact hn) rfl rfl rfl (setRow_heapEq hA)
   (hbody w φ _ (hpre.append sr.row (fun q hq => by rw [patch_get _ _ _ hle, if_neg (by omega)]) (fun q hq => by
    rw [patch_get _ _ _ hle, if_pos ⟨by omega, by omega⟩, Array.getElem?_toList]; congr 1; omega) (by rw [patch_size _ _ _ hle, Nat.add_mul]; exact hfit')))
  refine ⟨k2, k1, ?_⟩
  have := VRel.sref (w := w.setRow A (patch c (xs.length * s) us.toList)) (S := S) (off := 0) (len := xs.length + ys.length) (cap := cap) (newPhi_at φ b (B.ver + 1) (A, s, n)) hfit (by rw [Nat.zero_add]; exact hcn)
  rw [Nat.zero_mul] at this
  exact this
 ·have hall : ∀ q, q < xs.length * s → ∃ x, c[q]? = some x := fun q hq => by
   have := hpre.1
   exact ⟨c[q]'(by omega), Array.getElem?_eq_getElem (by omega)⟩
  have holds := firstCells_at (P := P) (w := w.drew) (s := s) (n := xs.length) (m := 0) (A := A) (o := 0) (len := xs.length) (cap := cap) (f := fun j => (c[j]?).getD default) fun j hj => by
   obtain ⟨x, hx⟩ := hall j hj
   have : w.drew.cell? ⟨A, 0 + j, none⟩ = c[0 + j]? := cell_of (w := w.drew) hA
   rw [this, Nat.zero_add, hx]; rfl
  obtain ⟨olds, holds_def⟩ : ∃ olds : Array Value, olds = ((List.range (xs.length * s)).map fun j => (c[j]?).getD default).toArray := ⟨_, rfl⟩
  rw [← holds_def] at holds
  have hos : olds.size = xs.length * s := by rw [holds_def]; simp
  have hog : ∀ q, q < xs.length * s → olds[q]? = c[q]? := fun q hq => by
   obtain ⟨x, hx⟩ := hall q hq
   rw [holds_def, range_get hq, hx]; rfl
  obtain ⟨cap', rest, h1, h2, h3⟩ := append_grows a ty sr.len sr.drew holds (by omega) hroom
  have hsz : (olds ++ us ++ rest).size = cap' * s := by
   simp only [Array.size_append]
   rw [hos, sr.row.1, h3, ← Nat.add_mul, ← Nat.add_mul]; congr 1; omega
  have hpre' : Pre w S φ s (olds ++ us ++ rest) (xs ++ ys) := hpre.append sr.row (fun q hq => by
    rw [Array.getElem?_append_left (by simp; omega), Array.getElem?_append_left (by omega)]; exact hog q hq) (fun q hq => by
    rw [Array.getElem?_append_left (by simp [hos, sr.row.1]; omega), Array.getElem?_append_right (by omega), hos]; congr 1; omega) (by rw [hsz]; exact Nat.mul_le_mul_right s h2)
  obtain ⟨g1, g2⟩ := kill_sound H b0
  obtain ⟨k1, k2⟩ := fresh_sound (w' := w.drew.alloc (.cells (olds ++ us ++ rest) e)) g1 hB rfl rfl rfl rfl (hbody w φ _ hpre')
  refine ⟨_, _, _, h1, g2.trans k2, k1, ?_⟩
  have := VRel.sref (w := w.drew.alloc (.cells (olds ++ us ++ rest) e)) (S := S) (off := 0) (len := xs.length + ys.length) (cap := cap') (newPhi_at φ b (B.ver + 1) (w.heap.size, s, (olds ++ us ++ rest).size)) h2 (by rw [Nat.zero_add, hsz]; exact Nat.le_refl _)
  rw [Nat.zero_mul] at this
  exact this
theorem grow_own (H : HRel w S φ h) {t e : TypeId} {s by_ : Nat} {z : Value} {ts : Array TypeId} (a : AppT P t e s by_ z ts) (ty : TypeId) {base : Option Addr} {y : Value} {xs ys : List D} {os us : Array Value} (sr : SrcOk P w S φ s y ys us) (ho : (Builtin.firstCells s xs.length (.slice base xs.length xs.length)).run P w = .ok os w) (hor : RowRel w S φ s os xs)
  (hroom : roomy (xs.length + ys.length) by_ = true) (hpos : 0 < ys.length) {b : Nat} {B : Blk} (hB : h[b]? = some B) {body : Body} (hbody : ∀ w φ c, Pre w S φ s c (xs ++ ys) → BodyOk w S φ s c body) :
  ∃ v w' φ', (Builtin.append_ ts ty #[.slice base xs.length xs.length, y]).run P w = .ok v w' ∧ Ext w S φ h w' S φ' (h.set b ⟨B.ver + 1, false, body⟩) ∧ HRel w' S φ' (h.set b ⟨B.ver + 1, false, body⟩) ∧ VRel w' S φ' v (.sref b (B.ver + 1) s 0 (xs.length + ys.length)) := by
 obtain ⟨cap, rest, h1, h2, h3⟩ := append_grows a ty sr.len sr.drew (firstCells_drew ho) (by omega) hroom
 have hsz : (os ++ us ++ rest).size = cap * s := by
  simp only [Array.size_append]
  rw [hor.1, sr.row.1, h3, ← Nat.add_mul, ← Nat.add_mul]; congr 1; omega
 have hpre : Pre w S φ s (os ++ us ++ rest) (xs ++ ys) := by
  refine Pre.append hor.pre sr.row (fun q hq => ?_) (fun q hq => ?_) (by rw [hsz]; exact Nat.mul_le_mul_right s h2)
  ·rw [Array.getElem?_append_left (by simp [hor.1]; omega), Array.getElem?_append_left (by rw [hor.1]; omega)]
  ·rw [Array.getElem?_append_left (by simp [hor.1, sr.row.1]; omega), Array.getElem?_append_right (by rw [hor.1]; omega), hor.1]; congr 1; omega
 obtain ⟨k1, k2⟩ := fresh_sound (w' := w.drew.alloc (.cells (os ++ us ++ rest) e)) H hB rfl rfl rfl rfl (hbody w φ _ hpre)
 refine ⟨_, _, _, h1, k2, k1, ?_⟩
 have := VRel.sref (w := w.drew.alloc (.cells (os ++ us ++ rest) e)) (S := S) (off := 0) (len := xs.length + ys.length) (cap := cap) (newPhi_at φ b (B.ver + 1) (w.heap.size, s, (os ++ us ++ rest).size)) h2 (by rw [Nat.zero_add, hsz]; exact Nat.le_refl _)
 rw [Nat.zero_mul] at this
 exact this
end Go.Proofs.YtlpbmajbalenjaaA
namespace Go.Proofs.YtlpbmajbalenjaaA
open Go
variable {P : Program} {w w' : World} {S : Nat → Prop} {φ φ' : Phi} {h h' : Heap}

theorem RowRel.ones {s : Nat} {us : Array Value} {l : List D} (r : RowRel w S φ s us l) : ∀ v ∈ us, v.oneCell' = true := by
 intro v hv
 obtain ⟨q, hq⟩ := Array.getElem?_of_mem hv
 have hlt := (Array.getElem?_eq_some_iff.1 hq).1
 rw [r.1] at hlt
 have hs : 0 < s := Nat.pos_of_ne_zero fun e => by subst e; simp at hlt
 have hi : q / s < l.length := Nat.div_lt_of_lt_mul (by rw [Nat.mul_comm]; exact hlt)
 have hl : l[q / s]? = some (l[q / s]'hi) := List.getElem?_eq_getElem hi
 obtain ⟨g1, g2⟩ := r.2 _ _ hl
 have hm : q % s < (l[q / s]'hi).cells.length := by rw [g1.1]; exact Nat.mod_lt _ hs
 obtain ⟨x, k1, k2⟩ := g2 (q % s) _ (List.getElem?_eq_getElem hm)
 have : q / s * s + q % s = q := by rw [Nat.mul_comm]; exact Nat.div_add_mod q s
 rw [this, hq] at k1
 cases k1
 have ho := g1.2
 rw [List.all_eq_true] at ho
 exact one_cell k2 (ho _ (List.getElem_mem _))
theorem slice_of {v : Value} {x : D} (r : VRel w S φ v x) (hx : (match x.bare with | .nilS | .ints _ _ | .list _ _ | .sref _ _ _ _ _ => true | _ => false) = true) : ∃ a l c, v = .slice a l c ∧ l ≤ c := by
 have r := bare_vrel r
 generalize x.bare = y at *
 cases r <;> first
  | (simp at hx; done)
  | exact ⟨_, _, _, rfl, by assumption⟩
  | exact ⟨_, _, _, rfl, Nat.le_refl _⟩
theorem row_at (H : HRel w S φ h) {b : Nat} {B : Blk} (hB : h[b]? = some B) {A sz n : Nat} (hp : φ b B.ver = some (A, sz, n)) :
  (∀ s xs, B.body = .rows s xs → s = sz ∧ ∃ c T, w.heap[A]? = some (.cells c T (0, 0)) ∧ c.size = n ∧ Pre w S φ sz c xs) ∧
  (∀ k xs, B.body = .ints k xs → sz = 1 ∧ ∃ c T, w.heap[A]? = some (.cells c T (0, 0)) ∧ c.size = n ∧ Pre w S φ 1 c (xs.map (.int k))) := by
 refine ⟨fun s xs hb => ?_, fun k xs hb => ?_⟩
 ·obtain ⟨c, T, g1, g2, g3, g4, g5, g6⟩ := get_rows H (b := b) (v := B.ver) (sz' := s) (xs := xs) (by simp [Heap.get, hB, hb]) hp
  exact ⟨g1, c, T, g2, g3, by rw [g3]; exact g4, fun i d hd => ⟨g5 i d hd, fun j e he => g6 i d j e hd he⟩⟩
 ·obtain ⟨c, T, rfl, g2, g3, g4, g5⟩ := get_ints H (b := b) (v := B.ver) (k := k) (xs := xs) (by simp [Heap.get, hB, hb]) hp
  refine ⟨rfl, c, T, g2, g3, by rw [List.length_map, g3]; omega, fun i d hd => ?_⟩
  rw [List.getElem?_map] at hd
  obtain ⟨y, hy, rfl⟩ := Option.map_eq_some_iff.1 hd
  have hi := (List.getElem?_eq_some_iff.1 hy).1
  refine ⟨⟨rfl, rfl⟩, fun j e he => ?_⟩
  cases j with
  | zero =>
   simp [D.cells] at he; subst he
   refine ⟨_, by rw [Nat.mul_one, Nat.add_zero]; exact g5 i hi, ?_⟩
   simp only [List.getD_eq_getElem?_getD, hy, Option.getD_some]
   exact .int
  | succ j => simp [D.cells] at he
theorem map_app (k : IntKind) (xs ys : List Int) : xs.map (D.int k) ++ ys.map (.int k) = (xs ++ ys).map (.int k) := by simp
theorem appendD_sound (H : HRel w S φ h) {base : Nat} {dst : Option Tmp} {t : TypeId} {x y d : D} {xv yv : Value} (rx : VRel w S φ xv x) (ry : VRel w S φ yv y) (e : appendD P base dst h t x y = some (d, h')) {ts : Array TypeId} {rest : List TypeId}
  (hts : ts.toList = t :: rest) (hrest : rest.all (fun u => (P.underlying u).isSome && (intK P u).isNone) = true) (ty : TypeId) :
  ∃ v w' S' φ', (Builtin.append_ ts ty #[xv, yv]).run P w = .ok v w' ∧ Ext w S φ h w' S' φ' h' ∧ HRel w' S' φ' h' ∧ VRel w' S' φ' v d := by
 unfold appendD at e
 obtain ⟨el, he, e2⟩ := Option.bind_eq_some_iff.1 e
 obtain ⟨s, hs, e3⟩ := Option.bind_eq_some_iff.1 e2
 obtain ⟨by_, hby, e4⟩ := Option.bind_eq_some_iff.1 e3
 obtain ⟨z, hz, e5⟩ := Option.bind_eq_some_iff.1 e4
 clear e e2 e3 e4
 split at e5 <;> try (cases e5; done)
 rename_i hzl
 obtain ⟨zv, hzv⟩ : ∃ zv, z = ofV zv ∧ ∀ w, (zeroValue el).run P w = .ok zv w := by
  obtain ⟨i, hi, hz⟩ := Option.bind_eq_some_iff.1 hz
  obtain ⟨v, hv, hz⟩ := Option.map_eq_some_iff.1 hz
  exact ⟨v, hz.symm, fun w => by simp [zeroValue, typeInfo, hi, hv]⟩
 have app : AppT P t el s by_ zv ts := by
  refine ⟨elem_run he, hs, hby, hzv.2, ?_, by rw [← Array.getElem?_toList, hts]; rfl, fun u hu => ?_⟩
  ·have := (ofV_cells (w := w) (S := S) (φ := φ) zv).1
   rw [← hzv.1, hzl] at this; exact this
  ·rw [← Array.getElem?_toList, hts] at hu
   simp only [List.getElem?_cons_succ] at hu
   rw [List.all_eq_true] at hrest
   have := hrest u (List.mem_of_getElem? hu)
   simp only [Bool.and_eq_true, Option.isNone_iff_eq_none] at this
   obtain ⟨dd, hd⟩ := Option.isSome_iff_exists.1 this.1
   refine ⟨dd, hd, fun k hk => ?_⟩
   subst hk
   have h2 := this.2
   unfold intK at h2
   rw [hd] at h2
   cases h2
 have put : ∀ {h1 : Heap} {xx : Body × (Nat → Nat → D)} {d : D} {h' : Heap}, putA base dst h1 xx = some (d, h') → ∃ b B, h1[b]? = some B ∧ d = xx.2 b (B.ver + 1) ∧ h' = h1.set b ⟨B.ver + 1, false, xx.1⟩ := fun {h1 xx d h'} ep => by
  unfold putA at ep
  obtain ⟨t', _, ep⟩ := Option.bind_eq_some_iff.1 ep
  obtain ⟨B, hB, ep⟩ := Option.map_eq_some_iff.1 ep
  cases ep
  exact ⟨_, B, hB, rfl, rfl⟩
 split at e5
 ·rename_i hsrc
  obtain ⟨a', rfl⟩ := src_nil ry hsrc
  have hx : (match x.bare with | .nilS | .ints _ _ | .list _ _ | .sref _ _ _ _ _ => true | _ => false) = true ∧ d = x ∧ h' = h := by
   split at e5 <;> first | (cases e5; exact ⟨by simp [*], rfl, rfl⟩) | cases e5
  obtain ⟨hx, rfl, rfl⟩ := hx
  obtain ⟨a, l, c, rfl, hlc⟩ := slice_of rx hx
  have hst : (match a with | some b => storeCells (b.add (l * s)) (#[] : Array Value).toList | none => pure ()).run P w = .ok () w := by cases a <;> simp [storeCells]
  exact ⟨_, w, S, φ, append_fits app ty (n := 0) rfl firstCells_zero hlc hst, .refl .., H, rx⟩
 ·rename_i k ys hsrc
  split at e5 <;> try (cases e5; done)
  rename_i hs1
  subst hs1
  obtain ⟨l1, l2⟩ := src_ints (P := P) H ry hsrc
  obtain ⟨us, u1, u2, u3⟩ := l2 ys.length (Nat.le_refl _)
  have sr : SrcOk P w S φ 1 yv (ys.map (.int k)) us := by
   refine ⟨by rw [List.length_map]; exact l1, by rw [List.length_map]; exact u1, by rw [List.length_map]; exact firstCells_drew u1, ints_row u2 u3⟩
  have tolen : ∀ l : List Int, (l.map (D.int k)).length = l.length := fun l => List.length_map ..
  split at e5
  ·rename_i k' xs
   split at e5 <;> try (cases e5; done)
   rename_i hk
   subst hk
   split at e5
   ·rename_i h0
    cases e5
    have hys : ys = [] := by simpa using h0
    subst hys
    obtain ⟨a, l, c, rfl, hlc⟩ := slice_of rx rfl
    have hus : us = #[] := Array.eq_empty_of_size_eq_zero u2
    subst hus
    have hst : (match a with | some b => storeCells (b.add (l * 1)) (#[] : Array Value).toList | none => pure ()).run P w = .ok () w := by cases a <;> simp [storeCells]
    exact ⟨_, w, S, φ, append_fits app ty (n := 0) l1 u1 hlc hst, .refl .., H, rx⟩
   rename_i h0
   split at e5 <;> try (cases e5; done)
   rename_i hroom
   have hpos : 0 < ys.length := by cases ys with | nil => simp at h0 | cons y ys => simp
   obtain ⟨b, B', hB', rfl, rfl⟩ := put e5
   cases rx with
   | @lit _ a n0 d0 hd _ =>
    cases hd with
    | @ints _ _ cap _ _ hc B o ha hx =>
     have hfo : ∃ os, (Builtin.firstCells 1 (xs.map (D.int k)).length (.slice a (xs.map (D.int k)).length (xs.map (D.int k)).length)).run P w = .ok os w ∧ RowRel w S φ 1 os (xs.map (.int k)) := by
      by_cases h0 : xs = []
      ·subst h0; exact ⟨#[], firstCells_zero, by simp [RowRel]⟩
      ·obtain ⟨rfl, hB⟩ := ha h0
       have key := firstCells_at (P := P) (w := w) (s := 1) (n := xs.length) (m := 0) (A := B) (o := o) (len := xs.length) (cap := xs.length) (f := fun j => .int k (xs.getD j 0)) fun j hj => hx j (by omega)
       rw [tolen]
       exact ⟨_, key, ints_row (by simp) fun i hi => range_get (n := xs.length * 1) (by omega)⟩
     obtain ⟨os, ho, hor⟩ := hfo
     obtain ⟨v, w', φ', h1, h2, h3, h4⟩ := grow_own (body := .ints k (xs ++ ys)) H app ty sr ho hor (by rw [tolen, tolen]; exact hroom) (by rw [tolen]; exact hpos) hB' (fun w φ c p => by rw [map_app] at p; exact p.ok_ints)
     rw [tolen] at h1
     rw [tolen, tolen] at h4
     exact ⟨v, w', S, φ', h1, h2, h3, h4⟩
  ·unfold growI at e5
   split at e5
   ·split at e5 <;> try (cases e5; done)
    rename_i hroom
    obtain ⟨b, B, hB, rfl, rfl⟩ := put e5
    obtain ⟨a, rfl⟩ := rx.nilS_inv
    obtain ⟨v, w', φ', k1, k2, k3, k4⟩ := grow_empty (body := .ints k ys) H app ty sr (base := a) (by rw [tolen]; exact hroom) hB (fun w φ c p => p.ok_ints) (fun h0 => .inl ⟨k, by rw [show ys = [] by simpa using h0]⟩)
    rw [tolen] at k4
    exact ⟨v, w', S, φ', k1, k2, k3, k4⟩
   ·rename_i b v len _
    split at e5 <;> try (cases e5; done)
    rename_i B hB
    split at e5 <;> try (cases e5; done)
    rename_i hc
    split at e5 <;> try (cases e5; done)
    rename_i k' xs hbody
    split at e5 <;> try (cases e5; done)
    rename_i hq
    split at e5 <;> try (cases e5; done)
    rename_i hroom
    obtain ⟨rfl, hfz⟩ := hc
    obtain ⟨rfl, rfl⟩ := hq
    obtain ⟨b', B', hB', rfl, rfl⟩ := put e5
    obtain ⟨g1, g2⟩ := kill_sound H b
    generalize hlen : xs.length = len at rx
    cases rx with
    | @sref _ A _ _ _ n _ _ cap hp hcap hn =>
     subst hlen
     obtain ⟨_, c, T, hA, hcn, hpre⟩ := (row_at H hB hp).2 k' xs hbody
     have := grow_some (body := .ints k' (xs ++ ys)) H app ty (xs := xs.map (.int k')) sr (by rw [tolen, tolen]; exact hroom) sr.row.ones hB (by rw [hbody]; simp) hfz hp hA hcn hpre (by rw [tolen]; exact hcap) (by omega) hB' (fun w φ c p => by rw [map_app] at p; exact p.ok_ints)
     obtain ⟨v, w', φ', k1, k2, k3, k4⟩ := this
     rw [tolen] at k1
     rw [tolen, tolen] at k4
     exact ⟨v, w', S, φ', by rw [Nat.zero_mul]; exact k1, k2, k3, k4⟩
    | @sref0 _ a b _ _ _ =>
     have hx0 : xs = [] := List.length_eq_zero_iff.1 hlen
     subst hx0
     obtain ⟨v, w', φ', k1, k2, k3, k4⟩ := grow_empty (body := .ints k' ([] ++ ys)) g1 app ty sr (base := a) (by rw [tolen]; simpa using hroom) hB' (fun w φ c p => p.ok_ints) (fun h0 => .inl ⟨k', by rw [show ys = [] by simpa using h0]; rfl⟩)
     rw [tolen] at k4
     exact ⟨v, w', S, φ', k1, g2.trans k2, k3, by simpa using k4⟩
   ·cases e5
 ·rename_i s' ys hsrc
  split at e5 <;> try (cases e5; done)
  rename_i hs1
  obtain ⟨rfl, hik⟩ := hs1
  obtain ⟨l1, us, u1, u2⟩ := src_rows (P := P) H ry hsrc
  have srn : SrcOk P w S noPhi s yv ys us := ⟨l1, u1, firstCells_drew u1, u2⟩
  have sr : SrcOk P w S φ s yv ys us := ⟨l1, u1, firstCells_drew u1, u2.mono fun v d r => r.ofNo⟩
  split at e5
  ·rename_i s'' xs
   split at e5 <;> try (cases e5; done)
   rename_i hk
   subst hk
   split at e5
   ·rename_i h0
    cases e5
    have hys : ys = [] := by simpa using h0
    subst hys
    obtain ⟨a, l, c, rfl, hlc⟩ := slice_of rx rfl
    have hus : us = #[] := by
     have := u2
     simp [RowRel] at this
     exact this
    subst hus
    have hst : (match a with | some b => storeCells (b.add (l * s'')) (#[] : Array Value).toList | none => pure ()).run P w = .ok () w := by cases a <;> simp [storeCells]
    exact ⟨_, w, S, φ, append_fits app ty (n := 0) l1 u1 hlc hst, .refl .., H, rx⟩
   rename_i h0
   split at e5 <;> try (cases e5; done)
   rename_i hroom
   have hpos : 0 < ys.length := by cases ys with | nil => simp at h0 | cons y ys => simp
   obtain ⟨b, B', hB', rfl, rfl⟩ := put e5
   cases rx with
   | @lit _ a n0 d0 hd _ =>
    cases hd with
    | @list _ _ cap _ _ hc B o vs ha hsz hx hv =>
     have rr := src_rows (P := P) (h := h) (s := s'') (ys := xs) H (VRel.list (φ := φ) hc B o vs ha hsz hx hv) rfl
     obtain ⟨_, os, ho, hor⟩ := rr
     obtain ⟨v, w', φ', h1, h2, h3, h4⟩ := grow_own (body := .rows s'' (xs ++ ys)) H app ty sr ho (hor.mono fun v d r => r.ofNo) hroom hpos hB' (fun w φ c p => p.ok_rows)
     exact ⟨v, w', S, φ', h1, h2, h3, h4⟩
  ·unfold growR at e5
   split at e5
   ·split at e5 <;> try (cases e5; done)
    rename_i hroom
    obtain ⟨b, B, hB, rfl, rfl⟩ := put e5
    obtain ⟨a, rfl⟩ := rx.nilS_inv
    obtain ⟨v, w', φ', k1, k2, k3, k4⟩ := grow_empty (body := .rows s ys) H app ty sr (base := a) hroom hB (fun w φ c p => p.ok_rows) (fun h0 => .inr ⟨s, by rw [h0]⟩)
    exact ⟨v, w', S, φ', k1, k2, k3, k4⟩
   ·rename_i b v s'' len _
    split at e5 <;> try (cases e5; done)
    rename_i B hB
    split at e5 <;> try (cases e5; done)
    rename_i hc
    split at e5 <;> try (cases e5; done)
    rename_i s3 xs hbody
    split at e5 <;> try (cases e5; done)
    rename_i hq
    split at e5 <;> try (cases e5; done)
    rename_i hroom
    obtain ⟨rfl, hfz, rfl⟩ := hc
    obtain ⟨rfl, rfl⟩ := hq
    obtain ⟨b', B', hB', rfl, rfl⟩ := put e5
    obtain ⟨g1, g2⟩ := kill_sound H b
    generalize hlen : xs.length = len at rx
    cases rx with
    | @sref _ A _ _ _ n _ _ cap hp hcap hn =>
     subst hlen
     obtain ⟨_, c, T, hA, hcn, hpre⟩ := (row_at H hB hp).1 s3 xs hbody
     obtain ⟨v, w', φ', k1, k2, k3, k4⟩ := grow_some (body := .rows s3 (xs ++ ys)) H app ty (xs := xs) sr hroom sr.row.ones hB (by rw [hbody]; simp) hfz hp hA hcn hpre hcap (by rw [Nat.zero_add] at hn; exact hn) hB' (fun w φ c p => p.ok_rows)
     exact ⟨v, w', S, φ', by rw [Nat.zero_mul]; exact k1, k2, k3, k4⟩
    | @sref0 _ a b _ _ _ =>
     have hx0 : xs = [] := List.length_eq_zero_iff.1 hlen
     subst hx0
     obtain ⟨v, w', φ', k1, k2, k3, k4⟩ := grow_empty (body := .rows s3 ([] ++ ys)) g1 app ty (SrcOk.mk sr.len sr.cells sr.drew (sr.row.mono fun v d => g2.vrel H)) (base := a) (by simpa using hroom) hB' (fun w φ c p => p.ok_rows) (fun h0 => .inr ⟨s3, by rw [h0]; rfl⟩)
     exact ⟨v, w', S, φ', k1, g2.trans k2, k3, by simpa using k4⟩
   ·cases e5
 ·cases e5
end Go.Proofs.YtlpbmajbalenjaaA
namespace Go.Proofs.YtlpbmajbalenjaaA
open Go
variable {P : Program} {w w' : World} {S : Nat → Prop} {φ φ' : Phi} {h h' : Heap}

def CallOk (C : Cx) (call : Run) : Prop := ∀ (f : FuncId) (ds : List D) (h : Heap) (d : D) (h' : Heap), call f ds h = some (d, h') →
 (∃ fn, C.P.funcs[f]? = some fn ∧ fn.body.isSome = true ∧ (fn.name == "runtime.NumGoroutine") = false) ∧
 ∀ (w : World) (S : Nat → Prop) (φ : Phi) (vs : List Value), HRel w S φ h → VsRel w S φ vs ds →
  Calls C.P f vs.toArray w fun e w' => ∃ v S' φ', e = .returned v ∧ Ext w S φ h w' S' φ' h' ∧ HRel w' S' φ' h' ∧ VRel w' S' φ' v d

theorem hrel_nil (w : World) (S : Nat → Prop) (hS : ∀ b, S b → b < w.heap.size) : HRel w S noPhi [] :=
 ⟨fun b B e => by simp at e, fun b b' B B' A x x' e => by simp at e, (fun b v x e => by cases e), hS⟩
theorem own_nil {A : Nat} : ¬ Own noPhi [] A := fun ⟨b, B, x, e, _⟩ => by simp at e

structure Kept (w w' : World) : Prop where
 os : w'.os = w.os
 tape : w'.tape = w.tape
 output : w'.output = w.output
 size : w.heap.size ≤ w'.heap.size
 old : ∀ b, b < w.heap.size → w'.heap[b]? = w.heap[b]?
theorem kept_sound (H : HRel w S φ h) (k : Kept w w') {S1 : Nat → Prop} (h1 : ∀ b, S b → S1 b) (h2 : ∀ b, S1 b → S b ∨ w.heap.size ≤ b) (h3 : ∀ b, S1 b → b < w'.heap.size) : HRel w' S1 φ h ∧ Ext w S φ h w' S1 φ h := by
 have hmono : ∀ v d, VRel w S φ v d → VRel w' S1 φ v d := fun v d r => r.mono h1 (fun b hb => k.old b (H.lt b hb)) fun _ _ _ h => h
 refine ⟨⟨fun b B e => ?_, H.inj, H.dom, h3⟩, ⟨k.os, k.tape, k.output, k.size, h1, fun _ _ _ h => h, fun b hb _ => k.old b hb, fun b hb => (h2 b hb).imp id .inr, fun b hb => .inl hb⟩⟩
 exact (H.blk b B e).go B.fz rfl hmono (fun A x hp hl => k.old A (live_some H e hl hp).1) fun A x hp hl => by
  have := live_some H e hl hp
  cases hf : B.fz with
  | true => rw [if_pos rfl]; exact h1 _ (this.2.1 hf)
  | false => rw [if_neg (by simp)]; exact fun hs => (h2 _ hs).elim (this.2.2 hf) (fun e => by omega)
theorem drop_vrel {α : Type} (f : α → D → D) (hf : ∀ a v d, VRel w S φ v d → VRel w S φ v (f a d)) (ts : Array α) {vs : List Value} {ds : List D} (r : VsRel w S φ vs ds) : VsRel w S φ vs (ts.toList.zipWith f ds ++ ds.drop ts.size) := by
 have := normL_sound (w := w) (S := S) (φ := φ) f hf ts.toList r
 simpa using this

theorem icall_sound {C : Cx} {call : Run} (hc : CallOk C call) {f : FuncId} {ds : List D} {r : D} (e : icall C call f ds = some r) :
  (∃ fn, C.P.funcs[f]? = some fn ∧ fn.body.isSome = true ∧ (fn.name == "runtime.NumGoroutine") = false) ∧
  ∀ (w : World) (S : Nat → Prop) (vs : List Value), (∀ b, S b → b < w.heap.size) → VsRel w S noPhi vs ds →
   Calls C.P f vs.toArray w fun e w' => ∃ v S', e = .returned v ∧ Kept w w' ∧ (∀ b, S b → S' b) ∧ (∀ b, S' b → S b ∨ w.heap.size ≤ b) ∧ (∀ b, S' b → b < w'.heap.size) ∧ VRel w' S' noPhi v r := by
 unfold icall at e
 obtain ⟨fn, hfn, e⟩ := Option.bind_eq_some_iff.1 e
 obtain ⟨q, hq, e⟩ := Option.bind_eq_some_iff.1 e
 obtain ⟨d', hd', rfl⟩ := Option.map_eq_some_iff.1 e
 obtain ⟨d, h'⟩ := q
 obtain ⟨g1, g2⟩ := hc f _ _ _ _ hq
 refine ⟨g1, fun w S vs hS rv => ?_⟩
 refine (g2 w S noPhi vs (hrel_nil w S hS) (drop_vrel (norm C.P) (fun a v d => norm_sound a) fn.params rv)).mono fun e w' k => ?_
 obtain ⟨v, S', φ', he, hx, hh, hv⟩ := k
 obtain ⟨f1, f2⟩ := freeze_sound hh (reach h' DEPTH d)
 have hr := reify_sound hh (S0 := FS S' φ' h' (reach h' DEPTH d)) f2.sub DEPTH v d d' hv hd' fun b hb B A x hB hl hp => .inr ⟨b, hb, B, x, hB, hl, hp⟩
 have hnew : ∀ b, S' b → S b ∨ w.heap.size ≤ b := fun b hb => by
  rcases hx.new b hb with g | g | g
  ·exact .inl g
  ·exact absurd g own_nil
  ·exact .inr g
 refine ⟨v, _, he, ⟨hx.os, hx.tape, hx.output, hx.size, fun b hb => hx.same b hb own_nil⟩, fun b hb => f2.sub b (hx.sub b hb), fun b hb => ?_, f1.lt, normR_sound _ hr⟩
 rcases f2.new b hb with g | g | g
 ·exact hnew b g
 ·rcases hx.own b g with g | g
  ·exact absurd g own_nil
  ·exact .inr g
 ·have := f1.lt b hb; omega

theorem flat_vrel : ∀ (n : Nat) {v : Value} {d : D} {w1 : World} {S1 : Nat → Prop} {φ1 : Phi}, VRel w S φ v d → d.flat n = true → VRel w1 S1 φ1 v d := by
 intro n
 induction n with
 | zero =>
  intro v d w1 S1 φ1 r hd
  cases r <;> first
   | (simp [D.flat] at hd; done)
   | exact .bool | exact .int | exact .str | exact .nilI
 | succ n ih =>
  intro v d w1 S1 φ1 r hd
  cases r with
  | agg hl hx =>
   simp only [D.flat, List.all_eq_true] at hd
   exact .agg hl fun i v d h1 h2 => ih (hx i v d h1 h2) (hd d (List.mem_of_getElem? h2))
  | tuple hl hx =>
   simp only [D.flat, List.all_eq_true] at hd
   exact .tuple hl fun i v d h1 h2 => ih (hx i v d h1 h2) (hd d (List.mem_of_getElem? h2))
  | bool => exact .bool
  | int => exact .int
  | str => exact .str
  | nilI => exact .nilI
  | _ => simp [D.flat] at hd
theorem reifyL_sound (H : HRel w S φ h) {ds ds' : List D} {vs : List Value} (r : VsRel w S φ vs ds) (e : ds.mapM (reify h DEPTH) = some ds') : VsRel w (FS S φ h (ds.flatMap (reach h DEPTH))) noPhi vs ds' := by
 obtain ⟨g1, g2⟩ := mapM_some e
 refine ⟨by rw [r.1, g1], fun i v d h1 h2 => ?_⟩
 have hi : i < ds.length := by have := (List.getElem?_eq_some_iff.1 h2).1; omega
 have hd : ds[i]? = some (ds[i]'hi) := List.getElem?_eq_getElem hi
 refine reify_sound H (fun b hb => .inl hb) DEPTH v _ d (r.2 i v _ h1 hd) (g2 i _ _ hd h2) fun b hb B A x hB hl hp => .inr ⟨b, ?_, B, x, hB, hl, hp⟩
 exact List.mem_flatMap.2 ⟨_, List.getElem_mem hi, hb⟩
theorem reach_isT (h : Heap) : ∀ (m n : Nat) {d : D}, d.isT n = true → reach h m d = [] := by
 intro m
 induction m with
 | zero => intro n d _; rfl
 | succ m ih =>
  intro n d hd
  have all : ∀ {l : List D} {n : Nat}, l.all (D.isT n) = true → l.flatMap (reach h m) = [] := fun {l n} hl => by
   rw [List.flatMap_eq_nil_iff]
   intro x hx
   rw [List.all_eq_true] at hl
   exact ih n (hl x hx)
  cases d with
  | agg cs => cases n with | zero => simp [D.isT] at hd | succ n => exact all hd
  | tuple cs => cases n with | zero => simp [D.isT] at hd | succ n => exact all hd
  | fn f a c =>
   cases n with
   | zero => simp [D.isT] at hd
   | succ n =>
    simp only [D.isT, Bool.and_eq_true] at hd
    simp only [reach, all hd.1, all hd.2, List.append_nil]
  | sref => cases n <;> simp [D.isT] at hd
  | pref => cases n <;> simp [D.isT] at hd
  | mref => cases n <;> simp [D.isT] at hd
  | _ => rfl
theorem call_apart {C : Cx} {call : Run} (hc : CallOk C call) (H : HRel w S φ h) {f : FuncId} {ds ds' : List D} {vs : List Value} {r : D} (rv : VsRel w S φ vs ds) (hm : ds.mapM (reify h DEPTH) = some ds') (hi : icall C call f ds' = some r) :
  (∃ fn, C.P.funcs[f]? = some fn ∧ fn.body.isSome = true ∧ (fn.name == "runtime.NumGoroutine") = false) ∧
  Calls C.P f vs.toArray w fun e w' => ∃ v S' φ', e = .returned v ∧ Ext w S φ h w' S' φ' (if ds.all (D.isT 3) || r.flat 3 then h else freeze h (ds.flatMap (reach h DEPTH))) ∧
   HRel w' S' φ' (if ds.all (D.isT 3) || r.flat 3 then h else freeze h (ds.flatMap (reach h DEPTH))) ∧ VRel w' S' φ' v r := by
 obtain ⟨g1, g2⟩ := icall_sound hc hi
 refine ⟨g1, ?_⟩
 obtain ⟨f1, f2⟩ := freeze_sound H (ds.flatMap (reach h DEPTH))
 refine (g2 w (FS S φ h (ds.flatMap (reach h DEPTH))) vs f1.lt (reifyL_sound H rv hm)).mono fun e w' k => ?_
 obtain ⟨v, S', he, hk, s1, s2, s3, hv⟩ := k
 by_cases hT : ds.all (D.isT 3) = true
 ·have hl : ds.flatMap (reach h DEPTH) = [] := by
   rw [List.flatMap_eq_nil_iff]
   intro x hx
   rw [List.all_eq_true] at hT
   exact reach_isT h DEPTH 3 (hT x hx)
  have hFS : ∀ b, FS S φ h (ds.flatMap (reach h DEPTH)) b ↔ S b := fun b => by
   rw [hl]
   exact ⟨fun hb => hb.elim id fun ⟨b', hb', _⟩ => by simp at hb', .inl⟩
  obtain ⟨k1, k2⟩ := kept_sound H hk (S1 := S') (fun b hb => s1 b ((hFS b).2 hb)) (fun b hb => (s2 b hb).imp (hFS b).1 id) s3
  rw [if_pos (by rw [hT]; rfl)]
  exact ⟨v, S', φ, he, k2, k1, hv.ofNo⟩
 ·by_cases hf : r.flat 3 = true
  ·obtain ⟨k1, k2⟩ := kept_sound H hk (S1 := S) (fun _ hb => hb) (fun _ hb => .inl hb) (fun b hb => Nat.lt_of_lt_of_le (H.lt b hb) hk.size)
   rw [if_pos (by rw [hf]; simp)]
   exact ⟨v, S, φ, he, k2, k1, flat_vrel 3 hv hf⟩
  ·obtain ⟨k1, k2⟩ := kept_sound f1 hk (S1 := S') s1 s2 s3
   rw [if_neg (by simp [hT, hf])]
   exact ⟨v, S', φ, he, f2.trans k2, k1, hv.ofNo⟩
theorem adopt_sound {C : Cx} {call : Run} (hc : CallOk C call) (H : HRel w S φ h) {f : FuncId} {ds ds' : List D} {vs : List Value} {d : D} {base : Nat} {dst : Option Tmp} (rv : VsRel w S φ vs ds) (hm : ds.mapM (reify h DEPTH) = some ds')
  (e : adoptD C call base dst (freeze h (ds.flatMap (reach h DEPTH))) f ds' = some (d, h')) :
  (∃ fn, C.P.funcs[f]? = some fn ∧ fn.body.isSome = true ∧ (fn.name == "runtime.NumGoroutine") = false) ∧
  Calls C.P f vs.toArray w fun e w' => ∃ v S' φ', e = .returned v ∧ Ext w S φ h w' S' φ' h' ∧ HRel w' S' φ' h' ∧ VRel w' S' φ' v d := by
 obtain ⟨f1, f2⟩ := freeze_sound H (ds.flatMap (reach h DEPTH))
 have rl := reifyL_sound H rv hm
 generalize hh1 : freeze h (ds.flatMap (reach h DEPTH)) = h1 at *
 generalize hS1 : FS S φ h (ds.flatMap (reach h DEPTH)) = S1 at *
 unfold adoptD at e
 obtain ⟨fn, hfn, e1⟩ := Option.bind_eq_some_iff.1 e
 clear e
 obtain ⟨⟨d0, h0⟩, hq, e2⟩ := Option.bind_eq_some_iff.1 e1
 clear e1
 obtain ⟨g1, g2⟩ := hc f _ _ _ _ hq
 refine ⟨g1, (g2 w S1 noPhi vs (hrel_nil w S1 f1.lt) (drop_vrel (norm C.P) (fun a v d => norm_sound a) fn.params rl)).mono fun e w' k => ?_⟩
 obtain ⟨v, S', φ', he, hx, hh, hv⟩ := k
 have hnew : ∀ b, S' b → S1 b ∨ w.heap.size ≤ b := fun b hb => by
  rcases hx.new b hb with g | g | g
  ·exact .inl g
  ·exact absurd g own_nil
  ·exact .inr g
 have kept : Kept w w' := ⟨hx.os, hx.tape, hx.output, hx.size, fun b hb => hx.same b hb own_nil⟩
 obtain ⟨k1, k2⟩ := kept_sound f1 kept hx.sub hnew hh.lt
 have k3 := f2.trans k2
 have plain : ∀ {d1 : D}, VRel w' S' noPhi v d1 → some (d1, h1) = some (d, h') → ∃ v_1 S' φ', e = Ending.returned v_1 ∧ Ext w S φ h w' S' φ' h' ∧ HRel w' S' φ' h' ∧ VRel w' S' φ' v_1 d := fun {d1} r eq => by
  cases eq
  exact ⟨v, S', φ, he, k3, k1, r.ofNo⟩
 -- a row of its own
 have row : ∀ {b u s len : Nat} {B : Blk} {body : Body}, d0 = .sref b u s 0 len → h0[b]? = some B → B.ver = u → B.fz = false → len ≠ 0 → B.body = body → ((∃ k xs, body = .ints k xs ∧ s = 1) ∨ (∃ xs, body = .rows s xs ∧ xs.all (fun d => d.cells.all (D.isT 2)) = true)) →
   putA base dst h1 (body, fun b v => .sref b v s 0 len) = some (d, h') → ∃ v_1 S' φ', e = Ending.returned v_1 ∧ Ext w S φ h w' S' φ' h' ∧ HRel w' S' φ' h' ∧ VRel w' S' φ' v_1 d := fun {b u s len B body} hd hB hver hfz hne hbody hk ep => by
  subst hd
  unfold putA at ep
  obtain ⟨t, ht, ep1⟩ := Option.bind_eq_some_iff.1 ep
  obtain ⟨B1, hB1, ep2⟩ := Option.map_eq_some_iff.1 ep1
  clear ep ep1
  cases ep2
  cases hv with
  | sref0 => exact absurd rfl hne
  | @sref _ A _ _ _ n _ _ cap hp hlc hn =>
   subst hver
   have hl : B.body ≠ .dead := by rw [hbody]; rcases hk with ⟨k, xs, rfl, _⟩ | ⟨xs, rfl, _⟩ <;> simp
   have hls := live_some hh hB hl hp
   have hAS : ¬ S' A := hls.2.2 hfz
   have hAn : w.heap.size ≤ A := by
    rcases hx.own A ⟨b, B, _, hB, hl, hfz, hp⟩ with g | g
    ·exact absurd g own_nil
    ·exact g
   obtain ⟨c, T, hA, ok⟩ : ∃ c T, w'.heap[A]? = some (.cells c T (0, 0)) ∧ c.size = n ∧ BodyOk w' S' noPhi s c body := by
    have hb := hh.blk b B hB
    obtain ⟨ver, fz, bd⟩ := B
    simp only at hbody hp
    subst hbody
    rcases hk with ⟨k, xs, rfl, rfl⟩ | ⟨xs, rfl, hT⟩
    ·cases hb with
     | ints hφ hA hn' hl' hx' hS' => rw [hφ] at hp; cases hp; exact ⟨_, _, hA, hn', rfl, by omega, hx'⟩
     | ints0 hφ => rw [hφ] at hp; cases hp
    ·cases hb with
     | rows hφ hA hn' hl' hsz' hx' hS' =>
      rw [hφ] at hp; cases hp
      refine ⟨_, _, hA, hn', rfl, by omega, hsz', fun i d j e1 g1 g2 => ?_⟩
      obtain ⟨x, m1, m2⟩ := hx' i d j e1 g1 g2
      refine ⟨x, m1, isT_vrel 2 m2 ?_⟩
      rw [List.all_eq_true] at hT
      have := hT d (List.mem_of_getElem? g1)
      rw [List.all_eq_true] at this
      exact this e1 (List.mem_of_getElem? g2)
     | rows0 hφ => rw [hφ] at hp; cases hp
   obtain ⟨hcn, ok⟩ := ok
   have hlt : base + t < h1.length := (List.getElem?_eq_some_iff.1 hB1).1
   have hno : ∀ v d, VRel w' S' noPhi v d → VRel w' S' (newPhi φ (base + t) (B1.ver + 1) (A, s, n)) v d := fun v d r => r.ofNo
   have ok2 : BodyOk w' S' (newPhi φ (base + t) (B1.ver + 1) (A, s, n)) s c body := by
    rcases hk with ⟨k, xs, rfl, rfl⟩ | ⟨xs, rfl, hT⟩
    ·exact ok
    ·obtain ⟨o1, o2, o3, o4⟩ := ok
     exact ⟨o1, o2, o3, fun i d j e g1 g2 => let ⟨x, m1, m2⟩ := o4 i d j e g1 g2; ⟨x, m1, hno _ _ m2⟩⟩
   have HH := placeH k1 (w' := w') (A := A) (y := (s, n)) (b := base + t) (v := B1.ver + 1) (body := body) (h' := h1.set (base + t) ⟨B1.ver + 1, false, body⟩) (φ' := newPhi φ (base + t) (B1.ver + 1) (A, s, n)) (Nat.le_refl _) (fun _ _ _ => rfl) hAS (by rw [List.getElem?_set_self hlt])
    (fun i B' hi e => by
     rw [List.getElem?_set_ne (Ne.symm hi)] at e
     by_cases hd : B'.body = .dead
     ·exact ⟨B', e, rfl, .inl hd⟩
     ·exact ⟨B', e, rfl, .inr ⟨rfl, fun x hp => by have := (live_some f1 e hd hp).1; omega⟩⟩)
    (newPhi_at _ _ _ _) (newPhi_up k1 hB1 (Nat.lt_succ_self _) _) newPhi_inv
    (fun i u x hp => by
     rcases newPhi_inv _ _ _ hp with g | ⟨rfl, rfl⟩
     ·obtain ⟨B2, m1, m2, m3⟩ := k1.dom _ _ _ g
      by_cases hi : i = base + t
      ·subst hi
       rw [hB1] at m1; cases m1
       exact ⟨_, List.getElem?_set_self hlt, m2, by simp; omega⟩
      ·exact ⟨B2, by rw [List.getElem?_set_ne (Ne.symm hi)]; exact m1, m2, m3⟩
     ·exact ⟨_, List.getElem?_set_self hlt, by omega, by simp⟩)
    (.mk (sz := s) (c := c) (T := T) (by rw [newPhi_at, hcn]) hA ok2 (by rw [if_neg (by simp)]; exact hAS))
   refine ⟨_, S', newPhi φ (base + t) (B1.ver + 1) (A, s, n), he, ?_, HH, ?_⟩
   ·refine ⟨k3.os, k3.tape, k3.output, k3.size, k3.sub, fun i u x hp => newPhi_up k1 hB1 (Nat.lt_succ_self _) _ i u x (k3.ph i u x hp), k3.same, k3.new, fun i ho => ?_⟩
    obtain ⟨b', B', x, m1, m2, m3, m4⟩ := ho
    by_cases hi : b' = base + t
    ·subst hi
     rw [List.getElem?_set_self hlt] at m1; cases m1
     rw [newPhi_at] at m4; cases m4
     exact .inr hAn
    ·rw [List.getElem?_set_ne (Ne.symm hi)] at m1
     rcases newPhi_inv _ _ _ m4 with g | g
     ·exact k3.own i ⟨b', B', x, m1, m2, m3, g⟩
     ·exact absurd g.1 hi
   ·exact .sref (newPhi_at _ _ _ _) hlc hn
 split at e2
 ·rename_i b u s len hd
  simp only at hd
  obtain ⟨B, hB, e3⟩ := Option.bind_eq_some_iff.1 e2
  clear e2
  split at e3 <;> try (cases e3; done)
  rename_i hcond
  split at e3
  ·rename_i k xs hbody
   split at e3 <;> try (cases e3; done)
   rename_i hs1
   subst hs1
   exact row hd hB hcond.1 hcond.2.1 hcond.2.2 hbody (.inl ⟨k, xs, rfl, rfl⟩) e3
  ·rename_i s' xs hbody
   split at e3 <;> try (cases e3; done)
   rename_i hs1
   subst hs1
   split at e3 <;> try (cases e3; done)
   rename_i hT
   exact row hd hB hcond.1 hcond.2.1 hcond.2.2 hbody (.inr ⟨xs, rfl, hT⟩) e3
  ·cases e3
 ·rename_i hd
  simp only at hd
  subst hd
  exact plain (isT_vrel 1 hv rfl) e2
 ·rename_i hd
  simp only at hd
  subst hd
  exact plain (isT_vrel 1 hv rfl) e2
 ·rename_i hd
  simp only at hd
  subst hd
  exact plain (isT_vrel 1 hv rfl) e2
 ·cases e2
theorem rowAt_some {b v s len : Nat} {xs : List D} (e : rowAt h b v s len = some xs) : ∃ B, h[b]? = some B ∧ B.ver = v ∧ B.fz = false ∧ B.body = .rows s xs ∧ len = xs.length ∧ (∀ d ∈ xs, ∀ c ∈ d.cells, c.isT 2 = true) ∧ xs ≠ [] := by
 unfold rowAt at e
 obtain ⟨B, hB, e⟩ := Option.bind_eq_some_iff.1 e
 split at e <;> try (cases e; done)
 rename_i hc
 split at e <;> try (cases e; done)
 rename_i s' ys hb
 split at e <;> try (cases e; done)
 rename_i hx
 cases e
 obtain ⟨rfl, h2, h3, h4⟩ := hx
 refine ⟨B, hB, hc.1, hc.2, hb, h2, fun d hd c hcc => ?_, fun e => by rw [e] at h4; cases h4⟩
 rw [List.all_eq_true] at h3
 have := h3 d hd
 rw [List.all_eq_true] at this
 exact this c hcc
theorem cellTo_sound (H : HRel w S φ h) {S0 : Nat → Prop} (hS : ∀ b, S b → S0 b) {φ2 : Phi} {j : Option Nat} {b' u' i : Nat} {ty : TypeId} {x : Value} {c c' : D} (r : VRel w S φ x c) (e : cellTo P h j b' u' i ty c = some c')
  (hr : j ≠ some i → ∀ b ∈ reach h DEPTH c, ∀ B A x, h[b]? = some B → B.body ≠ .dead → φ b B.ver = some (A, x) → S0 A)
  (hj : j = some i → ∀ b v s len, c = .sref b v s 0 len → φ2 b' u' = φ b v) : VRel w S0 φ2 x c' := by
 unfold cellTo at e
 by_cases h1 : j = some i
 ·rw [if_pos h1] at e
  split at e
  ·rename_i b v s len
   obtain ⟨xs, _, rfl⟩ := Option.map_eq_some_iff.1 e
   have hp := hj h1 b v s len rfl
   cases r with
   | sref0 => exact .sref0
   | sref hh hc hn => exact .sref (hp.trans hh) hc hn
  ·split at e <;> try (cases e; done)
   rename_i hT
   cases e
   exact ((isT_vrel 2 r hT).to hS).ofNo
 ·rw [if_neg h1] at e
  obtain ⟨d, hd, rfl⟩ := Option.map_eq_some_iff.1 e
  exact (norm1_sound ty (reify_sound H hS DEPTH x c d r hd (hr h1))).ofNo
theorem cellsTo_get {j : Option Nat} {b' u' : Nat} : ∀ {cs : List D} {ts : List TypeId} {i : Nat} {out : List D}, cellsTo P h j b' u' i ts cs = some out →
  out.length = cs.length ∧ ∀ (k : Nat) (c c' : D), cs[k]? = some c → out[k]? = some c' → ∃ ty, cellTo P h j b' u' (i + k) ty c = some c'
 | [], [], i, out, e => by
  unfold cellsTo at e; cases e
  exact ⟨rfl, fun k c c' h => by simp at h⟩
 | [], t :: ts, i, out, e => by unfold cellsTo at e; cases e
 | c :: cs, [], i, out, e => by unfold cellsTo at e; cases e
 | c :: cs, t :: ts, i, out, e => by
  unfold cellsTo at e
  obtain ⟨c1, h1, e⟩ := Option.bind_eq_some_iff.1 e
  obtain ⟨o1, h2, rfl⟩ := Option.map_eq_some_iff.1 e
  obtain ⟨g1, g2⟩ := cellsTo_get h2
  refine ⟨by simp [g1], fun k d d' k1 k2 => ?_⟩
  cases k with
  | zero => simp at k1 k2; subst k1; subst k2; exact ⟨t, h1⟩
  | succ k =>
   simp at k1 k2
   obtain ⟨ty, g⟩ := g2 k d d' k1 k2
   exact ⟨ty, by rw [show i + (k + 1) = i + 1 + k by omega]; exact g⟩
theorem reachO_mem {j : Option Nat} : ∀ {cs : List D} {i k : Nat} {c : D} {b : Nat}, cs[k]? = some c → j ≠ some (i + k) → b ∈ reach h DEPTH c → b ∈ reachO h j i cs
 | [], i, k, c, b, hk, _, _ => by simp at hk
 | d :: cs, i, k, c, b, hk, hj, hb => by
  unfold reachO
  rw [List.mem_append]
  cases k with
  | zero =>
   simp at hk; subst hk
   rw [Nat.add_zero] at hj
   exact .inl (by rw [if_neg hj]; exact hb)
  | succ k =>
   simp at hk
   exact .inr (reachO_mem hk (by rwa [show i + 1 + k = i + (k + 1) by omega]) hb)
theorem clash_false {l : List Nat} {b : Nat} {rj : Option (Nat × Nat × Nat × List D)} (e : clash l b rj = false) : b ∉ l ∧ ∀ b2 v s xs, rj = some (b2, v, s, xs) → b2 ∉ l ∧ b2 ≠ b := by
 unfold clash at e
 rw [Bool.or_eq_false_iff] at e
 obtain ⟨h1, h2⟩ := e
 refine ⟨(fun hm => by rw [List.contains_iff_mem.2 hm] at h1; cases h1), fun b2 v s xs hr => ?_⟩
 subst hr
 simp only [Bool.or_eq_false_iff] at h2
 exact ⟨(fun hm => by rw [List.contains_iff_mem.2 hm] at h2; cases h2.1), fun e => by rw [e] at h2; simp at h2⟩
theorem rowJ_some {j : Option Nat} {cs : List D} {b v s : Nat} {xs : List D} (e : rowJ h j cs = some (b, v, s, xs)) : ∃ j0, j = some j0 ∧ cs[j0]? = some (.sref b v s 0 xs.length) ∧ ∃ B, h[b]? = some B ∧ B.ver = v ∧ B.fz = false ∧ B.body = .rows s xs ∧ (∀ d ∈ xs, ∀ c ∈ d.cells, c.isT 2 = true) ∧ xs ≠ [] := by
 unfold rowJ at e
 obtain ⟨j0, hj, e⟩ := Option.bind_eq_some_iff.1 e
 obtain ⟨c, hc, e⟩ := Option.bind_eq_some_iff.1 e
 split at e <;> try (cases e; done)
 obtain ⟨ys, hy, e⟩ := Option.map_eq_some_iff.1 e
 cases e
 obtain ⟨B, k1, k2, k3, k4, k5, k6⟩ := rowAt_some hy
 exact ⟨j0, hj, by rw [hc, k5], B, k1, k2, k3, k4, k6⟩
theorem rowJ_of {j0 : Nat} {cs : List D} {b v s len : Nat} (hc : cs[j0]? = some (.sref b v s 0 len)) {c' : D} {b' u' : Nat} {ty : TypeId} (e : cellTo P h (some j0) b' u' j0 ty (.sref b v s 0 len) = some c') : ∃ xs, rowJ h (some j0) cs = some (b, v, s, xs) := by
 unfold cellTo at e
 rw [if_pos rfl] at e
 simp only at e
 obtain ⟨xs, hx, _⟩ := Option.map_eq_some_iff.1 e
 exact ⟨xs, by simp only [rowJ, Option.bind_some, hc, hx, Option.map_some]⟩
theorem mask_keep (H : HRel w S φ h) {own : Nat → Prop} {S1 : Nat → Prop} {hk : Heap} (h1 : ∀ b, S b → S1 b) (h2 : ∀ b, S1 b → S b ∨ own b ∨ w.heap.size ≤ b) (h3 : ∀ b, S1 b → b < w'.heap.size)
  (same : ∀ A, A < w.heap.size → ¬ own A → w'.heap[A]? = w.heap[A]?) (hoS : ∀ A, own A → ¬ S A)
  (hb : ∀ b B, hk[b]? = some B → ∃ B0, h[b]? = some B0 ∧ B.ver = B0.ver ∧ (B.body = .dead ∨ (B = B0 ∧ ∀ A x, φ b B0.ver = some (A, x) → B0.body ≠ .dead → ¬ own A))) (hl : hk.length = h.length) : HRel w' S1 φ hk := by
 have hmono : ∀ x d, VRel w S φ x d → VRel w' S1 φ x d := fun x d r => r.mono h1 (fun b hb => same b (H.lt b hb) fun ho => hoS b ho hb) fun _ _ _ h => h
 refine ⟨fun b B e => ?_, fun b b' B B' A x x' e e' hd hd' hp hp' => ?_, fun b v x hp => ?_, h3⟩
 ·obtain ⟨B0, g1, g2, g3⟩ := hb b B e
  rcases g3 with g3 | ⟨rfl, g3⟩
  ·have : B = ⟨B.ver, B.fz, .dead⟩ := by cases B; simp_all
   rw [this]; exact .dead
  ·refine (H.blk b B g1).go B.fz rfl hmono (fun A x hp hd => same A (live_some H g1 hd hp).1 (g3 A x hp hd)) fun A x hp hd => ?_
   have hs := live_some H g1 hd hp
   cases hf : B.fz with
   | true => rw [if_pos rfl]; exact h1 _ (hs.2.1 hf)
   | false =>
    rw [if_neg (by simp)]
    intro hS1
    rcases h2 A hS1 with k | k | k
    ·exact hs.2.2 hf k
    ·exact g3 A x hp hd k
    ·have := hs.1; omega
 ·obtain ⟨B0, g1, g2, g3⟩ := hb b B e
  obtain ⟨B0', g1', g2', g3'⟩ := hb b' B' e'
  rcases g3 with g3 | ⟨rfl, g3⟩
  ·exact absurd g3 hd
  ·rcases g3' with g3' | ⟨rfl, g3'⟩
   ·exact absurd g3' hd'
   ·exact H.inj b b' B B' A x x' g1 g1' hd hd' hp hp'
 ·obtain ⟨B0, g1, g2, g3⟩ := H.dom b v x hp
  have hlt : b < hk.length := by rw [hl]; exact (List.getElem?_eq_some_iff.1 g1).1
  obtain ⟨B1, k1, k2, _⟩ := hb b hk[b] (List.getElem?_eq_getElem hlt)
  rw [g1] at k1; cases k1
  exact ⟨_, List.getElem?_eq_getElem hlt, g2, by rw [k2]; exact g3⟩

theorem oneAgg_some {b : Body} {n : Nat} {cs : List D} (e : oneAgg b = some (n, cs)) : b = .rows n [.agg cs] := by
 unfold oneAgg at e
 split at e
 ·cases e; rfl
 ·cases e
theorem meth_in (H : HRel w S φ h) {S1 : Nat → Prop} (hS : ∀ b, S b → S1 b) (hlt : ∀ b, S1 b → b < w.heap.size) {j : Option Nat} {b v n : Nat} {cs cin : List D} {ts : List TypeId} (hB : h[b]? = some ⟨v, false, .rows n [.agg cs]⟩)
  (hin : cellsTo P h j 1 1 0 ts cs = some cin) (hn : cin.length = n) (hone : cin.all D.one = true)
  (hfz : ∀ q ∈ reachO h j 0 cs, ∀ B A x, h[q]? = some B → B.body ≠ .dead → φ q B.ver = some (A, x) → S1 A) (hb1 : ∀ A x, φ b v = some (A, x) → ¬ S1 A) (hne : ∀ b2 v2 s xs, rowJ h j cs = some (b2, v2, s, xs) → b2 ≠ b ∧ ∀ A x, φ b2 v2 = some (A, x) → ¬ S1 A) :
  ∃ φ1 : Phi, φ1 0 1 = φ b v ∧ HRel w S1 φ1 (methHeap j n cin (rowJ h j cs)) ∧ (∀ A, Own φ1 (methHeap j n cin (rowJ h j cs)) A → (∃ x, φ b v = some (A, x)) ∨ ∃ b2 v2 s xs x, rowJ h j cs = some (b2, v2, s, xs) ∧ φ b2 v2 = some (A, x)) := by
 obtain ⟨c1, c2⟩ := cellsTo_get hin
 have h0 := H.blk b _ hB
 -- the table
 obtain ⟨φ1, hφ1⟩ : ∃ φ1 : Phi, φ1 = fun i u => if i = 0 ∧ u = 1 then φ b v else if i = 1 ∧ u = 1 then (match rowJ h j cs with | some (b2, v2, _, _) => φ b2 v2 | none => none) else none := ⟨_, rfl⟩
 have p0 : φ1 0 1 = φ b v := by rw [hφ1]; simp
 have p1 : ∀ b2 v2 s xs, rowJ h j cs = some (b2, v2, s, xs) → φ1 1 1 = φ b2 v2 := fun b2 v2 s xs e => by rw [hφ1]; simp [e]
 have pinv : ∀ i u y, φ1 i u = some y → (i = 0 ∧ u = 1 ∧ φ b v = some y) ∨ (i = 1 ∧ u = 1 ∧ ∃ b2 v2 s xs, rowJ h j cs = some (b2, v2, s, xs) ∧ φ b2 v2 = some y) := fun i u y e => by
  rw [hφ1] at e
  simp only at e
  split at e
  ·rename_i hc; exact .inl ⟨hc.1, hc.2, e⟩
  ·split at e
   ·rename_i hc
    split at e
    ·rename_i b2 v2 s xs hr; exact .inr ⟨hc.1, hc.2, b2, v2, s, xs, hr, e⟩
    ·cases e
   ·cases e
 have hcell : ∀ (k : Nat) (x : Value) (c c' : D), cs[k]? = some c → cin[k]? = some c' → VRel w S φ x c → VRel w S1 φ1 x c' := fun k x c c' k1 k2 r => by
  obtain ⟨ty, e⟩ := c2 k c c' k1 k2
  rw [Nat.zero_add] at e
  refine cellTo_sound H hS r e (fun hj q hq B A y g1 g2 g3 => hfz q (reachO_mem k1 (by rwa [Nat.zero_add]) hq) B A y g1 g2 g3) fun hj b2 v2 s len hc => ?_
  subst hc
  subst hj
  obtain ⟨xs, hr⟩ := rowJ_of k1 e
  exact p1 _ _ _ _ hr
 have wide : D.wide n (.agg cin) := ⟨hn, hone⟩
 have hblk0 : BRel w S1 φ1 0 ⟨1, false, .rows n [.agg cin]⟩ := by
  cases h0 with
  | @rows _ _ _ _ A nn c T hφ hA hnn hl hsz hx hSA =>
   refine .rows (p0.trans hφ) hA hnn (by simpa using hl) (fun i d e => ?_) (fun i d k e' g1 g2 => ?_) (by rw [if_neg (by simp)]; exact hb1 A _ hφ)
   ·have : d = .agg cin := by
     cases i with
     | zero => simp at e; exact e.symm
     | succ i => simp at e
    rw [this]; exact wide
   ·cases i with
    | succ i => simp at g1
    | zero =>
     simp at g1
     subst g1
     have g2' : cin[k]? = some e' := g2
     have hk : k < cs.length := by rw [← c1]; exact (List.getElem?_eq_some_iff.1 g2').1
     obtain ⟨x, q1, q2⟩ := hx 0 (.agg cs) k cs[k] rfl (List.getElem?_eq_getElem hk)
     exact ⟨x, q1, hcell k x _ _ (List.getElem?_eq_getElem hk) g2' q2⟩
 refine ⟨φ1, p0, ⟨fun i B e => ?_, fun i i' B B' A x x' e e' hd hd' hp hp' => ?_, fun i u y hp => ?_, hlt⟩, fun A ho => ?_⟩
 ·cases i with
  | zero =>
   have : B = ⟨1, false, .rows n [.agg cin]⟩ := by simp [methHeap] at e; exact e.symm
   rw [this]; exact hblk0
  | succ i =>
   cases j with
   | none => simp [methHeap] at e
   | some j0 =>
    cases i with
    | succ i => simp [methHeap] at e
    | zero =>
     simp only [methHeap, List.getElem?_cons_succ, List.getElem?_cons_zero, Option.some.injEq] at e
     cases hr : rowJ h (some j0) cs with
     | none => rw [hr] at e; subst e; exact .dead
     | some q =>
      obtain ⟨b2, v2, s, xs⟩ := q
      rw [hr] at e
      subst e
      obtain ⟨j1, _, _, B2, k1, k2, k3, k4, k5, _⟩ := rowJ_some hr
      have hb2 := H.blk b2 B2 k1
      obtain ⟨ver, fz, body⟩ := B2
      simp only at k2 k3 k4
      subst k2 k3 k4
      have pp := p1 _ _ _ _ hr
      cases hb2 with
      | @rows _ _ _ _ A nn c T hφ hA hnn hl hsz hx hSA =>
       refine .rows (pp.trans hφ) hA hnn hl hsz (fun i d k e' g1 g2 => ?_) (by rw [if_neg (by simp)]; exact (hne _ _ _ _ hr).2 A _ hφ)
       obtain ⟨x, q1, q2⟩ := hx i d k e' g1 g2
       exact ⟨x, q1, ((isT_vrel 2 q2 (k5 d (List.mem_of_getElem? g1) e' (List.mem_of_getElem? g2))).to hS).ofNo⟩
      | rows0 hφ => exact .rows0 (pp.trans hφ)
 ·rcases pinv _ _ _ hp with ⟨rfl, _, q⟩ | ⟨rfl, _, b2, v2, s, xs, hr, q⟩
  ·rcases pinv _ _ _ hp' with ⟨rfl, _, q'⟩ | ⟨rfl, _, b2, v2, s, xs, hr, q'⟩
   ·rfl
   ·obtain ⟨j1, _, _, B2, k1, k2, k3, k4, k5, _⟩ := rowJ_some hr
    subst k2
    exact absurd (H.inj b2 b B2 _ A x' x k1 hB (by rw [k4]; simp) (by simp) q' q) (hne _ _ _ _ hr).1
  ·rcases pinv _ _ _ hp' with ⟨rfl, _, q'⟩ | ⟨rfl, _, b3, v3, s3, xs3, hr', q'⟩
   ·obtain ⟨j1, _, _, B2, k1, k2, k3, k4, k5, _⟩ := rowJ_some hr
    subst k2
    exact absurd (H.inj b2 b B2 _ A x x' k1 hB (by rw [k4]; simp) (by simp) q q') (hne _ _ _ _ hr).1
   ·rfl
 ·rcases pinv _ _ _ hp with ⟨rfl, rfl, q⟩ | ⟨rfl, rfl, b2, v2, s, xs, hr, q⟩
  ·exact ⟨_, rfl, Nat.le_refl _, Nat.le_refl _⟩
  ·obtain ⟨j1, hj, _⟩ := rowJ_some hr
   subst hj
   refine ⟨⟨1, false, .rows s xs⟩, ?_, Nat.le_refl _, Nat.le_refl _⟩
   simp only [methHeap, hr, List.getElem?_cons_succ, List.getElem?_cons_zero]
 ·obtain ⟨i, B, x, e, hd, hf, hp⟩ := ho
  rcases pinv _ _ _ hp with ⟨rfl, _, q⟩ | ⟨rfl, _, b2, v2, s, xs, hr, q⟩
  ·exact .inl ⟨x, q⟩
  ·exact .inr ⟨b2, v2, s, xs, x, hr, q⟩
theorem place_back {hk : Heap} (K : HRel w S φ hk) {b v n A nn : Nat} {cout : List D} {c : Array Value} {T : TypeId} (hp : φ b v = some (A, n, nn)) (hAS : ¬ S A) (hA : w.heap[A]? = some (.cells c T (0, 0))) (hnn : c.size = nn) (hl : n ≤ nn)
  (hkb : ∃ B, hk[b]? = some B ∧ B.ver = v) (hno : ∀ i B x, i ≠ b → hk[i]? = some B → B.body ≠ .dead → φ i B.ver ≠ some (A, x)) (hw : cout.length = n ∧ cout.all D.one = true)
  (hcells : ∀ (k : Nat) (e : D), cout[k]? = some e → ∃ x, c[k]? = some x ∧ VRel w S φ x e) (hb : h'[b]? = some ⟨v, false, .rows n [.agg cout]⟩) (ho : ∀ i, i ≠ b → h'[i]? = hk[i]?) : HRel w S φ h' := by
 refine placeH K (w' := w) (A := A) (y := (n, nn)) (b := b) (v := v) (body := .rows n [.agg cout]) (h' := h') (φ' := φ) (Nat.le_refl _) (fun _ _ _ => rfl) hAS hb
  (fun i B hi e => ?_) hp (fun _ _ _ g => g) (fun _ _ _ g => .inl g) (fun i u x g => ?_) ?_
 ·rw [ho i hi] at e
  by_cases hd : B.body = .dead
  ·exact ⟨B, e, rfl, .inl hd⟩
  ·exact ⟨B, e, rfl, .inr ⟨rfl, fun x => hno i B x hi e hd⟩⟩
 ·obtain ⟨B2, m1, m2, m3⟩ := K.dom _ _ _ g
  by_cases hi : i = b
  ·subst hi
   obtain ⟨B, k1, k2⟩ := hkb
   rw [k1] at m1; cases m1
   exact ⟨_, hb, m2, by simp only; omega⟩
  ·exact ⟨B2, by rw [ho i hi]; exact m1, m2, m3⟩
 ·refine .rows hp hA hnn (by simpa using hl) (fun i d e => ?_) (fun i d k e' g1 g2 => ?_) (by rw [if_neg (by simp)]; exact hAS)
  ·have : d = .agg cout := by
    cases i with
    | zero => simp at e; exact e.symm
    | succ i => simp at e
   rw [this]; exact hw
  ·cases i with
   | succ i => simp at g1
   | zero =>
    simp at g1
    subst g1
    obtain ⟨x, q1, q2⟩ := hcells k e' g2
    exact ⟨x, by rw [Nat.zero_mul, Nat.zero_add]; exact q1, q2⟩
theorem meth_sound {C : Cx} {call : Run} (hc : CallOk C call) (H : HRel w S φ h) {f : FuncId} {ds : List D} {vs : List Value} {d : D} {base : Nat} {dst : Option Tmp} {j : Option Nat} (rv : VsRel w S φ vs ds)
    (e : methD C call base dst h f ds j = some (d, h')) :
    (∃ fn, C.P.funcs[f]? = some fn ∧ fn.body.isSome = true ∧ (fn.name == "runtime.NumGoroutine") = false) ∧
    Calls C.P f vs.toArray w fun e w' => ∃ v S' φ', e = .returned v ∧ Ext w S φ h w' S' φ' h' ∧ HRel w' S' φ' h' ∧ VRel w' S' φ' v d := by
  unfold methD at e
  split at e <;> try (cases e; done)
  rename_i b v rest
  obtain ⟨fn, hfn, e1⟩ := Option.bind_eq_some_iff.1 e
  clear e
  obtain ⟨t0, ht0, e⟩ := Option.bind_eq_some_iff.1 e1
  clear e1
  obtain ⟨T, hT, e1⟩ := Option.bind_eq_some_iff.1 e
  clear e
  obtain ⟨B, hB, e⟩ := Option.bind_eq_some_iff.1 e1
  clear e1
  split at e <;> try (cases e; done)
  rename_i hBc
  obtain ⟨⟨n, cs⟩, hagg, e1⟩ := Option.bind_eq_some_iff.1 e
  clear e
  obtain ⟨rest', hrest, e⟩ := Option.bind_eq_some_iff.1 e1
  clear e1
  obtain ⟨cin, hcin, e1⟩ := Option.bind_eq_some_iff.1 e
  clear e
  split at e1 <;> try (cases e1; done)
  rename_i hcl
  obtain ⟨⟨d0, r2⟩, hq, e⟩ := Option.bind_eq_some_iff.1 e1
  clear e1
  obtain ⟨B0, hB0, e1⟩ := Option.bind_eq_some_iff.1 e
  clear e
  split at e1 <;> try (cases e1; done)
  rename_i hB0c
  obtain ⟨⟨n', mc⟩, hmagg, e⟩ := Option.bind_eq_some_iff.1 e1
  clear e1
  split at e <;> try (cases e; done)
  rename_i hout
  simp only at hcin hcl hq hB0 hout e
  obtain ⟨hcl, hcn, hc1, hcO⟩ := hcl
  obtain ⟨hocl, hon, hflat⟩ := hout
  subst hon
  have hBe : h[b]? = some ⟨v, false, .rows n' [.agg cs]⟩ := by
    rw [hB]; cases B; simp only at hBc hagg; rw [oneAgg_some hagg, hBc.1, hBc.2]
  have hB0e : r2[0]? = some ⟨1, false, .rows n' [.agg mc]⟩ := by
    rw [hB0]; cases B0; simp only at hB0c hmagg; rw [oneAgg_some hmagg, hB0c.1, hB0c.2]
  obtain ⟨cl1, cl2⟩ := clash_false hcl
  obtain ⟨cl3, cl4⟩ := clash_false hocl
  cases vs with
  | nil => exact absurd rv.1 (by simp)
  | cons pv restv =>
  have rp := rv.head
  have hblk := H.blk b _ hBe
  obtain ⟨A, nn, hp, hpv, hnl⟩ : ∃ A nn, φ b v = some (A, n', nn) ∧ pv = .pointer (some ⟨A, 0, none⟩) ∧ n' ≤ nn := by
    cases rp with
    | @pref _ A _ _ sz nn _ _ hp =>
      cases hblk with
      | rows hφ hA hnn hl hsz hx hSA =>
        rw [hφ] at hp; cases hp
        exact ⟨_, _, hφ, by simp, by simpa using hl⟩
  generalize hL : rest.flatMap (reach h DEPTH) ++ reachO h j 0 cs = L at *
  obtain ⟨f1, f2⟩ := freeze_sound H L
  have hS1 : ∀ q, S q → FS S φ h L q := fun q hq => .inl hq
  generalize hS1e : FS S φ h L = S1 at *
  have hb1 : ∀ A x, φ b v = some (A, x) → ¬ S1 A := fun A x hx hs => by
    rw [← hS1e] at hs
    rcases hs with hs | ⟨q, hq, B', x', k1, k2, k3⟩
    · exact (live_some H hBe (by simp) hx).2.2 rfl hs
    · have := H.inj q b B' _ A x' x k1 hBe k2 (by simp) k3 hx
      exact cl1 (this ▸ hq)
  have hne : ∀ b2 v2 s xs, rowJ h j cs = some (b2, v2, s, xs) → b2 ≠ b ∧ ∀ A x, φ b2 v2 = some (A, x) → ¬ S1 A := fun b2 v2 s xs hr => by
    refine ⟨(cl2 _ _ _ _ hr).2, fun A x hx hs => ?_⟩
    obtain ⟨j0, _, _, B2, k1, k2, k3, k4, _⟩ := rowJ_some hr
    subst k2
    rw [← hS1e] at hs
    rcases hs with hs | ⟨q, hq, B', x', g1, g2, g3⟩
    · exact (live_some H k1 (by rw [k4]; simp) hx).2.2 k3 hs
    · have := H.inj q b2 B' _ A x' x g1 k1 g2 (by rw [k4]; simp) g3 hx
      exact (cl2 _ _ _ _ hr).1 (this ▸ hq)
  obtain ⟨φ1, p0, HM, hown⟩ := meth_in H hS1 f1.lt hBe hcin hcn hc1 (fun q hq => absurd hq (by rw [List.isEmpty_iff.1 hcO]; simp)) hb1 hne
  obtain ⟨g1, g2⟩ := hc f _ _ _ _ hq
  have rl : VsRel w S1 φ1 restv rest' := by
    have r1 := reifyL_sound H rv.tail hrest
    refine ⟨r1.1, fun i x y h1 h2 => ((r1.2 i x y h1 h2).to fun q hq => ?_).ofNo⟩
    rw [← hS1e]
    rcases hq with hq | ⟨q', hq', B', x', k1, k2, k3⟩
    · exact .inl hq
    · exact .inr ⟨q', by rw [← hL]; exact List.mem_append_left _ hq', B', x', k1, k2, k3⟩
  have rp1 : VRel w S1 φ1 pv (.pref 0 1 0 0) := by
    rw [hpv]
    have := VRel.pref (w := w) (S := S1) (i := 0) (off := 0) (p0.trans hp)
    simpa using this
  refine ⟨g1, (g2 w S1 φ1 (pv :: restv) HM (drop_vrel (norm C.P) (fun a v d => norm_sound a) fn.params (VsRel.cons rp1 rl))).mono fun e0 w' k => ?_⟩
  obtain ⟨v0, S', φ', he, hx, hh, hv⟩ := k
  obtain ⟨f1', f2'⟩ := freeze_sound hh (reachO r2 j 0 mc)
  have hS2 : ∀ q, S' q → FS S' φ' r2 (reachO r2 j 0 mc) q := fun q hq => .inl hq
  have p0' : φ' 0 1 = some (A, n', nn) := hx.ph 0 1 _ (p0.trans hp)
  have hb2 : ∀ A x, φ' 0 1 = some (A, x) → ¬ FS S' φ' r2 (reachO r2 j 0 mc) A := fun A x hx' hs => by
    rcases hs with hs | ⟨q, hq, B', x', k1, k2, k3⟩
    · exact (live_some hh hB0e (by simp) hx').2.2 rfl hs
    · have := hh.inj q 0 B' _ A x' x k1 hB0e k2 (by simp) k3 hx'
      exact cl3 (this ▸ hq)
  have hfzO : ∀ q ∈ reachO r2 j 0 mc, ∀ B A x, r2[q]? = some B → B.body ≠ .dead → φ' q B.ver = some (A, x) → FS S' φ' r2 (reachO r2 j 0 mc) A := fun q hq B A x k1 k2 k3 => .inr ⟨q, hq, B, x, k1, k2, k3⟩
  have hnewS : ∀ q, FS S' φ' r2 (reachO r2 j 0 mc) q → S' q ∨ Own φ' r2 q := fun q hq => by
    rcases hq with hq | ⟨r, hr, B', x, k1, k2, k3⟩
    · exact .inl hq
    · cases hf : B'.fz with
      | true => exact .inl ((live_some hh k1 k2 k3).2.1 hf)
      | false => exact .inr ⟨r, B', x, k1, k2, hf, k3⟩
  generalize hS2e : FS S' φ' r2 (reachO r2 j 0 mc) = S2 at *
  -- what the call owns
  obtain ⟨own, hown'⟩ : ∃ own : Nat → Prop, own = fun A => (∃ x, φ b v = some (A, x)) ∨ ∃ b2 v2 s xs x, rowJ h j cs = some (b2, v2, s, xs) ∧ φ b2 v2 = some (A, x) := ⟨_, rfl⟩
  have own1 : ∀ A, Own φ1 (methHeap j n' cin (rowJ h j cs)) A → own A := fun A ho => by rw [hown']; exact hown A ho
  have ownS : ∀ A, own A → ¬ S1 A := fun A ho => by
    rw [hown'] at ho
    rcases ho with ⟨x, ho⟩ | ⟨b2, v2, s, xs, x, hr, ho⟩
    · exact hb1 A x ho
    · exact (hne _ _ _ _ hr).2 A x ho
  have ownO : ∀ A, own A → Own φ h A := fun A ho => by
    rw [hown'] at ho
    rcases ho with ⟨x, ho⟩ | ⟨b2, v2, s, xs, x, hr, ho⟩
    · exact ⟨b, _, x, hBe, by simp, rfl, ho⟩
    · obtain ⟨j0, _, _, B2, k1, k2, k3, k4, _⟩ := rowJ_some hr
      exact ⟨b2, B2, x, k1, by rw [k4]; simp, k3, by rw [k2]; exact ho⟩
  have hnew : ∀ q, S2 q → S1 q ∨ own q ∨ w.heap.size ≤ q := fun q hq => by
    have key : S' q → S1 q ∨ own q ∨ w.heap.size ≤ q := fun hq => by
      rcases hx.new q hq with g | g | g
      · exact .inl g
      · exact .inr (.inl (own1 q g))
      · exact .inr (.inr g)
    rcases hnewS q hq with g | g
    · exact key g
    · rcases hx.own q g with g | g
      · exact .inr (.inl (own1 q g))
      · exact .inr (.inr g)
  have hsub : ∀ q, S1 q → S2 q := fun q hq => hS2 q (hx.sub q hq)
  -- the caller's rows, but for those that were handed over
  obtain ⟨h2, hh2⟩ : ∃ h2, h2 = handedH (freeze h L) (rowJ h j cs) := ⟨_, rfl⟩
  have h2get : ∀ (i : Nat) (B : Blk), h2[i]? = some B → ∃ B1, (freeze h L)[i]? = some B1 ∧ B.ver = B1.ver ∧ (B.body = .dead ∨ (B = B1 ∧ ∀ b2 v2 s xs, rowJ h j cs = some (b2, v2, s, xs) → i ≠ b2)) := fun i B e => by
    rw [hh2] at e
    cases hr : rowJ h j cs with
    | none => rw [hr] at e; exact ⟨B, e, rfl, .inr ⟨rfl, fun _ _ _ _ h => by cases h⟩⟩
    | some q =>
      obtain ⟨b2, v2, s, xs⟩ := q
      rw [hr] at e
      simp only [handedH, kill_get] at e
      split at e
      · obtain ⟨B1, k1, k2⟩ := Option.map_eq_some_iff.1 e
        subst k2
        exact ⟨B1, k1, rfl, .inl rfl⟩
      · rename_i hi
        exact ⟨B, e, rfl, .inr ⟨rfl, fun _ _ _ _ h => by cases h; exact hi⟩⟩
  have h2len : h2.length = h.length := by
    rw [hh2]
    unfold handedH
    have : ∀ l : List Nat, ∀ h : Heap, (freeze h l).length = h.length := fun l => by
      induction l with
      | nil => intro h; rfl
      | cons a l ih => intro h; exact (ih (mark h a)).trans (by simp [mark])
    split
    · have kl : ∀ (h : Heap) (b : Nat), (kill1 h b).length = h.length := fun h b => by unfold kill1; split <;> simp
      rw [kl, this]
    · exact this _ _
  have hfb : (freeze h L)[b]? = some ⟨v, false, .rows n' [.agg cs]⟩ := by rw [freeze_get, if_neg cl1]; exact hBe
  have hf2 : ∀ b2 v2 s xs, rowJ h j cs = some (b2, v2, s, xs) → ∃ B2, (freeze h L)[b2]? = some B2 ∧ B2.ver = v2 ∧ B2.body ≠ .dead := fun b2 v2 s xs hr => by
    obtain ⟨j0, _, _, B2, k1, k2, k3, k4, _⟩ := rowJ_some hr
    exact ⟨B2, by rw [freeze_get, if_neg (cl2 _ _ _ _ hr).1]; exact k1, k2, by rw [k4]; simp⟩
  have hnoown : ∀ i B, i ≠ b → h2[i]? = some B → B.body ≠ .dead → ∀ A x, φ i B.ver = some (A, x) → ¬ own A := fun i B hi e hd A x hpx ho => by
    obtain ⟨B1, k1, k2, k3⟩ := h2get i B e
    rcases k3 with k3 | ⟨rfl, k3⟩
    · exact hd k3
    · rw [hown'] at ho
      rcases ho with ⟨x', ho⟩ | ⟨b2, v2, s, xs, x', hr, ho⟩
      · exact hi (f1.inj i b B _ A x x' k1 hfb hd (by simp) hpx ho)
      · obtain ⟨B2, q1, q2, q3⟩ := hf2 _ _ _ _ hr
        subst q2
        exact k3 _ _ _ _ hr (f1.inj i b2 B B2 A x x' k1 q1 hd q3 hpx ho)
  obtain ⟨hk, hhk⟩ : ∃ hk, hk = kill1 h2 b := ⟨_, rfl⟩
  have hkget : ∀ i, i ≠ b → hk[i]? = h2[i]? := fun i hi => by rw [hhk, kill_get, if_neg hi]
  have h2b : ∃ B, h2[b]? = some B ∧ B.ver = v := by
    have hlt : b < h2.length := by rw [h2len]; exact (List.getElem?_eq_some_iff.1 hBe).1
    obtain ⟨B1, k1, k2, _⟩ := h2get b h2[b] (List.getElem?_eq_getElem hlt)
    rw [hfb] at k1; cases k1
    exact ⟨_, List.getElem?_eq_getElem hlt, k2⟩
  have hkb : ∃ B, hk[b]? = some B ∧ B.ver = v ∧ B.body = .dead := by
    obtain ⟨B, k1, k2⟩ := h2b
    exact ⟨{ B with body := .dead }, by rw [hhk, kill_get, if_pos rfl, k1]; rfl, k2, rfl⟩
  have K : HRel w' S2 φ hk := mask_keep f1 (own := own) hsub hnew f1'.lt (fun A hA hno => hx.same A hA fun ho => hno (own1 A ho)) ownS
    (fun i B em => by
      by_cases hi : i = b
      · subst hi
        obtain ⟨B2, k1, k2, k3⟩ := hkb
        rw [k1] at em; cases em
        exact ⟨_, hfb, k2, .inl k3⟩
      · rw [hkget i hi] at em
        obtain ⟨B1, k1, k2, k3⟩ := h2get i B em
        by_cases hd : B.body = .dead
        · exact ⟨B1, k1, k2, .inl hd⟩
        · rcases k3 with k3 | ⟨rfl, _⟩
          · exact absurd k3 hd
          · exact ⟨B, k1, rfl, .inr ⟨rfl, fun A x hpx _ => hnoown i B hi em hd A x hpx⟩⟩)
    (by rw [hhk]; unfold kill1; split <;> simp [h2len, show (freeze h L).length = h.length from by rw [← h2len]; exact (by
          have kl : ∀ (l : List Nat) (h : Heap), (freeze h l).length = h.length := fun l => by
            induction l with
            | nil => intro h; rfl
            | cons a l ih => intro h; exact (ih (mark h a)).trans (by simp [mark])
          rw [h2len, kl])])
  -- the row that comes back
  obtain ⟨c, Tc, hA, hnn, hcell⟩ : ∃ c Tc, w'.heap[A]? = some (.cells c Tc (0, 0)) ∧ c.size = nn ∧ ∀ (k : Nat) (e : D), mc[k]? = some e → ∃ x, c[k]? = some x ∧ VRel w' S' φ' x e := by
    cases hh.blk 0 _ hB0e with
    | rows hφ hA hnn hl hsz hx2 hSA =>
      rw [hφ] at p0'; cases p0'
      refine ⟨_, _, hA, hnn, fun k e g => ?_⟩
      obtain ⟨x, q1, q2⟩ := hx2 0 (.agg mc) k e rfl g
      exact ⟨x, by simpa using q1, q2⟩
  have hAS : ¬ S2 A := hb2 A _ p0'
  have hext : ∀ {φ3 : Phi} {h3 : Heap}, (∀ i u x, φ i u = some x → φ3 i u = some x) → (∀ i B, i ≠ b → h3[i]? = some B → B.body ≠ .dead → B.fz = false → ∀ A x, φ3 i B.ver = some (A, x) → (h2[i]? = some B ∧ φ i B.ver = some (A, x)) ∨ own A ∨ w.heap.size ≤ A) →
      (∃ B, h3[b]? = some B ∧ B.ver = v) → φ3 b v = φ b v → Ext w S φ h w' S2 φ3 h3 := fun {φ3 h3} hup hin hb3 hφ3 => by
    refine ⟨hx.os, hx.tape, hx.output, hx.size, fun q hq => hsub q (hS1 q hq), hup, fun A hA hno => hx.same A hA fun ho => hno (ownO A (own1 A ho)), fun q hq => ?_, fun A ho => ?_⟩
    · rcases hnew q hq with g | g | g
      · exact (f2.new q g)
      · exact .inr (.inl (ownO q g))
      · exact .inr (.inr g)
    · obtain ⟨i, B, x, m1, m2, m3, m4⟩ := ho
      by_cases hi : i = b
      · subst hi
        obtain ⟨B3, k1, k2⟩ := hb3
        rw [k1] at m1; cases m1
        rw [k2, hφ3] at m4
        exact .inl ⟨i, _, x, hBe, by simp, rfl, m4⟩
      · rcases hin i B hi m1 m2 m3 A x m4 with ⟨g1, g2⟩ | g | g
        · obtain ⟨B1, k1, k2, k3⟩ := h2get i B g1
          rcases k3 with k3 | ⟨rfl, _⟩
          · exact absurd k3 m2
          · rw [freeze_get] at k1
            split at k1
            · obtain ⟨B4, _, q2⟩ := Option.map_eq_some_iff.1 k1
              rw [← q2] at m3; cases m3
            · exact .inl ⟨i, B, x, k1, m2, m3, g2⟩
        · exact .inl (ownO A g)
        · exact .inr g
  rw [← hh2] at e
  have hblt : b < h2.length := by rw [h2len]; exact (List.getElem?_eq_some_iff.1 hBe).1
  split at e
  · -- no row stays
    rename_i hrn
    obtain ⟨cout, hco, e⟩ := Option.bind_eq_some_iff.1 e
    split at e <;> try (cases e; done)
    rename_i hcc
    cases e
    obtain ⟨c3, c4⟩ := cellsTo_get hco
    have hset : (h2.set b ⟨v, false, .rows n' [.agg cout]⟩)[b]? = some ⟨v, false, .rows n' [.agg cout]⟩ := List.getElem?_set_self hblt
    refine ⟨v0, S2, φ, he, hext (fun _ _ _ g => g) (fun i B hi m1 _ _ A x m4 => .inl ⟨by rwa [List.getElem?_set_ne (Ne.symm hi)] at m1, m4⟩) ⟨_, hset, rfl⟩ rfl, ?_, flat_vrel 3 hv hflat⟩
    refine place_back K hp hAS hA hnn hnl (let ⟨B, k1, k2, _⟩ := hkb; ⟨B, k1, k2⟩) (fun i B x hi k1 k2 hpx => ?_) hcc (fun k e g => ?_) hset (fun i hi => by rw [List.getElem?_set_ne (Ne.symm hi), hkget i hi])
    · rw [hkget i hi] at k1
      exact hnoown i B hi k1 k2 A x hpx (by rw [hown']; exact .inl ⟨_, hp⟩)
    · have hk' : k < mc.length := by rw [← c3]; exact (List.getElem?_eq_some_iff.1 g).1
      obtain ⟨x, q1, q2⟩ := hcell k mc[k] (List.getElem?_eq_getElem hk')
      obtain ⟨ty, q3⟩ := c4 k _ _ (List.getElem?_eq_getElem hk') g
      rw [Nat.zero_add] at q3
      refine ⟨x, q1, cellTo_sound hh hS2 q2 q3 (fun hj q hq B A y k1 k2 k3 => hfzO q (reachO_mem (List.getElem?_eq_getElem hk') (by rwa [Nat.zero_add]) hq) B A y k1 k2 k3) fun hj b2 v2 s len hc => ?_⟩
      subst hj
      rw [hc] at q3
      obtain ⟨xs, hr⟩ := rowJ_of (by rw [List.getElem?_eq_getElem hk', hc]) q3
      rw [hr] at hrn; cases hrn
  · -- a row stays
    rename_i b2 v2 s xs hrs
    obtain ⟨t, ht, e1⟩ := Option.bind_eq_some_iff.1 e
    clear e
    obtain ⟨Bd, hBd, e⟩ := Option.bind_eq_some_iff.1 e1
    clear e1
    obtain ⟨cout, hco, e1⟩ := Option.bind_eq_some_iff.1 e
    clear e
    split at e1 <;> try (cases e1; done)
    rename_i hcc
    cases e1
    obtain ⟨hbt, hcc1, hcc2⟩ := hcc
    obtain ⟨c3, c4⟩ := cellsTo_get hco
    obtain ⟨j0, hj0, hc0, B2, k1, k2, k3, k4, k5, k6⟩ := rowJ_some hrs
    -- its block
    obtain ⟨A2, n2, c2, T2, hp2, hA2, hn2, hl2, hsz2, hx2⟩ : ∃ A2 n2 c2 T2, φ' b2 v2 = some (A2, s, n2) ∧ w'.heap[A2]? = some (.cells c2 T2 (0, 0)) ∧ c2.size = n2 ∧ xs.length * s ≤ n2 ∧ (∀ (i : Nat) (d : D), xs[i]? = some d → d.wide s) ∧
        ∀ (i : Nat) (d : D) (k : Nat) (e : D), xs[i]? = some d → d.cells[k]? = some e → ∃ x, c2[i * s + k]? = some x ∧ VRel w' S' noPhi x e := by
      have hb := hh.blk b2 B2 k1
      obtain ⟨ver, fz, body⟩ := B2
      simp only at k2 k3 k4
      subst k2 k3 k4
      cases hb with
      | rows hφ hA hnn hl hsz hx hSA =>
        refine ⟨_, _, _, _, hφ, hA, hnn, hl, hsz, fun i d k e g1 g2 => ?_⟩
        obtain ⟨x, q1, q2⟩ := hx i d k e g1 g2
        exact ⟨x, q1, isT_vrel 2 q2 (k5 d (List.mem_of_getElem? g1) e (List.mem_of_getElem? g2))⟩
      | rows0 hφ => exact absurd rfl k6
    have hl2' : B2.body ≠ .dead := by rw [k4]; simp
    have hp2' : φ' b2 B2.ver = some (A2, s, n2) := by rw [k2]; exact hp2
    have hA2S : ¬ S2 A2 := fun hs => by
      rcases hnewS A2 hs with g | ⟨r, B', x, m1, m2, m3, m4⟩
      · exact (live_some hh k1 hl2' hp2').2.2 k3 g
      · rw [← hS2e] at hs
        rcases hs with g | ⟨r, hr, B', x, m1, m2, m4⟩
        · exact (live_some hh k1 hl2' hp2').2.2 k3 g
        · have := hh.inj r b2 B' B2 A2 x (s, n2) m1 k1 m2 hl2' m4 hp2'
          exact (cl4 _ _ _ _ hrs).1 (this ▸ hr)
    have hAA : A2 ≠ A := fun e => (cl4 _ _ _ _ hrs).2 (hh.inj b2 0 B2 _ A2 (s, n2) (n', nn) k1 hB0e hl2' (by simp) hp2' (by rw [e]; exact p0'))
    have hA2o : own A2 ∨ w.heap.size ≤ A2 := by
      rcases hx.own A2 ⟨b2, B2, _, k1, hl2', k3, hp2'⟩ with g | g
      · exact .inl (own1 _ g)
      · exact .inr g
    have hnoA2 : ∀ i B x, i ≠ b → h2[i]? = some B → B.body ≠ .dead → φ i B.ver ≠ some (A2, x) := fun i B x hi m1 m2 m3 => by
      rcases hA2o with g | g
      · exact hnoown i B hi m1 m2 A2 x m3 g
      · obtain ⟨B1, q1, q2, q3⟩ := h2get i B m1
        rcases q3 with q3 | ⟨rfl, _⟩
        · exact m2 q3
        · have := (live_some f1 q1 m2 m3).1; omega
    have hBdk : hk[base + t]? = some Bd := by rw [hkget _ hbt]; exact hBd
    have hltk : base + t < hk.length := (List.getElem?_eq_some_iff.1 hBdk).1
    have K2 : HRel w' S2 (newPhi φ (base + t) (Bd.ver + 1) (A2, s, n2)) (hk.set (base + t) ⟨Bd.ver + 1, false, .rows s xs⟩) :=
      placeH K (w' := w') (A := A2) (y := (s, n2)) (b := base + t) (v := Bd.ver + 1) (body := .rows s xs) (Nat.le_refl _) (fun _ _ _ => rfl) hA2S (by rw [List.getElem?_set_self hltk])
        (fun i B' hi e => by
          rw [List.getElem?_set_ne (Ne.symm hi)] at e
          by_cases hd : B'.body = .dead
          · exact ⟨B', e, rfl, .inl hd⟩
          · refine ⟨B', e, rfl, .inr ⟨rfl, fun x hpx => ?_⟩⟩
            by_cases hib : i = b
            · subst hib
              obtain ⟨B3, q1, q2, q3⟩ := hkb
              rw [q1] at e; cases e
              exact hd q3
            · rw [hkget i hib] at e
              exact hnoA2 i B' x hib e hd hpx)
        (newPhi_at _ _ _ _) (newPhi_up K hBdk (Nat.lt_succ_self _) _) newPhi_inv
        (fun i u x hpx => by
          rcases newPhi_inv _ _ _ hpx with g | ⟨rfl, rfl⟩
          · obtain ⟨B3, m1, m2, m3⟩ := K.dom _ _ _ g
            by_cases hi : i = base + t
            · subst hi
              rw [hBdk] at m1; cases m1
              exact ⟨_, List.getElem?_set_self hltk, m2, by simp; omega⟩
            · exact ⟨B3, by rw [List.getElem?_set_ne (Ne.symm hi)]; exact m1, m2, m3⟩
          · exact ⟨_, List.getElem?_set_self hltk, by omega, by simp⟩)
        (.mk (sz := s) (c := c2) (T := T2) (by rw [newPhi_at, hn2]) hA2 ⟨rfl, by rw [hn2]; exact hl2, hsz2, fun i d k e g1 g2 => let ⟨x, q1, q2⟩ := hx2 i d k e g1 g2; ⟨x, q1, (q2.to hS2).ofNo⟩⟩ (by rw [if_neg (by simp)]; exact hA2S))
    have hφb : newPhi φ (base + t) (Bd.ver + 1) (A2, s, n2) b v = φ b v := by
      unfold newPhi; rw [if_neg (fun g => hbt g.1.symm)]
    have hlt2 : base + t < h2.length := (List.getElem?_eq_some_iff.1 hBd).1
    have hset : ((h2.set (base + t) ⟨Bd.ver + 1, false, .rows s xs⟩).set b ⟨v, false, .rows n' [.agg cout]⟩)[b]? = some ⟨v, false, .rows n' [.agg cout]⟩ := List.getElem?_set_self (by simpa using hblt)
    have hold : ∀ i, i ≠ b → ((h2.set (base + t) ⟨Bd.ver + 1, false, .rows s xs⟩).set b ⟨v, false, .rows n' [.agg cout]⟩)[i]? = (hk.set (base + t) ⟨Bd.ver + 1, false, .rows s xs⟩)[i]? := fun i hi => by
      rw [List.getElem?_set_ne (Ne.symm hi)]
      by_cases hit : i = base + t
      · subst hit; rw [List.getElem?_set_self hlt2, List.getElem?_set_self hltk]
      · rw [List.getElem?_set_ne (Ne.symm hit), List.getElem?_set_ne (Ne.symm hit), hkget i hi]
    refine ⟨v0, S2, newPhi φ (base + t) (Bd.ver + 1) (A2, s, n2), he, hext (newPhi_up K hBdk (Nat.lt_succ_self _) _) (fun i B hi m1 m2 m3 A x m4 => ?_) ⟨_, hset, rfl⟩ hφb, ?_, flat_vrel 3 hv hflat⟩
    · rw [List.getElem?_set_ne (Ne.symm hi)] at m1
      by_cases hit : i = base + t
      · subst hit
        rw [List.getElem?_set_self hlt2] at m1; cases m1
        rw [newPhi_at] at m4; cases m4
        exact .inr hA2o
      · rw [List.getElem?_set_ne (Ne.symm hit)] at m1
        rcases newPhi_inv _ _ _ m4 with g | g
        · exact .inl ⟨m1, g⟩
        · exact absurd g.1 hit
    · refine place_back K2 (hφb.trans hp) hAS hA hnn hnl ?_ (fun i B x hi q1 q2 hpx => ?_) ⟨hcc1, hcc2⟩ (fun k e g => ?_) hset hold
      · obtain ⟨B3, q1, q2, _⟩ := hkb
        exact ⟨B3, by rw [List.getElem?_set_ne hbt]; exact q1, q2⟩
      · by_cases hit : i = base + t
        · subst hit
          rw [List.getElem?_set_self hltk] at q1; cases q1
          rw [newPhi_at] at hpx; cases hpx
          exact hAA rfl
        · rw [List.getElem?_set_ne (Ne.symm hit), hkget i hi] at q1
          rcases newPhi_inv _ _ _ hpx with g | g
          · exact hnoown i B hi q1 q2 A x g (by rw [hown']; exact .inl ⟨_, hp⟩)
          · exact hit g.1
      · have hk' : k < mc.length := by rw [← c3]; exact (List.getElem?_eq_some_iff.1 g).1
        obtain ⟨x, q1, q2⟩ := hcell k mc[k] (List.getElem?_eq_getElem hk')
        obtain ⟨ty, q3⟩ := c4 k _ _ (List.getElem?_eq_getElem hk') g
        rw [Nat.zero_add] at q3
        refine ⟨x, q1, cellTo_sound hh hS2 q2 q3 (fun hj q hq B A y m1 m2 m3 => hfzO q (reachO_mem (List.getElem?_eq_getElem hk') (by rwa [Nat.zero_add]) hq) B A y m1 m2 m3) fun hj b3 v3 s3 len hc => ?_⟩
        rw [hj0] at hj
        cases hj
        rw [List.getElem?_eq_getElem hk', hc] at hc0
        cases hc0
        rw [newPhi_at, hp2]
theorem meth_fn {C : Cx} {call : Run} (hc : CallOk C call) {f : FuncId} {ds : List D} {d : D} {base : Nat} {dst : Option Tmp} {j : Option Nat} (e : methD C call base dst h f ds j = some (d, h')) :
  ∃ fn, C.P.funcs[f]? = some fn ∧ fn.body.isSome = true ∧ (fn.name == "runtime.NumGoroutine") = false := by
 unfold methD at e
 split at e <;> try (cases e; done)
 obtain ⟨fn, hfn, e1⟩ := Option.bind_eq_some_iff.1 e
 clear e
 obtain ⟨t0, ht0, e⟩ := Option.bind_eq_some_iff.1 e1
 clear e1
 obtain ⟨T, hT, e1⟩ := Option.bind_eq_some_iff.1 e
 clear e
 obtain ⟨B, hB, e⟩ := Option.bind_eq_some_iff.1 e1
 clear e1
 split at e <;> try (cases e; done)
 obtain ⟨⟨n, cs⟩, hagg, e1⟩ := Option.bind_eq_some_iff.1 e
 clear e
 obtain ⟨rest', hrest, e⟩ := Option.bind_eq_some_iff.1 e1
 clear e1
 obtain ⟨cin, hcin, e1⟩ := Option.bind_eq_some_iff.1 e
 clear e
 split at e1 <;> try (cases e1; done)
 obtain ⟨⟨d0, r2⟩, hq, e⟩ := Option.bind_eq_some_iff.1 e1
 exact (hc f _ _ _ _ hq).1
theorem same_sound {kd : TypeDesc} {k v : Value} {d e : D} (rk : VRel w S φ k d) (rv : VRel w S φ v e) {b : Bool} (h : sameD kd d e = some b) : Instr.sameNow kd k v = some b := by
 unfold sameD at h
 split at h
 ·cases rk; cases rv
  split at h
  ·rename_i hk
   simp only [Instr.sameNow, if_pos hk.1]; exact h
  ·cases h
 ·cases rk; cases rv; exact h
 ·cases rk; cases rv; exact h
 ·cases h
theorem key_of {kd : TypeDesc} {k : Value} {d : D} (rk : VRel w S φ k d) (h : sameD kd d d = some true) : MapKept.IsKey kd k := by
 unfold sameD at h
 split at h
 ·cases rk
  split at h
  ·simp_all [MapKept.IsKey]
  ·cases h
 ·cases rk; trivial
 ·cases rk; trivial
 ·cases h
def Entries (w : World) (S : Nat → Prop) (φ : Phi) (ms : List MapEntry) (es : List (D × D)) : Prop := ms.length = es.length ∧ ∀ (j : Nat) (e : D × D), es[j]? = some e → ∃ m, ms[j]? = some m ∧ VRel w S φ m.key e.1 ∧ VRel w S φ m.val e.2
theorem find_none {kd : TypeDesc} {k : Value} {d : D} (rk : VRel w S φ k d) : ∀ (es : List (D × D)) (ms : List MapEntry) (i : Nat), Entries w S φ ms es → findD kd d es i = some none → Instr.findNow kd k ms i = some none
 | [], ms, i, hx, h => by
  have : ms = [] := List.length_eq_zero_iff.1 hx.1
  subst this
  rfl
 | e :: es, ms, i, hx, h => by
  cases ms with
  | nil => exact absurd hx.1 (by simp)
  | cons m ms =>
   obtain ⟨m', h1, h2, h3⟩ := hx.2 0 e rfl
   simp at h1; subst h1
   rw [findD] at h
   rw [Instr.findNow]
   cases hs : sameD kd d e.1 with
   | none => rw [hs] at h; cases h
   | some b =>
    rw [hs] at h
    rw [same_sound rk h2 hs]
    cases b with
    | true => cases h
    | false =>
     exact find_none rk es ms (i + 1) ⟨by simpa using hx.1, fun j x g => by
      obtain ⟨m2, q1, q2⟩ := hx.2 (j + 1) x (by simpa using g)
      exact ⟨m2, by simpa using q1, q2⟩⟩ h
theorem find_some {kd : TypeDesc} {k : Value} {d : D} (rk : VRel w S φ k d) : ∀ (es : List (D × D)) (ms : List MapEntry) (i : Nat) {j : Nat} {x : D}, Entries w S φ ms es → findD kd d es i = some (some (j, x)) →
  ∃ m, Instr.findNow kd k ms i = some (some (j, m.val)) ∧ VRel w S φ m.val x ∧ i ≤ j ∧ ms[j - i]? = some m ∧ Instr.sameNow kd k m.key = some true
 | [], ms, i, j, x, hx, h => by simp [findD] at h
 | e :: es, ms, i, j, x, hx, h => by
  cases ms with
  | nil => exact absurd hx.1 (by simp)
  | cons m ms =>
   obtain ⟨m', h1, h2, h3⟩ := hx.2 0 e rfl
   simp at h1; subst h1
   rw [findD] at h
   rw [Instr.findNow]
   cases hs : sameD kd d e.1 with
   | none => rw [hs] at h; cases h
   | some b =>
    rw [hs] at h
    rw [same_sound rk h2 hs]
    cases b with
    | true => cases h; exact ⟨m, rfl, h3, Nat.le_refl _, by simp, same_sound rk h2 hs⟩
    | false =>
     obtain ⟨m2, q1, q2, q3, q4, q5⟩ := find_some rk es ms (i + 1) ⟨by simpa using hx.1, fun j x g => by
      obtain ⟨m2, q1, q2⟩ := hx.2 (j + 1) x (by simpa using g)
      exact ⟨m2, by simpa using q1, q2⟩⟩ h
     refine ⟨m2, q1, q2, by omega, ?_, q5⟩
     rw [show j - i = (j - (i + 1)) + 1 by omega]
     simpa using q4
theorem map_at (H : HRel w S φ h) {m : Value} {d : D} (rm : VRel w S φ m d) {es : List (D × D)} (e : mapAt h d = some es) :
  (m = .map none ∧ es = []) ∨ ∃ A ms clock, m = .map (some A) ∧ w.heap[A]? = some (.map ms clock) ∧ Entries w S φ ms.toList es := by
 unfold mapAt at e
 split at e
 ·cases e; cases rm; exact .inl ⟨rfl, rfl⟩
 ·rename_i ks vs
  cases e
  cases rm with
  | @mlit _ A ms clock _ _ hS hA hk hv hx hy =>
   refine .inr ⟨A, ms, clock, rfl, hA, by simp [← hk, ← hv], fun j e g => ?_⟩
   rw [List.getElem?_zip_eq_some] at g
   obtain ⟨g1, g2⟩ := g
   have hj : j < ms.size := by rw [hk]; exact (List.getElem?_eq_some_iff.1 g1).1
   have hm : ms[j]? = some ms[j] := by simp [hj]
   exact ⟨ms[j], by rw [Array.getElem?_toList]; exact hm, (hx j _ _ hm g1).ofNo, (hy j _ _ hm g2).ofNo⟩
  | mlit0 => exact .inl ⟨rfl, rfl⟩
 ·rename_i b v
  split at e
  ·rename_i es' hg
   cases e
   cases rm with
   | @mref _ A _ _ sz n hp =>
    obtain ⟨⟨v', fz, body⟩, hB, hv, hb⟩ := get_rel hg (by simp)
    simp only at hv hb
    subst hv; subst hb
    cases H.blk b _ hB with
    | @map _ _ _ A' ms clock hφ hA hn hx hS =>
     rw [hφ] at hp; cases hp
     exact .inr ⟨_, ms, clock, rfl, hA, by simpa using hn, fun j e g => let ⟨x, k1, k2⟩ := hx j e g; ⟨x, by simpa using k1, k2⟩⟩
  ·cases e
 ·cases e
theorem two_rel {v : Value} {d : D} (r : VRel w S φ v d) (b : Bool) : VRel w S φ (.tuple #[v, .bool b]) (.tuple [d, .bool b]) := by
 refine .tuple rfl fun i v d g1 g2 => ?_
 match i with
 | 0 => simp at g1 g2; subst g1; subst g2; exact r
 | 1 => simp at g1 g2; subst g1; subst g2; exact .bool
 | i + 2 => simp at g1
theorem checkFields_run {P : Program} {w : World} {e : Bool} {m : Nat} {vs : Array Value} : ∀ (fs : List Field), (∀ f ∈ fs, f.name ≠ "_" → ∃ v, (part f.type vs f.offset).run P w = .ok v w ∧ (Instr.checkKey e m f.type v).run P w = .ok () w) →
  (forIn fs PUnit.unit fun f _ => if f.name ≠ "_" then (part f.type vs f.offset >>= fun v => Instr.checkKey e m f.type v >>= fun _ => pure (ForInStep.yield PUnit.unit)) else pure (ForInStep.yield PUnit.unit) : Sem PUnit).run P w = .ok PUnit.unit w
 | [], _ => by simp
 | f :: fs, h => by
  have ih := checkFields_run fs fun f hf => h f (List.mem_cons_of_mem _ hf)
  by_cases hn : f.name = "_"
  ·rw [List.forIn_cons]
   simp only [hn, ne_eq, not_true_eq_false, if_false, Sem.run_bind, Sem.run_pure, Result.andThen_ok]
   exact ih
  ·obtain ⟨v, h1, h2⟩ := h f (List.mem_cons_self ..) hn
   rw [List.forIn_cons]
   simp only [hn, ne_eq, not_false_eq_true, if_true, Sem.run_bind, h1, h2, Sem.run_pure, Result.andThen_ok]
   exact ih
theorem keyF_all {P : Program} {r : TypeId → D → Bool} {xs : List D} : ∀ {fs : List Field}, keyF P r xs fs = true → ∀ f ∈ fs, ∃ a s x, aggB P f.type = some a ∧ szOf P f.type = some s ∧ ldCells a s (xs.drop f.offset) = some x ∧ r f.type x = true
 | [], _, f, hf => by cases hf
 | g :: fs, h, f, hf => by
  rw [keyF, Bool.and_eq_true, Bool.and_eq_true] at h
  rcases List.mem_cons.1 hf with rfl | hf
  ·have h2 := h.1.2
   split at h2
   ·rename_i x hx
    obtain ⟨a, ha, hx⟩ := Option.bind_eq_some_iff.1 hx
    obtain ⟨s, hs, hx⟩ := Option.bind_eq_some_iff.1 hx
    exact ⟨a, s, x, ha, hs, hx, h2⟩
   ·cases h2
  ·exact keyF_all h.2 f hf
theorem checkKey_sound {e : Bool} : ∀ (n : Nat) (t : TypeId) (x : D) (v : Value), keyV P n t x = true → VRel w S φ v x → ∀ m, (Instr.checkKey e (m + n) t v).run P w = .ok () w
 | 0, t, x, v, hk, rv, m => by cases hk
 | n + 1, t, x, v, hk, rv, m => by
  unfold keyV at hk
  split at hk
  ·rename_i hu
   obtain rfl := rv.bool_inv
   simp [← Nat.add_assoc, Instr.checkKey, run_underlying hu]
  ·rename_i hu
   obtain rfl := rv.int_inv
   simp [← Nat.add_assoc, Instr.checkKey, run_underlying hu]
  ·rename_i hu
   obtain rfl := rv.str_inv
   simp [← Nat.add_assoc, Instr.checkKey, run_underlying hu]
  ·rename_i fs xs hu
   obtain ⟨vs, rfl, _⟩ := rv.agg_inv
   rw [← Nat.add_assoc, Instr.checkKey]
   simp only [Sem.run_bind, run_underlying hu, Result.andThen_ok]
   rw [← Array.forIn_toList]
   have key := checkFields_run (P := P) (w := w) (e := e) (m := m + n) (vs := vs) fs.toList fun f hf hn => by
    obtain ⟨a, s, x, ha, hs, hx, hr⟩ := keyF_all hk f hf
    obtain ⟨v, h1, h2⟩ := part_sound (P := P) ha hs rv hx
    exact ⟨v, h1, checkKey_sound n f.type x v hr h2 m⟩
   rw [key]
   simp
  ·cases hk
theorem asking_none {kt : TypeId} {k : Value} {d : D} (rk : VRel w S φ k d) : ∀ (es : List (D × D)) (ms : List MapEntry) (i : Nat), Entries w S φ ms es → findS P kt d es i = some none → (Instr.findAsking kt k ms i).run P w = .ok none w
 | [], ms, i, hx, h => by
  have : ms = [] := List.length_eq_zero_iff.1 hx.1
  subst this
  simp [Instr.findAsking]
 | e :: es, ms, i, hx, h => by
  cases ms with
  | nil => exact absurd hx.1 (by simp)
  | cons m ms =>
   obtain ⟨m', h1, h2, h3⟩ := hx.2 0 e rfl
   simp at h1; subst h1
   rw [findS] at h
   cases hs : eqV P 4 kt d e.1 with
   | none => rw [hs] at h; cases h
   | some b =>
    rw [hs] at h
    have q := eqV_sound (P := P) 4 kt d e.1 b k m.key hs rk h2 9996
    cases b with
    | true => cases h
    | false =>
     have ih := asking_none rk es ms (i + 1) ⟨by simpa using hx.1, fun j x g => by
      obtain ⟨m2, q1, q2⟩ := hx.2 (j + 1) x (by simpa using g)
      exact ⟨m2, by simpa using q1, q2⟩⟩ h
     rw [Instr.findAsking]
     simp only [Sem.run_bind, show (Op.equal kt k m.key).run P w = .ok false w from q, Result.andThen_ok, Bool.false_eq_true, if_false, ih]
theorem asking_some {kt : TypeId} {k : Value} {d : D} (rk : VRel w S φ k d) : ∀ (es : List (D × D)) (ms : List MapEntry) (i : Nat) {j : Nat} {x : D}, Entries w S φ ms es → findS P kt d es i = some (some (j, x)) →
  ∃ m : MapEntry, (Instr.findAsking kt k ms i).run P w = .ok (some (j, m.val)) w ∧ VRel w S φ m.val x
 | [], ms, i, j, x, hx, h => by simp [findS] at h
 | e :: es, ms, i, j, x, hx, h => by
  cases ms with
  | nil => exact absurd hx.1 (by simp)
  | cons m ms =>
   obtain ⟨m', h1, h2, h3⟩ := hx.2 0 e rfl
   simp at h1; subst h1
   rw [findS] at h
   cases hs : eqV P 4 kt d e.1 with
   | none => rw [hs] at h; cases h
   | some b =>
    rw [hs] at h
    have q := eqV_sound (P := P) 4 kt d e.1 b k m.key hs rk h2 9996
    cases b with
    | true =>
     cases h
     refine ⟨m, ?_, h3⟩
     rw [Instr.findAsking]
     simp only [Sem.run_bind, show (Op.equal kt k m.key).run P w = .ok true w from q, Result.andThen_ok, if_true, Sem.run_pure]
    | false =>
     obtain ⟨m2, ih, q2⟩ := asking_some rk es ms (i + 1) ⟨by simpa using hx.1, fun j x g => by
      obtain ⟨m2, q1, q2⟩ := hx.2 (j + 1) x (by simpa using g)
      exact ⟨m2, by simpa using q1, q2⟩⟩ h
     refine ⟨m2, ?_, q2⟩
     rw [Instr.findAsking]
     simp only [Sem.run_bind, show (Op.equal kt k m.key).run P w = .ok false w from q, Result.andThen_ok, Bool.false_eq_true, if_false, ih]
theorem findKey_agg {kt : TypeId} {kx : TypeDesc} (hk : P.underlying kt = some kx) {cs : Array Value} {ms : List MapEntry} {r : Option (Nat × Value)} (h0 : ms = [] → r = none) (h : (Instr.findAsking kt (.agg cs) ms 0).run P w = .ok r w) : (Instr.findKey kt (.agg cs) ms).run P w = .ok r w := by
 unfold Instr.findKey
 simp only [Sem.run_bind, run_underlying hk, Result.andThen_ok]
 cases ms with
 | nil => simp [Instr.findNow, h0 rfl]
 | cons m ms =>
  have : Instr.findNow kx (.agg cs) (m :: ms) 0 = none := by
   rw [Instr.findNow]
   have : Instr.sameNow kx (.agg cs) m.key = none := by cases kx <;> rfl
   rw [this]
  rw [this]; exact h
theorem look_sound (H : HRel w S φ h) {t : TypeId} {m k : Value} {md kd : D} (rm : VRel w S φ m md) (rk : VRel w S φ k kd) {ok : Bool} {d : D} (e : lookD P h t md kd ok = some d) : ∃ v, (Instr.lookup t m k ok).run P w = .ok v w ∧ VRel w S φ v d := by
 unfold lookD at e
 split at e
 ·rename_i kt et ht
  obtain ⟨kx, hk, e⟩ := Option.bind_eq_some_iff.1 e
  split at e
  ·rename_i hs
   obtain ⟨z, hz, e⟩ := Option.bind_eq_some_iff.1 e
   obtain ⟨es, hes, e⟩ := Option.bind_eq_some_iff.1 e
   obtain ⟨r, hr, e⟩ := Option.map_eq_some_iff.1 e
   obtain ⟨zv, hzv, hzo⟩ := zero_run (P := P) (w := w) hz
   have rz : VRel w S φ zv z := by rw [hzo]; exact .ofV zv
   have hkey := key_of rk hs
   rcases map_at H rm hes with ⟨rfl, rfl⟩ | ⟨A, ms, clock, rfl, hA, hx⟩
   ·cases hr
    refine ⟨if ok then .tuple #[zv, .bool false] else zv, by simp [Instr.lookup, run_underlying ht, MapKept.run_checkKey hk hkey, MapKept.run_findKey hk (show Instr.findNow kx k (#[] : Array MapEntry).toList 0 = some none from rfl), hzv, Result.andThen], ?_⟩
    subst e
    cases ok
    ·exact rz
    ·exact two_rel rz _
   ·cases r with
    | none =>
     have h1 := find_none rk es ms.toList 0 hx hr
     refine ⟨if ok then .tuple #[zv, .bool false] else zv, by simp [Instr.lookup, run_underlying ht, MapKept.run_getObj_map hA, MapKept.run_checkKey hk hkey, MapKept.run_findKey hk h1, hzv, Result.andThen], ?_⟩
     subst e
     cases ok
     ·exact rz
     ·exact two_rel rz _
    | some jx =>
     obtain ⟨j, x⟩ := jx
     obtain ⟨m1, h1, h2, _⟩ := find_some rk es ms.toList 0 hx hr
     refine ⟨if ok then .tuple #[m1.val, .bool true] else m1.val, by simp [Instr.lookup, run_underlying ht, MapKept.run_getObj_map hA, MapKept.run_checkKey hk hkey, MapKept.run_findKey hk h1, Result.andThen], ?_⟩
     subst e
     cases ok
     ·exact h2
     ·exact two_rel h2 _
  ·split at e <;> try (cases e; done)
   rename_i hs
   rw [Bool.and_eq_true] at hs
   obtain ⟨xs, rfl⟩ : ∃ xs, kd = .agg xs := by cases kd <;> simp [aggD] at hs; exact ⟨_, rfl⟩
   have q1 : ∀ em, (Instr.checkKey em 10000 kt k).run P w = .ok () w := fun em => checkKey_sound 4 kt _ k hs.2 rk 9996
   obtain ⟨vs, rfl, _⟩ := rk.agg_inv
   obtain ⟨z, hz, e⟩ := Option.bind_eq_some_iff.1 e
   obtain ⟨es, hes, e⟩ := Option.bind_eq_some_iff.1 e
   obtain ⟨r, hr, e⟩ := Option.map_eq_some_iff.1 e
   obtain ⟨zv, hzv, hzo⟩ := zero_run (P := P) (w := w) hz
   have rz : VRel w S φ zv z := by rw [hzo]; exact .ofV zv
   rcases map_at H rm hes with ⟨rfl, rfl⟩ | ⟨A, ms, clock, rfl, hA, hx⟩
   ·cases hr
    have q2 := findKey_agg (P := P) (w := w) hk (cs := vs) (ms := (#[] : Array MapEntry).toList) (r := none) (fun _ => rfl) (by simp [Instr.findAsking])
    refine ⟨if ok then .tuple #[zv, .bool false] else zv, by simp at q2; simp [Instr.lookup, run_underlying ht, q1, q2, hzv, Result.andThen], ?_⟩
    subst e
    cases ok
    ·exact rz
    ·exact two_rel rz _
   ·cases r with
    | none =>
     have h1 := asking_none (P := P) rk es ms.toList 0 hx hr
     have q2 := findKey_agg (P := P) hk (fun _ => rfl) h1
     refine ⟨if ok then .tuple #[zv, .bool false] else zv, by simp [Instr.lookup, run_underlying ht, MapKept.run_getObj_map hA, q1, q2, hzv, Result.andThen], ?_⟩
     subst e
     cases ok
     ·exact rz
     ·exact two_rel rz _
    | some jx =>
     obtain ⟨j, x⟩ := jx
     obtain ⟨m1, h1, h2⟩ := asking_some (P := P) rk es ms.toList 0 hx hr
     have q2 := findKey_agg (P := P) hk (fun h0 => by
      have hl := hx.1
      rw [h0] at hl
      have : es = [] := List.length_eq_zero_iff.1 hl.symm
      subst this
      cases hr) h1
     refine ⟨if ok then .tuple #[m1.val, .bool true] else m1.val, by simp [Instr.lookup, run_underlying ht, MapKept.run_getObj_map hA, q1, q2, Result.andThen], ?_⟩
     subst e
     cases ok
     ·exact h2
     ·exact two_rel h2 _
 ·cases e
theorem same_key {kd : TypeDesc} {k v : Value} (hk : MapKept.IsKey kd k) (h : Instr.sameNow kd k v = some true) : v = k := by
 unfold Instr.sameNow at h
 split at h
 ·split at h
  ·rename_i k1 a _ k2 b hh
   simp at h hk
   subst hh; rw [h]
  ·cases h
 ·simp at h; rw [MapKept.bytes_beq] at h; exact h.symm ▸ rfl
 ·simp at h; rw [h]
 ·cases h
theorem upd_sound (H : HRel w S φ h) {t : TypeId} {m k x : Value} {md kd xd : D} (rm : VRel w S φ m md) (rk : VRel w S φ k kd) (rx : VRel w S φ x xd) (e : updD P h t md kd xd = some h') :
  ∃ w', (Instr.mapUpdate t m k x).run P w = .ok () w' ∧ HRel w' S φ h' ∧ Ext w S φ h w' S φ h' := by
 unfold updD at e
 split at e <;> try (cases e; done)
 rename_i b v
 obtain ⟨u, ht, e1⟩ := Option.bind_eq_some_iff.1 e
 clear e
 split at e1
 ·rename_i kt et
  obtain ⟨kx, hk, e2⟩ := Option.bind_eq_some_iff.1 e1
  clear e1
  obtain ⟨B, hB, e⟩ := Option.bind_eq_some_iff.1 e2
  clear e2
  split at e <;> try (cases e; done)
  rename_i hc
  obtain ⟨hver, hfz⟩ := hc
  subst hver
  split at e <;> try (cases e; done)
  rename_i es hbody
  split at e
  ·rename_i hs
   obtain ⟨r, hr, e⟩ := Option.map_eq_some_iff.1 e
   have hkey := key_of rk hs
   have hat : mapAt h (.mref b B.ver) = some es := by simp [mapAt, Heap.get, hB, hbody]
   rcases map_at H rm hat with ⟨rfl, _⟩ | ⟨A, ms, clock, rfl, hA, hx⟩
   ·cases rm
   ·have hp : φ b B.ver = some (A, 0, 0) := by
     cases rm with
     | @mref _ A' _ _ sz n hp =>
      have hb := H.blk b B hB
      obtain ⟨v', fz, body⟩ := B
      simp only at hbody hfz
      subst hbody
      cases hb with
      | @map _ _ _ A' ms clock hφ => exact (by rw [hφ] at hp; cases hp; exact hφ)
    cases r with
    | none =>
     have h1 := find_none rk es ms.toList 0 hx hr
     refine ⟨{ w with heap := w.heap.setIfInBounds A (.map (ms.push { key := k, val := x, born := clock }) (clock + 1)) }, ?_, ?_⟩
     ·simp [Instr.mapUpdate, run_underlying ht, MapKept.run_getObj_map hA, MapKept.run_checkKey hk hkey, MapKept.run_findKey hk h1, MapKept.run_setObj_map _ hA, Result.andThen]
     ·subst e
      refine writtenMap_sound H hB (by rw [hbody]; simp) hfz hp (ms := ms.push { key := k, val := x, born := clock }) (clock := clock + 1) rfl rfl rfl rfl ⟨by have := hx.1; simp at this; simp [this], fun i e g => ?_⟩
      by_cases hi : i < es.length
      ·rw [List.getElem?_append_left hi] at g
       obtain ⟨m1, k1, k2⟩ := hx.2 i e g
       refine ⟨m1, ?_, k2⟩
       have hl := hx.1; simp at hl
       rw [Array.getElem?_push, if_neg (by omega)]; simpa using k1
      ·rw [List.getElem?_append_right (by omega)] at g
       have hl := hx.1; simp at hl
       have hi' : i = es.length := by
        rcases Nat.lt_or_ge es.length i with h | h
        ·rw [List.getElem?_eq_none (by simp; omega)] at g; cases g
        ·omega
       subst hi'
       simp at g
       subst g
       exact ⟨_, by rw [Array.getElem?_push, if_pos hl.symm], rk, rx⟩
    | some jx =>
     obtain ⟨j, y⟩ := jx
     obtain ⟨m1, h1, h2, _, h3, h4⟩ := find_some rk es ms.toList 0 hx hr
     simp at h3
     have h5 := same_key hkey h4
     refine ⟨{ w with heap := w.heap.setIfInBounds A (.map (ms.modify j fun e => { e with key := k, val := x }) clock) }, ?_, ?_⟩
     ·simp [Instr.mapUpdate, run_underlying ht, MapKept.run_getObj_map hA, MapKept.run_checkKey hk hkey, MapKept.run_findKey hk h1, h3, h5, MapKept.run_keyThatStays hkey, MapKept.run_setObj_map _ hA, Result.andThen]
     ·subst e
      refine writtenMap_sound H hB (by rw [hbody]; simp) hfz hp (ms := ms.modify j fun e => { e with key := k, val := x }) (clock := clock) rfl rfl rfl rfl ⟨by have := hx.1; simp at this; simp [this], fun i e g => ?_⟩
      rw [List.getElem?_set] at g
      split at g
      ·rename_i hij
       subst hij
       split at g
       ·cases g
        exact ⟨{ m1 with key := k, val := x }, by simp [Array.getElem?_modify, h3], rk, rx⟩
       ·cases g
      ·rename_i hij
       obtain ⟨m2, k1, k2⟩ := hx.2 i e g
       exact ⟨m2, by rw [Array.getElem?_modify, if_neg hij]; simpa using k1, k2⟩
  ·split at e <;> try (cases e; done)
   rename_i hs
   rw [Bool.and_eq_true] at hs
   obtain ⟨xs, rfl⟩ : ∃ xs, kd = .agg xs := by cases kd <;> simp [aggD] at hs; exact ⟨_, rfl⟩
   have q1 : ∀ em, (Instr.checkKey em 10000 kt k).run P w = .ok () w := fun em => checkKey_sound 4 kt _ k hs.2 rk 9996
   obtain ⟨vs, rfl, _⟩ := rk.agg_inv
   obtain ⟨r, hr, e⟩ := Option.bind_eq_some_iff.1 e
   have hat : mapAt h (.mref b B.ver) = some es := by simp [mapAt, Heap.get, hB, hbody]
   rcases map_at H rm hat with ⟨rfl, _⟩ | ⟨A, ms, clock, rfl, hA, hx⟩
   ·cases rm
   ·have hp : φ b B.ver = some (A, 0, 0) := by
     cases rm with
     | @mref _ A' _ _ sz n hp =>
      have hb := H.blk b B hB
      obtain ⟨v', fz, body⟩ := B
      simp only at hbody hfz
      subst hbody
      cases hb with
      | @map _ _ _ A' ms clock hφ => exact (by rw [hφ] at hp; cases hp; exact hφ)
    cases r with
    | some jx => cases e
    | none =>
     have h1 := asking_none (P := P) rk es ms.toList 0 hx hr
     have q2 := findKey_agg (P := P) hk (fun _ => rfl) h1
     refine ⟨{ w with heap := w.heap.setIfInBounds A (.map (ms.push { key := .agg vs, val := x, born := clock }) (clock + 1)) }, ?_, ?_⟩
     ·simp [Instr.mapUpdate, run_underlying ht, MapKept.run_getObj_map hA, q1, q2, MapKept.run_setObj_map _ hA, Result.andThen]
     ·cases e
      refine writtenMap_sound H hB (by rw [hbody]; simp) hfz hp (ms := ms.push { key := .agg vs, val := x, born := clock }) (clock := clock + 1) rfl rfl rfl rfl ⟨by have := hx.1; simp at this; simp [this], fun i e g => ?_⟩
      by_cases hi : i < es.length
      ·rw [List.getElem?_append_left hi] at g
       obtain ⟨m1, k1, k2⟩ := hx.2 i e g
       refine ⟨m1, ?_, k2⟩
       have hl := hx.1; simp at hl
       rw [Array.getElem?_push, if_neg (by omega)]; simpa using k1
      ·rw [List.getElem?_append_right (by omega)] at g
       have hl := hx.1; simp at hl
       have hi' : i = es.length := by
        rcases Nat.lt_or_ge es.length i with h | h
        ·rw [List.getElem?_eq_none (by simp; omega)] at g; cases g
        ·omega
       subst hi'
       simp at g
       subst g
       exact ⟨_, by rw [Array.getElem?_push, if_pos hl.symm], rk, rx⟩
 ·cases e1
theorem run_getObj_at {r : Nat} {s : ByteArray} {n : Nat} (hb : w.heap[r]? = some (.stringIter s n)) : (getObj r).run P w = .ok (.stringIter s n) w := by
 simp [getObj, Sem.run, hb]
theorem run_setObj_at {r : Nat} {s : ByteArray} {n : Nat} (o : Obj) (hb : w.heap[r]? = some (.stringIter s n)) : (setObj r o).run P w = .ok () { w with heap := w.heap.setIfInBounds r o } := by
 simp [setObj, Sem.run, hb]
theorem next_sound (H : HRel w S φ h) {it : Value} {d : D} {b : Bool} (ri : VRel w S φ it d) (t : TypeId) {r : D} (e : nextD h d b = some (r, h')) :
  ∃ v w', (Instr.next it b t).run P w = .ok v w' ∧ HRel w' S φ h' ∧ Ext w S φ h w' S φ h' ∧ VRel w' S φ v r := by
 unfold nextD at e
 split at e <;> try (cases e; done)
 rename_i b' u
 obtain ⟨B, hB, e1⟩ := Option.bind_eq_some_iff.1 e
 clear e
 split at e1 <;> try (cases e1; done)
 rename_i hc
 obtain ⟨hver, hfz, hstr⟩ := hc
 subst hver; subst hstr
 split at e1 <;> try (cases e1; done)
 rename_i s pos hbody
 cases ri with
 | @pref _ A _ _ sz n _ _ hp =>
  have hb := H.blk b' B hB
  obtain ⟨v', fz, body⟩ := B
  simp only at hbody hfz hp e1
  subst hbody
  cases hb with
  | @iter _ _ _ _ A' hφ hA hS =>
   rw [hφ] at hp; cases hp
   simp only [Nat.zero_mul, Nat.zero_add]
   by_cases hpos : pos < s.size
   ·rw [if_pos hpos] at e1
    cases e1
    refine ⟨.tuple #[.bool true, goInt pos, .int .i32 (Utf8.decode s pos).1], { w with heap := w.heap.setIfInBounds A (.stringIter s (pos + (Utf8.decode s pos).2)) }, ?_, ?_⟩
    ·simp only [Instr.next, Sem.run_bind, run_getObj_at hA, Result.andThen_ok, hpos, if_true, run_setObj_at _ hA, Sem.run_pure]
    ·obtain ⟨g1, g2⟩ := writtenIter_sound (w' := { w with heap := w.heap.setIfInBounds A (.stringIter s (pos + (Utf8.decode s pos).2)) }) H hB (by simp) hfz hφ rfl rfl rfl rfl
     refine ⟨g1, g2, .tuple rfl fun i v d g1 g2 => ?_⟩
     match i with
     | 0 => simp at g1 g2; subst g1; subst g2; exact .bool
     | 1 => simp at g1 g2; subst g1; subst g2; exact .int
     | 2 => simp at g1 g2; subst g1; subst g2; exact .int
     | i + 3 => simp at g1
   ·rw [if_neg hpos] at e1
    cases e1
    refine ⟨.tuple #[.bool false], w, ?_, H, .refl .., .tuple rfl fun i v d g1 g2 => ?_⟩
    ·simp only [Instr.next, Sem.run_bind, run_getObj_at hA, Result.andThen_ok, hpos, if_false, Sem.run_pure]
    ·match i with
     | 0 => simp at g1 g2; subst g1; subst g2; exact .bool
     | i + 1 => simp at g1
end Go.Proofs.YtlpbmajbalenjaaA
namespace Go.Proofs.YtlpbmajbalenjaaA
open Go
variable {P : Program} {w w' : World} {S : Nat → Prop} {φ φ' : Phi} {h h' : Heap}

def GoodOp (P : Program) (w : World) (S : Nat → Prop) (φ : Phi) (h : Heap) (m : Sem Next) (d : D) (h' : Heap) : Prop :=
 Good P w S φ h m d h' ∨ ∃ f args, m.run P w = .ok (.enter f args) w ∧ Calls P f args w fun e w' => ∃ v S' φ', e = .returned v ∧ Ext w S φ h w' S' φ' h' ∧ HRel w' S' φ' h' ∧ VRel w' S' φ' v d
theorem GoodOp.wp {o : Oper} {a : Act} {d : D} (g : GoodOp P w S φ h (execOp a.eval o) d h') {K : Act → World → Prop} {Q : Exit → Act → World → Prop}
  (hK : ∀ v w' S' φ', Ext w S φ h w' S' φ' h' → HRel w' S' φ' h' → VRel w' S' φ' v d → K (a.put o.dst v) w') : o.wp P a w K Q := by
 unfold Oper.wp
 rcases g with ⟨v, w', S', φ', hr, h1, h2, h3⟩ | ⟨f, args, hr, hcall⟩
 ·rcases hr with hr | ⟨hr, rfl⟩
  ·rw [hr]; exact hK v w' S' φ' h1 h2 h3
  ·rw [hr]; exact hK undef w' S' φ' h1 h2 h3
 ·rw [hr]
  refine hcall.mono fun e w' k => ?_
  obtain ⟨v, S', φ', rfl, h1, h2, h3⟩ := k
  exact hK v w' S' φ' h1 h2 h3

theorem VRel.fn_inv {v : Value} {f : FuncId} {ds es : List D} (r : VRel w S φ v (.fn f ds es)) : ∃ as cs, v = .func (.func f) as cs ∧ VsRel w S φ as.toList ds ∧ VsRel w S φ cs.toList es := by
 cases r with
 | fn h1 h2 ha hc => exact ⟨_, _, rfl, ⟨by simpa using h1, fun i v d g1 g2 => ha i v d (by simpa using g1) g2⟩, ⟨by simpa using h2, fun i v d g1 g2 => hc i v d (by simpa using g1) g2⟩⟩
theorem callee_run {o : Oper} {c : Call} (ho : o.op = .call c) {ρ : Operand → Value} {σ : Env} (hρ : ∀ x, VRel w S φ (ρ x) (σ x)) {p : FuncId × List D} (e : callee c σ = some p)
  (hf : ∃ fn, P.funcs[p.1]? = some fn ∧ fn.body.isSome = true ∧ (fn.name == "runtime.NumGoroutine") = false) : ∃ vs : List Value, (execOp ρ o).run P w = .ok (.enter p.1 vs.toArray) w ∧ VsRel w S φ vs p.2 := by
 unfold callee at e
 split at e <;> try (cases e; done)
 rename_i x hx
 split at e <;> try (cases e; done)
 rename_i f a cp hfn
 cases e
 have rx := hρ x
 rw [hfn] at rx
 obtain ⟨as, cs, hv, r1, r2⟩ := rx.fn_inv
 obtain ⟨fn, g1, g2, g3⟩ := hf
 have g2' : fn.body.isNone = false := by cases hb : fn.body <;> simp_all
 refine ⟨as.toList ++ c.args.toList.map ρ ++ cs.toList, ?_, (r1.append (VsRel.map c.args.toList ρ σ fun y _ => hρ y)).append r2⟩
 have harr : (as.toList ++ c.args.toList.map ρ ++ cs.toList).toArray = as ++ c.args.map ρ ++ cs := by apply Array.ext'; simp
 rw [harr]
 simp only [execOp, ho, resolve, hx, hv, Deferred.ofValue, pure_bind, invoke, callFunc, Sem.run_bind, run_program, Result.andThen_ok, g1, g3, g2', Bool.false_eq_true, if_false, Sem.run_pure]

theorem bytesD_fold (xs : List Int) : bytesD xs = xs.foldl (fun r n => r.push (UInt8.ofNat n.toNat)) ByteArray.empty := by
 have key : ∀ (xs : List Int) (s : ByteArray), xs.foldl (fun r n => r.push (UInt8.ofNat n.toNat)) s = ⟨s.data ++ (xs.map fun n => UInt8.ofNat n.toNat).toArray⟩ := by
  intro xs
  induction xs with
  | nil => intro s; simp
  | cons x xs ih => intro s; rw [List.foldl_cons, ih]; simp [ByteArray.push]
 rw [key]
 simp [bytesD]
theorem bytes_run (H : HRel w S φ h) {src dst el : TypeId} (hs : P.underlying src = some (.slice el)) (hd : P.underlying dst = some .string) (he : P.underlying el = some (.int .u8)) {v : Value} {x : D} {xs : List Int} (r : VRel w S φ v x)
  (e : reify h DEPTH x = some (.ints .u8 xs)) : (convert src dst v).run P w = .ok (.string (bytesD xs)) w := by
 have hr := reify_sound H (S0 := fun _ => True) (fun _ _ => trivial) DEPTH v x _ r e (fun _ _ _ _ _ _ _ _ => trivial)
 cases hr with
 | @ints _ a cap _ _ hc B o ha hx =>
  rw [run_convert_bytes_string w src dst el a xs.length cap hs he hd, bytesD_fold]
  by_cases h0 : xs = []
  ·subst h0
   cases a with
   | none => rfl
   | some a =>
    have := run_bytesToString (P := P) w a 0 cap [] (by simp [loadCells, loadCellsFrom])
    exact this
  ·obtain ⟨rfl, _⟩ := ha h0
   refine run_bytesToString w ⟨B, o, none⟩ xs.length cap xs ?_
   have hl := run_loadCells (P := P) w ⟨B, o, none⟩ xs.length (fun j => .int .u8 (xs.getD j 0)) fun j hj => by rw [addr_add]; exact hx j hj
   rw [hl]
   congr 2
   apply List.ext_getElem?
   intro i
   rw [List.getElem?_map, List.getElem?_map]
   by_cases hi : i < xs.length
   ·rw [List.getElem?_range hi, List.getElem?_eq_getElem hi]; simp [List.getD_eq_getElem?_getD, hi]
   ·rw [List.getElem?_eq_none (by simp; omega), List.getElem?_eq_none (by omega)]; rfl

theorem opR_sound {C : Cx} {call : Run} (hc : CallOk C call) (H : HRel w S φ h) {o : Oper} {ρ : Operand → Value} {σ : Env} (hρ : ∀ x, VRel w S φ (ρ x) (σ x)) {d : D} (e : opR C call o σ h = some d) : GoodOp C.P w S φ h (execOp ρ o) d h := by
 unfold opR at e
 split at e
 ·rename_i t p ho
  left
  simp only [execOp, ho]
  exact .quiet H (ld_sound H (hρ p) e)
 ·rename_i t m k ok ho
  left
  simp only [execOp, ho]
  exact .quiet H (look_sound H (hρ m) (hρ k) e)
 ·rename_i src dst x ho
  left
  simp only [execOp, ho]
  split at e <;> try (cases e; done)
  rename_i el hs hd
  split at e <;> try (cases e; done)
  rename_i he
  split at e <;> try (cases e; done)
  rename_i xs hx
  cases e
  exact .quiet H ⟨_, bytes_run H hs hd he (hρ x) hx, .str⟩
 ·rename_i c ho
  obtain ⟨p, hp, e2⟩ := Option.bind_eq_some_iff.1 e
  clear e
  split at e2 <;> try (cases e2; done)
  obtain ⟨ds, hds, e3⟩ := Option.bind_eq_some_iff.1 e2
  obtain ⟨r, hr, e4⟩ := Option.bind_eq_some_iff.1 e3
  clear e2 e3
  split at e4 <;> try (cases e4; done)
  rename_i hcond
  cases e4
  obtain ⟨g1, _⟩ := icall_sound hc hr
  obtain ⟨vs, v1, v2⟩ := callee_run (P := C.P) ho hρ hp g1
  obtain ⟨_, k2⟩ := call_apart hc H v2 hds hr
  right
  refine ⟨p.1, vs.toArray, v1, ?_⟩
  rw [if_pos hcond] at k2
  exact k2
 ·cases e
theorem opW_sound {C : Cx} {call : Run} (hc : CallOk C call) (H : HRel w S φ h) {draw : Bool} {base : Nat} {o : Oper} {ρ : Operand → Value} {σ : Env} (hρ : ∀ x, VRel w S φ (ρ x) (σ x)) (hk : ∀ v, ρ (.const v) = v) {d : D} (e : opW C call draw base o σ h = some (d, h')) :
  GoodOp C.P w S φ h (execOp ρ o) d h' := by
 unfold opW at e
 split at e
 ·rename_i t a v ho
  obtain ⟨h1, hst, e2⟩ := Option.map_eq_some_iff.1 e
  cases e2
  obtain ⟨w', g1, g2, g3⟩ := st_sound H (hρ a) (hρ v) hst
  left
  refine ⟨undef, w', S, φ, .inr ⟨?_, rfl⟩, g3, g2, .tuple (by simp) fun i v d h => by simp at h⟩
  simp only [execOp, ho, Sem.run_bind, g1, Result.andThen_ok, Sem.run_pure]
 ·rename_i t len parts ho
  left
  obtain ⟨es, hes, e2⟩ := Option.bind_eq_some_iff.1 e
  obtain ⟨d', hd, e3⟩ := Option.map_eq_some_iff.1 e2
  cases e3
  obtain ⟨f1, f2⟩ := freeze_sound H ((parts.toList.map fun p => σ p.2).flatMap (reach h DEPTH))
  have rl := reifyL_sound H (VsRel.map (parts.toList.map (·.2)) ρ σ fun y _ => hρ y) (ds := (parts.toList.map (·.2)).map σ) (by rw [List.map_map]; exact hes)
  rw [List.map_map, List.map_map] at rl
  obtain ⟨m1, m2⟩ := mapM_some hes
  obtain ⟨σ2, h1, h2⟩ : ∃ σ2 : Env, (∀ x, VRel w (FS S φ h ((parts.toList.map fun p => σ p.2).flatMap (reach h DEPTH))) φ (ρ x) (σ2 x)) ∧ (parts.toList.map fun p => (p.1, σ2 p.2)) = (parts.toList.map (·.1)).zip es := by
   classical
   have at_ : ∀ (i : Nat) (p : Nat × Operand) (d : D), parts.toList[i]? = some p → es[i]? = some d → reify h DEPTH (σ p.2) = some d := fun i p d h1 h2 => m2 i _ _ (by rw [List.getElem?_map, h1]; rfl) h2
   have ln : es.length = parts.toList.length := by rw [← m1, List.length_map]
   refine ⟨fun x => if hx : ∃ p ∈ parts.toList, p.2 = x then (reify h DEPTH (σ x)).getD .top else .top, fun x => ?_, ?_⟩
   ·by_cases hx : ∃ p ∈ parts.toList, p.2 = x
    ·simp only [dif_pos hx]
     obtain ⟨p, hp, rfl⟩ := hx
     obtain ⟨i, hi⟩ := List.getElem?_of_mem hp
     have hlt : i < es.length := by
      rw [ln]; exact (List.getElem?_eq_some_iff.1 hi).1
     rw [at_ i p _ hi (List.getElem?_eq_getElem hlt)]
     have := rl.2 i (ρ p.2) (es[i]'hlt) (by rw [List.getElem?_map, hi]; rfl) (List.getElem?_eq_getElem hlt)
     exact this.ofNo
    ·simp only [dif_neg hx]; exact .top
   ·apply List.ext_getElem
    ·rw [List.length_map, List.length_zip, List.length_map, ln, Nat.min_self]
    ·intro i g1 g2
     rw [List.length_map] at g1
     have hlt : i < es.length := by rw [ln]; exact g1
     rw [List.getElem_map, List.getElem_zip, List.getElem_map]
     have hx : ∃ p ∈ parts.toList, p.2 = (parts.toList[i]'g1).2 := ⟨_, List.getElem_mem g1, rfl⟩
     simp only [dif_pos hx]
     rw [at_ i _ _ (List.getElem?_eq_getElem g1) (List.getElem?_eq_getElem hlt)]
     rfl
  have hop : opP C o σ2 = some d := by
   simp only [opP, ho, h2, hd]
  obtain ⟨v, w', S', φ', g1, g2, g3, g4⟩ := opP_sound f1 h1 hk hop
  exact ⟨v, w', S', φ', g1, f2.trans g2, g3, g4⟩
 ·rename_i it b ho
  obtain ⟨v, w', g1, g2, g3, g4⟩ := next_sound (P := C.P) H (hρ it) o.type e
  left
  refine ⟨v, w', S, φ, .inl ?_, g3, g2, g4⟩
  simp only [execOp, ho, Sem.run_bind, g1, Result.andThen_ok, Sem.run_pure]
 ·rename_i t m k x ho
  obtain ⟨h1, hst, e2⟩ := Option.map_eq_some_iff.1 e
  cases e2
  obtain ⟨w', g1, g2, g3⟩ := upd_sound H (hρ m) (hρ k) (hρ x) hst
  left
  refine ⟨undef, w', S, φ, .inr ⟨?_, rfl⟩, g3, g2, .tuple (by simp) fun i v d h => by simp at h⟩
  simp only [execOp, ho, Sem.run_bind, g1, Result.andThen_ok, Sem.run_pure]
 ·rename_i c ho
  split at e
  ·rename_i hcal
   split at e <;> try (cases e; done)
   rename_i x y t rest ha ht
   split at e <;> try (cases e; done)
   rename_i hrest
   obtain ⟨v, w', S', φ', g1, g2, g3, g4⟩ := appendD_sound H (hρ x) (hρ y) e ht hrest o.type
   have ha' : c.args.map ρ = #[ρ x, ρ y] := by
    have : c.args = #[x, y] := by rw [← Array.toArray_toList (xs := c.args), ha]
    rw [this]; simp
   left
   refine ⟨v, w', S', φ', .inl ?_, g2, g3, g4⟩
   simp only [execOp, ho, resolve, hcal, ha', pure_bind, invoke, builtin, Sem.run_bind, g1, Result.andThen_ok, Sem.run_pure]
  ·rename_i hcal
   split at e <;> try (cases e; done)
   rename_i x y t rest ha ht
   obtain ⟨v, w', g1, g2, g3, g4⟩ := copyD_sound H (hρ x) (hρ y) e c.argTypes (by rw [← Array.getElem?_toList, ht]; rfl) o.type
   have ha' : c.args.map ρ = #[ρ x, ρ y] := by
    have : c.args = #[x, y] := by rw [← Array.toArray_toList (xs := c.args), ha]
    rw [this]; simp
   left
   refine ⟨v, w', S, φ, .inl ?_, g4, g3, g2⟩
   simp only [execOp, ho, resolve, hcal, ha', pure_bind, invoke, builtin, Sem.run_bind, g1, Result.andThen_ok, Sem.run_pure]
  ·rename_i bb _ _ hcal
   split at e <;> try (cases e; done)
   rename_i hcl
   have hbb : bb = .clear := by cases bb <;> first | rfl | cases hcl
   subst hbb
   split at e <;> try (cases e; done)
   rename_i x t rest ha ht
   obtain ⟨v, w', g1, g2, g3, g4⟩ := clearD_sound (P := C.P) H (hρ x) e o.type c.argTypes (by rw [← Array.getElem?_toList, ht]; rfl)
   have ha' : c.args.map ρ = #[ρ x] := by
    have : c.args = #[x] := by rw [← Array.toArray_toList (xs := c.args), ha]
    rw [this]; simp
   left
   refine ⟨v, w', S, φ, .inl ?_, g3, g2, g4⟩
   simp only [execOp, ho, resolve, hcal, ha', pure_bind, invoke, builtin, Sem.run_bind, g1, Result.andThen_ok, Sem.run_pure]
  ·obtain ⟨p, hp, e2⟩ := Option.bind_eq_some_iff.1 e
   clear e
   split at e2
   ·obtain ⟨j, hj, e3⟩ := Option.bind_eq_some_iff.1 e2
    obtain ⟨vs, v1, v2⟩ := callee_run (P := C.P) ho hρ hp (meth_fn hc e3)
    exact .inr ⟨p.1, vs.toArray, v1, (meth_sound hc H v2 e3).2⟩
   split at e2
   ·obtain ⟨g1, g2⟩ := hc _ _ _ _ _ e2
    obtain ⟨vs, v1, v2⟩ := callee_run (P := C.P) ho hρ hp g1
    exact .inr ⟨p.1, vs.toArray, v1, g2 w S φ vs H v2⟩
   ·split at e2
    ·obtain ⟨ds, hds, e3⟩ := Option.bind_eq_some_iff.1 e2
     have e4 : adoptD C call base o.dst (freeze h (p.2.flatMap (reach h DEPTH))) p.1 ds = some (d, h') := by
      by_cases hT : p.2.all (D.isT 3) = true
      ·have hl : p.2.flatMap (reach h DEPTH) = [] := by
        rw [List.flatMap_eq_nil_iff]
        intro x hx
        rw [List.all_eq_true] at hT
        exact reach_isT h DEPTH 3 (hT x hx)
       rw [if_pos hT] at e3
       rw [hl]; exact e3
      ·rw [if_neg hT] at e3; exact e3
     obtain ⟨fn, q1, q2, q3⟩ : ∃ fn, C.P.funcs[p.1]? = some fn ∧ fn.body.isSome = true ∧ (fn.name == "runtime.NumGoroutine") = false := by
      unfold adoptD at e3
      obtain ⟨fn, hfn, e5⟩ := Option.bind_eq_some_iff.1 e3
      obtain ⟨r, hr, _⟩ := Option.bind_eq_some_iff.1 e5
      exact (hc _ _ _ _ _ hr).1
     obtain ⟨vs, v1, v2⟩ := callee_run (P := C.P) ho hρ hp ⟨fn, q1, q2, q3⟩
     exact .inr ⟨p.1, vs.toArray, v1, (adopt_sound hc H v2 hds e4).2⟩
    ·obtain ⟨ds, hds, e3⟩ := Option.bind_eq_some_iff.1 e2
     obtain ⟨r, hr, e4⟩ := Option.map_eq_some_iff.1 e3
     cases e4
     obtain ⟨g1, _⟩ := icall_sound hc hr
     obtain ⟨vs, v1, v2⟩ := callee_run (P := C.P) ho hρ hp g1
     obtain ⟨_, k2⟩ := call_apart hc H v2 hds hr
     exact .inr ⟨p.1, vs.toArray, v1, k2⟩
  ·cases e
 ·cases e
def Sub (h h' : Heap) : Prop := ∀ b v, h.get b v ≠ .dead → h'.get b v = h.get b v
theorem sub_set {h : Heap} {b : Nat} {B : Blk} (hB : h[b]? = some B) (hd : B.body = .dead) (B' : Blk) : Sub h (h.set b B') := by
 intro b' v hv
 by_cases hb : b = b'
 ·subst hb
  unfold Heap.get at hv
  rw [hB] at hv
  simp only [hd, ite_self, ne_eq, not_true_eq_false] at hv
 ·unfold Heap.get
  rw [List.getElem?_set_ne hb]
theorem cellsAt_sub {h h' : Heap} (s : Sub h h') {p : D} {cs : List D} (e : cellsAt h p = some cs) : cellsAt h' p = some cs := by
 cases p with
 | pref b v i off =>
  have hd : h.get b v ≠ .dead := fun hd => by simp [cellsAt, hd] at e
  simp only [cellsAt, s b v hd] at e ⊢
  exact e
 | ptr cs => exact e
 | _ => simp [cellsAt] at e
theorem mapAt_sub {h h' : Heap} (s : Sub h h') {p : D} {es : List (D × D)} (e : mapAt h p = some es) : mapAt h' p = some es := by
 cases p with
 | mref b v =>
  have hd : h.get b v ≠ .dead := fun hd => by simp [mapAt, hd] at e
  simp only [mapAt, s b v hd] at e ⊢
  exact e
 | nilM => exact e
 | mlit => exact e
 | _ => simp [mapAt] at e
theorem lookD_sub {P : Program} {h h' : Heap} (s : Sub h h') {t : TypeId} {m k d : D} {ok : Bool} (e : lookD P h t m k ok = some d) : lookD P h' t m k ok = some d := by
 unfold lookD at e ⊢
 split at e <;> try (cases e; done)
 obtain ⟨kx, hk, e⟩ := Option.bind_eq_some_iff.1 e
 split at e
 ·rename_i hs
  obtain ⟨z, hz, e⟩ := Option.bind_eq_some_iff.1 e
  obtain ⟨es, hes, e⟩ := Option.bind_eq_some_iff.1 e
  simp only [hk, Option.bind_some, if_pos hs, hz, mapAt_sub s hes, e]
 ·rename_i hn
  split at e <;> try (cases e; done)
  rename_i hs
  obtain ⟨z, hz, e⟩ := Option.bind_eq_some_iff.1 e
  obtain ⟨es, hes, e⟩ := Option.bind_eq_some_iff.1 e
  simp only [hk, Option.bind_some, if_neg hn, if_pos hs, hz, mapAt_sub s hes, e]
theorem ld_sub {P : Program} {h h' : Heap} (s : Sub h h') {t : TypeId} {p d : D} (e : ld P h t p = some d) : ld P h' t p = some d := by
 unfold ld at e ⊢
 obtain ⟨a, h1, e⟩ := Option.bind_eq_some_iff.1 e
 obtain ⟨z, h2, e⟩ := Option.bind_eq_some_iff.1 e
 obtain ⟨cs, h3, e⟩ := Option.bind_eq_some_iff.1 e
 simp only [h1, h2, cellsAt_sub s h3, Option.bind_some, e]
theorem mapM_sub {α β : Type} {f g : α → Option β} (hfg : ∀ a b, f a = some b → g a = some b) : ∀ {l : List α} {m : List β}, l.mapM f = some m → l.mapM g = some m
 | [], m, e => by simpa using e
 | x :: l, m, e => by
  rw [List.mapM_cons] at e ⊢
  obtain ⟨y, h1, e⟩ := Option.bind_eq_some_iff.1 e
  obtain ⟨ys, h2, e⟩ := Option.bind_eq_some_iff.1 e
  have g1 := hfg _ _ h1
  have g2 := mapM_sub hfg h2
  simp only [g1, g2]
  exact e
theorem reify_sub {h h' : Heap} (s : Sub h h') : ∀ (n : Nat) (d r : D), reify h n d = some r → reify h' n d = some r := by
 intro n
 induction n with
 | zero => intro d r e; exact e
 | succ n ih =>
  intro d r e
  cases d <;> simp only [reify] at e ⊢ <;> try exact e
  case agg cs => obtain ⟨m, h1, h2⟩ := Option.map_eq_some_iff.1 e; rw [mapM_sub ih h1]; exact h2 ▸ rfl
  case tuple cs => obtain ⟨m, h1, h2⟩ := Option.map_eq_some_iff.1 e; rw [mapM_sub ih h1]; exact h2 ▸ rfl
  case fn f a c =>
   obtain ⟨m, h1, e⟩ := Option.bind_eq_some_iff.1 e
   obtain ⟨m', h2, h3⟩ := Option.map_eq_some_iff.1 e
   rw [mapM_sub ih h1]
   simp only [Option.bind_some, mapM_sub ih h2]
   exact h3 ▸ rfl
  case sref b v sz off len =>
   have hd : h.get b v ≠ .dead := fun hd => by rw [hd] at e; cases e
   rw [s b v hd]; exact e
  case mref b v =>
   have hd : h.get b v ≠ .dead := fun hd => by rw [hd] at e; cases e
   rw [s b v hd]; exact e
  case pref b v i off =>
   obtain ⟨cs, h1, e⟩ := Option.bind_eq_some_iff.1 e
   obtain ⟨m, h2, h3⟩ := Option.map_eq_some_iff.1 e
   rw [cellsAt_sub s h1]
   simp only [Option.bind_some, mapM_sub ih h2]
   exact h3 ▸ rfl
theorem opR_sub {C : Cx} {call : Run} {o : Oper} {σ : Env} {h h' : Heap} (s : Sub h h') {d : D} (e : opR C call o σ h = some d) : opR C call o σ h' = some d := by
 unfold opR at e ⊢
 split at e
 ·exact ld_sub s e
 ·exact lookD_sub s e
 ·split at e <;> try (cases e; done)
  split at e <;> try (cases e; done)
  split at e <;> try (cases e; done)
  rename_i hx
  simp only [*, reify_sub s _ _ _ hx]
 ·obtain ⟨p, hp, e⟩ := Option.bind_eq_some_iff.1 e
  rw [hp]
  simp only [Option.bind_some]
  split at e <;> try (cases e; done)
  rename_i hsh
  obtain ⟨ds, h1, e⟩ := Option.bind_eq_some_iff.1 e
  rw [if_neg hsh, mapM_sub (fun a b => reify_sub s _ a b) h1]
  exact e
 ·cases e

theorem sub_kill (h : Heap) (b : Nat) : Sub (kill1 h b) h := by
 intro b' v hv
 unfold Heap.get at hv ⊢
 rw [kill_get] at hv ⊢
 by_cases hb : b' = b
 ·rw [if_pos hb] at hv ⊢
  cases hB : h[b']? with
  | none => rfl
  | some B => rw [hB] at hv; simp only [Option.map_some, ite_self, ne_eq, not_true_eq_false] at hv
 ·rw [if_neg hb]
theorem sub_trans {h h' h'' : Heap} (a : Sub h h') (c : Sub h' h'') : Sub h h'' := fun b v hv => (c b v (by rw [a b v hv]; exact hv)).trans (a b v hv)
theorem sub_mask (base : Nat) : ∀ (m : List Nat) (h : Heap), Sub (maskH base m h) h
 | [], h => fun _ _ _ => rfl
 | t :: m, h => sub_trans (sub_mask base m (kill1 h (base + t))) (sub_kill h _)
theorem opv_sound {C : Cx} {call : Run} (hc : CallOk C call) (H : HRel w S φ h) {draw : Bool} {base : Nat} {o : Oper} {ρ : Operand → Value} {σ : Env} (hρ : ∀ x, VRel w S φ (ρ x) (σ x)) (hk : ∀ v, ρ (.const v) = v) {m : List Nat} {d : D} (e : opv C call draw base m o σ h = some (d, h')) :
  GoodOp C.P w S φ h (execOp ρ o) d h' := by
 unfold opv at e
 split at e
 ·obtain ⟨d', hd, e2⟩ := Option.map_eq_some_iff.1 e
  cases e2
  exact .inl (opP_sound H hρ hk hd)
 ·obtain ⟨d', hd, e2⟩ := Option.map_eq_some_iff.1 e
  cases e2
  exact opR_sound hc H hρ (opR_sub (sub_mask base m h) hd)
 ·obtain ⟨x, hx, e2⟩ := Option.bind_eq_some_iff.1 e
  exact .inl (opA_sound H hρ hx e2)
 ·split at e <;> try (cases e; done)
  exact opW_sound hc H hρ hk e

structure ARel (w : World) (S : Nat → Prop) (φ : Phi) (a : Act) (s : St) : Prop where
 tmps : VsRel w S φ a.tmps.toList s.tmps
 defers : a.defers = []
 heap : HRel w S φ s.heap
theorem ARel.ev {a : Act} {s : St} (r : ARel w S φ a s) (x : Operand) : VRel w S φ (a.eval x) (s.ev x) := by
 cases x with
 | tmp t =>
  have hl : a.tmps.size = s.tmps.length := by simpa using r.tmps.1
  show VRel w S φ (a.tmps.getD t undef) (s.tmps.getD t (.tuple []))
  by_cases ht : t < a.tmps.size
  ·have h1 : a.tmps[t]? = some (a.tmps[t]'ht) := Array.getElem?_eq_getElem ht
   have ht2 : t < s.tmps.length := hl ▸ ht
   have h2 : s.tmps[t]? = some (s.tmps[t]'ht2) := List.getElem?_eq_getElem ht2
   rw [List.getD_eq_getElem?_getD, h2]
   simp only [Array.getD, ht, dif_pos, Option.getD_some]
   exact r.tmps.2 t _ _ (by rw [Array.getElem?_toList]; exact h1) h2
  ·have ht2 : ¬ t < s.tmps.length := hl ▸ ht
   rw [List.getD_eq_getElem?_getD, List.getElem?_eq_none (Nat.le_of_not_lt ht2)]
   simp only [Array.getD, ht, dif_neg, not_false_eq_true, Option.getD_none]
   exact .tuple rfl fun i v d h => by simp at h
 | const v => exact .ofV v
 | global g => exact .top
 | func f => exact .fn rfl rfl (fun i v d h => by simp at h) (fun i v d h => by simp at h)
theorem ARel.put {a : Act} {s : St} (r : ARel w S φ a s) {w' : World} {S' : Nat → Prop} {φ' : Phi} {h' : Heap} (e : Ext w S φ s.heap w' S' φ' h') (H : HRel w' S' φ' h') {v : Value} {d : D} (rv : VRel w' S' φ' v d) (dst : Option Tmp) :
  ARel w' S' φ' (a.put dst v) ⟨putT s.tmps dst d, h'⟩ := by
 cases dst with
 | none => exact ⟨r.tmps.vrel r.heap e, r.defers, H⟩
 | some t =>
  refine ⟨⟨by simpa [Act.put, putT] using r.tmps.1, fun i x y h1 h2 => ?_⟩, r.defers, H⟩
  simp only [Act.put, putT, Array.getElem?_toList] at h1 h2
  by_cases hi : t = i
  ·subst hi
   rw [List.getElem?_set] at h2
   rw [Array.getElem?_setIfInBounds] at h1
   simp at h1 h2
   rw [← h1.2, ← h2.2]; exact rv
  ·rw [List.getElem?_set_ne hi] at h2
   rw [Array.getElem?_setIfInBounds_ne hi] at h1
   exact e.vrel r.heap (r.tmps.2 i x y (by simpa using h1) h2)
theorem want_sound {a : Act} {s : St} (r : ARel w S φ a s) {ops : Array Oper} {o : Oper} {b : Bool} (e : wantD ops o s = some b) : Region.wanted o (yielded ops a.tmps) = b := by
 unfold wantD at e
 unfold Region.wanted
 cases hg : o.guard with
 | none => rw [hg] at e; cases e; rfl
 | some p =>
  obtain ⟨j, want⟩ := p
  rw [hg] at e
  simp only at e ⊢
  cases ht : (ops[j]?).bind (·.dst) with
  | none => rw [ht] at e; cases e
  | some t =>
   rw [ht] at e
   simp only at e
   have hy : yielded ops a.tmps j = match a.tmps[t]? with | some (.bool b) => some b | _ => none := by
    unfold yielded; rw [ht]; rfl
   cases hs : s.tmps[t]? with
   | none => rw [List.getD_eq_getElem?_getD, hs] at e; cases e
   | some d =>
    have hl := r.tmps.1
    have hlt := (List.getElem?_eq_some_iff.1 hs).1
    have hsz : t < a.tmps.size := by
     have : a.tmps.size = s.tmps.length := by simpa using hl
     exact this ▸ hlt
    have hv : a.tmps[t]? = some (a.tmps[t]'hsz) := Array.getElem?_eq_getElem hsz
    have rv := r.tmps.2 t _ d (by rw [Array.getElem?_toList]; exact hv) hs
    rw [List.getD_eq_getElem?_getD, hs] at e
    rw [hy, hv]
    generalize a.tmps[t]'hsz = v at *
    cases d <;> simp only [Option.getD_some] at e <;> try (cases e; done)
    ·cases e; rw [rv.bool_inv]; rfl
    ·cases e; obtain ⟨vs, rfl, _⟩ := rv.tuple_inv; rfl
theorem opStep_sound {C : Cx} {call : Run} (hc : CallOk C call) {draw : Bool} {base : Nat} {ops : Array Oper} {i : Nat} {o : Oper} (ho : ops[i]? = some o) {a : Act} {s s' : St} (r : ARel w S φ a s) {m : List Nat} (e : opStep C call draw base ops m o s = some s')
  {K : Act → World → Prop} {Q : Exit → Act → World → Prop} (hK : ∀ a' w' S' φ', ARel w' S' φ' a' s' → Ext w S φ s.heap w' S' φ' s'.heap → K a' w') : wpOp C.P ops Q i K a w := by
 unfold opStep at e
 obtain ⟨b, hb, e2⟩ := Option.bind_eq_some_iff.1 e
 unfold wpOp
 rw [ho]
 simp only
 rw [want_sound r hb]
 cases b with
 | true =>
  simp only [if_true] at e2 ⊢
  obtain ⟨q, hq, e3⟩ := Option.map_eq_some_iff.1 e2
  cases e3
  left
  refine (opv_sound (h' := q.2) (d := q.1) hc r.heap r.ev (fun _ => rfl) hq).wp fun v w' S' φ' h1 h2 h3 => ?_
  exact hK _ w' S' φ' (r.put h1 h2 h3 o.dst) h1
 | false =>
  simp only [Bool.false_eq_true, if_false] at e2 ⊢
  cases e2
  exact hK _ w S φ (r.put (.refl ..) r.heap (.tuple (by simp [undef]) fun i v d h => by simp at h) o.dst) (.refl ..)
theorem opsRun_sound {C : Cx} {call : Run} (hc : CallOk C call) {draw : Bool} {base : Nat} {ops : Array Oper} {p : Plan} {Q : Exit → Act → World → Prop} : ∀ (L : List Nat) (l : List Oper) (n : Nat), (L.map fun i => ops[i]?) = l.map some → ∀ {w : World} {S : Nat → Prop} {φ : Phi} {a : Act} {s s' : St},
  ARel w S φ a s → opsRun C call draw base ops p n l s = some s' → (∀ a' w' S' φ', ARel w' S' φ' a' s' → Ext w S φ s.heap w' S' φ' s'.heap → Q .normal a' w') → wpOps C.P ops Q L a w := by
 intro L
 induction L with
 | nil =>
  intro l n hl w S φ a s s' r e hQ
  cases l with
  | nil => simp [opsRun] at e; subst e; exact hQ a w S φ r (.refl ..)
  | cons => simp at hl
 | cons i L ih =>
  intro l n hl w S φ a s s' r e hQ
  cases l with
  | nil => simp at hl
  | cons o l =>
   simp only [List.map_cons, List.cons.injEq] at hl
   obtain ⟨s1, h1, h2⟩ := Option.bind_eq_some_iff.1 e
   rw [wpOps_cons]
   refine opStep_sound hc hl.1 r h1 fun a' w' S' φ' r' x' => ?_
   exact ih l (n + 1) hl.2 r' h2 fun a2 w2 S2 φ2 r2 x2 => hQ a2 w2 S2 φ2 r2 (x'.trans x2)
end Go.Proofs.YtlpbmajbalenjaaA
