/- Words beside the print's own: a make with a capacity, and copy into a row of one's own, as events of a walk. -/
import Derived.Test.YtmghpdblednhiaaWMore
import Derived.Test.YtmghpdblednhiaaWLast
set_option linter.unusedVariables false
set_option linter.unusedSimpArgs false
namespace Go.Proofs.YtmghpdblednhiaaW.PrintWords
open Go.RowKit
theorem rd_set_same {ys xs : List Int} {i v : Int} (h : ys = xs.set i.toNat v) (h0 : 0 ≤ i) (h1 : i < (xs.length : Int)) : rd ys i = v := by
  subst h
  simp only [rd, List.getD_eq_getElem?_getD]
  rw [List.getElem?_set_self (by omega)]; rfl
/-- copy(xs, ys): what xs holds then. -/
def cpy {α : Type} (xs ys : List α) : List α := ys.take (min ys.length xs.length) ++ xs.drop (min ys.length xs.length)
theorem cpy_length {α : Type} (xs ys : List α) : (cpy xs ys).length = xs.length := by
  unfold cpy
  rw [List.length_append, List.length_take, List.length_drop]
  omega
section
variable {P : Program} {ops : Array Oper} {rest : List Oper} {o : Oper} {a : Act} {Q : Exit → Act → World → Prop} {α : Type}
theorem Kd.R_makec (d : Kd α) {w0 W : World} (base e : Nat) (hgd : o.guard = none) {N : Tmp} (hd : o.dst = some N) (t : TypeId) (x y : Operand) (ho : o.op = .makeSlice t x y) (n m : Int) (hx : a.eval x = .int .i64 n) (hy : a.eval y = .int .i64 m)
    (ht : P.underlying t = some (.slice e)) (z : Value) (bytes : Nat) (hinfo : (P.info? e).map (fun i => (i.zero, i.size, i.bytes)) = some (some z, d.sz, bytes)) (hz : z.cells.size = d.sz) (hs0 : 0 < d.sz) (hb0 : 0 < bytes)
    (z0 : α) {ok okp : Nat → Prop} (hzero : d.M W base okp z0 z.cells.toList) (hok : ∀ k, okp k → ok k) (hfresh : ok W.heap.size) (h0 : 0 ≤ n) (h1 : n ≤ m) (hl : m.toNat * bytes ≤ 281474976710656) (HB : Below base w0 W) (hbase : base ≤ W.heap.size)
    (h : ∀ v1 w1, d.R e w1 base ok v1 (List.replicate n.toNat z0) → Below base w0 w1 → W.grownBy w1 none → (∃ b, v1.ownBlock = some b ∧ W.heap.size ≤ b) → wpList P ops Q rest (a.put o.dst v1) w1) : wpList P ops Q (o :: rest) a W := by
  obtain ⟨j, rfl⟩ := Int.eq_ofNat_of_zero_le h0
  obtain ⟨m, rfl⟩ := Int.eq_ofNat_of_zero_le (Int.le_trans h0 h1)
  simp only [Int.toNat_natCast] at hl h
  obtain ⟨i0, hi, hzz⟩ := Option.map_eq_some_iff.1 hinfo
  simp only [Prod.mk.injEq] at hzz
  obtain ⟨hz0, hz1, hz2⟩ := hzz
  have hm : m ≤ 281474976710656 := Nat.le_trans (Nat.le_mul_of_pos_right _ hb0) hl
  have hjm : j ≤ m := by omega
  have hr := run_make (P := P) W t e i0 z ht hi hz0 .i64 .i64 (j : Int) (m : Int) (by omega) (by omega)
    (by
      have h3 : ((i0.bytes * m : Nat) : Int) ≤ 281474976710656 := by rw [hz2, Nat.mul_comm]; omega
      rwa [Int.natCast_mul] at h3) (by omega)
  simp only [Int.toNat_natCast] at hr
  rw [hz1] at hr
  have hR : d.R e (W.alloc (.cells (madeCells z.cells (m * d.sz)) e)) base ok (.slice (some ⟨W.heap.size, 0, none⟩) m m) (List.replicate m z0) := by
    refine ⟨fun k hk => ?_, (madeCells z.cells (m * d.sz)).toList, ?_, ?_⟩
    · have : W.heap.size = k := by simpa [Value.ownBlock] using hk
      subst this
      exact hfresh
    · have h2 := World.ownsRow_lit (base := base) (e := e) (size := d.sz) W (madeCells z.cells (m * d.sz)) m hbase (by simp only [maxLen]; omega) (by simp [size_madeCells])
      simpa using h2
    · refine (Kd.reps_made hz hs0 hzero m).imp_ (fun p c hp => d.M_mono (fun k hk => ⟨hok k hk.1, fun he => ?_⟩) (Kd.M_below (d.M_bound hp) (below_alloc (Below.refl _ _) _)))
      have h3 : k = W.heap.size := by simpa [Value.ownBlock] using he
      have := hk.2.2.1
      omega
  have hR2 := Kd.R_take (m := j) hR (by simp; omega)
  rw [List.take_replicate, Nat.min_eq_left hjm] at hR2
  refine Kd.event_run hgd (v := .slice (some ⟨W.heap.size, 0, none⟩) j m) (w1 := W.alloc (.cells (madeCells z.cells (m * d.sz)) e)) ?_ (h _ _ hR2 (HB.alloc hbase _) (World.grownBy_alloc W _ none) ⟨W.heap.size, by simp [Value.ownBlock], Nat.le_refl _⟩)
  simp [execOp, ho, hx, hy, hr]
theorem Kd.R_copyin (k : IntKind) {w0 W : World} (base : Nat) (hgd : o.guard = none) (s x : Operand) (t t' e : TypeId)
    (ho : o.op = .call { callee := .builtin .copy, args := #[s, x], argTypes := #[t, t'] }) (ht : P.underlying t = some (.slice e)) (z : Value) (bytes : Nat) (hinfo : (P.info? e).map (fun i => (i.zero, i.size, i.bytes)) = some (some z, 1, bytes))
    (v : Value) (xs ys : List Int) (A : Option Addr) (m c : Nat) (ok : Nat → Prop) (hs : a.eval s = v) (hx : a.eval x = .slice A m c)
    (HO : (Kd.int k).R e W base ok v xs) (HR : (Kd.int k).C W A m ys) (HB : Below base w0 W) (hbase : base ≤ W.heap.size)
    (h : ∀ w1, (Kd.int k).R e w1 base ok v (cpy xs ys) → Below base w0 w1 → W.grownBy w1 v.ownBlock → wpList P ops Q rest (a.put o.dst (.int .i64 ((min ys.length xs.length : Nat) : Int))) w1) :
    wpList P ops Q (o :: rest) a W := by
  have hm : ys.length = m := (Kd.reads_of_C (enc := Value.int k) (d := (0 : Int)) (h1 := fun _ => rfl) HR).1
  subst hm
  have hi : (P.info? e).map (·.size) = some 1 := by
    obtain ⟨i0, hi, hzz⟩ := Option.map_eq_some_iff.1 hinfo
    simp only [Prod.mk.injEq] at hzz
    rw [hi]; simp [hzz.2.1]
  exact Kd.R_copy (enc := Value.int k) (h1 := fun _ => rfl) (0 : Int) base hgd s x t t' e ho ht hi v xs ys A ys.length c ok hs hx HO HR HB hbase h
/-- copy(xs[N:], ys), xs a row of one's own. -/
theorem Kd.R_copyat (k : IntKind) {w0 W : World} (base : Nat) (hgd : o.guard = none) (s x : Operand) (t t' e : TypeId)
    (ho : o.op = .call { callee := .builtin .copy, args := #[s, x], argTypes := #[t, t'] }) (ht : P.underlying t = some (.slice e)) (z : Value) (bytes : Nat) (hinfo : (P.info? e).map (fun i => (i.zero, i.size, i.bytes)) = some (some z, 1, bytes))
    (A0 Aq : Option Addr) (n c0 yl cq N : Nat) (xs ys : List Int) (A : Option Addr) (m c : Nat) (ok : Nat → Prop) (hs : a.eval s = .slice Aq yl cq) (hx : a.eval x = .slice A m c)
    (hA : Aq = if c0 = N then A0 else A0.map (·.add (N * 1))) (hy : yl = n - N) (hN : N ≤ xs.length)
    (HO : (Kd.int k).R e W base ok (.slice A0 n c0) xs) (HR : (Kd.int k).C W A m ys) (HB : Below base w0 W) (hbase : base ≤ W.heap.size)
    (h : ∀ w1, (Kd.int k).R e w1 base ok (.slice A0 n c0) (xs.take N ++ cpy (xs.drop N) ys) → Below base w0 w1 → W.grownBy w1 (Value.slice A0 n c0).ownBlock → wpList P ops Q rest (a.put o.dst (.int .i64 ((min ys.length (xs.drop N).length : Nat) : Int))) w1) :
    wpList P ops Q (o :: rest) a W := by
  have hi : (P.info? e).map (·.size) = some 1 := by
    obtain ⟨i0, hi, hzz⟩ := Option.map_eq_some_iff.1 hinfo
    simp only [Prod.mk.injEq] at hzz
    rw [hi]; simp [hzz.2.1]
  have HR' : (Kd.scalar (Value.int k) (fun _ => rfl)).C W A m ys := HR
  have HO' : (Kd.scalar (Value.int k) (fun _ => rfl)).R e W base ok (.slice A0 n c0) xs := HO
  have hR := Kd.reads_of_C (enc := Value.int k) (d := (0 : Int)) (h1 := fun _ => rfl) HR'
  have hm : ys.length = m := hR.1
  have hown := Kd.own_of_R HO'
  have hn : n = xs.length := by
    obtain ⟨A', c', he⟩ := own_slice hown
    injection he
  subst hn
  have hdl : (xs.drop N).length = xs.length - N := List.length_drop
  have fin : ∀ w1, (Builtin.copy_ #[t, t'] o.type #[.slice Aq yl cq, .slice A m c]).run P W = .ok (goInt ((min ys.length (xs.drop N).length : Nat) : Int)) w1 → (Kd.int k).R e w1 base ok (.slice A0 xs.length c0) (xs.take N ++ cpy (xs.drop N) ys) → W.grownBy w1 (Value.slice A0 xs.length c0).ownBlock → wpList P ops Q (o :: rest) a W := by
    intro w1 hr hrow hg
    refine wpList_plain hgd fun K hK => ?_
    unfold Oper.wp execOp
    simp only [ho, resolve, invoke, builtin, Sem.run_bind, Sem.run_pure, Result.andThen_ok, List.map_toArray, List.map_cons, List.map_nil, hs, hx, hr]
    exact hK _ _ (h w1 hrow (HB.grown hg hbase (own_base hown)) hg)
  have hself : cpy (xs.drop N) ys = ys.take (min m yl) ++ xs.drop (N + min m yl) := by
    unfold cpy
    rw [hm, hdl, ← hy, List.drop_drop]
  rcases Nat.eq_zero_or_pos (min m yl) with h0 | hp
  · refine fin W ?_ ?_ (World.grownBy.refl W _)
    · rw [hm, hdl, ← hy, h0]
      exact run_copy_none W t t' o.type e Aq A yl cq m c ht hi (by show min m yl = 0; exact h0)
    · rw [hself, h0, List.take_zero, Nat.add_zero, List.nil_append, List.take_append_drop]
      exact HO
  · obtain ⟨ad, hAd, hc⟩ := hR.2.2 (by omega)
    rcases hown.2 with ⟨_, hx0⟩ | ⟨g, cap, cur, hv, hb, hh, hnc, hcm, hcs, htake⟩
    · omega
    have hcap : c0 = cap := by injection hv
    have hA0 : A0 = some ⟨g, 0, none⟩ := by injection hv
    have hcs1 : cur.size = cap := by omega
    have hAq : Aq = some ⟨g, N, none⟩ := by
      rw [hA, if_neg (by omega), hA0]
      simp [add_plain]
    have hsrc : ∀ j u, (encs (Value.int k) (ys.take (min m yl)))[j]? = some u → W.cell? (ad.add j) = some u := by
      intro j u hu
      have hj : j < (ys.take (min m yl)).length := by
        rcases Nat.lt_or_ge j (ys.take (min m yl)).length with h | h
        · exact h
        · rw [List.getElem?_eq_none (by rw [encs_length]; exact h)] at hu
          cases hu
      have hjm : j < min m yl := by rw [List.length_take] at hj; omega
      rw [encs_get (d := (0 : Int)) _ j hj] at hu
      rw [hc j (by omega), ← hu]
      simp [List.getD_eq_getElem?_getD, hjm]
    have hkl : (encs (Value.int k) (ys.take (min m yl))).length = min m yl := by rw [encs_length, List.length_take]; omega
    have hr := run_copy_cells (P := P) W t t' o.type e g N yl cq ad m c (encs (Value.int k) (ys.take (min m yl))) ht hi (by rw [hkl]) hsrc
      (fun j hj => by rw [cell_of_row W g _ cur e (0, 0) hh]; simp; omega) (fun j _ => blk_frozen hh _) (by intro u hu; simp only [encs, List.mem_map] at hu; obtain ⟨q, _, rfl⟩ := hu; rfl)
    obtain ⟨cur', h3, h4, h5⟩ := setCells_row (encs (Value.int k) (ys.take (min m yl))) N W cur hh (by rw [hkl]; omega)
    obtain ⟨s1, s2, s3, s4⟩ := setCells_same g (encs (Value.int k) (ys.take (min m yl))) N W
    refine fin _ (by rw [hAq, hAd, hr, hkl, hm, hdl, ← hy]) ?_ ⟨s1, s2, s3, by rw [s4]; exact Nat.le_refl _, fun k _ hk => setCells_far _ _ k (fun he => hk (by rw [hv, he]; simp [Value.ownBlock]))⟩
    refine Kd.R_of_own (enc := Value.int k) (h1 := fun _ => rfl) ?_ HO'.1
    have hln : (xs.take N ++ cpy (xs.drop N) ys).length = xs.length := by
      rw [List.length_append, cpy_length, List.length_take, List.length_drop]
      omega
    rw [hln]
    refine ⟨by rw [encs_length, hln, Nat.mul_one], .inr ⟨g, cap, cur', hv, hb, h3, hnc, hcm, by rw [h4, hcs], ?_⟩⟩
    rw [h5, hkl, Nat.mul_one, hself, encs_append, encs_append]
    have htk : cur.toList.take xs.length = encs (Value.int k) xs := by rw [← htake, Nat.mul_one]
    have e1 : encs (Value.int k) (xs.take N) = cur.toList.take N := by
      have : encs (Value.int k) (xs.take N) = (encs (Value.int k) xs).take N := by simp [encs, List.map_take]
      rw [this, ← htk, List.take_take, Nat.min_eq_left hN]
    have e2 : encs (Value.int k) (xs.drop (N + min m yl)) = (cur.toList.drop (N + min m yl)).take (xs.length - (N + min m yl)) := by
      have : encs (Value.int k) (xs.drop (N + min m yl)) = (encs (Value.int k) xs).drop (N + min m yl) := by simp [encs, List.map_drop]
      rw [this, ← htk, List.drop_take]
    rw [e1, e2, List.append_assoc]
    have hlc : cur.toList.length = cap := by rw [Array.length_toList, hcs1]
    have hlt : (cur.toList.take N).length = N := by rw [List.length_take, hlc]; omega
    rw [List.take_append, hlt, List.take_of_length_le (by rw [hlt]; exact hN)]
    congr 1
    rw [List.take_append, hkl, List.take_of_length_le (by rw [hkl]; omega)]
    congr 2
    omega
end
end Go.Proofs.YtmghpdblednhiaaW.PrintWords
