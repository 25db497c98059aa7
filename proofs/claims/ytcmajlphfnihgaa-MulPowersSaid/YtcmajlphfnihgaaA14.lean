/- Appends. -/
import Derived.Test.YtcmajlphfnihgaaA13
set_option linter.unusedVariables false
set_option linter.unusedSimpArgs false
namespace Go.Proofs.YtcmajlphfnihgaaA
open Go
variable {P : Program} {w w' : World} {S : Nat → Prop} {φ φ' : Phi} {h h' : Heap}

theorem growBy_le (n : Nat) : ∀ (r c : Nat), Builtin.growBy n r c ≤ max c (n + (n + 768) / 4)
  | 0, c => by simp only [Builtin.growBy]; omega
  | r + 1, c => by
    simp only [Builtin.growBy]
    split
    · omega
    · have := growBy_le n r (c + (c + 768) / 4)
      omega
theorem nextcap_le {n c : Nat} (hc : c < n) : Builtin.nextslicecap n c ≤ 2 * (n + 192) := by
  unfold Builtin.nextslicecap
  split
  · omega
  · split
    · omega
    · have := growBy_le n 4 c
      omega
theorem roomy_le {n by_ : Nat} (hr : roomy n by_ = true) {c : Nat} (hc : c < n) : ¬ (Builtin.nextslicecap n c * by_ > 2 ^ 48) ∧ ¬ ((n : Int) > IntKind.i64.max) := by
  simp only [roomy, decide_eq_true_eq] at hr
  have h1 := nextcap_le hc
  have h2 : Builtin.nextslicecap n c * by_ ≤ 2 * (n + 192) * by_ := Nat.mul_le_mul_right by_ h1
  have h3 : (n + 192) * by_ ≤ (n + 192) * (by_ + 1) := Nat.mul_le_mul_left _ (by omega)
  have h4 : 2 * (n + 192) * by_ = 2 * ((n + 192) * by_) := Nat.mul_assoc _ _ _
  have h5 : (n + 192) * 1 ≤ (n + 192) * (by_ + 1) := Nat.mul_le_mul_left _ (by omega)
  have h6 : IntKind.i64.max = 9223372036854775807 := by decide
  constructor
  · omega
  · rw [h6]; omega
/-- What an append needs to know of its types. -/
structure AppT (P : Program) (t e : TypeId) (s by_ : Nat) (z : Value) (ts : Array TypeId) : Prop where
  hu : P.underlying t = some (.slice e)
  hs : szOf P e = some s
  hb : bytesOf P e = some by_
  hz : ∀ w, (zeroValue e).run P w = .ok z w
  hzs : z.cells.size = s
  h0 : ts[0]? = some t
  h1 : ∀ u, ts[1]? = some u → ∃ d, P.underlying u = some d ∧ ∀ k, d ≠ .int k
theorem AppT.cut {t e : TypeId} {s by_ : Nat} {z : Value} {ts : Array TypeId} (a : AppT P t e s by_ z ts) : ts[1]? = none ∨ ∃ u d, ts[1]? = some u ∧ P.underlying u = some d ∧ ∀ k, d ≠ .int k := by
  cases h : ts[1]? with
  | none => exact .inl rfl
  | some u =>
    obtain ⟨d, h1, h2⟩ := a.h1 u h
    exact .inr ⟨u, d, rfl, h1, h2⟩
theorem append_fits {t e : TypeId} {s by_ : Nat} {z : Value} {ts : Array TypeId} (a : AppT P t e s by_ z ts) (ty : TypeId) {base : Option Addr} {sLen sCap n : Nat} {y : Value} {us : Array Value} (hl : (Builtin.lenOf y).run P w = .ok n w)
    (hf : (Builtin.firstCells s n y).run P w = .ok us w) (hfit : sLen + n ≤ sCap) (hst : (match base with | some b => storeCells (b.add (sLen * s)) us.toList | none => pure ()).run P w = .ok () w') :
    (Builtin.append_ ts ty #[.slice base sLen sCap, y]).run P w = .ok (.slice base (sLen + n) sCap) w' := by
  have hz0 : (#[.slice base sLen sCap, y] : Array Value)[0]? = some (.slice base sLen sCap) := rfl
  have hz1 : (#[.slice base sLen sCap, y] : Array Value)[1]? = some y := rfl
  unfold Builtin.append_
  rcases a.cut with h | ⟨u, d, h, h1, h2⟩
  · simp only [a.h0, hz0, hz1, Sem.run_bind, run_underlying a.hu, Result.andThen_ok, run_szOf a.hs, h, Bool.false_eq_true, if_false, hl, hfit, if_true, Bool.not_false, hf, Sem.run_pure]
    cases base with
    | none => simp only at hst; cases hst; rfl
    | some b => simp only at hst; simp only [Sem.run_bind, hst, Result.andThen_ok]; rfl
  · cases base with
    | none =>
      simp only at hst; cases hst
      cases d <;> first
        | exact absurd rfl (h2 _)
        | (simp only [a.h0, hz0, hz1, Sem.run_bind, run_underlying a.hu, Result.andThen_ok, run_szOf a.hs, h, run_underlying h1, Bool.false_eq_true, if_false, hl, hfit, if_true, Bool.not_false, hf, Sem.run_pure])
    | some b =>
      simp only at hst
      cases d <;> first
        | exact absurd rfl (h2 _)
        | (simp only [a.h0, hz0, hz1, Sem.run_bind, run_underlying a.hu, Result.andThen_ok, run_szOf a.hs, h, run_underlying h1, Bool.false_eq_true, if_false, hl, hfit, if_true, Bool.not_false, hf, Sem.run_pure, hst])
theorem append_grows {t e : TypeId} {s by_ : Nat} {z : Value} {ts : Array TypeId} (a : AppT P t e s by_ z ts) (ty : TypeId) {base : Option Addr} {sLen sCap n : Nat} {y : Value} {olds us : Array Value} (hl : (Builtin.lenOf y).run P w = .ok n w)
    (hf : (Builtin.firstCells s n y).run P w.drew = .ok us w.drew) (ho : (Builtin.firstCells s sLen (.slice base sLen sCap)).run P w.drew = .ok olds w.drew) (hfit : sCap < sLen + n) (hroom : roomy (sLen + n) by_ = true) :
    ∃ cap rest, (Builtin.append_ ts ty #[.slice base sLen sCap, y]).run P w = .ok (.slice (some ⟨w.heap.size, 0, none⟩) (sLen + n) cap) (w.drew.alloc (.cells (olds ++ us ++ rest) e)) ∧ sLen + n ≤ cap ∧ rest.size = (cap - (sLen + n)) * s := by
  have hz0 : (#[.slice base sLen sCap, y] : Array Value)[0]? = some (.slice base sLen sCap) := rfl
  have hz1 : (#[.slice base sLen sCap, y] : Array Value)[1]? = some y := rfl
  obtain ⟨r1, r2⟩ := roomy_le hroom hfit
  obtain ⟨info, hinfo, hby⟩ : ∃ info, P.info? e = some info ∧ info.bytes = by_ := by
    have := a.hb; unfold bytesOf at this; obtain ⟨i, h1, h2⟩ := Option.map_eq_some_iff.1 this; exact ⟨i, h1, h2⟩
  have hti : ∀ w, (typeInfo e).run P w = .ok info w := fun w => by simp [typeInfo, hinfo]
  have hq : (Question.appendCap (sLen + n) sCap e).forced = false := rfl
  obtain ⟨cap, hcap⟩ : ∃ cap, (Question.appendCap (sLen + n) sCap e).cut (w.tape w.drawn (.appendCap (sLen + n) sCap e)) = cap := ⟨_, rfl⟩
  have hge : sLen + n ≤ cap := by rw [← hcap]; exact Nat.le_add_right _ _
  refine ⟨cap, Builtin.zeroCells z.cells (cap - (sLen + n)), ?_, hge, by simp [Builtin.zeroCells, a.hzs]⟩
  have hnf : ¬ (sLen + n ≤ sCap) := by omega
  have e1 : ({ w with drawn := w.drawn + 1 } : World) = w.drew := rfl
  have r2' : ∀ q : Prop, ¬ (((sLen + n : Nat) : Int) > IntKind.i64.max ∧ q) := fun q hq => r2 hq.1
  unfold Builtin.append_
  rcases a.cut with h | ⟨u, d, h, h1, h2⟩
  · simp only [a.h0, hz0, hz1, Sem.run_bind, run_underlying a.hu, Result.andThen_ok, run_szOf a.hs, h, Bool.false_eq_true, if_false, hl, hnf, hti, hby, r1, r2', Bool.not_false, if_true, Sem.run_ite, Sem.run_pure, run_choose, hq, hcap, e1, run_askRoom, ho, hf, a.hz, newRow, run_newObj]
    rfl
  · cases d <;> first
      | exact absurd rfl (h2 _)
      | (simp only [a.h0, hz0, hz1, Sem.run_bind, run_underlying a.hu, Result.andThen_ok, run_szOf a.hs, h, run_underlying h1, Bool.false_eq_true, if_false, hl, hnf, hti, hby, r1, r2', Bool.not_false, if_true, Sem.run_ite, Sem.run_pure, run_choose, hq, hcap, e1, run_askRoom, ho, hf, a.hz, newRow, run_newObj]; rfl)

/-- The slice that grows: what is there of it, when it is read. -/
theorem drew_first {s n : Nat} {y : Value} {us : Array Value} (hf : (Builtin.firstCells s n y).run P w = .ok us w) (hy : (∃ a l c, y = .slice a l c) ∨ ∃ t, y = .string t) (hw : ∀ a l c, y = .slice (some a) l c → ∀ j, j < n * s → (w.cell? (a.add j)).isSome = true) :
    (Builtin.firstCells s n y).run P w.drew = .ok us w.drew := by
  rcases hy with ⟨a, l, c, rfl⟩ | ⟨t, rfl⟩
  · cases a with
    | none => simp [Builtin.firstCells] at hf ⊢; exact hf
    | some a =>
      have h1 := fun j hj => Option.isSome_iff_exists.1 (hw a l c rfl j hj)
      have key : ∀ (w : World), (∀ j, j < n * s → ∃ v, w.cell? (a.add j) = some v) → (Builtin.firstCells s n (.slice (some a) l c)).run P w = .ok ((List.range (n * s)).map fun j => (w.cell? (a.add j)).getD default).toArray w := fun w hk => by
        have := run_loadCells (P := P) w a (n * s) (fun j => (w.cell? (a.add j)).getD default) fun j hj => by obtain ⟨v, hv⟩ := hk j hj; rw [hv]; rfl
        simpa [Builtin.firstCells] using this
      rw [key w h1] at hf
      cases hf
      exact key w.drew h1
  · simp [Builtin.firstCells] at hf ⊢; exact hf
end Go.Proofs.YtcmajlphfnihgaaA
