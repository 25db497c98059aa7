/- Reading: what the shadow reads is what the machine reads. -/
import Derived.Test.YtcmajlphfnihgaaA2
import Derived.ChangeKeysEq
set_option linter.unusedVariables false
set_option linter.unusedSimpArgs false
namespace Go.Proofs.YtcmajlphfnihgaaA
open Go
variable {P : Program} {w : World} {S : Nat → Prop} {φ : Phi} {h : Heap}

theorem VRel.ofNo {v : Value} {d : D} (r : VRel w S noPhi v d) : VRel w S φ v d := r.mono (fun _ h => h) (fun _ _ => rfl) (fun b u x h => by cases h)

theorem get_rel {b v : Nat} {body : Body} (e : h.get b v = body) (hb : body ≠ .dead) : ∃ B, h[b]? = some B ∧ B.ver = v ∧ B.body = body := by
  unfold Heap.get at e
  cases hB : h[b]? with
  | none => rw [hB] at e; exact absurd e.symm hb
  | some B =>
    rw [hB] at e
    simp only at e
    by_cases hv : B.ver = v
    · rw [if_pos hv] at e; exact ⟨B, rfl, hv, e⟩
    · rw [if_neg hv] at e; exact absurd e.symm hb

theorem get_ints (H : HRel w S φ h) {b v A sz n : Nat} {k : IntKind} {xs : List Int} (e : h.get b v = .ints k xs) (hp : φ b v = some (A, sz, n)) :
    ∃ c T, sz = 1 ∧ w.heap[A]? = some (.cells c T (0, 0)) ∧ c.size = n ∧ xs.length ≤ n ∧ ∀ i, i < xs.length → c[i]? = some (.int k (xs.getD i 0)) := by
  obtain ⟨⟨v', fz, body⟩, hB, hv, hb⟩ := get_rel e (by simp)
  simp only at hv hb
  subst hv; subst hb
  cases H.blk b _ hB with
  | ints hφ hA hn hl hx hS => rw [hφ] at hp; cases hp; exact ⟨_, _, rfl, hA, hn, hl, hx⟩
  | ints0 hφ => rw [hφ] at hp; cases hp
theorem get_rows (H : HRel w S φ h) {b v A sz n sz' : Nat} {xs : List D} (e : h.get b v = .rows sz' xs) (hp : φ b v = some (A, sz, n)) :
    ∃ c T, sz' = sz ∧ w.heap[A]? = some (.cells c T (0, 0)) ∧ c.size = n ∧ xs.length * sz ≤ n ∧ (∀ (i : Nat) (d : D), xs[i]? = some d → d.wide sz) ∧
      ∀ (i : Nat) (d : D) (j : Nat) (e : D), xs[i]? = some d → d.cells[j]? = some e → ∃ x, c[i * sz + j]? = some x ∧ VRel w S φ x e := by
  obtain ⟨⟨v', fz, body⟩, hB, hv, hb⟩ := get_rel e (by simp)
  simp only at hv hb
  subst hv; subst hb
  cases H.blk b _ hB with
  | rows hφ hA hn hl hsz hx hS => rw [hφ] at hp; cases hp; exact ⟨_, _, rfl, hA, hn, hl, hsz, hx⟩
  | rows0 hφ => rw [hφ] at hp; cases hp

theorem cell_of {A o : Nat} {c : Array Value} {T : TypeId} {fz : Nat × Nat} (hA : w.heap[A]? = some (.cells c T fz)) : w.cell? ⟨A, o, none⟩ = c[o]? := by
  simp [World.cell?, hA]

theorem cellsAt_sound (H : HRel w S φ h) {x : Value} {p : D} (r : VRel w S φ x p) {cs : List D} (e : cellsAt h p = some cs) :
    ∃ A o, x = .pointer (some ⟨A, o, none⟩) ∧ ∀ (j : Nat) (c : D), cs[j]? = some c → ∃ y, w.cell? ⟨A, o + j, none⟩ = some y ∧ VRel w S φ y c := by
  cases r with
  | @ptr _ B o cs' vs hS hx hv =>
    simp only [cellsAt, Option.some.injEq] at e
    subst e
    exact ⟨B, o, rfl, fun j c hc => ⟨vs j, hx j c hc, (hv j c hc).ofNo⟩⟩
  | @pref _ A b v sz n i off hp =>
    refine ⟨A, i * sz + off, rfl, ?_⟩
    simp only [cellsAt] at e
    cases hg : h.get b v with
    | dead => rw [hg] at e; simp at e
    | ints k xs =>
      rw [hg] at e
      obtain ⟨c, T, rfl, hA, hn, hl, hx⟩ := get_ints H hg hp
      by_cases h0 : off = 0
      · by_cases hi : i < xs.length
        · simp only [h0, hi, if_true, Option.some.injEq] at e
          subst e; subst h0
          intro j c' hc
          cases j with
          | zero =>
            simp at hc; subst hc
            rw [cell_of hA]
            exact ⟨_, by simpa using hx i hi, .int⟩
          | succ j => simp at hc
        · simp [h0, hi] at e
      · simp [h0] at e
    | rows sz' xs =>
      rw [hg] at e
      obtain ⟨c, T, rfl, hA, hn, hl, hsz, hx⟩ := get_rows H hg hp
      simp only at e
      cases hd : xs[i]? with
      | none => rw [hd] at e; simp at e
      | some d =>
        rw [hd] at e
        simp only [Option.map_some, Option.some.injEq] at e
        subst e
        intro j c' hc
        rw [List.getElem?_drop] at hc
        obtain ⟨y, h1, h2⟩ := hx i d (off + j) c' hd hc
        exact ⟨y, by rw [cell_of hA, Nat.add_assoc]; exact h1, h2⟩
  | _ => simp [cellsAt] at e

theorem run_isAgg {t : TypeId} {a : Bool} (ha : aggB P t = some a) (w : World) : (isAgg t).run P w = .ok a w := by
  unfold aggB at ha
  cases hu : P.underlying t with
  | none => rw [hu] at ha; simp at ha
  | some d =>
    rw [hu] at ha
    simp only [Option.map_some, Option.some.injEq] at ha
    simp only [isAgg, Sem.run_bind, run_underlying hu, Result.andThen_ok]
    subst ha
    cases d <;> rfl
theorem run_szOf {t : TypeId} {s : Nat} (hs : szOf P t = some s) (w : World) : (sizeOf t).run P w = .ok s w := by
  unfold szOf at hs
  cases hi : P.info? t with
  | none => rw [hi] at hs; simp at hs
  | some i => rw [hi] at hs; simp at hs; simp [sizeOf, typeInfo, hi, hs]
theorem addr_add (A o n : Nat) : (⟨A, o, none⟩ : Addr).add n = ⟨A, o + n, none⟩ := by unfold Addr.add; split <;> simp_all

theorem loadVar_sound {t : TypeId} {a : Bool} {s : Nat} (ha : aggB P t = some a) (hs : szOf P t = some s) {A o : Nat} {cs : List D} {d : D}
    (hc : ∀ (j : Nat) (c : D), cs[j]? = some c → ∃ y, w.cell? ⟨A, o + j, none⟩ = some y ∧ VRel w S φ y c) (e : ldCells a s cs = some d) :
    ∃ x, (loadVar t ⟨A, o, none⟩).run P w = .ok x w ∧ VRel w S φ x d := by
  cases a with
  | false =>
    simp only [ldCells, Bool.false_eq_true, if_false] at e
    cases cs with
    | nil => simp at e
    | cons c cs =>
      simp at e; subst e
      obtain ⟨y, h1, h2⟩ := hc 0 c rfl
      rw [Nat.add_zero] at h1
      exact ⟨y, by simp [loadVar, run_isAgg ha, h1], h2⟩
  | true =>
    simp only [ldCells, if_true] at e
    by_cases hl : s ≤ cs.length
    · simp only [hl, if_true, Option.some.injEq] at e
      subst e
      have hall : ∀ j, j < s → ∃ y, w.cell? ⟨A, o + j, none⟩ = some y := fun j hj => by
        obtain ⟨y, h1, _⟩ := hc j cs[j] (List.getElem?_eq_getElem (by omega))
        exact ⟨y, h1⟩
      have hf : ∀ j, j < s → w.cell? ((⟨A, o, none⟩ : Addr).add j) = some ((w.cell? ⟨A, o + j, none⟩).getD default) := fun j hj => by
        obtain ⟨y, h1⟩ := hall j hj
        rw [addr_add, h1]; rfl
      refine ⟨.agg ((List.range s).map fun j => (w.cell? ⟨A, o + j, none⟩).getD default).toArray, ?_, ?_⟩
      · simp only [loadVar, Sem.run_bind, run_isAgg ha, Result.andThen_ok, Sem.run_ite, if_true, run_szOf hs, run_loadCells w _ s _ hf, Sem.run_pure]
      · refine .agg (by simp; omega) fun i v d h1 h2 => ?_
        rw [List.getElem?_toArray, List.getElem?_map] at h1
        rw [List.getElem?_take] at h2
        by_cases hi : i < s
        · rw [if_pos hi] at h2
          rw [List.getElem?_range hi] at h1
          simp at h1
          obtain ⟨y, g1, g2⟩ := hc i d h2
          rw [g1] at h1
          simp at h1; subst h1
          exact g2
        · rw [if_neg hi] at h2; cases h2
    · simp [hl] at e

theorem ld_sound (H : HRel w S φ h) {t : TypeId} {x : Value} {p d : D} (r : VRel w S φ x p) (e : ld P h t p = some d) :
    ∃ y, (Instr.loadAt t x).run P w = .ok y w ∧ VRel w S φ y d := by
  unfold ld at e
  obtain ⟨a, ha, e⟩ := Option.bind_eq_some_iff.1 e
  obtain ⟨s, hs, e⟩ := Option.bind_eq_some_iff.1 e
  obtain ⟨cs, hc, e⟩ := Option.bind_eq_some_iff.1 e
  obtain ⟨A, o, rfl, hcs⟩ := cellsAt_sound H r hc
  obtain ⟨y, h1, h2⟩ := loadVar_sound ha hs hcs e
  exact ⟨y, by simp [Instr.loadAt, Instr.sureAddr, h1], h2⟩

/-! ### what a value holds -/
theorem isT_vrel : ∀ (n : Nat) {v : Value} {d : D}, VRel w S φ v d → d.isT n = true → VRel w S noPhi v d := by
  intro n
  induction n with
  | zero =>
    intro v d r hd
    cases r <;> first
      | (simp [D.isT] at hd; done)
      | exact .top | exact .bool | exact .int | exact .str | exact .nilS | exact .nilP | exact .nilF | exact .nilI | exact .nilM
      | (apply VRel.ints <;> assumption)
      | (apply VRel.list <;> assumption)
      | (apply VRel.ptr <;> assumption)
      | (apply VRel.lit <;> assumption)
  | succ n ih =>
    intro v d r hd
    cases r with
    | agg hl hx =>
      simp only [D.isT, List.all_eq_true] at hd
      exact .agg hl fun i v d h1 h2 => ih (hx i v d h1 h2) (hd d (List.mem_of_getElem? h2))
    | tuple hl hx =>
      simp only [D.isT, List.all_eq_true] at hd
      exact .tuple hl fun i v d h1 h2 => ih (hx i v d h1 h2) (hd d (List.mem_of_getElem? h2))
    | fn h1 h2 ha hc =>
      simp only [D.isT, Bool.and_eq_true, List.all_eq_true] at hd
      exact .fn h1 h2 (fun i v d g1 g2 => ih (ha i v d g1 g2) (hd.1 d (List.mem_of_getElem? g2))) (fun i v d g1 g2 => ih (hc i v d g1 g2) (hd.2 d (List.mem_of_getElem? g2)))
    | sref => simp [D.isT] at hd
    | sref0 => simp [D.isT] at hd
    | pref => simp [D.isT] at hd
    | top => exact .top
    | bool => exact .bool
    | int => exact .int
    | str => exact .str
    | nilS => exact .nilS
    | nilP => exact .nilP
    | nilF => exact .nilF
    | nilI => exact .nilI
    | nilM => exact .nilM
    | ints => apply VRel.ints <;> assumption
    | list => apply VRel.list <;> assumption
    | ptr => apply VRel.ptr <;> assumption
    | lit => apply VRel.lit <;> assumption

theorem bare_vrel {v : Value} {d : D} (r : VRel w S φ v d) : VRel w S φ v d.bare := by
  cases r with
  | lit hd hb => exact hd.ofNo
  | _ => first
      | exact .top | exact .bool | exact .int | exact .str | exact .nilS | exact .nilP | exact .nilF | exact .nilI | exact .nilM | exact .sref0
      | (apply VRel.ints <;> assumption)
      | (apply VRel.list <;> assumption)
      | (apply VRel.ptr <;> assumption)
      | (apply VRel.agg <;> assumption)
      | (apply VRel.tuple <;> assumption)
      | (apply VRel.sref <;> assumption)
      | (apply VRel.pref <;> assumption)
      | (apply VRel.fn <;> assumption)

theorem mapM_some {α β : Type} {f : α → Option β} : ∀ {l : List α} {m : List β}, l.mapM f = some m → l.length = m.length ∧ ∀ (i : Nat) a b, l[i]? = some a → m[i]? = some b → f a = some b
  | [], m, e => by simp at e; subst e; exact ⟨rfl, fun i a b h => by simp at h⟩
  | x :: l, m, e => by
    rw [List.mapM_cons] at e
    obtain ⟨y, h1, e⟩ := Option.bind_eq_some_iff.1 e
    obtain ⟨ys, h2, e⟩ := Option.bind_eq_some_iff.1 e
    simp at e; subst e
    obtain ⟨g1, g2⟩ := mapM_some h2
    refine ⟨by simp [g1], fun i a b ha hb => ?_⟩
    cases i with
    | zero => simp at ha hb; subst ha; subst hb; exact h1
    | succ i => simp at ha hb; exact g2 i a b ha hb
end Go.Proofs.YtcmajlphfnihgaaA
