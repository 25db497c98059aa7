/- Operations that touch no memory, continued: slices, lengths, structs and rows that are written out, conversions. -/
import Derived.Test.YtcmajlphfnihgaaA7
set_option linter.unusedVariables false
set_option linter.unusedSimpArgs false
namespace Go.Proofs.YtcmajlphfnihgaaA
open Go
variable {P : Program} {w w' : World} {S : Nat → Prop} {φ φ' : Phi} {h h' : Heap}

theorem bound_inv {o : Option Operand} {ρ : Operand → Value} {σ : Env} (hρ : ∀ x, VRel w S φ (ρ x) (σ x)) {dflt most n : Nat} (e : boundD (o.map σ) dflt most = some n) :
    (o.map ρ = none ∧ n = dflt) ∨ ∃ k, ∃ m : Nat, o.map ρ = some (.int k (m : Int)) ∧ m ≤ most ∧ n = m := by
  cases o with
  | none => simp [boundD] at e; exact .inl ⟨rfl, e.symm⟩
  | some x =>
    have rx := hρ x
    simp only [Option.map_some] at e ⊢
    cases hx : σ x with
    | int k i =>
      rw [hx] at e rx
      simp only [boundD] at e
      by_cases h0 : 0 ≤ i
      · by_cases h1 : i ≤ (most : Int)
        · simp only [h0, h1, if_true, Option.some.injEq] at e
          obtain ⟨m, rfl⟩ := Int.eq_ofNat_of_zero_le h0
          exact .inr ⟨k, m, by rw [rx.int_inv], by omega, by rw [← e]; simp⟩
        · simp only [h0, h1, if_true, if_false] at e; cases e
      · simp only [h0, if_false] at e; cases e
    | _ => rw [hx] at e; simp [boundD] at e
theorem bounds_run {lo hi : Option Value} {len cap l h : Nat} (isS : Bool) (hh : (hi = none ∧ h = len) ∨ ∃ k, ∃ m : Nat, hi = some (.int k (m : Int)) ∧ m ≤ cap ∧ h = m)
    (hl : (lo = none ∧ l = 0) ∨ ∃ k, ∃ m : Nat, lo = some (.int k (m : Int)) ∧ m ≤ h ∧ l = m) : (Instr.sliceBounds isS len cap lo hi none).run P w = .ok (l, h, cap) w := by
  have b : ∀ (k : IntKind) (m y : Nat) (code : BoundsCode), m ≤ y → (Instr.sliceBound (.int k (m : Int)) y code).run P w = .ok m w := fun k m y code hm => by
    simp [Instr.sliceBound, asIntOf, hm]
  rcases hh with ⟨rfl, rfl⟩ | ⟨k, m, rfl, hm, rfl⟩
  · rcases hl with ⟨rfl, rfl⟩ | ⟨k', m', rfl, hm', rfl⟩
    · simp [Instr.sliceBounds]
    · simp [Instr.sliceBounds, b k' _ _ _ hm']
  · rcases hl with ⟨rfl, rfl⟩ | ⟨k', m', rfl, hm', rfl⟩
    · simp [Instr.sliceBounds, b k _ _ _ hm]
    · simp [Instr.sliceBounds, b k _ _ _ hm, b k' _ _ _ hm']
theorem getD_drop_take (xs : List Int) (l h i : Nat) (hi : i < h - l) : ((xs.take h).drop l).getD i 0 = xs.getD (l + i) 0 := by
  simp only [List.getD_eq_getElem?_getD, List.getElem?_drop, List.getElem?_take]
  rw [if_pos (by omega)]
theorem sliceAt_slice {t e : TypeId} {s : Nat} (hu : P.underlying t = some (.slice e)) (hs : szOf P e = some s) {a : Option Addr} {len cap l h : Nat} {lo hi : Option Value}
    (hb : (Instr.sliceBounds true len cap lo hi none).run P w = .ok (l, h, cap) w) :
    (Instr.sliceAt t (.slice a len cap) lo hi none).run P w = .ok (.slice (if cap = l then a else a.map (·.add (l * s))) (h - l) (cap - l)) w := by
  simp [Instr.sliceAt, Instr.slice, run_underlying hu, hb, run_szOf hs]
theorem sliceD_sound {t : TypeId} {x : Operand} {lo hi mx : Option Operand} {ρ : Operand → Value} {σ : Env} (hρ : ∀ x, VRel w S φ (ρ x) (σ x)) {d : D} (e : sliceD P t (σ x) (lo.map σ) (hi.map σ) (mx.map σ) = some d) :
    ∃ v, (Instr.sliceAt t (ρ x) (lo.map ρ) (hi.map ρ) (mx.map ρ)).run P w = .ok v w ∧ VRel w S φ v d := by
  cases mx with
  | some m => simp [sliceD] at e
  | none =>
    have rx := bare_vrel (hρ x)
    simp only [Option.map_none, sliceD] at e ⊢
    generalize (σ x).bare = a at *
    generalize ρ x = v at *
    cases rx with
    | @str _ s =>
      simp only at e
      split at e
      · rename_i hu
        obtain ⟨h, hh, e⟩ := Option.bind_eq_some_iff.1 e
        obtain ⟨l, hl, e⟩ := Option.map_eq_some_iff.1 e
        subst e
        exact ⟨_, by simp [Instr.sliceAt, Instr.slice, run_underlying hu, bounds_run false (bound_inv hρ hh) (bound_inv hρ hl)], .str⟩
      · cases e
    | @ints _ a cap k xs hc B o ha hx =>
      obtain ⟨h, hh, e⟩ := Option.bind_eq_some_iff.1 e
      obtain ⟨l, hl, e⟩ := Option.bind_eq_some_iff.1 e
      obtain ⟨el, he, e⟩ := Option.bind_eq_some_iff.1 e
      obtain ⟨s, hs, e⟩ := Option.bind_eq_some_iff.1 e
      by_cases h1 : s = 1
      · rw [if_pos h1] at e; cases e; subst h1
        have bh := bound_inv hρ hh
        have bl := bound_inv hρ hl
        have hh' : h ≤ xs.length := by rcases bh with ⟨_, rfl⟩ | ⟨_, m, _, hm, rfl⟩ <;> omega
        have hl' : l ≤ h := by rcases bl with ⟨_, rfl⟩ | ⟨_, m, _, hm, rfl⟩ <;> omega
        refine ⟨_, sliceAt_slice (elem_run he) hs (bounds_run true (bh.imp id fun ⟨k, m, h1, h2, h3⟩ => ⟨k, m, h1, by omega, h3⟩) bl), ?_⟩
        have hlen : ((xs.take h).drop l).length = h - l := by simp; omega
        have key := VRel.ints (w := w) (S := S) (φ := φ) (a := if cap = l then a else a.map (·.add (l * 1))) (cap := cap - l) (k := k) (xs := (xs.take h).drop l) (by omega) B (o + l) (fun hne => ?_) (fun i hi => ?_)
        · rw [hlen] at key; exact key
        · have hpos : 0 < h - l := by rw [← hlen]; exact List.length_pos_iff.2 hne
          obtain ⟨rfl, hB⟩ := ha (fun e => by subst e; simp at hh'; omega)
          exact ⟨by rw [if_neg (by omega)]; simp [addr_add], hB⟩
        · rw [hlen] at hi
          rw [getD_drop_take _ _ _ _ hi, Nat.add_assoc]
          exact hx (l + i) (by omega)
      · rw [if_neg h1] at e; cases e
    | @list _ a cap sz xs hc B o vs ha hsz hx hv =>
      obtain ⟨h, hh, e⟩ := Option.bind_eq_some_iff.1 e
      obtain ⟨l, hl, e⟩ := Option.bind_eq_some_iff.1 e
      obtain ⟨el, he, e⟩ := Option.bind_eq_some_iff.1 e
      obtain ⟨s, hs, e⟩ := Option.bind_eq_some_iff.1 e
      by_cases h1 : s = sz
      · rw [if_pos h1] at e; cases e; subst h1
        have bh := bound_inv hρ hh
        have bl := bound_inv hρ hl
        have hh' : h ≤ xs.length := by rcases bh with ⟨_, rfl⟩ | ⟨_, m, _, hm, rfl⟩ <;> omega
        have hl' : l ≤ h := by rcases bl with ⟨_, rfl⟩ | ⟨_, m, _, hm, rfl⟩ <;> omega
        refine ⟨_, sliceAt_slice (elem_run he) hs (bounds_run true (bh.imp id fun ⟨k, m, h1, h2, h3⟩ => ⟨k, m, h1, by omega, h3⟩) bl), ?_⟩
        have hlen : ((xs.take h).drop l).length = h - l := by simp; omega
        have hget : ∀ (i : Nat) (d : D), ((xs.take h).drop l)[i]? = some d → xs[l + i]? = some d := fun i d hd => by
          rw [List.getElem?_drop, List.getElem?_take] at hd
          split at hd
          · exact hd
          · cases hd
        have key := VRel.list (w := w) (S := S) (φ := φ) (a := if cap = l then a else a.map (·.add (l * s))) (cap := cap - l) (sz := s) (xs := (xs.take h).drop l) (by omega) B (o + l * s) (fun i j => vs (l + i) j)
          (fun hne => ?_) (fun i d hd => hsz _ d (hget i d hd)) (fun i d j c hd hc' => ?_) (fun i d j c hd hc' => hv _ d j c (hget i d hd) hc')
        · rw [hlen] at key; exact key
        · have hpos : 0 < h - l := by rw [← hlen]; exact List.length_pos_iff.2 hne
          obtain ⟨rfl, hB⟩ := ha (fun e => by subst e; simp at hh'; omega)
          exact ⟨by rw [if_neg (by omega)]; simp [addr_add], hB⟩
        · have := hx _ d j c (hget i d hd) hc'
          rw [← this]
          congr 2
          rw [Nat.add_mul]; omega
      · rw [if_neg h1] at e; cases e
    | @sref _ A b u sz n off len cap hp hc hn =>
      obtain ⟨h, hh, e⟩ := Option.bind_eq_some_iff.1 e
      obtain ⟨l, hl, e⟩ := Option.bind_eq_some_iff.1 e
      obtain ⟨el, he, e⟩ := Option.bind_eq_some_iff.1 e
      obtain ⟨s, hs, e⟩ := Option.bind_eq_some_iff.1 e
      by_cases h1 : s = sz
      · rw [if_pos h1] at e; cases e; subst h1
        have bh := bound_inv hρ hh
        have bl := bound_inv hρ hl
        have hh' : h ≤ len := by rcases bh with ⟨_, rfl⟩ | ⟨_, m, _, hm, rfl⟩ <;> omega
        have hl' : l ≤ h := by rcases bl with ⟨_, rfl⟩ | ⟨_, m, _, hm, rfl⟩ <;> omega
        refine ⟨_, sliceAt_slice (elem_run he) hs (bounds_run true (bh.imp id fun ⟨k, m, h1, h2, h3⟩ => ⟨k, m, h1, by omega, h3⟩) bl), ?_⟩
        by_cases hcl : cap = l
        · have : h - l = 0 := by omega
          rw [this, show cap - l = 0 by omega]
          exact .sref0
        · rw [if_neg hcl]
          simp only [Option.map_some, addr_add]
          rw [← Nat.add_mul]
          exact .sref hp (by omega) (by rw [show off + l + (cap - l) = off + cap by omega]; exact hn)
      · rw [if_neg h1] at e; cases e
    | @sref0 _ a b u sz off =>
      obtain ⟨h, hh, e⟩ := Option.bind_eq_some_iff.1 e
      obtain ⟨l, hl, e⟩ := Option.bind_eq_some_iff.1 e
      obtain ⟨el, he, e⟩ := Option.bind_eq_some_iff.1 e
      obtain ⟨s, hs, e⟩ := Option.bind_eq_some_iff.1 e
      by_cases h1 : s = sz
      · rw [if_pos h1] at e; cases e
        have bh := bound_inv hρ hh
        have bl := bound_inv hρ hl
        have hh' : h = 0 := by rcases bh with ⟨_, rfl⟩ | ⟨_, m, _, hm, rfl⟩ <;> omega
        have hl' : l = 0 := by rcases bl with ⟨_, rfl⟩ | ⟨_, m, _, hm, rfl⟩ <;> omega
        subst hh'; subst hl'
        exact ⟨_, sliceAt_slice (elem_run he) hs (bounds_run true bh bl), .sref0⟩
      · rw [if_neg h1] at e; cases e
    | @nilS _ a =>
      obtain ⟨h, hh, e⟩ := Option.bind_eq_some_iff.1 e
      obtain ⟨l, hl, e⟩ := Option.bind_eq_some_iff.1 e
      obtain ⟨el, he, e⟩ := Option.bind_eq_some_iff.1 e
      obtain ⟨s, hs, e⟩ := Option.map_eq_some_iff.1 e
      subst e
      have bh := bound_inv hρ hh
      have bl := bound_inv hρ hl
      have hh' : h = 0 := by rcases bh with ⟨_, rfl⟩ | ⟨_, m, _, hm, rfl⟩ <;> omega
      have hl' : l = 0 := by rcases bl with ⟨_, rfl⟩ | ⟨_, m, _, hm, rfl⟩ <;> omega
      subst hh'; subst hl'
      exact ⟨_, sliceAt_slice (elem_run he) hs (bounds_run true bh bl), .nilS⟩
    | _ => simp at e

theorem lenD_sound {t : TypeId} {v : Value} {a : D} {n : Nat} (e : lenD P t a = some n) (r : VRel w S φ v a) (ts : Array TypeId) (ht : ts[0]? = some t) (ty : TypeId) : (Builtin.len_ ts ty #[v]).run P w = .ok (.int .i64 n) w := by
  unfold lenD at e
  split at e
  · rename_i hu
    cases a <;> try (simp at e; done)
    obtain rfl := r.str_inv
    simp at e
    simp [Builtin.len_, ht, run_underlying hu, goInt, e]
  · rename_i el hu
    have r := bare_vrel r
    generalize a.bare = a at *
    have key : ∀ {q : Option Addr} {l c : Nat}, v = .slice q l c → l = n → (Builtin.len_ ts ty #[v]).run P w = .ok (.int .i64 n) w := fun {q l c} hv hl => by
      subst hv; subst hl
      simp [Builtin.len_, ht, run_underlying hu, goInt]
    cases r <;> try (simp at e; done)
    all_goals (simp only [Option.some.injEq] at e; exact key rfl e)
  · cases e
theorem min_fold {k : IntKind} : ∀ (l : List D) (us : List Value) (x : Int) (d : D), VsRel w S φ us l → minD (.int k x) l = some d → ∃ n, d = .int k n ∧ (us.foldlM Builtin.min2 (.int k x)).run P w = .ok (.int k n) w
  | [], us, x, d, r, e => by
    have : us = [] := List.length_eq_zero_iff.1 r.1
    subst this
    simp [minD] at e
    exact ⟨x, e.symm, rfl⟩
  | y :: l, us, x, d, r, e => by
    cases us with
    | nil => simp [VsRel] at r
    | cons u us =>
      cases y <;> try (simp [minD] at e; done)
      rename_i k' y
      obtain rfl := r.head.int_inv
      by_cases hk : k = k'
      · subst hk
        simp only [minD, if_true] at e
        obtain ⟨n, h1, h2⟩ := min_fold l us _ d r.tail e
        exact ⟨n, h1, by simp only [List.foldlM_cons, Builtin.min2, pure_bind]; exact h2⟩
      · simp [minD, hk] at e
theorem max_fold {k : IntKind} : ∀ (l : List D) (us : List Value) (x : Int) (d : D), VsRel w S φ us l → maxD (.int k x) l = some d → ∃ n, d = .int k n ∧ (us.foldlM Builtin.max2 (.int k x)).run P w = .ok (.int k n) w
  | [], us, x, d, r, e => by
    have : us = [] := List.length_eq_zero_iff.1 r.1
    subst this
    simp [maxD] at e
    exact ⟨x, e.symm, rfl⟩
  | y :: l, us, x, d, r, e => by
    cases us with
    | nil => simp [VsRel] at r
    | cons u us =>
      cases y <;> try (simp [maxD] at e; done)
      rename_i k' y
      obtain rfl := r.head.int_inv
      by_cases hk : k = k'
      · subst hk
        simp only [maxD, if_true] at e
        obtain ⟨n, h1, h2⟩ := max_fold l us _ d r.tail e
        exact ⟨n, h1, by simp only [List.foldlM_cons, Builtin.max2, pure_bind]; exact h2⟩
      · simp [maxD, hk] at e
theorem minD_sound {us : List Value} {u : Value} {a d : D} {l : List D} (e : minD a l = some d) (r : VRel w S φ u a) (rs : VsRel w S φ us l) (ts : Array TypeId) (ty : TypeId) :
    ∃ v, (Builtin.min_ ts ty (u :: us).toArray).run P w = .ok v w ∧ VRel w S φ v d := by
  cases a with
  | int k x =>
    obtain rfl := r.int_inv
    obtain ⟨n, rfl, h2⟩ := min_fold (P := P) l us x d rs e
    exact ⟨_, by simpa [Builtin.min_] using h2, .int⟩
  | _ => cases l <;> simp [minD] at e
theorem maxD_sound {us : List Value} {u : Value} {a d : D} {l : List D} (e : maxD a l = some d) (r : VRel w S φ u a) (rs : VsRel w S φ us l) (ts : Array TypeId) (ty : TypeId) :
    ∃ v, (Builtin.max_ ts ty (u :: us).toArray).run P w = .ok v w ∧ VRel w S φ v d := by
  cases a with
  | int k x =>
    obtain rfl := r.int_inv
    obtain ⟨n, rfl, h2⟩ := max_fold (P := P) l us x d rs e
    exact ⟨_, by simpa [Builtin.max_] using h2, .int⟩
  | _ => cases l <;> simp [maxD] at e
end Go.Proofs.YtcmajlphfnihgaaA
