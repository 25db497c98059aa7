/- Regions whose order is drawn. -/
import Derived.Test.YtcmajlphfnihgaaA19
set_option linter.unusedVariables false
set_option linter.unusedSimpArgs false
namespace Go.Proofs.YtcmajlphfnihgaaA
open Go

/-- What comes ahead of an operation, as a number's bits. -/
def maskOf (ms : List Nat) (o : Oper) : Nat := o.after.toList.foldl (fun s e => if Region.binds .any e then s ||| 2 ^ e.on ||| ms.getD e.on 0 else s) 0
def pairOk (C : Cx) (ops : Array Oper) (m j : Nat) (mx : List Nat) (x : Oper) (my : List Nat) (y : Oper) : Bool :=
  (m.testBit j || compat C ops mx x my y) && (!(decide (cls C true x = .A) && decide (cls C true y = .A)) || x.dst != y.dst) && !(decide (cls C true x = .W) && decide (cls C true y = .A))
def pairsOk (C : Cx) (ops : Array Oper) (p : Plan) (m : Nat) (my : List Nat) (y : Oper) : Nat → List Oper → Bool
  | _, [] => true
  | j, x :: l => pairOk C ops m j (p.at j) x my y && pairsOk C ops p m my y (j + 1) l
def drawOkL (C : Cx) (ops : Array Oper) (p : Plan) : List Oper → List Nat → List Oper → Bool
  | _, _, [] => true
  | seen, ms, y :: l => y.after.toList.all (fun e => !Region.binds .any e || decide (e.on < seen.length)) && pairsOk C ops p (maskOf ms y) (p.at seen.length) y 0 seen && drawOkL C ops p (seen ++ [y]) (ms ++ [maskOf ms y]) l
def drawOk (C : Cx) (ops : Array Oper) (p : Plan) : Bool := drawOkL C ops p [] [] ops.toList

theorem pairsOk_get {C : Cx} {ops : Array Oper} {p : Plan} {m : Nat} {my : List Nat} {y : Oper} : ∀ (l : List Oper) (j : Nat), pairsOk C ops p m my y j l = true → ∀ (i : Nat) (x : Oper), l[i]? = some x → pairOk C ops m (j + i) (p.at (j + i)) x my y = true
  | [], j, _, i, x, h => by simp at h
  | z :: l, j, hp, i, x, h => by
    simp only [pairsOk, Bool.and_eq_true] at hp
    cases i with
    | zero => simp at h; subst h; exact hp.1
    | succ i =>
      have := pairsOk_get l (j + 1) hp.2 i x (by simpa using h)
      rw [show j + (i + 1) = j + 1 + i by omega]; exact this
/-- Of each operation: what its edges are on, and what they stand for. -/
structure Static (C : Cx) (ops : Array Oper) (p : Plan) (mk : Nat → Nat) : Prop where
  back : ∀ (i : Nat) (y : Oper), ops[i]? = some y → ∀ e ∈ y.after, Region.binds .any e = true → e.on < i
  far : ∀ (i : Nat) (y : Oper), ops[i]? = some y → ∀ j, (mk i).testBit j = true → ∃ e ∈ y.after, Region.binds .any e = true ∧ (e.on = j ∨ (mk e.on).testBit j = true)
  pair : ∀ (i j : Nat) (x y : Oper), j < i → ops[j]? = some x → ops[i]? = some y → pairOk C ops (mk i) j (p.at j) x (p.at i) y = true
theorem mask_bits (ms : List Nat) (o : Oper) (j : Nat) (h : (maskOf ms o).testBit j = true) : ∃ e ∈ o.after, Region.binds .any e = true ∧ (e.on = j ∨ (ms.getD e.on 0).testBit j = true) := by
  have key : ∀ (l : List Edge) (s : Nat), (l.foldl (fun s e => if Region.binds .any e then s ||| 2 ^ e.on ||| ms.getD e.on 0 else s) s).testBit j = true → s.testBit j = true ∨ ∃ e ∈ l, Region.binds .any e = true ∧ (e.on = j ∨ (ms.getD e.on 0).testBit j = true) := by
    intro l
    induction l with
    | nil => intro s hs; exact .inl hs
    | cons e l ih =>
      intro s hs
      rw [List.foldl_cons] at hs
      rcases ih _ hs with g | ⟨e', he', g⟩
      · split at g
        · rename_i hb
          rw [Nat.testBit_or, Nat.testBit_or, Bool.or_eq_true, Bool.or_eq_true] at g
          rcases g with (g | g) | g
          · exact .inl g
          · rw [Nat.testBit_two_pow, decide_eq_true_eq] at g
            exact .inr ⟨e, by simp, hb, .inl g⟩
          · exact .inr ⟨e, by simp, hb, .inr g⟩
        · exact .inl g
      · exact .inr ⟨e', by simp [he'], g⟩
  rcases key _ _ h with g | ⟨e, he, g⟩
  · simp at g
  · exact ⟨e, by simpa using he, g⟩
theorem drawOk_static {C : Cx} {ops : Array Oper} {p : Plan} (h : drawOk C ops p = true) : ∃ mk, Static C ops p mk := by
  have key : ∀ (l seen : List Oper) (ms : List Nat), seen.length = ms.length → seen ++ l = ops.toList → drawOkL C ops p seen ms l = true →
      ∃ ms' : List Nat, (∀ i, i < ms.length → ms'.getD i 0 = ms.getD i 0) ∧
        ∀ (i : Nat) (y : Oper), seen.length ≤ i → ops[i]? = some y → (∀ e ∈ y.after, Region.binds .any e = true → e.on < i) ∧ (∀ j, (ms'.getD i 0).testBit j = true → ∃ e ∈ y.after, Region.binds .any e = true ∧ (e.on = j ∨ (ms'.getD e.on 0).testBit j = true)) ∧
          ∀ (j : Nat) (x : Oper), j < i → ops[j]? = some x → pairOk C ops (ms'.getD i 0) j (p.at j) x (p.at i) y = true := by
    intro l
    induction l with
    | nil =>
      intro seen ms hl ht hd
      refine ⟨ms, fun _ _ => rfl, fun i y hi hy => ?_⟩
      rw [← Array.getElem?_toList, ← ht, List.append_nil, List.getElem?_eq_none hi] at hy
      cases hy
    | cons y l ih =>
      intro seen ms hl ht hd
      simp only [drawOkL, Bool.and_eq_true] at hd
      obtain ⟨⟨d1, d2⟩, d3⟩ := hd
      obtain ⟨ms', g1, g2⟩ := ih (seen ++ [y]) (ms ++ [maskOf ms y]) (by simp [hl]) (by simp [ht]) d3
      have hm : ms'.getD seen.length 0 = maskOf ms y := by
        rw [g1 seen.length (by simp [hl]), List.getD_eq_getElem?_getD, List.getElem?_append_right (by omega), hl]; simp
      have hold : ∀ i, i < ms.length → ms'.getD i 0 = ms.getD i 0 := fun i hi => by
        rw [g1 i (by simp; omega), List.getD_eq_getElem?_getD, List.getElem?_append_left hi, ← List.getD_eq_getElem?_getD]
      refine ⟨ms', hold, fun i z hi hz => ?_⟩
      by_cases hin : i = seen.length
      · subst hin
        have hyz : y = z := by
          rw [← Array.getElem?_toList, ← ht, List.getElem?_append_right (Nat.le_refl _), Nat.sub_self] at hz
          simpa using hz
        subst hyz
        have back : ∀ e ∈ y.after, Region.binds .any e = true → e.on < seen.length := fun e he hb => by
          rw [List.all_eq_true] at d1
          have := d1 e (by simpa using he)
          simpa [hb] using this
        refine ⟨back, fun j hj => ?_, fun j x hj hx => ?_⟩
        · rw [hm] at hj
          obtain ⟨e, he, hb, hc⟩ := mask_bits ms y j hj
          exact ⟨e, he, hb, hc.imp id fun hc => by rw [hold e.on (by have := back e he hb; omega)]; exact hc⟩
        · rw [hm]
          have := pairsOk_get seen 0 d2 j x (by
            rw [← Array.getElem?_toList, ← ht, List.getElem?_append_left hj] at hx; exact hx)
          rw [Nat.zero_add] at this
          exact this
      · exact g2 i z (by simp; omega) hz
  obtain ⟨ms', _, g⟩ := key ops.toList [] [] rfl (by simp) h
  exact ⟨fun i => ms'.getD i 0, fun i y hy => (g i y (Nat.zero_le _) hy).1, fun i y hy => (g i y (Nat.zero_le _) hy).2.1, fun i j x y hj hx hy => (g i y (Nat.zero_le _) hy).2.2 j x hj hx⟩

/-! ### the next one is taken to the front -/
/-- Operations with their numbers. -/
def runN (C : Cx) (call : Run) (base : Nat) (ops : Array Oper) (p : Plan) : List (Nat × Oper) → St → Option St
  | [], s => some s
  | q :: l, s => (opStep C call true base ops (p.at q.1) q.2 s).bind (runN C call base ops p l)
theorem runN_of {C : Cx} {call : Run} {base : Nat} {ops : Array Oper} {p : Plan} : ∀ (l : List Oper) (n : Nat) (s : St), opsRun C call true base ops p n l s = runN C call base ops p (l.zipIdx n |>.map fun q => (q.2, q.1)) s
  | [], n, s => rfl
  | o :: l, n, s => by
    simp only [opsRun, List.zipIdx_cons, List.map_cons, runN]
    congr 1
    funext s'
    exact runN_of l (n + 1) s'
theorem waits_step {C : Cx} {call : Run} {base : Nat} {ops : Array Oper} {m : List Nat} {x y : Oper} {s s1 : St} (e : opStep C call true base ops m x s = some s1) (hw : Waits C base s.heap y)
    (h1 : cls C true y = .A → cls C true x ≠ .W) (h2 : cls C true y = .A → cls C true x = .A → ∀ t, x.dst = some t → y.dst ≠ some t) : Waits C base s1.heap y := by
  intro hy t ht B hB
  rw [step_eq] at e
  obtain ⟨⟨d, H⟩, g, rfl⟩ := Option.map_eq_some_iff.1 e
  simp only at hB
  cases hx : cls C true x with
  | P => obtain ⟨rfl, _⟩ := stepV_P hx (l := s.tmps) (H := s.heap) g; exact hw hy t ht B hB
  | R => obtain ⟨rfl, _⟩ := stepV_R hx (l := s.tmps) (H := s.heap) g; exact hw hy t ht B hB
  | A =>
    rcases stepV_A hx (l := s.tmps) (H := s.heap) g with ⟨rfl, _⟩ | ⟨u, B0, body, hu, hB0, rfl, _⟩
    · exact hw hy t ht B hB
    · have hne : base + u ≠ base + t := fun e => h2 hy hx u hu (by rw [ht]; congr 1; exact (Nat.add_left_cancel e).symm)
      rw [List.getElem?_set_ne hne] at hB
      exact hw hy t ht B hB
  | W => exact absurd hx (h1 hy)
theorem front {C : Cx} {call : Run} {base : Nat} {ops : Array Oper} {p : Plan} {i : Nat} {y : Oper} {post : List (Nat × Oper)} : ∀ (pre : List (Nat × Oper)) (s s' : St), (∀ q ∈ pre, compat C ops (p.at q.1) q.2 (p.at i) y = true) → Waits C base s.heap y →
    runN C call base ops p (pre ++ (i, y) :: post) s = some s' → ∃ s1, opStep C call true base ops (p.at i) y s = some s1 ∧ runN C call base ops p (pre ++ post) s1 = some s' := by
  intro pre
  induction pre with
  | nil =>
    intro s s' _ _ e
    obtain ⟨s1, h1, h2⟩ := Option.bind_eq_some_iff.1 e
    exact ⟨s1, h1, h2⟩
  | cons q pre ih =>
    intro s s' hc hw e
    obtain ⟨sq, h1, h2⟩ := Option.bind_eq_some_iff.1 e
    have hq := hc q (by simp)
    have hq2 := hq
    simp only [compat, Bool.and_eq_true] at hq2
    have hw' : Waits C base sq.heap y := waits_step h1 hw (fun hy hx => by rw [hx, hy] at hq2; simp at hq2) (fun hy hx t ht => (Oper.apart_spec hq2.1).2.1 t ht)
    obtain ⟨s1, k1, k2⟩ := ih sq s' (fun q' hq' => hc q' (by simp [hq'])) hw' h2
    obtain ⟨s1', m1, m2⟩ := swap hq hw h1 k1
    exact ⟨s1', m1, by simp only [List.cons_append, runN, m2, Option.bind_some]; exact k2⟩
end Go.Proofs.YtcmajlphfnihgaaA
