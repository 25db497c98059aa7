/- A row is made, or written, or moved. -/
import Derived.Test.YtcmajlphfnihgaaA4
set_option linter.unusedVariables false
set_option linter.unusedSimpArgs false
namespace Go.Proofs.YtcmajlphfnihgaaA
open Go
variable {P : Program} {w w' : World} {S : Nat → Prop} {φ φ' : Phi} {h h' : Heap}

/-- Cells are as the shadow's row says. -/
def BodyOk (w : World) (S : Nat → Prop) (φ : Phi) (sz : Nat) (c : Array Value) : Body → Prop
  | .dead => False
  | .ints k xs => sz = 1 ∧ xs.length ≤ c.size ∧ ∀ i, i < xs.length → c[i]? = some (.int k (xs.getD i 0))
  | .rows s xs => s = sz ∧ xs.length * sz ≤ c.size ∧ (∀ (i : Nat) (d : D), xs[i]? = some d → d.wide sz) ∧
      ∀ (i : Nat) (d : D) (j : Nat) (e : D), xs[i]? = some d → d.cells[j]? = some e → ∃ x, c[i * sz + j]? = some x ∧ VRel w S φ x e
theorem BRel.mk {b v A sz : Nat} {c : Array Value} {T : TypeId} {fz : Bool} {body : Body} (hφ : φ b v = some (A, sz, c.size)) (hA : w.heap[A]? = some (.cells c T (0, 0)))
    (ok : BodyOk w S φ sz c body) (hS : if fz then S A else ¬ S A) : BRel w S φ b ⟨v, fz, body⟩ := by
  cases body with
  | dead => exact ok.elim
  | ints k xs => obtain ⟨rfl, h1, h2⟩ := ok; exact .ints hφ hA rfl h1 h2 hS
  | rows s xs => obtain ⟨rfl, h1, h2, h3⟩ := ok; exact .rows hφ hA rfl h1 h2 h3 hS

theorem place (H : HRel w S φ h) {A sz b v : Nat} {c : Array Value} {T : TypeId} {body : Body} (hos : w'.os = w.os) (htape : w'.tape = w.tape) (hout : w'.output = w.output) (hsize : w.heap.size ≤ w'.heap.size)
    (hA : w'.heap[A]? = some (.cells c T (0, 0))) (hne : ∀ i, i ≠ A → i < w.heap.size → w'.heap[i]? = w.heap[i]?) (hAS : ¬ S A) (hAo : A < w.heap.size → Own φ h A)
    (hb : h'[b]? = some ⟨v, false, body⟩)
    (hold : ∀ (i : Nat) (B : Blk), i ≠ b → h'[i]? = some B → ∃ B0, h[i]? = some B0 ∧ B.ver = B0.ver ∧ (B.body = .dead ∨ (B = B0 ∧ ∀ x, φ i B0.ver ≠ some (A, x))))
    (hpb : φ' b v = some (A, sz, c.size)) (hph : ∀ i u x, φ i u = some x → φ' i u = some x) (hpn : ∀ i u x, φ' i u = some x → φ i u = some x ∨ (i = b ∧ u = v))
    (hdom : ∀ i u x, φ' i u = some x → ∃ B, h'[i]? = some B ∧ 1 ≤ u ∧ u ≤ B.ver) (ok : BodyOk w' S φ' sz c body) : HRel w' S φ' h' ∧ Ext w S φ h w' S φ' h' := by
  have hSk : ∀ i, S i → w'.heap[i]? = w.heap[i]? := fun i hi => hne i (fun e => hAS (e ▸ hi)) (H.lt i hi)
  have hpeq : ∀ (i : Nat) (B : Blk), i ≠ b → φ' i B.ver = φ i B.ver := fun i B hi => by
    cases hp : φ i B.ver with
    | some x => exact hph _ _ _ hp
    | none =>
      cases hp' : φ' i B.ver with
      | none => rfl
      | some x =>
        rcases hpn _ _ _ hp' with g | g
        · rw [hp] at g; cases g
        · exact absurd g.1 hi
  have hmono : ∀ x d, VRel w S φ x d → VRel w' S φ' x d := fun x d r => r.mono (fun _ h => h) hSk hph
  have hH : HRel w' S φ' h' := by
    refine ⟨fun i B e => ?_, fun i i' B B' A' x x' e e' hl hl' hp hp' => ?_, hdom, fun i hi => Nat.lt_of_lt_of_le (H.lt i hi) hsize⟩
    · by_cases hi : i = b
      · subst hi
        rw [hb] at e; cases e
        exact .mk hpb hA ok hAS
      · obtain ⟨B0, h1, h2, h3⟩ := hold i B hi e
        rcases h3 with h3 | ⟨rfl, h3⟩
        · have : B = ⟨B.ver, B.fz, .dead⟩ := by cases B; simp_all
          rw [this]; exact .dead
        · have key := (H.blk i B h1).go (w' := w') (S' := S) (φ' := φ') B.fz (hpeq i B hi) hmono
            (fun A' x hp hl => hne A' (fun e => h3 x (e ▸ hp)) (live_some H h1 hl hp).1)
            (fun A' x hp hl => by
              have := live_some H h1 hl hp
              cases hf : B.fz with
              | true => rw [if_pos rfl]; exact this.2.1 hf
              | false => rw [if_neg (by simp)]; exact this.2.2 hf)
          exact key
    · -- two live rows at one block are one
      have lookup : ∀ {i : Nat} {B : Blk} {y : Nat × Nat}, h'[i]? = some B → B.body ≠ .dead → φ' i B.ver = some (A', y) → i ≠ b → h[i]? = some B ∧ φ i B.ver = some (A', y) ∧ A' ≠ A := fun {i B y} e hl hp hi => by
        obtain ⟨B0, h1, h2, h3⟩ := hold i B hi e
        rcases h3 with h3 | ⟨rfl, h3⟩
        · exact absurd h3 hl
        · rw [hpeq i B hi] at hp
          exact ⟨h1, hp, fun e => h3 y (e ▸ hp)⟩
      have atb : ∀ {i : Nat} {B : Blk} {y : Nat × Nat}, h'[i]? = some B → φ' i B.ver = some (A', y) → i = b → A' = A := fun {i B y} e hp hi => by
        subst hi
        rw [hb] at e; cases e
        rw [hpb] at hp; cases hp; rfl
      by_cases h1 : i = b
      · by_cases h2 : i' = b
        · rw [h1, h2]
        · exact absurd (atb e hp h1) (lookup e' hl' hp' h2).2.2
      · by_cases h2 : i' = b
        · exact absurd (atb e' hp' h2) (lookup e hl hp h1).2.2
        · obtain ⟨g1, g2, _⟩ := lookup e hl hp h1
          obtain ⟨g3, g4, _⟩ := lookup e' hl' hp' h2
          exact H.inj i i' B B' A' x x' g1 g3 hl hl' g2 g4
  refine ⟨hH, ⟨hos, htape, hout, hsize, fun _ h => h, hph, fun i hi ho => ?_, fun i hi => .inl hi, fun i ho => ?_⟩⟩
  · by_cases hiA : i = A
    · subst hiA; exact absurd (hAo hi) ho
    · exact hne i hiA hi
  · obtain ⟨b', B, x, h1, h2, h3, h4⟩ := ho
    by_cases hi : b' = b
    · subst hi
      rw [hb] at h1; cases h1
      rw [hpb] at h4; cases h4
      rcases Nat.lt_or_ge A w.heap.size with g | g
      · exact .inl (hAo g)
      · exact .inr g
    · obtain ⟨B0, g1, g2, g3⟩ := hold b' B hi h1
      rcases g3 with g3 | ⟨rfl, g3⟩
      · exact absurd g3 h2
      · rw [hpeq b' B hi] at h4
        exact .inl ⟨b', B, x, g1, h2, h3, h4⟩

/-- Nothing is written; rows are forgotten, and one may be without a block (it is empty). -/
theorem hollow (H : HRel w S φ h) (hos : w'.os = w.os) (htape : w'.tape = w.tape) (hout : w'.output = w.output) (hheap : w'.heap = w.heap)
    (hold : ∀ (i : Nat) (B : Blk), h'[i]? = some B → ∃ B0, h[i]? = some B0 ∧ B0.ver ≤ B.ver ∧ (B.body = .dead ∨ B = B0 ∨ (B0.ver < B.ver ∧ ((∃ k, B.body = .ints k []) ∨ ∃ s, B.body = .rows s []))))
    (hlen : h.length ≤ h'.length) : HRel w' S φ h' ∧ Ext w S φ h w' S φ h' := by
  have hmono : ∀ x d, VRel w S φ x d → VRel w' S φ x d := fun x d r => r.mono (fun _ h => h) (fun _ _ => by rw [hheap]) (fun _ _ _ h => h)
  have fresh : ∀ {i : Nat} {B0 B : Blk}, h[i]? = some B0 → B0.ver < B.ver → φ i B.ver = none := fun {i B0 B} h1 hlt => by
    cases hp : φ i B.ver with
    | none => rfl
    | some x =>
      obtain ⟨B1, g1, _, g2⟩ := H.dom _ _ _ hp
      rw [h1] at g1; cases g1
      omega
  have live : ∀ {i : Nat} {B : Blk} {y : Nat × Nat × Nat}, h'[i]? = some B → B.body ≠ .dead → φ i B.ver = some y → h[i]? = some B := fun {i B y} e hl hp => by
    obtain ⟨B0, h1, h2, h3⟩ := hold i B e
    rcases h3 with h3 | rfl | ⟨h3, _⟩
    · exact absurd h3 hl
    · exact h1
    · rw [fresh h1 h3] at hp; cases hp
  have hH : HRel w' S φ h' := by
    refine ⟨fun i B e => ?_, fun i i' B B' A' x x' e e' hl hl' hp hp' => H.inj i i' B B' A' x x' (live e hl hp) (live e' hl' hp') hl hl' hp hp', fun i u x hp => ?_, fun i hi => by rw [hheap]; exact H.lt i hi⟩
    · obtain ⟨B0, h1, h2, h3⟩ := hold i B e
      rcases h3 with h3 | rfl | ⟨h3, h4⟩
      · have : B = ⟨B.ver, B.fz, .dead⟩ := by cases B; simp_all
        rw [this]; exact .dead
      · have key := (H.blk i B h1).go (w' := w') (S' := S) (φ' := φ) B.fz rfl hmono (fun A' x _ _ => by rw [hheap])
          (fun A' x hp hl => by
            have := live_some H h1 hl hp
            cases hf : B.fz with
            | true => rw [if_pos rfl]; exact this.2.1 hf
            | false => rw [if_neg (by simp)]; exact this.2.2 hf)
        exact key
      · have hp := fresh h1 h3
        obtain ⟨v, fz, body⟩ := B
        simp only at hp h4
        rcases h4 with ⟨k, rfl⟩ | ⟨s, rfl⟩
        · exact .ints0 hp
        · exact .rows0 hp
    · obtain ⟨B, g1, g2, g3⟩ := H.dom _ _ _ hp
      have hi : i < h'.length := Nat.lt_of_lt_of_le (List.getElem?_eq_some_iff.1 g1).1 hlen
      obtain ⟨B0, h1, h2, _⟩ := hold i h'[i] (List.getElem?_eq_getElem hi)
      rw [g1] at h1; cases h1
      exact ⟨_, List.getElem?_eq_getElem hi, g2, Nat.le_trans g3 h2⟩
  refine ⟨hH, ⟨hos, htape, hout, by rw [hheap]; exact Nat.le_refl _, fun _ h => h, fun _ _ _ h => h, fun i _ _ => by rw [hheap], fun i hi => .inl hi, fun i ho => ?_⟩⟩
  obtain ⟨b', B, x, h1, h2, h3, h4⟩ := ho
  exact .inl ⟨b', B, x, live h1 h2 h4, h2, h3, h4⟩
theorem kill_get (h : Heap) (b i : Nat) : (kill1 h b)[i]? = if i = b then (h[i]?).map fun B => { B with body := .dead } else h[i]? := by
  unfold kill1
  cases hb : h[b]? with
  | none =>
    simp only
    by_cases hi : i = b
    · subst hi; rw [hb]; simp
    · rw [if_neg hi]
  | some B =>
    simp only
    rw [List.getElem?_set]
    have hlt : b < h.length := (List.getElem?_eq_some_iff.1 hb).1
    by_cases hi : b = i
    · subst hi; rw [if_pos rfl, if_pos hlt, if_pos rfl, hb]; rfl
    · rw [if_neg hi, if_neg (Ne.symm hi)]
theorem kill_len (h : Heap) (b : Nat) : (kill1 h b).length = h.length := by
  unfold kill1; split <;> simp
theorem kill_sound (H : HRel w S φ h) (b : Nat) : HRel w S φ (kill1 h b) ∧ Ext w S φ h w S φ (kill1 h b) := by
  refine hollow H rfl rfl rfl rfl (fun i B e => ?_) (by rw [kill_len]; exact Nat.le_refl _)
  rw [kill_get] at e
  by_cases hi : i = b
  · rw [if_pos hi] at e
    obtain ⟨B0, h1, h2⟩ := Option.map_eq_some_iff.1 e
    subst h2
    exact ⟨B0, h1, Nat.le_refl _, .inl rfl⟩
  · rw [if_neg hi] at e
    exact ⟨B, e, Nat.le_refl _, .inr (.inl rfl)⟩
/-- A row of another making at a place: the table. -/
def newPhi (φ : Phi) (b v : Nat) (x : Nat × Nat × Nat) : Phi := fun i u => if i = b ∧ u = v then some x else φ i u
theorem newPhi_at (φ : Phi) (b v : Nat) (x : Nat × Nat × Nat) : newPhi φ b v x b v = some x := by simp [newPhi]
theorem newPhi_up (H : HRel w S φ h) {b : Nat} {B : Blk} (hB : h[b]? = some B) {v : Nat} (hv : B.ver < v) (x : Nat × Nat × Nat) : ∀ i u y, φ i u = some y → newPhi φ b v x i u = some y := by
  intro i u y hp
  unfold newPhi
  by_cases hc : i = b ∧ u = v
  · obtain ⟨rfl, rfl⟩ := hc
    obtain ⟨B1, g1, _, g2⟩ := H.dom _ _ _ hp
    rw [hB] at g1; cases g1
    omega
  · rw [if_neg hc]; exact hp
theorem newPhi_inv {φ : Phi} {b v : Nat} {x : Nat × Nat × Nat} : ∀ i u y, newPhi φ b v x i u = some y → φ i u = some y ∨ (i = b ∧ u = v) := by
  intro i u y hp
  unfold newPhi at hp
  by_cases hc : i = b ∧ u = v
  · exact .inr hc
  · rw [if_neg hc] at hp; exact .inl hp
/-- A block is made for a row. -/
theorem fresh_sound (H : HRel w S φ h) {b : Nat} {B : Blk} (hB : h[b]? = some B) {body : Body} {sz : Nat} {c : Array Value} {T : TypeId} (hos : w'.os = w.os) (htape : w'.tape = w.tape) (hout : w'.output = w.output)
    (hheap : w'.heap = w.heap.push (.cells c T (0, 0))) (ok : BodyOk w S φ sz c body) :
    HRel w' S (newPhi φ b (B.ver + 1) (w.heap.size, sz, c.size)) (h.set b ⟨B.ver + 1, false, body⟩) ∧
    Ext w S φ h w' S (newPhi φ b (B.ver + 1) (w.heap.size, sz, c.size)) (h.set b ⟨B.ver + 1, false, body⟩) := by
  have hlt : b < h.length := (List.getElem?_eq_some_iff.1 hB).1
  have hmono : ∀ x d, VRel w S φ x d → VRel w' S (newPhi φ b (B.ver + 1) (w.heap.size, sz, c.size)) x d := fun x d r =>
    r.mono (fun _ h => h) (fun i hi => by rw [hheap, Array.getElem?_push, if_neg (by have := H.lt i hi; omega)]) (newPhi_up H hB (Nat.lt_succ_self _) _)
  refine place H (A := w.heap.size) (c := c) (T := T) (sz := sz) (b := b) (v := B.ver + 1) (body := body) hos htape hout (by rw [hheap]; simp) (by rw [hheap]; simp) (fun i hi hl => by rw [hheap, Array.getElem?_push, if_neg hi])
    (fun hs => absurd (H.lt _ hs) (by omega)) (fun hl => absurd hl (by omega)) (by rw [List.getElem?_set_self hlt]) (fun i B' hi e => ?_) (newPhi_at _ _ _ _) (newPhi_up H hB (Nat.lt_succ_self _) _) newPhi_inv (fun i u x hp => ?_) ?_
  · rw [List.getElem?_set_ne (Ne.symm hi)] at e
    by_cases hd : B'.body = .dead
    · exact ⟨B', e, rfl, .inl hd⟩
    · exact ⟨B', e, rfl, .inr ⟨rfl, fun x hp => by have := (live_some H e hd hp).1; omega⟩⟩
  · rcases newPhi_inv _ _ _ hp with g | ⟨rfl, rfl⟩
    · obtain ⟨B1, g1, g2, g3⟩ := H.dom _ _ _ g
      by_cases hi : i = b
      · subst hi
        rw [hB] at g1; cases g1
        exact ⟨_, List.getElem?_set_self hlt, g2, by simp; omega⟩
      · exact ⟨B1, by rw [List.getElem?_set_ne (Ne.symm hi)]; exact g1, g2, g3⟩
    · exact ⟨_, List.getElem?_set_self hlt, by omega, by simp⟩
  · cases body with
    | dead => exact ok.elim
    | ints k xs => exact ok
    | rows s xs => obtain ⟨h1, h2, h3, h4⟩ := ok; exact ⟨h1, h2, h3, fun i d j e g1 g2 => let ⟨x, k1, k2⟩ := h4 i d j e g1 g2; ⟨x, k1, hmono _ _ k2⟩⟩
/-- A row is written where it is. -/
theorem written_sound (H : HRel w S φ h) {b : Nat} {B : Blk} (hB : h[b]? = some B) (hl : B.body ≠ .dead) (hf : B.fz = false) {A sz n : Nat} (hp : φ b B.ver = some (A, sz, n)) {body : Body} {c c' : Array Value} {T : TypeId}
    (hA : w.heap[A]? = some (.cells c T (0, 0))) (hn : c'.size = n) (hos : w'.os = w.os) (htape : w'.tape = w.tape) (hout : w'.output = w.output)
    (hheap : w'.heap = w.heap.setIfInBounds A (.cells c' T (0, 0))) (ok : BodyOk w S φ sz c' body) :
    HRel w' S φ (h.set b { B with body := body }) ∧ Ext w S φ h w' S φ (h.set b { B with body := body }) := by
  have hlt : b < h.length := (List.getElem?_eq_some_iff.1 hB).1
  have hls := live_some H hB hl hp
  have hnS : ¬ S A := hls.2.2 hf
  have hne : ∀ i, i ≠ A → w'.heap[i]? = w.heap[i]? := fun i hi => by rw [hheap, Array.getElem?_setIfInBounds_ne (Ne.symm hi)]
  have hmono : ∀ x d, VRel w S φ x d → VRel w' S φ x d := fun x d r =>
    r.mono (fun _ h => h) (fun i hi => hne i fun e => hnS (e ▸ hi)) (fun _ _ _ h => h)
  subst hn
  refine place H (A := A) (c := c') (T := T) (sz := sz) (b := b) (v := B.ver) (body := body) hos htape hout (by rw [hheap]; simp) (by rw [hheap]; simp [hls.1]) (fun i hi _ => hne i hi)
    hnS (fun _ => ⟨b, B, _, hB, hl, hf, hp⟩) (by rw [List.getElem?_set_self hlt, ← hf]) (fun i B' hi e => ?_) hp (fun _ _ _ h => h) (fun _ _ _ h => .inl h) (fun i u x hp => ?_) ?_
  · rw [List.getElem?_set_ne (Ne.symm hi)] at e
    by_cases hd : B'.body = .dead
    · exact ⟨B', e, rfl, .inl hd⟩
    · exact ⟨B', e, rfl, .inr ⟨rfl, fun x hp' => hi (H.inj i b B' B A x _ e hB hd hl hp' hp)⟩⟩
  · obtain ⟨B1, g1, g2, g3⟩ := H.dom _ _ _ hp
    by_cases hi : i = b
    · subst hi
      rw [hB] at g1; cases g1
      exact ⟨_, List.getElem?_set_self hlt, g2, g3⟩
    · exact ⟨B1, by rw [List.getElem?_set_ne (Ne.symm hi)]; exact g1, g2, g3⟩
  · cases body with
    | dead => exact ok.elim
    | ints k xs => exact ok
    | rows s xs => obtain ⟨h1, h2, h3, h4⟩ := ok; exact ⟨h1, h2, h3, fun i d j e g1 g2 => let ⟨x, k1, k2⟩ := h4 i d j e g1 g2; ⟨x, k1, hmono _ _ k2⟩⟩
/-- A row grows where it is: another place names it from now on. -/
theorem moved_sound (H : HRel w S φ h) {b : Nat} {B : Blk} (hB : h[b]? = some B) (hl : B.body ≠ .dead) (hf : B.fz = false) {A sz n : Nat} (hp : φ b B.ver = some (A, sz, n)) {b' : Nat} {B' : Blk} (hB' : (kill1 h b)[b']? = some B') {body : Body} {c c' : Array Value} {T : TypeId}
    (hA : w.heap[A]? = some (.cells c T (0, 0))) (hn : c'.size = n) (hos : w'.os = w.os) (htape : w'.tape = w.tape) (hout : w'.output = w.output)
    (hheap : w'.heap = w.heap.setIfInBounds A (.cells c' T (0, 0))) (ok : BodyOk w S φ sz c' body) :
    HRel w' S (newPhi φ b' (B'.ver + 1) (A, sz, n)) ((kill1 h b).set b' ⟨B'.ver + 1, false, body⟩) ∧
    Ext w S φ h w' S (newPhi φ b' (B'.ver + 1) (A, sz, n)) ((kill1 h b).set b' ⟨B'.ver + 1, false, body⟩) := by
  have hlt : b' < (kill1 h b).length := (List.getElem?_eq_some_iff.1 hB').1
  have hls := live_some H hB hl hp
  have hnS : ¬ S A := hls.2.2 hf
  have hne : ∀ i, i ≠ A → w'.heap[i]? = w.heap[i]? := fun i hi => by rw [hheap, Array.getElem?_setIfInBounds_ne (Ne.symm hi)]
  obtain ⟨B0, hB0, hv0⟩ : ∃ B0, h[b']? = some B0 ∧ B0.ver = B'.ver := by
    rw [kill_get] at hB'
    by_cases hi : b' = b
    · rw [if_pos hi] at hB'
      obtain ⟨B0, h1, h2⟩ := Option.map_eq_some_iff.1 hB'
      subst h2
      exact ⟨B0, h1, rfl⟩
    · rw [if_neg hi] at hB'; exact ⟨B', hB', rfl⟩
  have up := newPhi_up H hB0 (v := B'.ver + 1) (by omega) (A, sz, n)
  have hmono : ∀ x d, VRel w S φ x d → VRel w' S (newPhi φ b' (B'.ver + 1) (A, sz, n)) x d := fun x d r =>
    r.mono (fun _ h => h) (fun i hi => hne i fun e => hnS (e ▸ hi)) up
  subst hn
  refine place H (A := A) (c := c') (T := T) (sz := sz) (b := b') (v := B'.ver + 1) (body := body) hos htape hout (by rw [hheap]; simp) (by rw [hheap]; simp [hls.1]) (fun i hi _ => hne i hi)
    hnS (fun _ => ⟨b, B, _, hB, hl, hf, hp⟩) (by rw [List.getElem?_set_self hlt]) (fun i B1 hi e => ?_) (newPhi_at _ _ _ _) up newPhi_inv (fun i u x hp => ?_) ?_
  · rw [List.getElem?_set_ne (Ne.symm hi), kill_get] at e
    by_cases hib : i = b
    · rw [if_pos hib] at e
      obtain ⟨B2, h1, h2⟩ := Option.map_eq_some_iff.1 e
      subst h2
      exact ⟨B2, h1, rfl, .inl rfl⟩
    · rw [if_neg hib] at e
      by_cases hd : B1.body = .dead
      · exact ⟨B1, e, rfl, .inl hd⟩
      · exact ⟨B1, e, rfl, .inr ⟨rfl, fun x hp' => hib (H.inj i b B1 B A x _ e hB hd hl hp' hp)⟩⟩
  · rcases newPhi_inv _ _ _ hp with g | ⟨rfl, rfl⟩
    · obtain ⟨B1, g1, g2, g3⟩ := H.dom _ _ _ g
      by_cases hi : i = b'
      · subst hi
        rw [hB0] at g1; cases g1
        exact ⟨_, List.getElem?_set_self hlt, g2, by simp; omega⟩
      · have hk := kill_get h b i
        rw [g1] at hk
        refine ⟨if i = b then { B1 with body := .dead } else B1, ?_, g2, ?_⟩
        · rw [List.getElem?_set_ne (Ne.symm hi), hk]; split <;> rfl
        · split <;> exact g3
    · exact ⟨_, List.getElem?_set_self hlt, by omega, by simp⟩
  · cases body with
    | dead => exact ok.elim
    | ints k xs => exact ok
    | rows s xs => obtain ⟨h1, h2, h3, h4⟩ := ok; exact ⟨h1, h2, h3, fun i d j e g1 g2 => let ⟨x, k1, k2⟩ := h4 i d j e g1 g2; ⟨x, k1, hmono _ _ k2⟩⟩
end Go.Proofs.YtcmajlphfnihgaaA
