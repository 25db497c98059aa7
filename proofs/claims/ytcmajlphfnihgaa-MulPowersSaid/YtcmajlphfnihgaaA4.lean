/- What a value holds; rows that are written no more; a new row; a store. -/
import Derived.Test.YtcmajlphfnihgaaA3
set_option linter.unusedVariables false
set_option linter.unusedSimpArgs false
namespace Go.Proofs.YtcmajlphfnihgaaA
open Go
variable {P : Program} {w : World} {S : Nat → Prop} {φ : Phi} {h : Heap}

theorem VRel.to {S0 : Nat → Prop} (hS : ∀ b, S b → S0 b) {v : Value} {d : D} (r : VRel w S φ v d) : VRel w S0 φ v d := r.mono hS (fun _ _ => rfl) (fun _ _ _ h => h)

theorem reify_sound (H : HRel w S φ h) {S0 : Nat → Prop} (hS : ∀ b, S b → S0 b) : ∀ (n : Nat) (v : Value) (d d' : D), VRel w S φ v d → reify h n d = some d' →
    (∀ b ∈ reach h n d, ∀ B A x, h[b]? = some B → B.body ≠ .dead → φ b B.ver = some (A, x) → S0 A) → VRel w S0 noPhi v d' := by
  intro n
  induction n with
  | zero =>
    intro v d d' r e hr
    simp only [reify] at e
    by_cases hd : d.isT 0 = true
    · rw [if_pos hd] at e
      cases e
      exact (bare_vrel (isT_vrel 0 r hd)).to hS
    · rw [if_neg hd] at e; cases e
  | succ n ih =>
    intro v d d' r e hr
    cases r with
    | @agg _ vs ds hl hx =>
      simp only [reify] at e
      obtain ⟨m, hm, e⟩ := Option.map_eq_some_iff.1 e
      subst e
      obtain ⟨g1, g2⟩ := mapM_some hm
      refine .agg (by omega) fun i v d h1 h2 => ?_
      have hi : i < ds.length := by have := (List.getElem?_eq_some_iff.1 h2).1; omega
      refine ih v ds[i] d (hx i v ds[i] h1 (List.getElem?_eq_getElem hi)) (g2 i _ _ (List.getElem?_eq_getElem hi) h2) fun b hb => hr b ?_
      simp only [reach, List.mem_flatMap]
      exact ⟨_, List.getElem_mem hi, hb⟩
    | @tuple _ vs ds hl hx =>
      simp only [reify] at e
      obtain ⟨m, hm, e⟩ := Option.map_eq_some_iff.1 e
      subst e
      obtain ⟨g1, g2⟩ := mapM_some hm
      refine .tuple (by omega) fun i v d h1 h2 => ?_
      have hi : i < ds.length := by have := (List.getElem?_eq_some_iff.1 h2).1; omega
      refine ih v ds[i] d (hx i v ds[i] h1 (List.getElem?_eq_getElem hi)) (g2 i _ _ (List.getElem?_eq_getElem hi) h2) fun b hb => hr b ?_
      simp only [reach, List.mem_flatMap]
      exact ⟨_, List.getElem_mem hi, hb⟩
    | @fn _ f as cs ds es h1 h2 ha hc =>
      simp only [reify] at e
      obtain ⟨m, hm, e⟩ := Option.bind_eq_some_iff.1 e
      obtain ⟨m', hm', e⟩ := Option.map_eq_some_iff.1 e
      subst e
      obtain ⟨g1, g2⟩ := mapM_some hm
      obtain ⟨g3, g4⟩ := mapM_some hm'
      refine .fn (by omega) (by omega) (fun i v d k1 k2 => ?_) (fun i v d k1 k2 => ?_)
      · have hi : i < ds.length := by have := (List.getElem?_eq_some_iff.1 k2).1; omega
        refine ih v ds[i] d (ha i v ds[i] k1 (List.getElem?_eq_getElem hi)) (g2 i _ _ (List.getElem?_eq_getElem hi) k2) fun b hb => hr b ?_
        simp only [reach, List.mem_append, List.mem_flatMap]
        exact .inl ⟨_, List.getElem_mem hi, hb⟩
      · have hi : i < es.length := by have := (List.getElem?_eq_some_iff.1 k2).1; omega
        refine ih v es[i] d (hc i v es[i] k1 (List.getElem?_eq_getElem hi)) (g4 i _ _ (List.getElem?_eq_getElem hi) k2) fun b hb => hr b ?_
        simp only [reach, List.mem_append, List.mem_flatMap]
        exact .inr ⟨_, List.getElem_mem hi, hb⟩
    | @sref _ A b u sz n' off len cap hp hc hn =>
      simp only [reify] at e
      have hSA : h.get b u ≠ .dead → S0 A := fun hd => by
        obtain ⟨B, hB, hv, hb⟩ := get_rel rfl hd
        exact hr b (by simp [reach]) B A (sz, n') hB (by rw [hb]; exact hd) (by rw [hv]; exact hp)
      cases hg : h.get b u with
      | dead => rw [hg] at e; cases e
      | ints k xs =>
        rw [hg] at e
        obtain ⟨c, T, rfl, hA, hn', hl, hx⟩ := get_ints H hg hp
        by_cases hlen : off + len ≤ xs.length
        · simp only [hlen, if_true, Option.some.injEq] at e
          subst e
          have hlen' : ((xs.drop off).take len).length = len := by simp; omega
          have key := VRel.ints (w := w) (S := S0) (φ := noPhi) (a := some ⟨A, off * 1, none⟩) (cap := cap) (k := k) (xs := (xs.drop off).take len) (by omega) A off
            (fun _ => ⟨by simp, hSA (by rw [hg]; simp)⟩) (fun i hi => by
              rw [hlen'] at hi
              rw [cell_of hA, hx (off + i) (by omega)]
              congr 2
              simp [List.getD_eq_getElem?_getD, List.getElem?_take, hi])
          rw [hlen'] at key
          exact key
        · simp [hlen] at e
      | rows sz' xs =>
        rw [hg] at e
        obtain ⟨c, T, rfl, hA, hn', hl, hsz, hx⟩ := get_rows H hg hp
        by_cases hlen : off + len ≤ xs.length
        · simp only [hlen, if_true] at e
          by_cases hall : ((xs.drop off).take len).all (fun d => d.cells.all (D.isT 2)) = true
          · rw [if_pos hall] at e
            simp only [Option.some.injEq] at e
            subst e
            have hlen' : ((xs.drop off).take len).length = len := by simp; omega
            have hget : ∀ (i : Nat) (d : D), ((xs.drop off).take len)[i]? = some d → xs[off + i]? = some d := fun i d hd => by
              rw [List.getElem?_take] at hd
              by_cases hi : i < len
              · rwa [if_pos hi, List.getElem?_drop] at hd
              · rw [if_neg hi] at hd; cases hd
            have key := VRel.list (w := w) (S := S0) (φ := noPhi) (a := some ⟨A, off * sz', none⟩) (cap := cap) (sz := sz') (xs := (xs.drop off).take len) (by omega) A (off * sz')
              (fun i j => (c[(off + i) * sz' + j]?).getD default)
              (fun _ => ⟨rfl, hSA (by rw [hg]; simp)⟩) (fun i d hd => hsz _ d (hget i d hd))
              (fun i d j e hd he => by
                obtain ⟨y, h1, _⟩ := hx _ d j e (hget i d hd) he
                rw [cell_of hA, ← Nat.add_assoc, ← Nat.add_mul, h1]; rfl)
              (fun i d j e hd he => by
                obtain ⟨y, h1, h2⟩ := hx _ d j e (hget i d hd) he
                rw [h1]
                rw [List.all_eq_true] at hall
                have h3 := hall d (List.mem_of_getElem? hd)
                rw [List.all_eq_true] at h3
                exact (isT_vrel 2 h2 (h3 e (List.mem_of_getElem? he))).to hS)
            rw [hlen'] at key
            exact key
          · rw [if_neg hall] at e; simp at e
        · simp [hlen] at e
    | @sref0 _ a b u sz off =>
      simp only [reify] at e
      cases hg : h.get b u with
      | dead => rw [hg] at e; cases e
      | ints k xs =>
        rw [hg] at e
        by_cases h1 : sz = 1
        · by_cases h2 : off + 0 ≤ xs.length
          · simp only [h1, h2, if_true, Option.some.injEq] at e
            subst e
            exact .ints (xs := []) (Nat.le_refl _) 0 0 (fun h => absurd rfl h) (fun i hi => by simp at hi)
          · simp only [h1, h2, if_true, if_false] at e; cases e
        · simp only [h1, if_false] at e; cases e
      | rows sz' xs =>
        rw [hg] at e
        by_cases h1 : sz' = sz
        · by_cases h2 : off + 0 ≤ xs.length
          · simp only [h1, h2, if_true, List.take_zero, List.all_nil, Option.some.injEq] at e
            subst e
            exact .list (xs := []) (Nat.le_refl _) 0 0 (fun _ _ => default) (fun h => absurd rfl h) (fun i d h => by simp at h) (fun i d j c h => by simp at h) (fun i d j c h => by simp at h)
          · simp only [h1, h2, if_true, if_false] at e; cases e
        · simp only [h1, if_false] at e; cases e
    | @pref _ A b u sz n' i off hp =>
      have r : VRel w S φ (.pointer (some ⟨A, i * sz + off, none⟩)) (.pref b u i off) := .pref hp
      simp only [reify] at e
      obtain ⟨cs, hcs, e⟩ := Option.bind_eq_some_iff.1 e
      obtain ⟨m, hm, e⟩ := Option.map_eq_some_iff.1 e
      subst e
      obtain ⟨A', o', hA', hcell⟩ := cellsAt_sound H r hcs
      cases hA'
      obtain ⟨g1, g2⟩ := mapM_some hm
      have hlive : h.get b u ≠ .dead := fun hd => by simp [cellsAt, hd] at hcs
      obtain ⟨B, hB, hv, hb⟩ := get_rel rfl hlive
      have hAS : S0 A := hr b (by simp [reach]) B A (sz, n') hB (by rw [hb]; exact hlive) (by rw [hv]; exact hp)
      have hcs' : ∀ (j : Nat) (c : D), m[j]? = some c → ∃ y, w.cell? ⟨A, i * sz + off + j, none⟩ = some y ∧ VRel w S0 noPhi y c := fun j c hj => by
        have hjl : j < cs.length := by have := (List.getElem?_eq_some_iff.1 hj).1; omega
        obtain ⟨y, h1, h2⟩ := hcell j cs[j] (List.getElem?_eq_getElem hjl)
        refine ⟨y, h1, ih y _ c h2 (g2 j _ _ (List.getElem?_eq_getElem hjl) hj) fun b' hb' => hr b' ?_⟩
        simp only [reach, hcs, Option.getD_some, List.mem_cons, List.mem_flatMap]
        exact .inr ⟨_, List.getElem_mem hjl, hb'⟩
      exact .ptr (fun j => (w.cell? ⟨A, i * sz + off + j, none⟩).getD default) hAS (fun j c hj => by obtain ⟨y, h1, _⟩ := hcs' j c hj; rw [h1]; rfl)
        (fun j c hj => by obtain ⟨y, h1, h2⟩ := hcs' j c hj; rw [h1]; exact h2)
    | lit hd hb => simp only [reify, Option.some.injEq] at e; subst e; exact hd.to hS
    | top => simp only [reify, Option.some.injEq] at e; subst e; exact .top
    | bool => simp only [reify, Option.some.injEq] at e; subst e; exact .bool
    | int => simp only [reify, Option.some.injEq] at e; subst e; exact .int
    | str => simp only [reify, Option.some.injEq] at e; subst e; exact .str
    | nilS => simp only [reify, Option.some.injEq] at e; subst e; exact .nilS
    | nilP => simp only [reify, Option.some.injEq] at e; subst e; exact .nilP
    | nilF => simp only [reify, Option.some.injEq] at e; subst e; exact .nilF
    | nilI => simp only [reify, Option.some.injEq] at e; subst e; exact .nilI
    | nilM => simp only [reify, Option.some.injEq] at e; subst e; exact .nilM
    | ints hc B o ha hx => simp only [reify, Option.some.injEq] at e; subst e; exact (VRel.ints hc B o ha hx).to hS
    | list hc B o vs ha hsz hx hv => simp only [reify, Option.some.injEq] at e; subst e; exact (VRel.list hc B o vs ha hsz hx hv).to hS
    | ptr vs hB hx hv => simp only [reify, Option.some.injEq] at e; subst e; exact (VRel.ptr vs hB hx hv).to hS

/-! ### rows that are written no more -/
theorem mark_get (h : Heap) (b i : Nat) : (mark h b)[i]? = if i = b then (h[i]?).map fun B => { B with fz := true } else h[i]? := by
  unfold mark
  rw [List.getElem?_modify]
  by_cases hb : b = i
  · subst hb; simp
  · simp [hb, Ne.symm hb]
theorem freeze_get (l : List Nat) : ∀ (h : Heap) (i : Nat), (freeze h l)[i]? = if i ∈ l then (h[i]?).map fun B => { B with fz := true } else h[i]? := by
  induction l with
  | nil => intro h i; simp [freeze]
  | cons b l ih =>
    intro h i
    have : freeze h (b :: l) = freeze (mark h b) l := rfl
    rw [this, ih, mark_get]
    by_cases h1 : i = b
    · subst h1
      simp only [if_true, List.mem_cons, true_or]
      split
      · cases h[i]? <;> rfl
      · rfl
    · simp [h1]
def FS (S : Nat → Prop) (φ : Phi) (h : Heap) (l : List Nat) (A : Nat) : Prop := S A ∨ ∃ b ∈ l, ∃ B x, h[b]? = some B ∧ B.body ≠ .dead ∧ φ b B.ver = some (A, x)
theorem live_some (H : HRel w S φ h) {b : Nat} {B : Blk} {A : Nat} {x : Nat × Nat} (hB : h[b]? = some B) (hl : B.body ≠ .dead) (hp : φ b B.ver = some (A, x)) :
    A < w.heap.size ∧ (B.fz = true → S A) ∧ (B.fz = false → ¬ S A) := by
  have lt : ∀ {o : Obj}, w.heap[A]? = some o → A < w.heap.size := fun {o} h => by
    rcases Nat.lt_or_ge A w.heap.size with h' | h'
    · exact h'
    · rw [Array.getElem?_eq_none h'] at h; cases h
  cases H.blk b B hB with
  | dead => exact absurd rfl hl
  | ints hφ hA _ _ _ hS => rw [hφ] at hp; cases hp; exact ⟨lt hA, fun e => by simp only at e; simpa [e] using hS, fun e => by simp only at e; simpa [e] using hS⟩
  | rows hφ hA _ _ _ _ hS => rw [hφ] at hp; cases hp; exact ⟨lt hA, fun e => by simp only at e; simpa [e] using hS, fun e => by simp only at e; simpa [e] using hS⟩
  | ints0 hφ => rw [hφ] at hp; cases hp
  | rows0 hφ => rw [hφ] at hp; cases hp
/-- A row goes over to another world, another set of what is frozen, another table of rows. -/
theorem BRel.go {w' : World} {S' : Nat → Prop} {φ' : Phi} {b : Nat} {B : Blk} (r : BRel w S φ b B) (fz : Bool) (hφ : φ' b B.ver = φ b B.ver)
    (hv : ∀ v d, VRel w S φ v d → VRel w' S' φ' v d) (hh : ∀ A x, φ b B.ver = some (A, x) → B.body ≠ .dead → w'.heap[A]? = w.heap[A]?)
    (hS : ∀ A x, φ b B.ver = some (A, x) → B.body ≠ .dead → if fz then S' A else ¬ S' A) : BRel w' S' φ' b { B with fz := fz } := by
  cases r with
  | dead => exact .dead
  | ints hp hA hn hl hx _ => exact .ints (hφ.trans hp) ((hh _ _ hp (by simp)).trans hA) hn hl hx (hS _ _ hp (by simp))
  | rows hp hA hn hl hsz hx _ =>
    exact .rows (hφ.trans hp) ((hh _ _ hp (by simp)).trans hA) hn hl hsz (fun i d j e h1 h2 => let ⟨x, g1, g2⟩ := hx i d j e h1 h2; ⟨x, g1, hv _ _ g2⟩) (hS _ _ hp (by simp))
  | ints0 hp => exact .ints0 (hφ.trans hp)
  | rows0 hp => exact .rows0 (hφ.trans hp)

theorem freeze_sound (H : HRel w S φ h) (l : List Nat) : HRel w (FS S φ h l) φ (freeze h l) ∧ Ext w S φ h w (FS S φ h l) φ (freeze h l) := by
  have sub : ∀ b, S b → FS S φ h l b := fun b hb => .inl hb
  have inv : ∀ {b : Nat} {B : Blk}, (freeze h l)[b]? = some B → ∃ B0, h[b]? = some B0 ∧ B0.ver = B.ver ∧ B0.body = B.body ∧ (B.fz = if b ∈ l then true else B0.fz) := fun {b B} e => by
    rw [freeze_get] at e
    by_cases hb : b ∈ l
    · rw [if_pos hb] at e
      obtain ⟨B0, h1, h2⟩ := Option.map_eq_some_iff.1 e
      subst h2
      exact ⟨B0, h1, rfl, rfl, by simp [hb]⟩
    · rw [if_neg hb] at e
      exact ⟨B, e, rfl, rfl, by simp [hb]⟩
  have HF : HRel w (FS S φ h l) φ (freeze h l) := by
    refine ⟨fun b B e => ?_, fun b b' B B' A x x' e e' hl hl' hp hp' => ?_, fun b v x hp => ?_, fun b hb => ?_⟩
    · obtain ⟨B0, h1, h2, h3, h4⟩ := inv e
      have hBeq : B = { B0 with fz := B.fz } := by cases B; cases B0; simp_all
      rw [hBeq]
      refine (H.blk b B0 h1).go B.fz rfl (fun v d r => r.to sub) (fun A x _ _ => rfl) fun A x hp hl => ?_
      rw [h4]
      by_cases hb : b ∈ l
      · simp only [hb, if_true]
        exact .inr ⟨b, hb, B0, x, h1, hl, hp⟩
      · simp only [hb, if_false]
        have hs := live_some H h1 hl hp
        cases hf : B0.fz with
        | true => rw [if_pos rfl]; exact .inl (hs.2.1 hf)
        | false =>
          have : ¬ FS S φ h l A := fun hfs => by
            rcases hfs with hfs | ⟨b', hb', B', x', g1, g2, g3⟩
            · exact hs.2.2 hf hfs
            · have := H.inj b b' B0 B' A x x' h1 g1 hl g2 hp g3
              subst this; exact hb hb'
          rw [if_neg (by simp)]; exact this
    · obtain ⟨B0, h1, h2, h3, h4⟩ := inv e
      obtain ⟨B0', h1', h2', h3', h4'⟩ := inv e'
      exact H.inj b b' B0 B0' A x x' h1 h1' (by rw [h3]; exact hl) (by rw [h3']; exact hl') (by rw [h2]; exact hp) (by rw [h2']; exact hp')
    · obtain ⟨B, h1, h2, h3⟩ := H.dom b v x hp
      have hg := freeze_get l h b
      rw [h1] at hg
      by_cases hb : b ∈ l
      · rw [if_pos hb] at hg; exact ⟨_, hg, h2, h3⟩
      · rw [if_neg hb] at hg; exact ⟨_, hg, h2, h3⟩
    · rcases hb with hb | ⟨b', _, B', x', g1, g2, g3⟩
      · exact H.lt b hb
      · exact (live_some H g1 g2 g3).1
  refine ⟨HF, ⟨rfl, rfl, rfl, Nat.le_refl _, sub, fun _ _ _ h => h, fun _ _ _ => rfl, fun b hb => ?_, fun b hb => ?_⟩⟩
  · rcases hb with hb | ⟨b', _, B', x', g1, g2, g3⟩
    · exact .inl hb
    · cases hf : B'.fz with
      | true => exact .inl ((live_some H g1 g2 g3).2.1 hf)
      | false => exact .inr (.inl ⟨b', B', x', g1, g2, hf, g3⟩)
  · obtain ⟨b', B', x', g1, g2, g3, g4⟩ := hb
    obtain ⟨B0, h1, h2, h3, h4⟩ := inv g1
    refine .inl ⟨b', B0, x', h1, by rw [h3]; exact g2, ?_, by rw [h2]; exact g4⟩
    rw [g3] at h4
    by_cases hb : b' ∈ l
    · simp [hb] at h4
    · simpa [hb] using h4.symm
end Go.Proofs.YtcmajlphfnihgaaA
