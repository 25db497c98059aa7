/- Fractions that were made such, and shares. -/
import Derived.Test.YtjcdkemnflmfiaaGreatP21
set_option linter.unusedVariables false
set_option linter.unusedSimpArgs false
namespace Go.Proofs.YtjcdkemnflmfiaaGreatA
open Go
def cast (w : List Int) : List Rat := w.map (fun n : Int => (n : Rat))
def Shr (w : List Int) (qs : List Rat) (e : Int) : Prop :=
 (w = [] ∧ qs = [] ∧ e = 9) ∨ (w ≠ [] ∧ (∃ x ∈ w, x < 0) ∧ qs = [] ∧ e = 2) ∨ (w ≠ [] ∧ (∀ x ∈ w, 0 ≤ x) ∧ sumQ 0 (cast w) = 0 ∧ qs = [] ∧ e = 3) ∨
 (w ≠ [] ∧ (∀ x ∈ w, 0 ≤ x) ∧ sumQ 0 (cast w) ≠ 0 ∧ qs = (cast w).map (· / sumQ 0 (cast w)) ∧ e = 0)
theorem cast_len (w : List Int) : (cast w).length = w.length := List.length_map _
def W64 (w : List Int) : Prop := ∀ x ∈ w, -9223372036854775808 ≤ x ∧ x < 9223372036854775808
theorem int_mem {w : List Int} {i : Nat} (h : i < w.length) : w.getD i 0 ∈ w := by
 rw [List.getD_eq_getElem?_getD, List.getElem?_eq_getElem h]; exact List.getElem_mem h
theorem int_take {w : List Int} {i : Nat} (h : i < w.length) : w.take (i + 1) = w.take i ++ [w.getD i 0] := by
 rw [List.take_succ_eq_append_getElem h, List.getD_eq_getElem?_getD, List.getElem?_eq_getElem h]; rfl
theorem cast_AZ {w : List Int} (hw : W64 w) : AZ 2 (cast w) := fun q hq => by
 obtain ⟨n, hn, rfl⟩ := List.mem_map.1 hq
 exact SZ_int (hw n hn).1 (hw n hn).2
theorem cast_fits {w : List Int} (hw : W64 w) (hl : w.length ≤ 100) : Fits (cast w) := ⟨2, cast_AZ hw, by rw [cast_len]; omega⟩
theorem take_nn {w : List Int} {i : Nat} (h : ∀ j, j < i → ¬ w.getD j 0 < 0) (hi : w.length ≤ i) : ∀ x ∈ w, 0 ≤ x := fun x hx => by
 obtain ⟨j, hj, rfl⟩ := List.getElem_of_mem hx
 have := h j (by omega)
 rw [List.getD_eq_getElem?_getD, List.getElem?_eq_getElem hj] at this
 have this : ¬ w[j] < 0 := this
 omega
theorem cast_snoc {w : List Int} {i : Nat} (h : i < w.length) : cast (w.take (i + 1)) = cast (w.take i) ++ [((w.getD i 0 : Int) : Rat)] := by
 rw [int_take h, cast, List.map_append]; rfl
theorem ext0 {L M : List Rat} (hl : L.length = M.length) (h : ∀ j, j < L.length → L.getD j 0 = M.getD j 0) : L = M := by
 refine List.ext_getElem hl fun i h1 h2 => ?_
 have := h i h1
 rw [List.getD_eq_getElem?_getD, List.getD_eq_getElem?_getD, List.getElem?_eq_getElem h1, List.getElem?_eq_getElem h2] at this
 exact this
theorem q_set_eq {l : List Rat} {i : Nat} (h : i < l.length) (v : Rat) : (l.set i v).getD i 0 = v := by
 rw [List.getD_eq_getElem?_getD, List.getElem?_set_self h]; rfl
theorem q_set_ne {l : List Rat} {i j : Nat} (h : i ≠ j) (v : Rat) : (l.set i v).getD j 0 = l.getD j 0 := by
 rw [List.getD_eq_getElem?_getD, List.getD_eq_getElem?_getD, List.getElem?_set_ne h]
theorem fold_Shares_div {qs : List Rat} {a : Rat} (ha : a ≠ 0) (hz : AZ 2 qs) (hza : SZ 500 a) (hl : qs.length ≤ 100) (d : Nat) : ∀ (i : Nat) (L : List Rat), i + d = qs.length → L.length = qs.length → (∀ j, j < i → L.getD j 0 = qs.getD j 0 / a) → (∀ j, i ≤ j → L.getD j 0 = qs.getD j 0) →
  fold_Shares_l3 (qs.length : Int) (i : Int) (ng a.num) (ab a.num) (lim a.den) (L.map fQ) ((qs.map (· / a)).map fQ) 0 := by
 induction d with
 | zero =>
  intro i L hi hL h1 h2
  have e : L = qs.map (· / a) := ext0 (by rw [List.length_map, hL]) fun j hj => by
   rw [h1 j (by omega), map_getD (f := (· / a)) (by omega) 0 0]
  rw [e]
  exact fold_Shares_l3_go (.inr ⟨by omega, rfl, rfl⟩)
 | succ d ih =>
  intro i L hi hL h1 h2
  have h : i < L.length := by omega
  have hml : (L.map fQ).length = L.length := List.length_map _
  have hq := (hz.get (i := i) (by omega)).mono (show 2 ≤ 10000 by omega)
  have hdv := rat_Div_is ha hq (hza.mono (by omega))
  refine fold_Shares_l3_go (.inl ⟨by omega, by omega, by omega, _, _, _, getD_fQ h _, ?_⟩)
  rw [h2 i (Nat.le_refl _)]
  refine ⟨_, _, _, _, hdv, .inl ⟨rfl, (L.set i (qs.getD i 0 / a)).map fQ, by rw [List.map_set, Int.toNat_natCast]; rfl, ?_⟩⟩
  rw [w_succ (by omega)]
  refine ih (i + 1) _ (by omega) (by rw [List.length_set, hL]) (fun j hj => ?_) (fun j hj => ?_)
  ·by_cases hji : i = j
   ·subst hji; rw [q_set_eq h]
   ·rw [q_set_ne hji, h1 j (by omega)]
  ·rw [q_set_ne (by omega), h2 j (by omega)]
theorem fold_Shares_loop {w : List Int} (hw : W64 w) (hl : w.length ≤ 100) (d : Nat) : ∀ i : Nat, i + d = w.length → 0 < i → (∀ j, j < i → ¬ w.getD j 0 < 0) →
  ∃ qs e, Shr w qs e ∧ fold_Shares_l1 w (w.length : Int) (i : Int) ((cast (w.take i)).map fQ) (qs.map fQ) e := by
 induction d with
 | zero =>
  intro i hi h0 hn
  have hne : w ≠ [] := fun h => by subst h; simp at hi; omega
  have hnn := take_nn hn (by omega)
  rw [List.take_of_length_le (by omega)]
  have hs := fold_Sum_S_is (cast_fits hw hl)
  have hL : ((cast w).map fQ).length = (cast w).length := List.length_map _
  have hza := SZ.sum (cast_AZ hw) SZ0
  rw [cast_len] at hza
  by_cases ha : sumQ 0 (cast w) = 0
  ·refine ⟨[], 3, .inr (.inr (.inl ⟨hne, hnn, ha, rfl, rfl⟩)), fold_Shares_l1_go (.inr ⟨by omega, _, _, _, _, rfl, hs, ?_⟩)⟩
   rw [ha]
   exact fold_Shares_l3_go (.inl ⟨by rw [hL, cast_len]; omega, by omega, by rw [hL, cast_len]; omega, _, _, _, getD_fQ (by rw [cast_len]; show 0 < w.length; omega) _, _, _, _, _, rat_Div_zero, .inr ⟨by omega, rfl, rfl⟩⟩)
  ·refine ⟨_, 0, .inr (.inr (.inr ⟨hne, hnn, ha, rfl, rfl⟩)), fold_Shares_l1_go (.inr ⟨by omega, _, _, _, _, rfl, hs, ?_⟩)⟩
   rw [hL]
   exact fold_Shares_div ha (cast_AZ hw) (hza.mono (by omega)) (by rw [cast_len]; exact hl) (cast w).length 0 _ (by omega) rfl (fun j hj => by omega) (fun j _ => rfl)
 | succ d ih =>
  intro i hi h0 hn
  have h : i < w.length := by omega
  have hr := hw _ (int_mem h)
  have hL : ((cast (w.take i)).map fQ).length = i := by rw [List.length_map, cast_len, List.length_take]; omega
  by_cases hneg : w.getD i 0 < 0
  ·refine ⟨[], 2, .inr (.inl ⟨fun h => (by subst h; simp at hi), ⟨_, int_mem h, hneg⟩, rfl, rfl⟩), fold_Shares_l1_go (.inl ⟨by omega, by omega, by omega, .inl ⟨hneg, rfl, rfl⟩⟩)⟩
  ·obtain ⟨qs, e, h1, h2⟩ := ih (i + 1) (by omega) (by omega) (fun j hj => by
    by_cases hji : j = i
    ·subst hji; exact hneg
    ·exact hn j (by omega))
   refine ⟨qs, e, h1, fold_Shares_l1_go (.inl ⟨by omega, by omega, by omega, .inr ⟨hneg, _, _, _, rat_Of_is hr.1 hr.2, by omega, (cast (w.take (i + 1))).map fQ, by rw [cast_snoc h, List.map_append]; rfl, ?_⟩⟩)⟩
   rw [w_succ (by omega)]
   exact h2
theorem fold_Shares_is {w : List Int} (hw : W64 w) (hl : w.length ≤ 100) : ∃ qs e, Shr w qs e ∧ fold_Shares_R w (qs.map fQ) e := by
 by_cases h0 : w = []
 ·subst h0
  exact ⟨[], 9, .inl ⟨rfl, rfl, rfl⟩, fold_Shares_go (.inl ⟨rfl, rfl, rfl⟩)⟩
 ·have h : 0 < w.length := List.length_pos_iff.2 h0
  have hr := hw _ (int_mem h)
  by_cases hneg : w.getD 0 0 < 0
  ·exact ⟨[], 2, .inr (.inl ⟨h0, ⟨_, int_mem h, hneg⟩, rfl, rfl⟩), fold_Shares_go (.inr ⟨by omega, fold_Shares_l0_go (.inl ⟨by omega, by omega, by omega, .inl ⟨hneg, rfl, rfl⟩⟩)⟩)⟩
  ·obtain ⟨qs, e, h1, h2⟩ := fold_Shares_loop hw hl (w.length - 1) 1 (by omega) (by omega) (fun j hj => by rw [show j = 0 by omega]; exact hneg)
   refine ⟨qs, e, h1, fold_Shares_go (.inr ⟨by omega, fold_Shares_l0_go (.inl ⟨by omega, by omega, by omega, .inr ⟨hneg, _, _, _, rat_Of_is hr.1 hr.2, by omega, (cast (w.take 1)).map fQ, by rw [show (1 : Nat) = 0 + 1 from rfl, cast_snoc h]; rfl, ?_⟩⟩)⟩)⟩
   rw [s64i (n := 0 + 1) (by omega) (by omega)]
   exact h2
theorem Shr.unique {w : List Int} {qs ps : List Rat} {e g : Int} (h1 : Shr w qs e) (h2 : Shr w ps g) : qs = ps ∧ e = g := by
 have key : ∀ {x : Int}, x ∈ w → x < 0 → (∀ x ∈ w, 0 ≤ x) → False := fun hx hn h => by have := h _ hx; omega
 rcases h1 with ⟨a, b, c⟩ | ⟨a, ⟨x, hx, hx2⟩, b, c⟩ | ⟨a, p, q, b, c⟩ | ⟨a, p, q, b, c⟩ <;> rcases h2 with ⟨a', b', c'⟩ | ⟨a', ⟨x', hx', hx2'⟩, b', c'⟩ | ⟨a', p', q', b', c'⟩ | ⟨a', p', q', b', c'⟩ <;> first
  | exact ⟨b.trans b'.symm, c.trans c'.symm⟩
  | exact absurd a a'
  | exact absurd a' a
  | exact (key hx hx2 p').elim
  | exact (key hx' hx2' p).elim
  | exact absurd q q'
  | exact absurd q' q
end Go.Proofs.YtjcdkemnflmfiaaGreatA
