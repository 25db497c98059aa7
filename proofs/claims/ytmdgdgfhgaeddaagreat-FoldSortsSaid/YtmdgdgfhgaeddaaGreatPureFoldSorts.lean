/- The law of sorted fractions: its function answers true, whatever the input. -/
import Derived.Test.YtmdgdgfhgaeddaaGreatP19
import Derived.Test.YtmdgdgfhgaeddaaGreatW10
import Derived.Test.YtmdgdgfhgaeddaaGreatWlaw10FoldSorts
set_option linter.unusedVariables false
set_option linter.unusedSimpArgs false
namespace Go.Proofs.YtmdgdgfhgaeddaaGreatA
open Go
/-! ### sorting -/
def swp (rs : List Rat) (j : Nat) : List Rat := (rs.set j (rs.getD (j - 1) 0)).set (j - 1) (rs.getD j 0)
def ins (rs : List Rat) : Nat → List Rat
  | 0 => rs
  | j + 1 => if rs.getD (j + 1) 0 < rs.getD j 0 then ins (swp rs (j + 1)) j else rs
def isort : Nat → List Rat → Nat → List Rat
  | 0, rs, _ => rs
  | n + 1, rs, i => isort n (ins rs i) (i + 1)
theorem swp_len (rs : List Rat) (j : Nat) : (swp rs j).length = rs.length := by simp [swp]
theorem ins_len : ∀ (j : Nat) (rs : List Rat), (ins rs j).length = rs.length
  | 0, rs => rfl
  | j + 1, rs => by
    unfold ins
    split
    · rw [ins_len j, swp_len]
    · rfl
theorem isort_len : ∀ (n : Nat) (rs : List Rat) (i : Nat), (isort n rs i).length = rs.length
  | 0, rs, i => rfl
  | n + 1, rs, i => by unfold isort; rw [isort_len n, ins_len]
theorem get_set (l : List Rat) (i j : Nat) (x : Rat) (hi : i < l.length) : (l.set i x).getD j 0 = if i = j then x else l.getD j 0 := by
  rw [List.getD_eq_getElem?_getD, List.getD_eq_getElem?_getD, List.getElem?_set]
  by_cases h : i = j
  · subst h; rw [if_pos rfl, if_pos hi, if_pos rfl]; rfl
  · rw [if_neg h, if_neg h]
theorem swp_get {rs : List Rat} {j : Nat} (hj : j + 1 < rs.length) (p : Nat) : (swp rs (j + 1)).getD p 0 = if p = j then rs.getD (j + 1) 0 else if p = j + 1 then rs.getD j 0 else rs.getD p 0 := by
  unfold swp
  rw [Nat.add_sub_cancel, get_set _ _ _ _ (by rw [List.length_set]; omega), get_set _ _ _ _ (by omega)]
  by_cases h1 : p = j
  · rw [if_pos h1, if_pos h1.symm]
  · rw [if_neg h1, if_neg (show ¬ j = p from fun h => h1 h.symm)]
    by_cases h2 : p = j + 1
    · rw [if_pos h2, if_pos h2.symm]
    · rw [if_neg h2, if_neg (show ¬ j + 1 = p from fun h => h2 h.symm)]
theorem swp_count {rs : List Rat} {j : Nat} (hj : j + 1 < rs.length) (x : Rat) : (swp rs (j + 1)).count x = rs.count x := by
  unfold swp
  rw [Nat.add_sub_cancel, List.count_set (by rw [List.length_set]; omega), List.count_set (by omega), List.getElem_set_ne (by omega)]
  have e1 : rs.getD (j + 1) 0 = rs[j + 1] := by rw [List.getD_eq_getElem?_getD, List.getElem?_eq_getElem hj]; rfl
  have e2 : rs.getD j 0 = rs[j] := by rw [List.getD_eq_getElem?_getD, List.getElem?_eq_getElem (by omega)]; rfl
  rw [e1, e2]
  have h1 : (if rs[j + 1] == x then 1 else 0) ≤ rs.count x := by
    split
    · rename_i h
      have : rs[j + 1] = x := by simpa using h
      exact List.count_pos_iff.2 (this ▸ List.getElem_mem hj)
    · omega
  omega
theorem ins_count : ∀ (j : Nat) (rs : List Rat), j < rs.length → ∀ x, (ins rs j).count x = rs.count x
  | 0, rs, _, x => rfl
  | j + 1, rs, hj, x => by
    unfold ins
    split
    · rw [ins_count j _ (by rw [swp_len]; omega), swp_count hj]
    · rfl
theorem isort_count : ∀ (n : Nat) (rs : List Rat) (i : Nat), i + n ≤ rs.length → ∀ x, (isort n rs i).count x = rs.count x
  | 0, rs, i, _, x => rfl
  | n + 1, rs, i, h, x => by unfold isort; rw [isort_count n _ _ (by rw [ins_len]; omega), ins_count i rs (by omega)]
/-- What lies ahead is no greater, but for one place. -/
def But (rs : List Rat) (j i : Nat) : Prop := ∀ p q, p < q → q ≤ i → q ≠ j → rs.getD p 0 ≤ rs.getD q 0
def Upto (rs : List Rat) (i : Nat) : Prop := ∀ p q, p < q → q < i → rs.getD p 0 ≤ rs.getD q 0
theorem ins_sorted : ∀ (j i : Nat) (rs : List Rat), j ≤ i → i < rs.length → But rs j i → Upto (ins rs j) (i + 1)
  | 0, i, rs, hj, hi, h => fun p q hpq hq => h p q hpq (by omega) (by omega)
  | j + 1, i, rs, hj, hi, h => by
    unfold ins
    split
    · rename_i hlt
      refine ins_sorted j i _ (by omega) (by rw [swp_len]; omega) fun p q hpq hq hne => ?_
      rw [swp_get (by omega), swp_get (by omega), if_neg hne]
      by_cases h1 : q = j + 1
      · rw [if_pos h1]
        by_cases h2 : p = j
        · rw [if_pos h2]; exact Rat.le_of_lt hlt
        · rw [if_neg h2, if_neg (by omega)]; exact h p j (by omega) (by omega) (by omega)
      · rw [if_neg h1]
        by_cases h2 : p = j
        · rw [if_pos h2]; exact h (j + 1) q (by omega) hq h1
        · rw [if_neg h2]
          by_cases h3 : p = j + 1
          · rw [if_pos h3]; exact h j q (by omega) hq h1
          · rw [if_neg h3]; exact h p q hpq hq h1
    · rename_i hge
      intro p q hpq hq
      by_cases h1 : q = j + 1
      · subst h1
        have hle : rs.getD j 0 ≤ rs.getD (j + 1) 0 := Rat.not_lt.1 hge
        by_cases h2 : p = j
        · rw [h2]; exact hle
        · exact Rat.le_trans (h p j (by omega) (by omega) (by omega)) hle
      · exact h p q hpq (by omega) h1
theorem isort_sorted : ∀ (n : Nat) (rs : List Rat) (i : Nat), i + n = rs.length → Upto rs i → Upto (isort n rs i) rs.length
  | 0, rs, i, h, hu => by unfold isort; rw [← h]; exact hu
  | n + 1, rs, i, h, hu => by
    unfold isort
    have := isort_sorted n (ins rs i) (i + 1) (by rw [ins_len]; omega) (ins_sorted i i rs (Nat.le_refl i) (by omega) fun p q hpq hq hne => hu p q hpq (by omega))
    rwa [ins_len] at this
theorem map_set {rs : List Rat} {i : Nat} {x : Rat} : (rs.map fQ).set i (ng x.num, ab x.num, lim x.den) = (rs.set i x).map fQ := (List.map_set ..).symm
theorem ins_walk {cb : Nat → Blk} {ver : Nat} {n i : Nat} (hn : n ≤ 1000) {ys : List T_api_Rat} : ∀ (j : Nat) (rs : List Rat), AZ 10000 rs → rs.length = n → j < n →
    slices_insertionSortCmpFunc_api_Rat__L1_l0 cb ver 0 (n : Int) (wi ((i : Int) + 1)) ((ins rs j).map fQ) ys →
    slices_insertionSortCmpFunc_api_Rat__L1_l1 cb ver 0 (n : Int) (i : Int) (j : Int) (rs.map fQ) ys
  | 0, rs, hz, hl, hj, H => slices_insertionSortCmpFunc_api_Rat__L1_l1_go (.inr ⟨by omega, H⟩)
  | j + 1, rs, hz, hl, hj, H => by
    have hL : (rs.map fQ).length = rs.length := List.length_map _
    have e : wi (((j + 1 : Nat) : Int) - 1) = (j : Int) := w_pred (by omega)
    have g1 := getD_fQ (qs := rs) (i := j + 1) (by omega) (false, [], [])
    have g2 := getD_fQ (qs := rs) (i := j) (by omega) (false, [], [])
    have g2' : (rs.map fQ).getD (wi (((j + 1 : Nat) : Int) - 1)).toNat (false, [], []) = (ng (rs.getD j 0).num, ab (rs.getD j 0).num, lim (rs.getD j 0).den) := by rw [e]; exact g2
    refine slices_insertionSortCmpFunc_api_Rat__L1_l1_go (.inl ⟨by omega, by omega, by omega, _, _, _, g1, by rw [e] <;> omega, by rw [e] <;> omega, _, _, _, g2', _, rat_Cmp_is (hz.get (i := j + 1) (by omega)) (hz.get (i := j) (by omega)), ?_⟩)
    by_cases h : rs.getD (j + 1) 0 < rs.getD j 0
    · rw [ins, if_pos h] at H
      refine .inl ⟨cmp_neg.2 h, _, _, _, g2', _, _, _, g1, _, rfl, ?_, _, rfl, ?_⟩
      · rw [e, List.length_set]; omega
      · rw [e, Int.toNat_natCast, Int.toNat_natCast]
        have hm : (((rs.map fQ).set (j + 1) (ng (rs.getD j 0).num, ab (rs.getD j 0).num, lim (rs.getD j 0).den)).set j (ng (rs.getD (j + 1) 0).num, ab (rs.getD (j + 1) 0).num, lim (rs.getD (j + 1) 0).den)) = (swp rs (j + 1)).map fQ := by
          rw [map_set, map_set]; rfl
        rw [hm]
        refine ins_walk hn j (swp rs (j + 1)) (fun q hq => ?_) (by rw [swp_len]; exact hl) (by omega) H
        have hc := List.count_pos_iff.2 hq
        rw [swp_count (by omega)] at hc
        exact hz q (List.count_pos_iff.1 hc)
    · rw [ins, if_neg h] at H
      exact .inr ⟨fun k => h (cmp_neg.1 k), H⟩
theorem isort_AZ {c : Nat} {rs : List Rat} {n i : Nat} (h : i + n ≤ rs.length) (hz : AZ c rs) : AZ c (isort n rs i) := fun q hq => by
  have hc := List.count_pos_iff.2 hq
  rw [isort_count n rs i h] at hc
  exact hz q (List.count_pos_iff.1 hc)
theorem ins_AZ {c : Nat} {rs : List Rat} {i : Nat} (h : i < rs.length) (hz : AZ c rs) : AZ c (ins rs i) := fun q hq => by
  have hc := List.count_pos_iff.2 hq
  rw [ins_count i rs h] at hc
  exact hz q (List.count_pos_iff.1 hc)
theorem isort_walk {cb : Nat → Blk} {ver : Nat} {n : Nat} (hn : n ≤ 1000) : ∀ (d i : Nat) (rs : List Rat), AZ 10000 rs → rs.length = n → i + d = n → slices_insertionSortCmpFunc_api_Rat__L1_l0 cb ver 0 (n : Int) (i : Int) (rs.map fQ) ((isort d rs i).map fQ)
  | 0, i, rs, hz, hl, hd => slices_insertionSortCmpFunc_api_Rat__L1_l0_go (.inr ⟨by omega, rfl⟩)
  | d + 1, i, rs, hz, hl, hd => by
    refine slices_insertionSortCmpFunc_api_Rat__L1_l0_go (.inl ⟨by omega, ?_⟩)
    refine ins_walk hn i rs hz hl (by omega) ?_
    rw [w_succ (by omega)]
    exact isort_walk hn d (i + 1) (ins rs i) (ins_AZ (by omega) hz) (by rw [ins_len]; exact hl) (by omega)
def sortQ (qs : List Rat) : List Rat := isort (qs.length - 1) qs 1
theorem insertion_is {qs : List Rat} (hz : AZ 10000 qs) (hn : qs.length ≤ 1000) (h0 : 0 < qs.length) : slices_insertionSortCmpFunc_api_Rat__L1_R (qs.map fQ) 0 (qs.length : Int) ((sortQ qs).map fQ) :=
  slices_insertionSortCmpFunc_api_Rat__L1_go fun cb ver => by
    have e : wi ((0 : Int) + 1) = ((1 : Nat) : Int) := by decide
    rw [e]
    exact isort_walk hn (qs.length - 1) 1 qs hz rfl (by omega)
theorem sortQ_len (qs : List Rat) : (sortQ qs).length = qs.length := isort_len ..
theorem sortQ_count {qs : List Rat} (h0 : 0 < qs.length) (x : Rat) : (sortQ qs).count x = qs.count x := isort_count _ _ _ (by omega) x
theorem sortQ_sorted {qs : List Rat} (h0 : 0 < qs.length) : Upto (sortQ qs) qs.length := isort_sorted _ _ _ (by omega) fun p q hpq hq => by omega
theorem sortQ_AZ {c : Nat} {qs : List Rat} (h0 : 0 < qs.length) (hz : AZ c qs) : AZ c (sortQ qs) := isort_AZ (by omega) hz
theorem stable_is {qs : List Rat} (hz : AZ 10000 qs) (hn : qs.length < 20) (h0 : 0 < qs.length) : slices_stableCmpFunc_api_Rat__L1_R (qs.map fQ) (qs.length : Int) ((sortQ qs).map fQ) :=
  slices_stableCmpFunc_api_Rat__L1_go fun cb ver => slices_stableCmpFunc_api_Rat__L1_l0_go (.inr ⟨by omega, _, by rw [List.length_map, List.length_map, sortQ_len], insertion_is hz (by omega) h0, fun rl => slices_stableCmpFunc_api_Rat__L1_l2_go (.inr ⟨by omega, rfl⟩)⟩)
theorem fold_Sorted_is {qs : List Rat} (hz : AZ 10000 qs) (hn : qs.length < 20) (h0 : 0 < qs.length) : fold_Sorted_R (qs.map fQ) ((sortQ qs).map fQ) := by
  have hL : (qs.map fQ).length = qs.length := List.length_map _
  refine fold_Sorted_go (.inr ⟨fun h => by rw [List.map_eq_nil_iff] at h; rw [h] at h0; simp at h0, by omega, _, by rw [List.length_map, List.length_map, sortQ_len], slices_SortStableFunc___api_Rat_api_Rat__L1_go fun cb ver => ⟨_, by rw [List.length_map, List.length_map, sortQ_len], by rw [hL]; exact stable_is hz hn h0, rfl⟩, rfl⟩)
theorem fold_Sorted_nil : fold_Sorted_R [] [] := by
  refine fold_Sorted_go (.inl ⟨rfl, slices_SortStableFunc___api_Rat_api_Rat__v0_go ⟨slices_stableCmpFunc_api_Rat__v0_go (slices_stableCmpFunc_api_Rat__v0_l0_go (.inr ⟨by decide, slices_insertionSortCmpFunc_api_Rat__v0_go (slices_insertionSortCmpFunc_api_Rat__v0_l0_go (.inr ⟨by decide, trivial⟩)), slices_stableCmpFunc_api_Rat__v0_l1_go (.inr ⟨by decide, trivial⟩)⟩)), trivial⟩, rfl⟩)
/-! ### running sums -/
def runQ (qs : List Rat) : List Rat := (List.range qs.length).map fun i => sumQ 0 (qs.take (i + 1))
theorem runQ_len (qs : List Rat) : (runQ qs).length = qs.length := by simp [runQ]
theorem runQ_get {qs : List Rat} {i : Nat} (h : i < qs.length) : (runQ qs).getD i 0 = sumQ 0 (qs.take (i + 1)) := by
  rw [List.getD_eq_getElem?_getD, List.getElem?_eq_getElem (by rw [runQ_len]; exact h)]
  simp [runQ]
theorem sum_take {qs : List Rat} {i : Nat} (h : i < qs.length) : sumQ 0 (qs.take (i + 1)) = sumQ 0 (qs.take i) + qs.getD i 0 := by
  rw [take_getD h, sumQ_snoc]
theorem sum_SZ {qs : List Rat} (hz : AZ 2 qs) (hl : qs.length ≤ 8) (i : Nat) : SZ 100 (sumQ 0 (qs.take i)) := by
  have := SZ.sum (c := 2) (qs := qs.take i) (fun q hq => hz q (List.mem_of_mem_take hq)) SZ0
  refine this.mono ?_
  rw [List.length_take]; omega
theorem running_loop {qs : List Rat} (hz : AZ 2 qs) (hl : qs.length ≤ 8) : ∀ (d i : Nat) (r : List T_api_Rat), i + d = qs.length → r.length = qs.length → r.take i = ((runQ qs).take i).map fQ →
    fold_Running_l0 (qs.map fQ) (qs.length : Int) (i : Int) (ng (sumQ 0 (qs.take i)).num) (ab (sumQ 0 (qs.take i)).num) (lim (sumQ 0 (qs.take i)).den) r ((runQ qs).map fQ)
  | 0, i, r, hi, hr, ht => by
    refine fold_Running_l0_go (.inr ⟨by omega, ?_⟩)
    rw [List.take_of_length_le (by omega), List.take_of_length_le (by rw [runQ_len]; omega)] at ht
    exact ht.symm
  | d + 1, i, r, hi, hr, ht => by
    have hL : (qs.map fQ).length = qs.length := List.length_map _
    have h : i < qs.length := by omega
    refine fold_Running_l0_go (.inl ⟨by omega, by omega, by omega, _, _, _, getD_fQ h _, _, _, _, rat_Add_is ((sum_SZ hz hl i).mono (by omega)) ((hz.get h).mono (by omega)), by omega, _, rfl, ?_⟩)
    rw [w_succ (by omega), ← sum_take h, Int.toNat_natCast]
    refine running_loop hz hl d (i + 1) _ (by omega) (by rw [List.length_set]; exact hr) ?_
    rw [take_getD (qs := runQ qs) (by rw [runQ_len]; exact h), runQ_get h, List.map_append, ← ht]
    have hir : i < r.length := by omega
    rw [List.take_succ_eq_append_getElem (by simpa using hir), List.getElem_set_self, List.take_set_of_le (Nat.le_refl i)]
    rfl
theorem fold_Running_is {qs : List Rat} (hz : AZ 2 qs) (hl : qs.length ≤ 8) : fold_Running_R (qs.map fQ) ((runQ qs).map fQ) := by
  have hL : (qs.map fQ).length = qs.length := List.length_map _
  refine fold_Running_go ⟨_, _, _, rat_Of0, by omega, by omega, _, rfl, ?_⟩
  rw [hL]
  exact running_loop hz hl qs.length 0 _ (by omega) (by simp) (by simp)
/-! ### ends -/
theorem minQ_le : ∀ (qs : List Rat) (x : Rat), minQ x qs ≤ x ∧ ∀ y ∈ qs, minQ x qs ≤ y
  | [], x => ⟨Rat.le_refl, fun y hy => by cases hy⟩
  | a :: qs, x => by
    have e : minQ x (a :: qs) = minQ (if a < x then a else x) qs := rfl
    rw [e]
    by_cases h : a < x
    · rw [if_pos h]
      obtain ⟨h1, h2⟩ := minQ_le qs a
      exact ⟨Rat.le_trans h1 (Rat.le_of_lt h), fun y hy => (List.mem_cons.1 hy).elim (fun h' => h' ▸ h1) (fun hy => h2 y hy)⟩
    · rw [if_neg h]
      obtain ⟨h1, h2⟩ := minQ_le qs x
      exact ⟨h1, fun y hy => (List.mem_cons.1 hy).elim (fun h' => h' ▸ Rat.le_trans h1 (Rat.not_lt.1 h)) (fun hy => h2 y hy)⟩
theorem minQ_mem : ∀ (qs : List Rat) (x : Rat), minQ x qs = x ∨ minQ x qs ∈ qs
  | [], x => .inl rfl
  | a :: qs, x => by
    have e : minQ x (a :: qs) = minQ (if a < x then a else x) qs := rfl
    rw [e]
    by_cases h : a < x
    · rw [if_pos h]
      rcases minQ_mem qs a with h1 | h1
      · exact .inr (by rw [h1]; exact List.mem_cons_self ..)
      · exact .inr (List.mem_cons_of_mem _ h1)
    · rw [if_neg h]
      rcases minQ_mem qs x with h1 | h1
      · exact .inl h1
      · exact .inr (List.mem_cons_of_mem _ h1)
theorem maxQ_le : ∀ (qs : List Rat) (x : Rat), x ≤ maxQ x qs ∧ ∀ y ∈ qs, y ≤ maxQ x qs
  | [], x => ⟨Rat.le_refl, fun y hy => by cases hy⟩
  | a :: qs, x => by
    have e : maxQ x (a :: qs) = maxQ (if x < a then a else x) qs := rfl
    rw [e]
    by_cases h : x < a
    · rw [if_pos h]
      obtain ⟨h1, h2⟩ := maxQ_le qs a
      exact ⟨Rat.le_trans (Rat.le_of_lt h) h1, fun y hy => (List.mem_cons.1 hy).elim (fun h' => h' ▸ h1) (fun hy => h2 y hy)⟩
    · rw [if_neg h]
      obtain ⟨h1, h2⟩ := maxQ_le qs x
      exact ⟨h1, fun y hy => (List.mem_cons.1 hy).elim (fun h' => h' ▸ Rat.le_trans (Rat.not_lt.1 h) h1) (fun hy => h2 y hy)⟩
theorem maxQ_mem : ∀ (qs : List Rat) (x : Rat), maxQ x qs = x ∨ maxQ x qs ∈ qs
  | [], x => .inl rfl
  | a :: qs, x => by
    have e : maxQ x (a :: qs) = maxQ (if x < a then a else x) qs := rfl
    rw [e]
    by_cases h : x < a
    · rw [if_pos h]
      rcases maxQ_mem qs a with h1 | h1
      · exact .inr (by rw [h1]; exact List.mem_cons_self ..)
      · exact .inr (List.mem_cons_of_mem _ h1)
    · rw [if_neg h]
      rcases maxQ_mem qs x with h1 | h1
      · exact .inl h1
      · exact .inr (List.mem_cons_of_mem _ h1)
theorem sortQ_mem {qs : List Rat} (h0 : 0 < qs.length) {x : Rat} : x ∈ sortQ qs ↔ x ∈ qs := by
  rw [← List.count_pos_iff, ← List.count_pos_iff, sortQ_count h0]
theorem head_drop {qs : List Rat} (h0 : 0 < qs.length) : qs = qs.getD 0 0 :: qs.drop 1 := by
  have := drop_getD h0
  rwa [List.drop_zero] at this
theorem mem_idx {l : List Rat} {x : Rat} (h : x ∈ l) : ∃ i, i < l.length ∧ l.getD i 0 = x := by
  obtain ⟨i, hi, he⟩ := List.mem_iff_getElem.1 h
  exact ⟨i, hi, by rw [List.getD_eq_getElem?_getD, List.getElem?_eq_getElem hi]; exact he⟩
theorem idx_mem {l : List Rat} {i : Nat} (h : i < l.length) : l.getD i 0 ∈ l := by
  rw [List.getD_eq_getElem?_getD, List.getElem?_eq_getElem h]; exact List.getElem_mem h
theorem sorted_min {qs : List Rat} (h0 : 0 < qs.length) : minQ (qs.getD 0 0) (qs.drop 1) = (sortQ qs).getD 0 0 := by
  obtain ⟨a1, a2⟩ := minQ_le (qs.drop 1) (qs.getD 0 0)
  have hall : ∀ y ∈ qs, minQ (qs.getD 0 0) (qs.drop 1) ≤ y := fun y hy => by
    rw [head_drop h0] at hy
    rcases List.mem_cons.1 hy with rfl | hy
    · exact a1
    · exact a2 y hy
  have hm : minQ (qs.getD 0 0) (qs.drop 1) ∈ qs := by
    rcases minQ_mem (qs.drop 1) (qs.getD 0 0) with h | h
    · rw [h]; exact idx_mem h0
    · exact List.mem_of_mem_drop h
  refine Rat.le_antisymm (hall _ ((sortQ_mem h0).1 (idx_mem (by rw [sortQ_len]; exact h0)))) ?_
  obtain ⟨i, hi, he⟩ := mem_idx ((sortQ_mem h0).2 hm)
  rw [← he]
  rcases Nat.eq_zero_or_pos i with rfl | hp
  · exact Rat.le_refl
  · exact sortQ_sorted h0 0 i hp (by rw [sortQ_len] at hi; exact hi)
theorem sorted_max {qs : List Rat} (h0 : 0 < qs.length) : maxQ (qs.getD 0 0) (qs.drop 1) = (sortQ qs).getD (qs.length - 1) 0 := by
  obtain ⟨a1, a2⟩ := maxQ_le (qs.drop 1) (qs.getD 0 0)
  have hall : ∀ y ∈ qs, y ≤ maxQ (qs.getD 0 0) (qs.drop 1) := fun y hy => by
    rw [head_drop h0] at hy
    rcases List.mem_cons.1 hy with rfl | hy
    · exact a1
    · exact a2 y hy
  have hm : maxQ (qs.getD 0 0) (qs.drop 1) ∈ qs := by
    rcases maxQ_mem (qs.drop 1) (qs.getD 0 0) with h | h
    · rw [h]; exact idx_mem h0
    · exact List.mem_of_mem_drop h
  refine Rat.le_antisymm ?_ (hall _ ((sortQ_mem h0).1 (idx_mem (by rw [sortQ_len]; omega))))
  obtain ⟨i, hi, he⟩ := mem_idx ((sortQ_mem h0).2 hm)
  rw [← he]
  rw [sortQ_len] at hi
  rcases Nat.lt_or_ge i (qs.length - 1) with hp | hp
  · exact sortQ_sorted h0 i (qs.length - 1) hp (by omega)
  · rw [show i = qs.length - 1 by omega]; exact Rat.le_refl
theorem fold_Bounds_is {qs : List Rat} (hz : AZ 2 qs) (hl : qs.length ≤ 8) (h0 : 0 < qs.length) : fold_Bounds_R (qs.map fQ) (ng ((sortQ qs).getD 0 0).num) (ab ((sortQ qs).getD 0 0).num) (lim ((sortQ qs).getD 0 0).den) (ng ((sortQ qs).getD (qs.length - 1) 0).num) (ab ((sortQ qs).getD (qs.length - 1) 0).num) (lim ((sortQ qs).getD (qs.length - 1) 0).den) 0 := by
  rw [← sorted_min h0, ← sorted_max h0]
  exact fold_Bounds_go ⟨_, _, _, _, fold_Least_is (hz.mono (by omega)) (by omega) h0, .inl ⟨rfl, _, _, _, _, fold_Greatest_is (hz.mono (by omega)) (by omega) h0, rfl, rfl, rfl, rfl, rfl, rfl, rfl⟩⟩
theorem fold_Bounds_nil : fold_Bounds_R [] false [] [] false [] [] 9 :=
  fold_Bounds_go ⟨_, _, _, _, fold_Least_nil, .inr ⟨by decide, rfl, rfl, rfl, rfl, rfl, rfl, rfl⟩⟩
/-! ### the law's loops -/
theorem cnt_succ {l : List Rat} {k : Nat} (h : k < l.length) (x : Rat) : (l.take (k + 1)).count x = (l.take k).count x + if l.getD k 0 = x then 1 else 0 := by
  rw [take_getD h, List.count_append, List.count_singleton]
  by_cases hx : l.getD k 0 = x
  · rw [if_pos hx, if_pos (by simpa using hx)]
  · rw [if_neg hx, if_neg (by simpa using hx)]
theorem cnt_le (l : List Rat) (k : Nat) (x : Rat) : (l.take k).count x ≤ k := Nat.le_trans List.count_le_length (by rw [List.length_take]; omega)
theorem by_eq {P : Int → Prop} {a b : Int} (h : P a) (e : a = b) : P b := e ▸ h
theorem count_loop {qs ss : List Rat} {R : List T_api_Rat} {e : Int} (hz : AZ 2 qs) (hs : AZ 2 ss) (hl : qs.length ≤ 8) (hsl : ss.length = qs.length) {i : Nat} (hi : i < qs.length) (hc : ss.count (qs.getD i 0) = qs.count (qs.getD i 0)) {a0 b0 c0 : Bool} {a1 a2 b1 b2 c1 c2 : List Int}
    (H : law10_FoldSorts_l0 (qs.map fQ) (qs.map fT) (ss.map fQ) R e (wi ((i : Int) + 1)) a0 a1 a2 b0 b1 b2 c0 c1 c2 true) : ∀ (d k : Nat), k + d = qs.length →
    law10_FoldSorts_l1 (qs.map fQ) (qs.map fT) (ss.map fQ) R e (i : Int) (((ss.take k).count (qs.getD i 0) : Int) - ((qs.take k).count (qs.getD i 0) : Int)) (k : Int) a0 a1 a2 b0 b1 b2 c0 c1 c2 true
  | 0, k, hk => by
    have hT : (qs.map fT).length = qs.length := List.length_map _
    refine law10_FoldSorts_l1_go (.inr ⟨by omega, .inl ⟨?_, H⟩⟩)
    rw [List.take_of_length_le (by omega), List.take_of_length_le (by omega), hc]
    omega
  | d + 1, k, hk => by
    have hT : (qs.map fT).length = qs.length := List.length_map _
    have hQ : (qs.map fQ).length = qs.length := List.length_map _
    have hS : (ss.map fQ).length = ss.length := List.length_map _
    have h : k < qs.length := by omega
    have hz5 := hz.mono (show 2 ≤ 100000 by omega)
    have hs5 := hs.mono (show 2 ≤ 100000 by omega)
    have ih := count_loop hz hs hl hsl hi hc H d (k + 1) (by omega)
    rw [cnt_succ (by omega : k < ss.length), cnt_succ h] at ih
    have q1 := cnt_le ss k (qs.getD i 0)
    have q2 := cnt_le qs k (qs.getD i 0)
    refine law10_FoldSorts_l1_go (.inl ⟨by omega, by omega, by omega, _, _, _, getD_fQ (by omega) _, by omega, by omega, _, _, _, getD_fT hi _, _, _, _, ref08_Back_is (hz5.get hi), _, ref08_Same_is (hs5.get (by omega)), ?_⟩)
    rw [w_succ (by omega)]
    by_cases h1 : ss.getD k 0 = qs.getD i 0
    · refine .inl ⟨decide_eq_true h1, by omega, _, _, _, getD_fQ h _, by omega, _, _, _, getD_fQ hi _, _, ref08_Same_is (hz5.get h), ?_⟩
      rw [if_pos h1] at ih
      by_cases h2 : qs.getD k 0 = qs.getD i 0
      · refine .inl ⟨decide_eq_true h2, ?_⟩
        rw [if_pos h2] at ih
        exact by_eq (P := fun n => law10_FoldSorts_l1 (qs.map fQ) (qs.map fT) (ss.map fQ) R e (i : Int) n ((k + 1 : Nat) : Int) a0 a1 a2 b0 b1 b2 c0 c1 c2 true) ih (by (try simp only [wi_eq]); omega)
      · refine .inr ⟨by rw [decide_eq_false h2]; simp, ?_⟩
        rw [if_neg h2] at ih
        exact by_eq (P := fun n => law10_FoldSorts_l1 (qs.map fQ) (qs.map fT) (ss.map fQ) R e (i : Int) n ((k + 1 : Nat) : Int) a0 a1 a2 b0 b1 b2 c0 c1 c2 true) ih (by (try simp only [wi_eq]); omega)
    · refine .inr ⟨by rw [Int.toNat_natCast, decide_eq_false h1]; simp, by omega, _, _, _, getD_fQ h _, by omega, _, _, _, getD_fQ hi _, _, ref08_Same_is (hz5.get h), ?_⟩
      rw [if_neg h1] at ih
      by_cases h2 : qs.getD k 0 = qs.getD i 0
      · refine .inl ⟨decide_eq_true h2, ?_⟩
        rw [if_pos h2] at ih
        exact by_eq (P := fun n => law10_FoldSorts_l1 (qs.map fQ) (qs.map fT) (ss.map fQ) R e (i : Int) n ((k + 1 : Nat) : Int) a0 a1 a2 b0 b1 b2 c0 c1 c2 true) ih (by (try simp only [wi_eq]); omega)
      · refine .inr ⟨by rw [decide_eq_false h2]; simp, ?_⟩
        rw [if_neg h2] at ih
        exact by_eq (P := fun n => law10_FoldSorts_l1 (qs.map fQ) (qs.map fT) (ss.map fQ) R e (i : Int) n ((k + 1 : Nat) : Int) a0 a1 a2 b0 b1 b2 c0 c1 c2 true) ih (by (try simp only [wi_eq]); omega)
theorem sorts_loop {qs : List Rat} (hz : AZ 2 qs) (hl : qs.length ≤ 8) (h0 : 0 < qs.length) : ∀ (d i : Nat), i + d = qs.length →
    law10_FoldSorts_l0 (qs.map fQ) (qs.map fT) ((sortQ qs).map fQ) ((runQ qs).map fQ) 0 (i : Int) (ng ((sortQ qs).getD 0 0).num) (ab ((sortQ qs).getD 0 0).num) (lim ((sortQ qs).getD 0 0).den) (ng ((sortQ qs).getD (qs.length - 1) 0).num) (ab ((sortQ qs).getD (qs.length - 1) 0).num) (lim ((sortQ qs).getD (qs.length - 1) 0).den) (ng (sumQ 0 (qs.take i)).num) (tn (sumQ 0 (qs.take i)).num) (ten (sumQ 0 (qs.take i)).den) true
  | 0, i, hi => by
    have hT : (qs.map fT).length = qs.length := List.length_map _
    have hS : ((sortQ qs).map fQ).length = qs.length := by rw [List.length_map, sortQ_len]
    have hs := sortQ_AZ h0 (hz.mono (show 2 ≤ 100000 by omega))
    have e : wi (((qs.length : Nat) : Int) - 1) = ((qs.length - 1 : Nat) : Int) := by rw [s64i (by omega) (by omega)]; omega
    refine law10_FoldSorts_l0_go (.inr ⟨by omega, .inl ⟨rfl, by omega, _, _, _, getD_fQ (by rw [sortQ_len]; omega) _, _, ref08_Same_refl (hs.get (by rw [sortQ_len]; omega)), .inl ⟨rfl, ?_⟩⟩⟩)
    rw [hS, e]
    exact ⟨by omega, by omega, _, _, _, getD_fQ (by rw [sortQ_len]; omega) _, _, ref08_Same_refl (hs.get (by rw [sortQ_len]; omega)), .inl ⟨rfl, _, fold_works, rfl⟩⟩
  | d + 1, i, hi => by
    have hT : (qs.map fT).length = qs.length := List.length_map _
    have hQ : (qs.map fQ).length = qs.length := List.length_map _
    have hS : ((sortQ qs).map fQ).length = qs.length := by rw [List.length_map, sortQ_len]
    have hR : ((runQ qs).map fQ).length = qs.length := by rw [List.length_map, runQ_len]
    have h : i < qs.length := by omega
    have hs := sortQ_AZ h0 hz
    have hs5 := hs.mono (show 2 ≤ 100000 by omega)
    have hs4 := hs.mono (show 2 ≤ 10000 by omega)
    have ih := sorts_loop hz hl h0 d (i + 1) (by omega)
    have hsum := sum_SZ hz hl (i + 1)
    have add := ref08_Add_is ((sum_SZ hz hl i).mono (show 100 ≤ 10000 by omega)) ((hz.get h).mono (show 2 ≤ 10000 by omega))
    rw [← sum_take h] at add
    have fin := count_loop (R := (runQ qs).map fQ) (e := 0) hz hs hl (sortQ_len qs) h (sortQ_count h0 _) (by rw [w_succ (by omega)]; exact ih) qs.length 0 (by omega)
    refine law10_FoldSorts_l0_go (.inl ⟨by omega, by omega, _, _, _, getD_fT h _, _, _, _, add, by omega, _, _, _, (by rw [Int.toNat_natCast, getD_fQ (by rw [runQ_len]; exact h), runQ_get h]), _, _, _, ref08_Back_is (hsum.mono (by omega)), _, ref08_Same_refl (hsum.mono (by omega)), .inl ⟨rfl, ?_⟩⟩)
    by_cases hp : 0 < i
    · have e : wi ((i : Int) - 1) = ((i - 1 : Nat) : Int) := by rw [s64i (by omega) (by omega)]; omega
      rw [e]
      refine .inl ⟨by omega, by omega, by omega, _, _, _, getD_fQ (by rw [sortQ_len]; omega) _, _, _, _, ref08_Of_is (hs5.get (by rw [sortQ_len]; omega)), by omega, _, _, _, getD_fQ (by rw [sortQ_len]; omega) _, _, _, _, ref08_Of_is (hs5.get (by rw [sortQ_len]; omega)), _, ref08_Cmp_is (hs4.get (by rw [sortQ_len]; omega)) (hs4.get (by rw [sortQ_len]; omega)), .inr ⟨fun k => ?_, fin⟩⟩
      have := sortQ_sorted h0 (i - 1) i (by omega) h
      exact Rat.not_lt.2 this (cmp_pos.1 k)
    · exact .inr ⟨by omega, fin⟩
theorem FoldSorts_true {L : List T_api_Rat} (hw : ∀ p ∈ L, RawQ p) : law10_FoldSorts_R L true := by
  obtain ⟨qs, h1, hz, hl⟩ := few10_is hw
  have hT : (qs.map fT).length = qs.length := List.length_map _
  by_cases h0 : qs.length = 0
  · have := List.length_eq_zero_iff.1 h0
    subst this
    exact law10_FoldSorts_go ⟨_, _, h1, _, fold_Sorted_nil, _, fold_Running_is hz (by omega), _, _, _, _, _, _, _, fold_Bounds_nil, .inl ⟨rfl, .inl ⟨rfl, .inl ⟨rfl, .inl ⟨rfl, _, fold_works, rfl⟩⟩⟩⟩⟩
  · have h : 0 < qs.length := by omega
    have key := sorts_loop hz (by omega) h qs.length 0 (by omega)
    rw [List.take_zero] at key
    exact law10_FoldSorts_go ⟨_, _, h1, _, fold_Sorted_is (hz.mono (by omega)) (by omega) h, _, fold_Running_is hz (by omega), _, _, _, _, _, _, _, fold_Bounds_is hz (by omega) h, .inl ⟨by rw [List.length_map, List.length_map, sortQ_len], .inl ⟨by rw [List.length_map, List.length_map, runQ_len], .inr ⟨by omega, _, _, _, ref_Num00, key⟩⟩⟩⟩
end Go.Proofs.YtmdgdgfhgaeddaaGreatA
