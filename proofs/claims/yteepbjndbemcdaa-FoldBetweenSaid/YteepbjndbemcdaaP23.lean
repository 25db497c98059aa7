/- Means: shares whose row the caller owns. -/
import Derived.Test.YteepbjndbemcdaaP19
set_option linter.unusedVariables false
set_option linter.unusedSimpArgs false
namespace Go.Proofs.YteepbjndbemcdaaA
open Go
theorem fold_Sum_S2_loop {cb : Nat → Blk} {ver : Nat} {qs : List Rat} {c : Nat} (hz : AZ c qs) (hl : qs.length ≤ 1000000) {u : Bool} (d : Nat) : ∀ (i m : Nat) (s : Rat), i + d = qs.length → SZ m s → m + (qs.length - i) * (c + 1) ≤ 900 →
    fold_Sum_S2_l1 cb ver ((qs.map fQ).length : Int) (i : Int) (qs.map fQ) u (ng s.num) (ab s.num) (lim s.den) (ng (sumQ s (qs.drop i)).num) (ab (sumQ s (qs.drop i)).num) (lim (sumQ s (qs.drop i)).den) (qs.map fQ) := by
  have hL : (qs.map fQ).length = qs.length := List.length_map _
  induction d with
  | zero =>
    intro i m s hi hs hm
    rw [List.drop_of_length_le (by omega)]
    exact fold_Sum_S2_l1_go (.inr ⟨by omega, rfl, rfl, rfl, rfl⟩)
  | succ d ih =>
    intro i m s hi hs hm
    have h : i < qs.length := by omega
    obtain ⟨t1, t2, t3, _, t4⟩ := Fits.tail h hz hs hm
    refine fold_Sum_S2_l1_go (.inl ⟨by omega, by omega, by omega, _, _, _, getD_fQ h _, _, _, _, rat_Add_is t1 t2, ?_⟩)
    rw [w_succ (by omega), drop_getD h, sumQ_cons]
    exact ih (i + 1) _ _ (by omega) t3 t4
theorem fold_Sum_S2_is {qs : List Rat} (h : Fits qs) : fold_Sum_S2_R (qs.map fQ) (ng (sumQ 0 qs).num) (ab (sumQ 0 qs).num) (lim (sumQ 0 qs).den) (qs.map fQ) := by
  obtain ⟨c, hz, hc⟩ := h
  have hq : qs.length ≤ qs.length * (c + 1) := Nat.le_mul_of_pos_right _ (by omega)
  have hL : (qs.map fQ).length = qs.length := List.length_map _
  refine fold_Sum_S2_go fun cb ver => ⟨_, _, _, rat_Of0, ?_⟩
  rcases Nat.eq_zero_or_pos qs.length with h0 | h0
  · have := List.length_eq_zero_iff.1 h0
    subst this
    exact fold_Sum_S2_l0_go (.inr ⟨by omega, rfl, rfl, rfl, rfl⟩)
  · obtain ⟨t1, t2, t3, _, t4⟩ := Fits.tail h0 hz SZ0 (by rw [Nat.sub_zero]; omega)
    refine fold_Sum_S2_l0_go (.inl ⟨by omega, by omega, by omega, _, _, _, getD_fQ h0 _, _, _, _, rat_Add_is t1 t2, ?_⟩)
    have := fold_Sum_S2_loop (cb := cb) (ver := ver) hz (by omega) (u := false) (qs.length - 1) 1 _ _ (by omega) t3 t4
    rw [s64i (n := 0 + 1) (by omega) (by omega)]
    rw [show sumQ 0 qs = sumQ (0 + qs.getD 0 0) (qs.drop 1) by rw [← sumQ_cons, ← drop_getD h0]; rfl]
    exact this
theorem fold_Sum_S3_loop {cb : Nat → Blk} {ver : Nat} {qs : List Rat} {c : Nat} (hz : AZ c qs) (hl : qs.length ≤ 1000000) {u : Bool} (d : Nat) : ∀ (i m : Nat) (s : Rat), i + d = qs.length → SZ m s → m + (qs.length - i) * (c + 1) ≤ 900 →
    fold_Sum_S3_l1 cb ver ((qs.map fQ).length : Int) (i : Int) (qs.map fQ) u (ng s.num) (ab s.num) (lim s.den) (ng (sumQ s (qs.drop i)).num) (ab (sumQ s (qs.drop i)).num) (lim (sumQ s (qs.drop i)).den) (qs.map fQ) := by
  have hL : (qs.map fQ).length = qs.length := List.length_map _
  induction d with
  | zero =>
    intro i m s hi hs hm
    rw [List.drop_of_length_le (by omega)]
    exact fold_Sum_S3_l1_go (.inr ⟨by omega, rfl, rfl, rfl, rfl⟩)
  | succ d ih =>
    intro i m s hi hs hm
    have h : i < qs.length := by omega
    obtain ⟨t1, t2, t3, _, t4⟩ := Fits.tail h hz hs hm
    refine fold_Sum_S3_l1_go (.inl ⟨by omega, by omega, by omega, _, _, _, getD_fQ h _, _, _, _, rat_Add_is t1 t2, ?_⟩)
    rw [w_succ (by omega), drop_getD h, sumQ_cons]
    exact ih (i + 1) _ _ (by omega) t3 t4
theorem fold_Sum_S3_is {qs : List Rat} (h : Fits qs) : fold_Sum_S3_R (qs.map fQ) (ng (sumQ 0 qs).num) (ab (sumQ 0 qs).num) (lim (sumQ 0 qs).den) (qs.map fQ) := by
  obtain ⟨c, hz, hc⟩ := h
  have hq : qs.length ≤ qs.length * (c + 1) := Nat.le_mul_of_pos_right _ (by omega)
  have hL : (qs.map fQ).length = qs.length := List.length_map _
  refine fold_Sum_S3_go fun cb ver => ⟨_, _, _, rat_Of0, ?_⟩
  rcases Nat.eq_zero_or_pos qs.length with h0 | h0
  · have := List.length_eq_zero_iff.1 h0
    subst this
    exact fold_Sum_S3_l0_go (.inr ⟨by omega, rfl, rfl, rfl, rfl⟩)
  · obtain ⟨t1, t2, t3, _, t4⟩ := Fits.tail h0 hz SZ0 (by rw [Nat.sub_zero]; omega)
    refine fold_Sum_S3_l0_go (.inl ⟨by omega, by omega, by omega, _, _, _, getD_fQ h0 _, _, _, _, rat_Add_is t1 t2, ?_⟩)
    have := fold_Sum_S3_loop (cb := cb) (ver := ver) hz (by omega) (u := false) (qs.length - 1) 1 _ _ (by omega) t3 t4
    rw [s64i (n := 0 + 1) (by omega) (by omega)]
    rw [show sumQ 0 qs = sumQ (0 + qs.getD 0 0) (qs.drop 1) by rw [← sumQ_cons, ← drop_getD h0]; rfl]
    exact this
theorem fold_SharesK_div {cb : Nat → Blk} {qs : List Rat} {a : Rat} (ha : a ≠ 0) (hz : AZ 2 qs) (hza : SZ 500 a) (hl : qs.length ≤ 100) (d : Nat) : ∀ (i : Nat) (L : List Rat), i + d = qs.length → L.length = qs.length → (∀ j, j < i → L.getD j 0 = qs.getD j 0 / a) → (∀ j, i ≤ j → L.getD j 0 = qs.getD j 0) →
    fold_Shares_K_l4 cb (qs.length : Int) (i : Int) (ng a.num) (ab a.num) (lim a.den) (L.map fQ) ((qs.map (· / a)).map fQ) 0 := by
  induction d with
  | zero =>
    intro i L hi hL h1 h2
    have e : L = qs.map (· / a) := ext0 (by rw [List.length_map, hL]) fun j hj => by
      rw [h1 j (by omega), map_getD (f := (· / a)) (by omega) 0 0]
    rw [e]
    exact fold_Shares_K_l4_go (.inr ⟨by omega, rfl, rfl⟩)
  | succ d ih =>
    intro i L hi hL h1 h2
    have h : i < L.length := by omega
    have hml : (L.map fQ).length = L.length := List.length_map _
    have hq := (hz.get (i := i) (by omega)).mono (show 2 ≤ 10000 by omega)
    have hdv := rat_Div_is ha hq (hza.mono (by omega))
    refine fold_Shares_K_l4_go (.inl ⟨by omega, by omega, by omega, _, _, _, getD_fQ h _, ?_⟩)
    rw [h2 i (Nat.le_refl _)]
    refine ⟨_, _, _, _, hdv, .inl ⟨rfl, (L.set i (qs.getD i 0 / a)).map fQ, by rw [List.map_set, Int.toNat_natCast]; rfl, ?_⟩⟩
    rw [w_succ (by omega)]
    refine ih (i + 1) _ (by omega) (by rw [List.length_set, hL]) (fun j hj => ?_) (fun j hj => ?_)
    · by_cases hji : i = j
      · subst hji; rw [q_set_eq h]
      · rw [q_set_ne hji, h1 j (by omega)]
    · rw [q_set_ne (by omega), h2 j (by omega)]
theorem fold_SharesK_loop {cb : Nat → Blk} {w : List Int} (hw : W64 w) (hl : w.length ≤ 100) (d : Nat) : ∀ i : Nat, i + d = w.length → 0 < i → (∀ j, j < i → ¬ w.getD j 0 < 0) →
    ∃ qs e, Shr w qs e ∧ fold_Shares_K_l1 cb w (w.length : Int) (i : Int) ((cast (w.take i)).map fQ) (qs.map fQ) e := by
  induction d with
  | zero =>
    intro i hi h0 hn
    have hne : w ≠ [] := fun h => by subst h; simp at hi; omega
    have hnn := take_nn hn (by omega)
    rw [List.take_of_length_le (by omega)]
    have hs := fold_Sum_S2_is (cast_fits hw hl)
    have hL : ((cast w).map fQ).length = (cast w).length := List.length_map _
    have hza := SZ.sum (cast_AZ hw) SZ0
    rw [cast_len] at hza
    by_cases ha : sumQ 0 (cast w) = 0
    · refine ⟨[], 3, .inr (.inr (.inl ⟨hne, hnn, ha, rfl, rfl⟩)), fold_Shares_K_l1_go (.inr ⟨by omega, _, _, _, _, rfl, hs, ?_⟩)⟩
      rw [ha]
      exact fold_Shares_K_l3_go (.inl ⟨by rw [hL, cast_len]; omega, by omega, by rw [hL, cast_len]; omega, _, _, _, getD_fQ (by rw [cast_len]; show 0 < w.length; omega) _, _, _, _, _, rat_Div_zero, .inr ⟨by omega, rfl, rfl⟩⟩)
    · refine ⟨_, 0, .inr (.inr (.inr ⟨hne, hnn, ha, rfl, rfl⟩)), fold_Shares_K_l1_go (.inr ⟨by omega, _, _, _, _, rfl, hs, ?_⟩)⟩
      rw [hL]
      have hp : 0 < (cast w).length := by rw [cast_len]; omega
      have hq := ((cast_AZ hw).get hp).mono (show 2 ≤ 10000 by omega)
      refine fold_Shares_K_l3_go (.inl ⟨by omega, by omega, by omega, _, _, _, getD_fQ hp _, _, _, _, _, rat_Div_is ha hq (hza.mono (by omega)), .inl ⟨rfl, ((cast w).set 0 ((cast w).getD 0 0 / sumQ 0 (cast w))).map fQ, by rw [List.map_set]; rfl, ?_⟩⟩)
      rw [s64i (n := 0 + 1) (by omega) (by omega)]
      have hl' : (cast w).length ≤ 100 := by rw [cast_len]; exact hl
      refine fold_SharesK_div ha (cast_AZ hw) (hza.mono (by omega)) hl' ((cast w).length - 1) 1 _ (by omega) (by rw [List.length_set]) (fun j hj => ?_) (fun j hj => ?_)
      · obtain rfl : j = 0 := by omega
        rw [q_set_eq hp]
      · rw [q_set_ne (by omega)]
  | succ d ih =>
    intro i hi h0 hn
    have h : i < w.length := by omega
    have hr := hw _ (int_mem h)
    have hL : ((cast (w.take i)).map fQ).length = i := by rw [List.length_map, cast_len, List.length_take]; omega
    by_cases hneg : w.getD i 0 < 0
    · refine ⟨[], 2, .inr (.inl ⟨fun h => (by subst h; simp at hi), ⟨_, int_mem h, hneg⟩, rfl, rfl⟩), fold_Shares_K_l1_go (.inl ⟨by omega, by omega, by omega, .inl ⟨hneg, rfl, rfl⟩⟩)⟩
    · obtain ⟨qs, e, h1, h2⟩ := ih (i + 1) (by omega) (by omega) (fun j hj => by
        by_cases hji : j = i
        · subst hji; exact hneg
        · exact hn j (by omega))
      refine ⟨qs, e, h1, fold_Shares_K_l1_go (.inl ⟨by omega, by omega, by omega, .inr ⟨hneg, _, _, _, rat_Of_is hr.1 hr.2, by omega, (cast (w.take (i + 1))).map fQ, by rw [cast_snoc h, List.map_append]; rfl, ?_⟩⟩)⟩
      rw [w_succ (by omega)]
      exact h2
theorem fold_SharesK_is {w : List Int} (hw : W64 w) (hl : w.length ≤ 100) {qs : List Rat} {e : Int} (hS : Shr w qs e) : fold_Shares_K_R w (qs.map fQ) e := by
  refine fold_Shares_K_go fun cb => ?_
  by_cases h0 : w = []
  · subst h0
    obtain ⟨rfl, rfl⟩ := hS.unique (.inl ⟨rfl, rfl, rfl⟩)
    exact .inl ⟨rfl, rfl, rfl⟩
  · have h : 0 < w.length := List.length_pos_iff.2 h0
    have hr := hw _ (int_mem h)
    refine .inr ⟨by omega, ?_⟩
    by_cases hneg : w.getD 0 0 < 0
    · obtain ⟨rfl, rfl⟩ := hS.unique (.inr (.inl ⟨h0, ⟨_, int_mem h, hneg⟩, rfl, rfl⟩))
      exact fold_Shares_K_l0_go (.inl ⟨by omega, by omega, by omega, .inl ⟨hneg, rfl, rfl⟩⟩)
    · obtain ⟨ps, g, h1, h2⟩ := fold_SharesK_loop (cb := cb) hw hl (w.length - 1) 1 (by omega) (by omega) (fun j hj => by rw [show j = 0 by omega]; exact hneg)
      obtain ⟨rfl, rfl⟩ := hS.unique h1
      refine fold_Shares_K_l0_go (.inl ⟨by omega, by omega, by omega, .inr ⟨hneg, _, _, _, rat_Of_is hr.1 hr.2, by omega, (cast (w.take 1)).map fQ, by rw [show (1 : Nat) = 0 + 1 from rfl, cast_snoc h]; rfl, ?_⟩⟩)
      rw [s64i (n := 0 + 1) (by omega) (by omega)]
      exact h2
/-! ### means -/
theorem zipq_get {ps qs : List Rat} {i : Nat} (h1 : i < ps.length) (h2 : i < qs.length) : (List.zipWith (· * ·) ps qs).getD i 0 = ps.getD i 0 * qs.getD i 0 := by
  rw [List.getD_eq_getElem?_getD, List.getD_eq_getElem?_getD, List.getD_eq_getElem?_getD, List.getElem?_zipWith, List.getElem?_eq_getElem h1, List.getElem?_eq_getElem h2]; rfl
theorem fold_Mean_loop {ps qs : List Rat} (hp : AZ 27 ps) (hq : AZ 2 qs) (hl : ps.length = qs.length) (hn : qs.length ≤ 8) {u : Bool} (d : Nat) : ∀ (i : Nat) (L : List Rat), i + d = qs.length → L.length = qs.length → (∀ j, j < i → L.getD j 0 = ps.getD j 0 * qs.getD j 0) → (∀ j, i ≤ j → L.getD j 0 = ps.getD j 0) →
    fold_Mean_l0 0 (qs.map fQ) ((qs.map fQ).length : Int) (i : Int) u (L.map fQ) (ng (sumQ 0 (List.zipWith (· * ·) ps qs)).num) (ab (sumQ 0 (List.zipWith (· * ·) ps qs)).num) (lim (sumQ 0 (List.zipWith (· * ·) ps qs)).den) 0 := by
  have hQ : (qs.map fQ).length = qs.length := List.length_map _
  induction d with
  | zero =>
    intro i L hi hL h1 h2
    have e : L = List.zipWith (· * ·) ps qs := ext0 (by rw [List.length_zipWith, hL]; omega) fun j hj => by
      rw [h1 j (by omega), zipq_get (by omega) (by omega)]
    have hz : AZ 29 (List.zipWith (· * ·) ps qs) := fun q hq' => by
      obtain ⟨j, hj, rfl⟩ := List.getElem_of_mem hq'
      rw [List.length_zipWith] at hj
      rw [List.getElem_zipWith]
      exact ((hp _ (List.getElem_mem _)).mul2 (hq _ (List.getElem_mem _))).mono (by omega)
    have hf : Fits (List.zipWith (· * ·) ps qs) := ⟨29, hz, by rw [List.length_zipWith]; omega⟩
    rw [e]
    exact fold_Mean_l0_go (.inr ⟨by omega, _, _, _, _, rfl, fold_Sum_S3_is hf, rfl, rfl, rfl, rfl⟩)
  | succ d ih =>
    intro i L hi hL h1 h2
    have h : i < qs.length := by omega
    have hml : (L.map fQ).length = L.length := List.length_map _
    have g2 := getD_fQ (qs := L) (i := i) (by omega) (false, [], [])
    rw [h2 i (Nat.le_refl _)] at g2
    refine fold_Mean_l0_go (.inl ⟨by omega, by omega, by omega, _, _, _, getD_fQ h _, by omega, _, _, _, by rw [Int.toNat_natCast]; exact g2, _, _, _, rat_Mul_is ((hp.get (i := i) (by omega)).mono (by omega)) ((hq.get h).mono (by omega)), (L.set i (ps.getD i 0 * qs.getD i 0)).map fQ, by rw [List.map_set, Int.toNat_natCast]; rfl, ?_⟩)
    rw [w_succ (by omega)]
    refine ih (i + 1) _ (by omega) (by rw [List.length_set, hL]) (fun j hj => ?_) (fun j hj => ?_)
    · by_cases hji : i = j
      · subst hji; rw [q_set_eq (by omega)]
      · rw [q_set_ne hji, h1 j (by omega)]
    · rw [q_set_ne (by omega), h2 j (by omega)]
/-- The shares' sizes. -/
theorem shr_AZ {w : List Int} (hw : W64 w) (hl : w.length ≤ 8) {ps : List Rat} (hS : Shr w ps 0) : AZ 27 ps ∧ ps.length = w.length := by
  rcases hS with ⟨_, _, h⟩ | ⟨_, _, _, h⟩ | ⟨_, _, _, _, h⟩ | ⟨_, _, ha, rfl, _⟩
  · omega
  · omega
  · omega
  · have hza := SZ.sum (cast_AZ hw) SZ0
    rw [cast_len] at hza
    refine ⟨fun q hq => ?_, by rw [List.length_map, cast_len]⟩
    obtain ⟨x, hx, rfl⟩ := List.mem_map.1 hq
    exact (SZ.div2 ha (cast_AZ hw x hx) hza).mono (by omega)
theorem Shr.nz {w : List Int} {ps : List Rat} {e : Int} (hS : Shr w ps e) (he : e ≠ 0) : ps = [] := by
  rcases hS with ⟨_, h, _⟩ | ⟨_, _, h, _⟩ | ⟨_, _, _, h, _⟩ | ⟨_, _, _, _, h⟩
  · exact h
  · exact h
  · exact h
  · exact absurd h he
theorem fold_Mean_err {w : List Int} {qs : List Rat} (hw : W64 w) (hl : w.length ≤ 8) (h : w.length = 0 ∨ w.length = qs.length) {ps : List Rat} {e : Int} (hS : Shr w ps e) (he : e ≠ 0) : fold_Mean_R w (qs.map fQ) false [] [] e := by
  have hk := fold_SharesK_is hw (by omega) hS
  have hQ : (qs.map fQ).length = qs.length := List.length_map _
  have hp := hS.nz he
  subst hp
  by_cases h0 : 0 < w.length
  · exact fold_Mean_go (.inl ⟨by omega, .inl ⟨by omega, _, _, hk, .inl ⟨he, rfl, rfl, rfl, rfl, rfl⟩⟩⟩)
  · exact fold_Mean_go (.inr ⟨by omega, _, _, hk, .inl ⟨he, rfl, rfl, rfl, rfl, rfl⟩⟩)
theorem fold_Mean_arg {w : List Int} {qs : List Rat} (h0 : 0 < w.length) (h : w.length ≠ qs.length) : fold_Mean_R w (qs.map fQ) false [] [] 2 := by
  have hQ : (qs.map fQ).length = qs.length := List.length_map _
  exact fold_Mean_go (.inl ⟨by omega, .inr ⟨by omega, rfl, rfl, rfl, rfl⟩⟩)
theorem fold_Mean_is {w : List Int} {qs : List Rat} (hw : W64 w) (hq : AZ 2 qs) (hl : w.length ≤ 8) (h : w.length = qs.length) {ps : List Rat} (hS : Shr w ps 0) : fold_Mean_R w (qs.map fQ) (ng (sumQ 0 (List.zipWith (· * ·) ps qs)).num) (ab (sumQ 0 (List.zipWith (· * ·) ps qs)).num) (lim (sumQ 0 (List.zipWith (· * ·) ps qs)).den) 0 := by
  have hk := fold_SharesK_is hw (by omega) hS
  have hQ : (qs.map fQ).length = qs.length := List.length_map _
  have hP : (ps.map fQ).length = ps.length := List.length_map _
  obtain ⟨hz, hpl⟩ := shr_AZ hw hl hS
  have h0 : 0 < w.length := by
    rcases hS with ⟨_, _, h⟩ | ⟨_, _, _, h⟩ | ⟨_, _, _, _, h⟩ | ⟨h, _⟩
    · omega
    · omega
    · omega
    · exact List.length_pos_iff.2 h
  have hm := fold_Mean_loop hz hq (by omega) (by omega) (u := false) qs.length 0 ps (by omega) (by omega) (fun j hj => by omega) (fun j _ => rfl)
  refine fold_Mean_go (.inl ⟨by omega, .inl ⟨by omega, _, _, hk, .inr ⟨rfl, by omega, by omega, ?_⟩⟩⟩)
  rw [hP, Int.toNat_natCast, List.take_of_length_le (by omega)]
  exact hm
end Go.Proofs.YteepbjndbemcdaaA
