/- The law of made fractions: its function answers true, whatever the input. -/
import Derived.Test.YtcmajlphfnihgaaP17
import Derived.Test.YtcmajlphfnihgaaWlaw08RatMakes
set_option linter.unusedVariables false
set_option linter.unusedSimpArgs false
namespace Go.Proofs.YtcmajlphfnihgaaA
open Go
def MayL (l : List Int) : Prop := (∀ j, l.getD j 0 < 4294967296) ∧ (l.length = 0 ∨ l.getD (l.length - 1) 0 ≠ 0)
theorem may_end {l : List Int} {v : Bool} (hv : v = true ↔ MayL l) (hall : ∀ j, j < l.length → l.getD j 0 < 4294967296) : (l.length = 0 → v = true) ∧ (l.length ≠ 0 → v = !(decide (l.getD (l.length - 1) 0 = 0))) := by
  have h1 : ∀ j, l.getD j 0 < 4294967296 := fun j => by
    rcases Nat.lt_or_ge j l.length with h | h
    · exact hall j h
    · rw [getD_ge h]; omega
  refine ⟨fun h => hv.2 ⟨h1, .inl h⟩, fun h => ?_⟩
  by_cases h0 : l.getD (l.length - 1) 0 = 0
  · rw [decide_eq_true h0]
    cases v with
    | false => rfl
    | true => rcases (hv.1 rfl).2 with g | g
              · exact absurd g h
              · exact absurd h0 g
  · rw [decide_eq_false h0]; exact hv.2 ⟨h1, .inr h0⟩
theorem nat_May_any {l : List Int} (hs : l.length ≤ 1000000000000) {v : Bool} (hv : v = true ↔ MayL l) : nat_May_R l v := by
  have loop : ∀ d i : Nat, i + d = l.length → (∀ j, j < i → l.getD j 0 < 4294967296) → nat_May_l0 l l (l.length : Int) (i : Int) v := by
    intro d
    induction d with
    | zero =>
      intro i hi hall
      obtain ⟨e1, e2⟩ := may_end hv (fun j hj => hall j (by omega))
      refine nat_May_l0_go (.inr ⟨by omega, ?_⟩)
      by_cases h : l.length = 0
      · exact .inl ⟨by omega, e1 h⟩
      · have hw : wi ((l.length : Int) - 1) = ((l.length - 1 : Nat) : Int) := by rw [s64i (by omega) (by omega)]; omega
        refine .inr ⟨by omega, ?_⟩
        rw [hw, Int.toNat_natCast]
        exact ⟨by omega, by omega, e2 h⟩
    | succ d ih =>
      intro i hi hall
      have hi1 : i + 1 < 9223372036854775808 := by omega
      refine nat_May_l0_go (.inl ⟨by omega, by omega, by omega, ?_⟩)
      rw [Int.toNat_natCast, w_succ hi1]
      by_cases h : 4294967296 ≤ l.getD i 0
      · refine .inl ⟨h, ?_⟩
        cases v with
        | false => rfl
        | true => have := (hv.1 rfl).1 i; omega
      · exact .inr ⟨h, ih (i + 1) (by omega) (fun j hj => by rcases Nat.lt_or_eq_of_le (Nat.le_of_lt_succ hj) with g | g
                                                             · exact hall j g
                                                             · subst g; omega)⟩
  exact nat_May_go (loop l.length 0 (by omega) (fun j hj => by omega))
theorem ref_May_any {l : List Int} (hs : l.length ≤ 1000000000000) {v : Bool} (hv : v = true ↔ MayL l) : ref02_May_R l v := by
  have loop : ∀ d i : Nat, i + d = l.length → (∀ j, j < i → l.getD j 0 < 4294967296) → ref02_May_l0 l (i : Int) v := by
    intro d
    induction d with
    | zero =>
      intro i hi hall
      obtain ⟨e1, e2⟩ := may_end hv (fun j hj => hall j (by omega))
      refine ref02_May_l0_go (.inr ⟨by omega, ?_⟩)
      by_cases h : l.length = 0
      · exact .inl ⟨by omega, e1 h⟩
      · have hw : wi ((l.length : Int) - 1) = ((l.length - 1 : Nat) : Int) := by rw [s64i (by omega) (by omega)]; omega
        refine .inr ⟨by omega, ?_⟩
        rw [hw, Int.toNat_natCast]
        exact ⟨by omega, by omega, e2 h⟩
    | succ d ih =>
      intro i hi hall
      have hi1 : i + 1 < 9223372036854775808 := by omega
      refine ref02_May_l0_go (.inl ⟨by omega, by omega, ?_⟩)
      rw [Int.toNat_natCast, w_succ hi1]
      by_cases h : 4294967296 ≤ l.getD i 0
      · refine .inl ⟨h, ?_⟩
        cases v with
        | false => rfl
        | true => have := (hv.1 rfl).1 i; omega
      · exact .inr ⟨h, ih (i + 1) (by omega) (fun j hj => by rcases Nat.lt_or_eq_of_le (Nat.le_of_lt_succ hj) with g | g
                                                             · exact hall j g
                                                             · subst g; omega)⟩
  exact ref02_May_go (loop l.length 0 (by omega) (fun j hj => by omega))
theorem may_lim {l : List Int} (hw : ∀ x ∈ l, 0 ≤ x) (h : MayL l) : ∃ x : Nat, l = lim x := by
  have hd : Dig 4294967296 l := fun x hx => by
    obtain ⟨i, hi, rfl⟩ := List.getElem_of_mem hx
    have := h.1 i
    rw [List.getD_eq_getElem?_getD, List.getElem?_eq_getElem hi] at this
    exact ⟨hw _ hx, this⟩
  have hn : Norm l := (norm_iff l).2 (h.2.imp (fun g => List.length_eq_zero_iff.1 g) id)
  exact ⟨(val 4294967296 l).toNat, eq_lim hd hn (toNat_val (by omega) hd).symm⟩
theorem lim_may (x : Nat) : MayL (lim x) := by
  refine ⟨fun j => (Dig.getD (by omega) (lim_dig x) j).2, ?_⟩
  rcases (norm_iff (lim x)).1 (lim_norm x) with h | h
  · exact .inl (by rw [h]; rfl)
  · exact .inr h
/-- Which parts may be a fraction: the program and the document say the same. -/
theorem may_both (b : Bool) {l m : List Int} (hl : ∀ x ∈ l, 0 ≤ x) (hm : ∀ x ∈ m, 0 ≤ x) (hls : l.length ≤ 4) (hms : m.length ≤ 4) : ∃ v, rat_May_R b l m v ∧ ref08_May_R b l m v := by
  by_cases h1 : MayL l
  · by_cases h2 : MayL m
    · obtain ⟨x, rfl⟩ := may_lim hl h1
      obtain ⟨y, rfl⟩ := may_lim hm h2
      have a1 := nat_May_any (v := true) (by omega) ⟨fun _ => h1, fun _ => rfl⟩
      have a2 := nat_May_any (v := true) (by omega) ⟨fun _ => h2, fun _ => rfl⟩
      have b1 := ref_May_any (v := true) (by omega) ⟨fun _ => h1, fun _ => rfl⟩
      have b2 := ref_May_any (v := true) (by omega) ⟨fun _ => h2, fun _ => rfl⟩
      have py := lim_pos (n := y)
      have px := lim_pos (n := x)
      by_cases hy : y = 0
      · exact ⟨false, rat_May_go ⟨_, a1, .inl ⟨rfl, _, a2, .inl ⟨rfl, .inl ⟨by omega, rfl⟩⟩⟩⟩, ref08_May_go ⟨_, b1, .inl ⟨rfl, _, b2, .inl ⟨rfl, .inl ⟨by omega, rfl⟩⟩⟩⟩⟩
      · by_cases hx : b = true ∧ x = 0
        · obtain ⟨rfl, hx⟩ := hx
          exact ⟨false, rat_May_go ⟨_, a1, .inl ⟨rfl, _, a2, .inl ⟨rfl, .inr ⟨by omega, .inl ⟨rfl, .inl ⟨by omega, rfl⟩⟩⟩⟩⟩⟩, ref08_May_go ⟨_, b1, .inl ⟨rfl, _, b2, .inl ⟨rfl, .inr ⟨by omega, .inl ⟨rfl, .inl ⟨by omega, rfl⟩⟩⟩⟩⟩⟩⟩
        · have hb : b = ng (sg b x) := by
            cases b with
            | false => exact (ng_pos (by simp [sg])).symm
            | true => exact (ng_neg (by simp [sg] at hx ⊢; omega)).symm
          have hab : lim x = ab (sg b x) := by cases b <;> simp [ab, sg]
          have hz : zl 4 (sg b x) := by unfold zl; rw [← hab]; exact hls
          have hq := SZ.normalize hy hz hms
          have c1 := gcd_Coprime_is (x := x) (y := y) (by omega) (by omega)
          have h2 := tenl (n := 0) (x := y) (by omega)
          have c2 := ref07_Of_is (hz.mono (show 4 ≤ 10000 by omega))
          have c3 := ref_Of_is (x := y) (by omega) (by omega)
          have c4 := ref08_Low_is hy (hz.mono (show 4 ≤ 10000 by omega)) (by omega)
          have c5 := ref08_Back_is (hq.mono (show 4 ≤ 10000 by omega))
          have c6 := ref08_Same_parts (x := (Rat.normalize (sg b x) y hy).num) (y := sg b x) (d := (Rat.normalize (sg b x) y hy).den) (e := y) (hq.1.mono (by omega)) (Nat.le_trans hq.2 (by omega))
          have e : decide ((Rat.normalize (sg b x) y hy).num = sg b x ∧ (Rat.normalize (sg b x) y hy).den = y) = decide (Nat.gcd x y = 1) := by
            have hn : (sg b x).natAbs = x := by cases b <;> simp [sg]
            refine decide_eq_decide.2 ⟨fun g => ?_, fun g => ?_⟩
            · have h3 := g.2
              rw [Rat.den_normalize, hn] at h3
              have hg := Nat.gcd_pos_of_pos_right x (show 0 < y by omega)
              rcases Nat.lt_or_ge 1 (Nat.gcd x y) with h4 | h4
              · have := Nat.div_lt_self (show 0 < y by omega) h4
                omega
              · omega
            · rw [norm_num, Rat.den_normalize, hn, g, Nat.div_one, Nat.div_one, ← hb]
              exact ⟨rfl, rfl⟩
          rw [e] at c6
          rw [← hb, ← hab] at c2
          rw [← hb, ← hab] at c6
          rw [← hb] at c4
          refine ⟨decide (Nat.gcd x y = 1), rat_May_go ⟨_, a1, .inl ⟨rfl, _, a2, .inl ⟨rfl, .inr ⟨by omega, ?_⟩⟩⟩⟩, ref08_May_go ⟨_, b1, .inl ⟨rfl, _, b2, .inl ⟨rfl, .inr ⟨by omega, ?_⟩⟩⟩⟩⟩
          · by_cases hbt : b = true
            · exact .inl ⟨hbt, .inr ⟨fun h => hx ⟨hbt, by omega⟩, _, c1, rfl⟩⟩
            · exact .inr ⟨hbt, _, c1, rfl⟩
          · by_cases hbt : b = true
            · exact .inl ⟨hbt, .inr ⟨fun h => hx ⟨hbt, by omega⟩, _, _, c2, _, c3, _, _, _, c4, _, _, _, c5, _, c6, rfl⟩⟩
            · exact .inr ⟨hbt, _, _, c2, _, c3, _, _, _, c4, _, _, _, c5, _, c6, rfl⟩
    · have a1 := nat_May_any (v := true) (by omega) ⟨fun _ => h1, fun _ => rfl⟩
      have a2 := nat_May_any (l := m) (v := false) (by omega) ⟨nofun, fun h => absurd h h2⟩
      have b1 := ref_May_any (v := true) (by omega) ⟨fun _ => h1, fun _ => rfl⟩
      have b2 := ref_May_any (l := m) (v := false) (by omega) ⟨nofun, fun h => absurd h h2⟩
      exact ⟨false, rat_May_go ⟨_, a1, .inl ⟨rfl, _, a2, .inr ⟨by simp, rfl⟩⟩⟩, ref08_May_go ⟨_, b1, .inl ⟨rfl, _, b2, .inr ⟨by simp, rfl⟩⟩⟩⟩
  · have a1 := nat_May_any (l := l) (v := false) (by omega) ⟨nofun, fun h => absurd h h1⟩
    have b1 := ref_May_any (l := l) (v := false) (by omega) ⟨nofun, fun h => absurd h h1⟩
    exact ⟨false, rat_May_go ⟨_, a1, .inr ⟨by simp, rfl⟩⟩, ref08_May_go ⟨_, b1, .inr ⟨by simp, rfl⟩⟩⟩
theorem RatMakes_true {a0 a2 a4 : Bool} {a1 a3 a5 a6 : List Int} (h1 : ∀ x ∈ a1, 0 ≤ x) (h3 : ∀ x ∈ a3, 0 ≤ x) (h5 : ∀ x ∈ a5, 0 ≤ x) (h6 : ∀ x ∈ a6, 0 ≤ x) (s1 : a1.length ≤ 9223372036854775807) (s3 : a3.length ≤ 9223372036854775807) (s5 : a5.length ≤ 9223372036854775807) (s6 : a6.length ≤ 9223372036854775807) :
    law08_RatMakes_R a0 a1 a2 a3 a4 a5 a6 true := by
  obtain ⟨x, hx, hxl⟩ := ref07_Clean_is (b := a0) h1 (n := 4) (by omega) s1
  obtain ⟨y, hy, hyl⟩ := ref07_Clean_is (b := a2) h3 (n := 4) (by omega) s3
  have hxl' := hxl.mono (show 4 ≤ 10000 by omega)
  have hyl' := hyl.mono (show 4 ≤ 10000 by omega)
  by_cases h0 : y = 0
  · subst h0
    refine law08_RatMakes_go ⟨_, _, hx, _, _, hy, _, _, _, _, rat_Make_zero, .inl ⟨ab_zero.2 rfl, .inl ⟨rfl, .inl ⟨?_, _, rat_works, rfl⟩⟩⟩⟩
    simp [s64i]
  · have hq := SZ.divInt h0 hxl hyl
    have hq' := hq.mono (show 4 ≤ 10000 by omega)
    have t1 : (a5.take (mn (a5.length : Int) 4).toNat).length ≤ 4 := by rw [List.length_take]; unfold mn; split <;> omega
    have t2 : (a6.take (mn (a6.length : Int) 4).toNat).length ≤ 4 := by rw [List.length_take]; unfold mn; split <;> omega
    obtain ⟨v, v1, v2⟩ := may_both a4 (l := a5.take (mn (a5.length : Int) 4).toNat) (m := a6.take (mn (a6.length : Int) 4).toNat) (fun x hx => h5 x (List.mem_of_mem_take hx)) (fun x hx => h6 x (List.mem_of_mem_take hx)) t1 t2
    have m1 : 0 ≤ mn (a5.length : Int) 4 := by unfold mn; split <;> omega
    have m2 : mn (a5.length : Int) 4 ≤ (a5.length : Int) := by unfold mn; split <;> omega
    have m3 : 0 ≤ mn (a6.length : Int) 4 := by unfold mn; split <;> omega
    have m4 : mn (a6.length : Int) 4 ≤ (a6.length : Int) := by unfold mn; split <;> omega
    have hN := divInt_norm x y (by omega)
    have hs := ref08_Same_refl hq'
    have hmay := rat_May_is (hq.mono (show 4 ≤ 1000 by omega))
    refine law08_RatMakes_go ⟨_, _, hx, _, _, hy, _, _, _, _, rat_Make_is h0 hxl' hyl', .inr ⟨fun h => h0 (ab_zero.1 h), _, _, ref07_Of_is hxl', ?_⟩⟩
    by_cases hn : y < 0
    · rw [if_pos hn] at hN
      refine .inl ⟨ng_neg hn, _, _, ref07_Neg_is x, _, _, ref07_Of_is hyl', _, _, _, ref08_Low_is (n := -x) (d := y.natAbs) (by omega) hxl'.neg hyl', ?_⟩
      rw [← hN]
      refine ⟨_, _, _, ref08_Back_is hq', m1, m2, m3, m4, .inl ⟨rfl, _, hs, .inl ⟨rfl, _, hmay, .inl ⟨rfl, _, v1, _, v2, ?_⟩⟩⟩⟩
      cases v with
      | true => exact .inl ⟨rfl, .inl ⟨rfl, _, rat_works, rfl⟩⟩
      | false => exact .inr ⟨by simp, .inr ⟨by simp, _, rat_works, rfl⟩⟩
    · rw [if_neg hn] at hN
      refine .inr ⟨ng_ne hn, _, _, ref07_Of_is hyl', _, _, _, ref08_Low_is (n := x) (d := y.natAbs) (by omega) hxl' hyl', ?_⟩
      rw [← hN]
      refine ⟨_, _, _, ref08_Back_is hq', m1, m2, m3, m4, .inl ⟨rfl, _, hs, .inl ⟨rfl, _, hmay, .inl ⟨rfl, _, v1, _, v2, ?_⟩⟩⟩⟩
      cases v with
      | true => exact .inl ⟨rfl, .inl ⟨rfl, _, rat_works, rfl⟩⟩
      | false => exact .inr ⟨by simp, .inr ⟨by simp, _, rat_works, rfl⟩⟩
end Go.Proofs.YtcmajlphfnihgaaA
