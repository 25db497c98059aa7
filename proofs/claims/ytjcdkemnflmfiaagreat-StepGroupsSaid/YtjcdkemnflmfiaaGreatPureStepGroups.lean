/- The law of groups: its function answers true, whatever the input. -/
import Derived.Test.YtjcdkemnflmfiaaGreatP31
import Derived.Test.YtjcdkemnflmfiaaGreatP19
import Derived.Test.YtjcdkemnflmfiaaGreatW11
import Derived.Test.YtjcdkemnflmfiaaGreatWcon
import Derived.Test.YtjcdkemnflmfiaaGreatWlaw30StepGroups
set_option linter.unusedVariables false
set_option linter.unusedSimpArgs false
set_option maxRecDepth 100000
namespace Go.Proofs.YtjcdkemnflmfiaaGreatA
open Go Go.Proofs
def bad (p : ByteArray → Bool) (h : Hop) : Bool := p h.1 && decide (h.2 < 1)
section
variable {L : List ByteArray} {n : Nat}
abbrev lvp (L : List ByteArray) (n : Nat) : ByteArray → Bool := fun s => livesB L s n
abbrev lvs (L : List ByteArray) (n : Nat) (g : List Hop) : List Hop := g.filter fun h => livesB L h.1 n
theorem bad_t {h : Hop} (hb : livesB L h.1 n = true) (hw : h.2 < 1) : bad (lvp L n) h = true := by
 show (livesB L h.1 n && decide (h.2 < 1)) = true
 rw [hb, decide_eq_true hw]; rfl
theorem bad_w {h : Hop} (hw : ¬ h.2 < 1) : bad (lvp L n) h = false := by
 show (livesB L h.1 n && decide (h.2 < 1)) = false
 rw [decide_eq_false hw, Bool.and_false]
theorem bad_l {h : Hop} (hb : livesB L h.1 n = false) : bad (lvp L n) h = false := by
 show (livesB L h.1 n && decide (h.2 < 1)) = false
 rw [hb]; rfl
def ws (l : List Hop) : List Int := l.map (·.2)
theorem ws_snoc (l : List Hop) (h : Hop) : ws (l ++ [h]) = ws l ++ [h.2] := by simp [ws]
theorem shares_loop1 (hL : L.length ≤ 1000) (hn : n < 18446744073709551616) {g : List Hop} (hg : g.length ≤ 5) {zt0 : List Hop} {zt1 : List T_api_Rat} : ∀ (m k : Nat) (acc : List Hop), k + m = g.length → acc.length ≤ k →
  ((g.drop k).any (bad (lvp L n)) = true → zt0 = [] ∧ zt1 = []) →
  ((g.drop k).any (bad (lvp L n)) = false → ∃ t e, fold_Shares_R (ws (acc ++ lvs L n (g.drop k))) t e ∧ ((e = 0 ∧ zt0 = acc ++ lvs L n (g.drop k) ∧ zt1 = t) ∨ (¬ e = 0 ∧ zt0 = [] ∧ zt1 = []))) →
  step_Shares_v0_l1 L (n : Int) g (g.length : Int) (k : Int) acc (ws acc) zt0 zt1
 | 0, k, acc, hk, ha, Hb, Ho => by
  rw [List.drop_eq_nil_of_le (by omega)] at Ho
  obtain ⟨t, e, h1, h2⟩ := Ho rfl
  rw [lvs, List.filter_nil, List.append_nil] at h1 h2
  exact step_Shares_v0_l1_go (.inr ⟨by omega, t, e, h1, h2⟩)
 | m + 1, k, acc, hk, ha, Hb, Ho => by
  have h : k < g.length := by omega
  have hwl : (ws acc).length = acc.length := by simp [ws]
  rw [hop_drop h, List.any_cons, lvs] at Ho
  rw [hop_drop h, List.any_cons] at Hb
  refine step_Shares_v0_l1_go (.inl ⟨by omega, by omega, by omega, (g.getD k (ByteArray.empty, 0)).1, (g.getD k (ByteArray.empty, 0)).2, rfl, _, is_go hL _ hn, ?_⟩)
  rw [w_succ (by omega)]
  cases hb : livesB L (g.getD k (ByteArray.empty, 0)).1 n with
  | true =>
   refine .inl ⟨rfl, ?_⟩
   by_cases hw : (g.getD k (ByteArray.empty, 0)).2 < 1
   ·have hbad : bad (lvp L n) (g.getD k (ByteArray.empty, 0)) = true := bad_t hb hw
    rw [hbad, Bool.true_or] at Hb
    exact .inl ⟨hw, Hb rfl⟩
   ·have hbad : bad (lvp L n) (g.getD k (ByteArray.empty, 0)) = false := bad_w hw
    rw [hbad, Bool.false_or] at Hb Ho
    rw [List.filter_cons_of_pos (by rw [hb])] at Ho
    refine .inr ⟨hw, by omega, _, rfl, by omega, _, rfl, ?_⟩
    rw [← ws_snoc acc (g.getD k (ByteArray.empty, 0))]
    refine shares_loop1 hL hn hg m (k + 1) (acc ++ [g.getD k (ByteArray.empty, 0)]) (by omega) (by rw [List.length_append]; simp; omega) Hb fun hh => ?_
    rw [List.append_assoc]
    exact Ho hh
  | false =>
   have hbad : bad (lvp L n) (g.getD k (ByteArray.empty, 0)) = false := bad_l hb
   rw [hbad, Bool.false_or] at Hb Ho
   rw [List.filter_cons_of_neg (by rw [hb]; decide)] at Ho
   exact .inr ⟨by simp, shares_loop1 hL hn hg m (k + 1) acc (by omega) (by omega) Hb Ho⟩
theorem shares_loop0 (hL : L.length ≤ 1000) (hn : n < 18446744073709551616) {g : List Hop} (hg : g.length ≤ 5) {zt0 : List Hop} {zt1 : List T_api_Rat} : ∀ (m k : Nat), k + m = g.length →
  ((g.drop k).any (bad (lvp L n)) = true → zt0 = [] ∧ zt1 = []) →
  ((g.drop k).any (bad (lvp L n)) = false → ∃ t e, fold_Shares_R (ws (lvs L n (g.drop k))) t e ∧ ((e = 0 ∧ zt0 = lvs L n (g.drop k) ∧ zt1 = t) ∨ (¬ e = 0 ∧ zt0 = [] ∧ zt1 = []))) →
  step_Shares_v0_l0 L (n : Int) g (g.length : Int) (k : Int) zt0 zt1
 | 0, k, hk, Hb, Ho => by
  rw [List.drop_eq_nil_of_le (by omega)] at Ho
  obtain ⟨t, e, h1, h2⟩ := Ho rfl
  exact step_Shares_v0_l0_go (.inr ⟨by omega, t, e, h1, h2⟩)
 | m + 1, k, hk, Hb, Ho => by
  have h : k < g.length := by omega
  rw [hop_drop h, List.any_cons, lvs] at Ho
  rw [hop_drop h, List.any_cons] at Hb
  refine step_Shares_v0_l0_go (.inl ⟨by omega, by omega, by omega, (g.getD k (ByteArray.empty, 0)).1, (g.getD k (ByteArray.empty, 0)).2, rfl, _, is_go hL _ hn, ?_⟩)
  rw [w_succ (by omega)]
  cases hb : livesB L (g.getD k (ByteArray.empty, 0)).1 n with
  | true =>
   refine .inl ⟨rfl, ?_⟩
   by_cases hw : (g.getD k (ByteArray.empty, 0)).2 < 1
   ·have hbad : bad (lvp L n) (g.getD k (ByteArray.empty, 0)) = true := bad_t hb hw
    rw [hbad, Bool.true_or] at Hb
    exact .inl ⟨hw, Hb rfl⟩
   ·have hbad : bad (lvp L n) (g.getD k (ByteArray.empty, 0)) = false := bad_w hw
    rw [hbad, Bool.false_or] at Hb Ho
    rw [List.filter_cons_of_pos (by rw [hb])] at Ho
    refine .inr ⟨hw, by omega, _, rfl, by omega, _, rfl, ?_⟩
    exact shares_loop1 hL hn hg m (k + 1) [g.getD k (ByteArray.empty, 0)] (by omega) (by simp) Hb Ho
  | false =>
   have hbad : bad (lvp L n) (g.getD k (ByteArray.empty, 0)) = false := bad_l hb
   rw [hbad, Bool.false_or] at Hb Ho
   rw [List.filter_cons_of_neg (by rw [hb]; decide)] at Ho
   exact .inr ⟨by simp, shares_loop0 hL hn hg m (k + 1) (by omega) Hb Ho⟩
def isum (l : List Int) : Int := l.foldl (· + ·) 0
theorem isum_from (l : List Int) : ∀ s : Int, l.foldl (· + ·) s = s + isum l := by
 induction l with
 | nil => intro s; simp [isum]
 | cons x l ih =>
  intro s
  have e : isum (x :: l) = l.foldl (· + ·) (0 + x) := rfl
  rw [List.foldl_cons, ih, e, ih (0 + x)]; omega
theorem isum_cons (x : Int) (l : List Int) : isum (x :: l) = x + isum l := by
 have e : isum (x :: l) = l.foldl (· + ·) (0 + x) := rfl
 rw [e, isum_from]; omega
theorem sumQ_cast (l : List Int) : ∀ s : Int, sumQ (s : Rat) (cast l) = ((s + isum l : Int) : Rat) := by
 induction l with
 | nil => intro s; simp [isum, sumQ, cast]
 | cons x l ih =>
  intro s
  have : sumQ (s : Rat) (cast (x :: l)) = sumQ ((s : Rat) + (x : Rat)) (cast l) := rfl
  rw [this, ← Rat.intCast_add, ih, isum_cons, Int.add_assoc]
theorem isum_ge : ∀ {l : List Int}, (∀ x ∈ l, 1 ≤ x ∧ x ≤ 2147483648) → (l.length : Int) ≤ isum l ∧ isum l ≤ 2147483648 * (l.length : Int)
 | [], _ => by simp [isum]
 | x :: l, h => by
  rw [isum_cons]
  obtain ⟨h1, h2⟩ := isum_ge (l := l) fun y hy => h y (List.mem_cons_of_mem _ hy)
  have := h x (List.mem_cons_self ..)
  rw [List.length_cons]
  omega
theorem good_ws {g : List Hop} (hg : GoodG g) (hb : g.any (bad (lvp L n)) = false) : ∀ x ∈ ws (lvs L n g), 1 ≤ x ∧ x ≤ 2147483648 := by
 intro x hx
 obtain ⟨h, hh, rfl⟩ := List.mem_map.1 hx
 obtain ⟨h1, h2⟩ := List.mem_filter.1 hh
 rw [List.any_eq_false] at hb
 have hb := hb h h1
 refine ⟨?_, (hg.2 h h1).2⟩
 unfold bad lvp at hb
 rw [h2] at hb
 simp at hb
 omega
theorem fin_loop {want : List Hop} (hl : want.length ≤ 5) (hw : ∀ x ∈ ws want, 1 ≤ x ∧ x ≤ 2147483648) (h0 : want ≠ []) : ∀ (m k : Nat), k + m = want.length →
  law30_StepGroups_l3 want (((cast (ws want)).map (· / ((isum (ws want) : Int) : Rat))).map fQ) (k : Int) (ng (((isum (ws want) : Int) : Rat)).num) (tn (((isum (ws want) : Int) : Rat)).num) (ten (((isum (ws want) : Int) : Rat)).den) want true
 | 0, k, hk => law30_StepGroups_l3_go (.inr ⟨by omega, true, law30_works_is, rfl⟩)
 | m + 1, k, hk => by
  have h : k < want.length := by omega
  have hwl : (ws want).length = want.length := by simp [ws]
  obtain ⟨s1, s2⟩ := isum_ge hw
  have hpos : 0 < want.length := by omega
  have hS0 : isum (ws want) ≠ 0 := by omega
  have hne : ((isum (ws want) : Int) : Rat) ≠ 0 := fun e => hS0 (Rat.intCast_eq_zero_iff.1 e)
  have hx : 1 ≤ (want.getD k (ByteArray.empty, 0)).2 ∧ (want.getD k (ByteArray.empty, 0)).2 ≤ 2147483648 := by
   refine hw _ (List.mem_map.2 ⟨want.getD k (ByteArray.empty, 0), ?_, rfl⟩)
   rw [List.getD_eq_getElem?_getD, List.getElem?_eq_getElem h]; exact List.getElem_mem h
  have hzS : SZ 2 ((isum (ws want) : Int) : Rat) := SZ_int (by omega) (by omega)
  have hzx : SZ 2 (((want.getD k (ByteArray.empty, 0)).2 : Int) : Rat) := SZ_int (by omega) (by omega)
  have hzd := hzx.div2 hne hzS
  have hql : ((cast (ws want)).map (· / ((isum (ws want) : Int) : Rat))).length = want.length := by rw [List.length_map, cast_len, hwl]
  have hget : ((cast (ws want)).map (· / ((isum (ws want) : Int) : Rat))).getD k 0 = (((want.getD k (ByteArray.empty, 0)).2 : Int) : Rat) / ((isum (ws want) : Int) : Rat) := by
   rw [List.getD_eq_getElem?_getD, List.getElem?_map, cast, List.getElem?_map, ws, List.getElem?_map, List.getD_eq_getElem?_getD, List.getElem?_eq_getElem h]
   rfl
  have g1 := getD_fQ (qs := (cast (ws want)).map (· / ((isum (ws want) : Int) : Rat))) (i := k) (by omega) (false, [], [])
  rw [hget] at g1
  refine law30_StepGroups_l3_go (.inl ⟨by omega, by omega, (want.getD k (ByteArray.empty, 0)).1, (want.getD k (ByteArray.empty, 0)).2, rfl, by omega, (want.getD k (ByteArray.empty, 0)).1, (want.getD k (ByteArray.empty, 0)).2, rfl, .inl ⟨rfl, .inl ⟨rfl, by rw [List.length_map]; omega, _, _, _, g1, (want.getD k (ByteArray.empty, 0)).1, (want.getD k (ByteArray.empty, 0)).2, rfl, _, _, _, ref_Num1 (by omega) (by omega), _, _, _, ref08_Div_is hne (hzx.mono (by omega)) (hzS.mono (by omega)), _, _, _, ref08_Back_is (hzd.mono (by omega)), _, ref08_Same_refl (hzd.mono (by omega)), .inl ⟨rfl, ?_⟩⟩⟩⟩)
  rw [w_succ (by omega)]
  exact fin_loop hl hw h0 m (k + 1) (by omega)
variable {a : ByteArray} {b c : Int} {d : Bool} {gs : List (List Hop)}
theorem law_loop1 (hL : L.length ≤ 1000) (hn : n < 18446744073709551616) {i : Nat} (hi : i < gs.length) (hi4 : i ≤ 100) (hg : GoodG (gs.getD i [])) {x8 : List Hop} {x9 : List T_api_Rat} : ∀ (m k : Nat) (acc : List Hop) (s : Int), k + m = (gs.getD i []).length → acc.length ≤ k → -1000000 * (k : Int) ≤ s → s ≤ 2147483648 * (k : Int) →
  (((gs.getD i []).drop k).any (bad (lvp L n)) = true → x8 = []) →
  (((gs.getD i []).drop k).any (bad (lvp L n)) = false → x8 = acc ++ lvs L n ((gs.getD i []).drop k) ∧ law30_StepGroups_l3 x8 x9 0 (ng (((s + isum (ws (lvs L n ((gs.getD i []).drop k))) : Int) : Rat)).num) (tn (((s + isum (ws (lvs L n ((gs.getD i []).drop k))) : Int) : Rat)).num) (ten (((s + isum (ws (lvs L n ((gs.getD i []).drop k))) : Int) : Rat)).den) (acc ++ lvs L n ((gs.getD i []).drop k)) true) →
  law30_StepGroups_l1 (i : Int) x8 x9 (k : Int) a b c d gs L (n : Int) (ng ((s : Rat)).num) (tn ((s : Rat)).num) (ten ((s : Rat)).den) acc true
 | 0, k, acc, s, hk, ha, hs0, hs1, Hb, Ho => by
  rw [List.drop_eq_nil_of_le (by omega), lvs, List.filter_nil, List.append_nil] at Ho
  obtain ⟨h1, h2⟩ := Ho rfl
  have e : isum (ws []) = 0 := rfl
  rw [e, Int.add_zero] at h2
  exact law30_StepGroups_l1_go ⟨by omega, by omega, .inr ⟨by rw [Int.toNat_natCast]; omega, .inl ⟨by rw [h1], h2⟩⟩⟩
 | m + 1, k, acc, s, hk, ha, hs0, hs1, Hb, Ho => by
  have hg5 := hg.1
  have h : k < (gs.getD i []).length := by omega
  have hr : -1000000 ≤ ((gs.getD i []).getD k (ByteArray.empty, 0)).2 ∧ ((gs.getD i []).getD k (ByteArray.empty, 0)).2 ≤ 2147483648 := by
   refine hg.2 _ ?_
   rw [List.getD_eq_getElem?_getD (l := gs.getD i []), List.getElem?_eq_getElem h]; exact List.getElem_mem h
  rw [hop_drop h, List.any_cons, lvs] at Ho
  rw [hop_drop h, List.any_cons] at Hb
  refine law30_StepGroups_l1_go ⟨by omega, by omega, .inl ⟨by rw [Int.toNat_natCast]; omega, by omega, ((gs.getD i []).getD k (ByteArray.empty, 0)).1, ((gs.getD i []).getD k (ByteArray.empty, 0)).2, rfl, _, is_go hL _ hn, ?_⟩⟩
  rw [w_succ (by omega)]
  cases hb : livesB L ((gs.getD i []).getD k (ByteArray.empty, 0)).1 n with
  | true =>
   refine .inl ⟨rfl, ?_⟩
   by_cases hw : ((gs.getD i []).getD k (ByteArray.empty, 0)).2 < 1
   ·have hbad : bad (lvp L n) ((gs.getD i []).getD k (ByteArray.empty, 0)) = true := bad_t hb hw
    rw [hbad, Bool.true_or] at Hb
    exact .inl ⟨hw, .inl ⟨by rw [Hb rfl]; rfl, true, law30_works_is, rfl⟩⟩
   ·have hbad : bad (lvp L n) ((gs.getD i []).getD k (ByteArray.empty, 0)) = false := bad_w hw
    rw [hbad, Bool.false_or] at Hb Ho
    rw [List.filter_cons_of_pos (by rw [hb])] at Ho
    have add := ref08_Add_is ((SZ_int (n := s) (by omega) (by omega)).mono (show 2 ≤ 10000 by omega)) ((SZ_int (n := ((gs.getD i []).getD k (ByteArray.empty, 0)).2) (by omega) (by omega)).mono (show 2 ≤ 10000 by omega))
    rw [← Rat.intCast_add] at add
    refine .inr ⟨hw, by omega, _, rfl, _, _, _, ref_Num1 (by omega) (by omega), _, _, _, add, ?_⟩
    refine law_loop1 hL hn hi hi4 hg m (k + 1) (acc ++ [(gs.getD i []).getD k (ByteArray.empty, 0)]) (s + ((gs.getD i []).getD k (ByteArray.empty, 0)).2) (by omega) (by rw [List.length_append]; simp; omega) (by push_cast; omega) (by push_cast; omega) Hb fun hh => ?_
    rw [List.append_assoc]
    have := Ho hh
    rw [show ws (((gs.getD i []).getD k (ByteArray.empty, 0)) :: (List.filter (fun h => livesB L h.1 n) (List.drop (k + 1) (gs.getD i [])))) = ((gs.getD i []).getD k (ByteArray.empty, 0)).2 :: ws (List.filter (fun h => livesB L h.1 n) (List.drop (k + 1) (gs.getD i []))) from rfl, isum_cons, ← Int.add_assoc] at this
    exact this
  | false =>
   have hbad : bad (lvp L n) ((gs.getD i []).getD k (ByteArray.empty, 0)) = false := bad_l hb
   rw [hbad, Bool.false_or] at Hb Ho
   rw [List.filter_cons_of_neg (by rw [hb]; decide)] at Ho
   exact .inr ⟨by simp, law_loop1 hL hn hi hi4 hg m (k + 1) acc s (by omega) (by omega) (by push_cast; omega) (by push_cast; omega) Hb Ho⟩
theorem law_loop0 (hL : L.length ≤ 1000) (hn : n < 18446744073709551616) {i : Nat} (hi : i < gs.length) (hi4 : i ≤ 100) (hg : GoodG (gs.getD i [])) {x8 : List Hop} {x9 : List T_api_Rat} : ∀ (m k : Nat), k + m = (gs.getD i []).length →
  (((gs.getD i []).drop k).any (fun h => livesB L h.1 n) = true) →
  (((gs.getD i []).drop k).any (bad (lvp L n)) = true → x8 = []) →
  (((gs.getD i []).drop k).any (bad (lvp L n)) = false → x8 = lvs L n ((gs.getD i []).drop k) ∧ law30_StepGroups_l3 x8 x9 0 (ng (((isum (ws (lvs L n ((gs.getD i []).drop k))) : Int) : Rat)).num) (tn (((isum (ws (lvs L n ((gs.getD i []).drop k))) : Int) : Rat)).num) (ten (((isum (ws (lvs L n ((gs.getD i []).drop k))) : Int) : Rat)).den) (lvs L n ((gs.getD i []).drop k)) true) →
  law30_StepGroups_l0 (i : Int) x8 x9 (k : Int) a b c d gs L (n : Int) (ng ((0 : Rat)).num) (tn ((0 : Rat)).num) (ten ((0 : Rat)).den) true
 | 0, k, hk, hlive, Hb, Ho => by
  rw [List.drop_eq_nil_of_le (by omega)] at hlive
  cases hlive
 | m + 1, k, hk, hlive, Hb, Ho => by
  have hg5 := hg.1
  have h : k < (gs.getD i []).length := by omega
  have hr : -1000000 ≤ ((gs.getD i []).getD k (ByteArray.empty, 0)).2 ∧ ((gs.getD i []).getD k (ByteArray.empty, 0)).2 ≤ 2147483648 := by
   refine hg.2 _ ?_
   rw [List.getD_eq_getElem?_getD (l := gs.getD i []), List.getElem?_eq_getElem h]; exact List.getElem_mem h
  rw [hop_drop h, List.any_cons, lvs] at Ho
  rw [hop_drop h, List.any_cons] at Hb hlive
  refine law30_StepGroups_l0_go ⟨by omega, by omega, .inl ⟨by rw [Int.toNat_natCast]; omega, by omega, ((gs.getD i []).getD k (ByteArray.empty, 0)).1, ((gs.getD i []).getD k (ByteArray.empty, 0)).2, rfl, _, is_go hL _ hn, ?_⟩⟩
  rw [w_succ (by omega)]
  cases hb : livesB L ((gs.getD i []).getD k (ByteArray.empty, 0)).1 n with
  | true =>
   refine .inl ⟨rfl, ?_⟩
   by_cases hw : ((gs.getD i []).getD k (ByteArray.empty, 0)).2 < 1
   ·have hbad : bad (lvp L n) ((gs.getD i []).getD k (ByteArray.empty, 0)) = true := bad_t hb hw
    rw [hbad, Bool.true_or] at Hb
    exact .inl ⟨hw, .inl ⟨by rw [Hb rfl]; rfl, true, law30_works_is, rfl⟩⟩
   ·have hbad : bad (lvp L n) ((gs.getD i []).getD k (ByteArray.empty, 0)) = false := bad_w hw
    rw [hbad, Bool.false_or] at Hb Ho
    rw [List.filter_cons_of_pos (by rw [hb])] at Ho
    have add := ref08_Add_is (SZ0.mono (show 1 ≤ 10000 by omega)) ((SZ_int (n := ((gs.getD i []).getD k (ByteArray.empty, 0)).2) (by omega) (by omega)).mono (show 2 ≤ 10000 by omega))
    rw [Rat.zero_add] at add
    refine .inr ⟨hw, by omega, _, rfl, _, _, _, ref_Num1 (by omega) (by omega), _, _, _, add, ?_⟩
    refine law_loop1 hL hn hi hi4 hg m (k + 1) [(gs.getD i []).getD k (ByteArray.empty, 0)] ((gs.getD i []).getD k (ByteArray.empty, 0)).2 (by omega) (by simp) (by push_cast; omega) (by push_cast; omega) Hb fun hh => ?_
    have := Ho hh
    rw [show ws (((gs.getD i []).getD k (ByteArray.empty, 0)) :: (List.filter (fun h => livesB L h.1 n) (List.drop (k + 1) (gs.getD i [])))) = ((gs.getD i []).getD k (ByteArray.empty, 0)).2 :: ws (List.filter (fun h => livesB L h.1 n) (List.drop (k + 1) (gs.getD i []))) from rfl, isum_cons] at this
    exact this
  | false =>
   have hbad : bad (lvp L n) ((gs.getD i []).getD k (ByteArray.empty, 0)) = false := bad_l hb
   rw [hbad, Bool.false_or] at Hb Ho
   rw [hb, Bool.false_or] at hlive
   rw [List.filter_cons_of_neg (by rw [hb]; decide)] at Ho
   exact .inr ⟨by simp, law_loop0 hL hn hi hi4 hg m (k + 1) (by omega) hlive Hb Ho⟩
end
theorem law_StepGroups (a : ByteArray) (b c : Int) (d : Bool) (gs0 : List (List Hop)) (x : Int) (hx : 0 ≤ x ∧ x < 18446744073709551616) : law30_StepGroups_R a b c d gs0 x true := by
 obtain ⟨n, rfl⟩ := Int.eq_ofNat_of_zero_le hx.1
 have hn : n < 18446744073709551616 := by have := hx.2; omega
 obtain ⟨gs, hc, hgs⟩ := clean_go a b c d gs0
 obtain ⟨L, ho, hL'⟩ := out_go (short20 a) b c d hgs
 have hL : L.length ≤ 1000 := by omega
 have hgr := ref_group_go (short20 a) b c d hL hn hgs
 have hsg := step_group_go (short20 a) b c d hL hn hgs
 have h4 := hgs.1
 rcases gi_tells (fun s => livesB L s n) gs 0 with e | ⟨k, e, hk, hlive⟩
 ·rw [e] at hgr hsg
  exact law30_StepGroups_go ⟨_, _, _, _, _, hc, _, ho, _, hgr, [], [], step_Shares_v0_go ⟨_, hsg, .inl ⟨by decide, rfl, rfl⟩⟩, _, hsg, .inl ⟨rfl, .inl ⟨rfl, .inl ⟨by decide, .inl ⟨rfl, true, law30_works_is, rfl⟩⟩⟩⟩⟩
 ·rw [Nat.zero_add] at e
  rw [e] at hgr hsg
  have hg := getD_good hgs k
  cases hb : (gs.getD k []).any (bad (lvp L n)) with
  | true =>
   refine law30_StepGroups_go ⟨_, _, _, _, _, hc, _, ho, _, hgr, [], [], step_Shares_v0_go ⟨_, hsg, .inr ⟨by omega, by omega, by omega, ?_⟩⟩, _, hsg, .inl ⟨rfl, .inl ⟨rfl, .inr ⟨by omega, _, _, _, ref_Num00, ?_⟩⟩⟩⟩
   ·rw [Int.toNat_natCast]
    exact shares_loop0 hL hn hg.1 (gs.getD k []).length 0 (by omega) (fun _ => ⟨rfl, rfl⟩) (fun hh => by rw [List.drop_zero, hb] at hh; cases hh)
   ·exact law_loop0 hL hn hk (by omega) hg (gs.getD k []).length 0 (by omega) (by rw [List.drop_zero]; exact hlive) (fun _ => rfl) (fun hh => by rw [List.drop_zero, hb] at hh; cases hh)
  | false =>
   have hw := good_ws hg hb
   have hne : lvs L n (gs.getD k []) ≠ [] := by
    intro hnil
    obtain ⟨h, h1, h2⟩ := List.any_eq_true.1 hlive
    have : h ∈ lvs L n (gs.getD k []) := List.mem_filter.2 ⟨h1, h2⟩
    rw [hnil] at this; cases this
   have hlen : (lvs L n (gs.getD k [])).length ≤ 5 := Nat.le_trans (List.length_filter_le ..) hg.1
   have hwl : (ws (lvs L n (gs.getD k []))).length = (lvs L n (gs.getD k [])).length := by simp [ws]
   have hW : W64 (ws (lvs L n (gs.getD k []))) := fun y hy => by have := hw y hy; omega
   obtain ⟨s1, s2⟩ := isum_ge hw
   have hpos : 0 < (lvs L n (gs.getD k [])).length := List.length_pos_iff.2 hne
   have hS0 : isum (ws (lvs L n (gs.getD k []))) ≠ 0 := by omega
   have hS : sumQ 0 (cast (ws (lvs L n (gs.getD k [])))) = ((isum (ws (lvs L n (gs.getD k []))) : Int) : Rat) := by
    have := sumQ_cast (ws (lvs L n (gs.getD k []))) 0
    rw [Int.zero_add] at this
    exact this
   obtain ⟨qs, er, hs1, hs2⟩ := fold_Shares_is hW (by omega)
   have hu : qs = (cast (ws (lvs L n (gs.getD k [])))).map (· / ((isum (ws (lvs L n (gs.getD k []))) : Int) : Rat)) ∧ er = 0 := by
    refine hs1.unique (.inr (.inr (.inr ⟨?_, fun y hy => by have := hw y hy; omega, ?_, by rw [hS], rfl⟩)))
    ·intro hnil
     rw [← List.length_eq_zero_iff] at hnil
     omega
    ·rw [hS]
     exact fun e => hS0 (Rat.intCast_eq_zero_iff.1 e)
   obtain ⟨rfl, rfl⟩ := hu
   refine law30_StepGroups_go ⟨_, _, _, _, _, hc, _, ho, _, hgr, lvs L n (gs.getD k []), ((cast (ws (lvs L n (gs.getD k [])))).map (· / ((isum (ws (lvs L n (gs.getD k []))) : Int) : Rat))).map fQ, step_Shares_v0_go ⟨_, hsg, .inr ⟨by omega, by omega, by omega, ?_⟩⟩, _, hsg, .inl ⟨rfl, .inl ⟨?_, .inr ⟨by omega, _, _, _, ref_Num00, ?_⟩⟩⟩⟩
   ·rw [Int.toNat_natCast]
    exact shares_loop0 hL hn hg.1 (gs.getD k []).length 0 (by omega) (fun hh => by rw [List.drop_zero, hb] at hh; cases hh) (fun _ => ⟨_, 0, hs2, .inl ⟨rfl, rfl, rfl⟩⟩)
   ·rw [List.length_map, List.length_map, cast_len, hwl]
   ·exact law_loop0 hL hn hk (by omega) hg (gs.getD k []).length 0 (by omega) (by rw [List.drop_zero]; exact hlive) (fun hh => by rw [List.drop_zero, hb] at hh; cases hh) (fun _ => ⟨rfl, fin_loop hlen hw hne (lvs L n (gs.getD k [])).length 0 (by omega)⟩)
end Go.Proofs.YtjcdkemnflmfiaaGreatA
