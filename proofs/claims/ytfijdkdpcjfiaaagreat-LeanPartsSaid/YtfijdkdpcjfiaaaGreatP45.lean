/- What lean's parts answer: the cover of a rule, whether two rules do the same, the other half of a prefix. -/
import Derived.Test.YtfijdkdpcjfiaaaGreatAddrA
import Derived.Test.YtfijdkdpcjfiaaaGreatP30
import Derived.Test.YtfijdkdpcjfiaaaGreatWX
set_option linter.unusedVariables false
set_option linter.unusedSimpArgs false
set_option maxRecDepth 100000
namespace Go.Proofs.YtfijdkdpcjfiaaaGreatA
open Go Go.Proofs
theorem hop_drop {l : List Hop} {i : Nat} (h : i < l.length) : l.drop i = l.getD i (ByteArray.empty, 0) :: l.drop (i + 1) := by
 rw [List.drop_eq_getElem_cons h, List.getD_eq_getElem?_getD, List.getElem?_eq_getElem h]; rfl
theorem grp_drop {l : List (List Hop)} {i : Nat} (h : i < l.length) : l.drop i = l.getD i [] :: l.drop (i + 1) := by
 rw [List.drop_eq_getElem_cons h, List.getD_eq_getElem?_getD, List.getElem?_eq_getElem h]; rfl
theorem getD_good {gs : List (List Hop)} (h : GoodGs gs) (i : Nat) : GoodG (gs.getD i []) := by
 rcases Nat.lt_or_ge i gs.length with hi | hi
 ·rw [List.getD_eq_getElem?_getD, List.getElem?_eq_getElem hi]
  exact h.2 _ (List.getElem_mem hi)
 ·rw [List.getD_eq_getElem?_getD, List.getElem?_eq_none hi]; exact .nil
theorem dec_cons {α : Type} [DecidableEq α] (x y : α) (l m : List α) : decide (x :: l = y :: m) = (decide (x = y) && decide (l = m)) := by
 by_cases h : x = y <;> by_cases g : l = m <;> simp [h, g]
theorem dec_pair (x y : Hop) : decide (x = y) = (decide (x.1 = y.1) && decide (x.2 = y.2)) := by
 by_cases h : x.1 = y.1 <;> by_cases g : x.2 = y.2
 ·have : x = y := Prod.ext h g
  simp [this]
 all_goals
  have : ¬ x = y := fun e => by subst e; simp_all
  simp [this, h, g]
theorem equal_loop {a b : List Hop} (ha : a.length ≤ 5) (hl : a.length = b.length) : ∀ (n i : Nat), i + n = a.length → slices_Equal___api_Hop_api_Hop__l0 a b (a.length : Int) (i : Int) (decide (a.drop i = b.drop i))
 | 0, i, hi => slices_Equal___api_Hop_api_Hop__l0_go (.inr ⟨by omega, by rw [List.drop_eq_nil_of_le (by omega), List.drop_eq_nil_of_le (by omega)]; rfl⟩)
 | n + 1, i, hi => by
  have h1 : i < a.length := by omega
  have h2 : i < b.length := by omega
  rw [hop_drop h1, hop_drop h2, dec_cons, dec_pair]
  refine slices_Equal___api_Hop_api_Hop__l0_go (.inl ⟨by omega, by omega, by omega, (a.getD i (ByteArray.empty, 0)).1, (a.getD i (ByteArray.empty, 0)).2, rfl, by omega, (b.getD i (ByteArray.empty, 0)).1, (b.getD i (ByteArray.empty, 0)).2, rfl, ?_⟩)
  by_cases g1 : (a.getD i (ByteArray.empty, 0)).1 = (b.getD i (ByteArray.empty, 0)).1
  ·refine .inl ⟨g1, ?_⟩
   by_cases g2 : (a.getD i (ByteArray.empty, 0)).2 = (b.getD i (ByteArray.empty, 0)).2
   ·refine .inl ⟨g2, ?_⟩
    rw [decide_eq_true g1, decide_eq_true g2, Bool.true_and, Bool.true_and, w_succ (by omega)]
    exact equal_loop ha hl n (i + 1) (by omega)
   ·exact .inr ⟨g2, by rw [decide_eq_false g2, Bool.and_false, Bool.false_and]⟩
  ·exact .inr ⟨g1, by rw [decide_eq_false g1, Bool.false_and, Bool.false_and]⟩
theorem equal_go {a b : List Hop} (ha : a.length ≤ 5) (hb : b.length ≤ 5) : lean_Alike_1_R a b (decide (a = b)) := by
 refine lean_Alike_1_go ⟨_, slices_Equal___api_Hop_api_Hop__go (z := decide (a = b)) ?_, rfl⟩
 by_cases hl : a.length = b.length
 ·exact .inl ⟨by omega, equal_loop ha hl a.length 0 (by omega)⟩
 ·exact .inr ⟨by omega, decide_eq_false fun e => hl (by rw [e])⟩
theorem groups_loop {x y : List (List Hop)} (hx : GoodGs x) (hy : GoodGs y) (hl : x.length = y.length) : ∀ (n i : Nat), i + n = x.length → slices_EqualFunc_____api_Hop_____api_Hop___api_Hop___api_Hop__v0_l0 y x (x.length : Int) (i : Int) (decide (x.drop i = y.drop i))
 | 0, i, hi => slices_EqualFunc_____api_Hop_____api_Hop___api_Hop___api_Hop__v0_l0_go (.inr ⟨by omega, by rw [List.drop_eq_nil_of_le (by omega), List.drop_eq_nil_of_le (by omega)]; rfl⟩)
 | n + 1, i, hi => by
  have h4 := hx.1
  have h1 : i < x.length := by omega
  have h2 : i < y.length := by omega
  rw [grp_drop h1, grp_drop h2, dec_cons]
  refine slices_EqualFunc_____api_Hop_____api_Hop___api_Hop___api_Hop__v0_l0_go (.inl ⟨by omega, by omega, by omega, by omega, _, equal_go (getD_good hx i).1 (getD_good hy i).1, ?_⟩)
  by_cases g : x.getD i [] = y.getD i []
  ·refine .inl ⟨by rw [Int.toNat_natCast]; exact decide_eq_true g, ?_⟩
   rw [decide_eq_true g, Bool.true_and, w_succ (by omega)]
   exact groups_loop hx hy hl n (i + 1) (by omega)
  ·exact .inr ⟨by rw [Int.toNat_natCast, decide_eq_false g]; simp, by rw [decide_eq_false g, Bool.false_and]⟩
theorem groups_go {x y : List (List Hop)} (hx : GoodGs x) (hy : GoodGs y) : slices_EqualFunc_____api_Hop_____api_Hop___api_Hop___api_Hop__v0_R x y (decide (x = y)) := by
 refine slices_EqualFunc_____api_Hop_____api_Hop___api_Hop___api_Hop__v0_go ?_
 by_cases hl : x.length = y.length
 ·exact .inl ⟨by omega, groups_loop hx hy hl x.length 0 (by omega)⟩
 ·exact .inr ⟨by omega, decide_eq_false fun e => hl (by rw [e])⟩
def alikeB (d1 d2 : Bool) (x y : List (List Hop)) : Bool := decide (d1 = d2) && decide (x = y)
theorem alike_go {a1 a2 : ByteArray} {b1 b2 c1 c2 : Int} {d1 d2 : Bool} {x y : List (List Hop)} (hx : GoodGs x) (hy : GoodGs y) : lean_Alike_R a1 b1 c1 d1 x a2 b2 c2 d2 y (alikeB d1 d2 x y) := by
 have h := groups_go hx hy
 unfold alikeB
 cases d1 <;> cases d2
 ·exact lean_Alike_go (.inr ⟨by simp, .inr ⟨by simp, _, h, by simp⟩⟩)
 ·exact lean_Alike_go (.inr ⟨by simp, .inl ⟨rfl, by simp⟩⟩)
 ·exact lean_Alike_go (.inl ⟨rfl, .inr ⟨by simp, by simp⟩⟩)
 ·exact lean_Alike_go (.inl ⟨rfl, .inl ⟨rfl, _, h, by simp⟩⟩)
section
variable {a1 a2 : ByteArray} {b1 b2 c1 c2 : Int} {d1 d2 : Bool} {x y : List (List Hop)}
theorem ref_hops {i : Nat} (h1 : i < x.length) (h2 : i < y.length) (hi : i ≤ 100) (hl : (x.getD i []).length = (y.getD i []).length) (h5 : (x.getD i []).length ≤ 5) {z : Bool}
  (hy : x.getD i [] = y.getD i [] → ref45_Alike_l0 (wi ((i : Int) + 1)) a1 b1 c1 d1 x a2 b2 c2 d2 y z) (hn : x.getD i [] ≠ y.getD i [] → z = false) :
  ∀ (n k : Nat), k + n = (x.getD i []).length → decide ((x.getD i []).drop k = (y.getD i []).drop k) = decide (x.getD i [] = y.getD i []) → ref45_Alike_l1 (i : Int) (k : Int) a1 b1 c1 d1 x a2 b2 c2 d2 y z
 | 0, k, hk, he => by
  rw [List.drop_eq_nil_of_le (by omega), List.drop_eq_nil_of_le (by omega)] at he
  exact ref45_Alike_l1_go ⟨by omega, by omega, .inr ⟨by rw [Int.toNat_natCast]; omega, hy (of_decide_eq_true he.symm)⟩⟩
 | n + 1, k, hk, he => by
  have g1 : k < (x.getD i []).length := by omega
  have g2 : k < (y.getD i []).length := by omega
  rw [hop_drop g1, hop_drop g2, dec_cons, dec_pair] at he
  refine ref45_Alike_l1_go ⟨by omega, by omega, .inl ⟨by rw [Int.toNat_natCast]; omega, by omega, ((x.getD i []).getD k (ByteArray.empty, 0)).1, ((x.getD i []).getD k (ByteArray.empty, 0)).2, rfl, by omega, by rw [Int.toNat_natCast]; omega, ((y.getD i []).getD k (ByteArray.empty, 0)).1, ((y.getD i []).getD k (ByteArray.empty, 0)).2, rfl, ?_⟩⟩
  by_cases q1 : ((x.getD i []).getD k (ByteArray.empty, 0)).1 = ((y.getD i []).getD k (ByteArray.empty, 0)).1
  ·refine .inl ⟨q1, ?_⟩
   by_cases q2 : ((x.getD i []).getD k (ByteArray.empty, 0)).2 = ((y.getD i []).getD k (ByteArray.empty, 0)).2
   ·refine .inl ⟨q2, ?_⟩
    rw [decide_eq_true q1, decide_eq_true q2, Bool.true_and, Bool.true_and] at he
    rw [w_succ (by omega)]
    exact ref_hops h1 h2 hi hl h5 hy hn n (k + 1) (by omega) he
   ·rw [decide_eq_false q2, Bool.and_false, Bool.false_and] at he
    exact .inr ⟨q2, hn (of_decide_eq_false he.symm)⟩
  ·rw [decide_eq_false q1, Bool.false_and, Bool.false_and] at he
   exact .inr ⟨q1, hn (of_decide_eq_false he.symm)⟩
theorem ref_alike_loop (hx : GoodGs x) (hy : GoodGs y) (hl : x.length = y.length) : ∀ (n i : Nat), i + n = x.length → ref45_Alike_l0 (i : Int) a1 b1 c1 d1 x a2 b2 c2 d2 y (decide (x.drop i = y.drop i))
 | 0, i, hi => ref45_Alike_l0_go (.inr ⟨by omega, by rw [List.drop_eq_nil_of_le (by omega), List.drop_eq_nil_of_le (by omega)]; rfl⟩)
 | n + 1, i, hi => by
  have h4 := hx.1
  have h1 : i < x.length := by omega
  have h2 : i < y.length := by omega
  rw [grp_drop h1, grp_drop h2, dec_cons]
  refine ref45_Alike_l0_go (.inl ⟨by omega, by omega, by omega, ?_⟩)
  rw [Int.toNat_natCast]
  by_cases hll : (x.getD i []).length = (y.getD i []).length
  ·refine .inl ⟨by omega, ref_hops h1 h2 (by omega) hll (getD_good hx i).1 (fun e => ?_) (fun e => by rw [decide_eq_false e, Bool.false_and]) (x.getD i []).length 0 (by omega) (by rw [List.drop_zero, List.drop_zero])⟩
   rw [decide_eq_true e, Bool.true_and, w_succ (by omega)]
   exact ref_alike_loop hx hy hl n (i + 1) (by omega)
  ·exact .inr ⟨by omega, by rw [decide_eq_false (fun e => hll (by rw [e])), Bool.false_and]⟩
theorem ref_alike_go (hx : GoodGs x) (hy : GoodGs y) : ref45_Alike_R a1 b1 c1 d1 x a2 b2 c2 d2 y (alikeB d1 d2 x y) := by
 have key : ((x.length : Int) = (y.length : Int) ∧ ref45_Alike_l0 0 a1 b1 c1 d1 x a2 b2 c2 d2 y (decide (x = y))) ∨ (¬ (x.length : Int) = (y.length : Int) ∧ decide (x = y) = false) := by
  by_cases hl : x.length = y.length
  ·exact .inl ⟨by omega, ref_alike_loop hx hy hl x.length 0 (by omega)⟩
  ·exact .inr ⟨by omega, decide_eq_false fun e => hl (by rw [e])⟩
 unfold alikeB
 cases d1 <;> cases d2
 ·exact ref45_Alike_go (.inr ⟨by simp, .inr ⟨by simp, by simpa using key⟩⟩)
 ·exact ref45_Alike_go (.inr ⟨by simp, .inl ⟨rfl, by simp⟩⟩)
 ·exact ref45_Alike_go (.inl ⟨rfl, .inr ⟨by simp, by simp⟩⟩)
 ·exact ref45_Alike_go (.inl ⟨rfl, .inl ⟨rfl, by simpa using key⟩⟩)
end
abbrev RuleT := ByteArray × Int × Int × Bool × List (List Hop)
abbrev rdef : RuleT := (ByteArray.empty, 0, 0, false, [])
theorem rule_drop {l : List RuleT} {i : Nat} (h : i < l.length) : l.drop i = l.getD i rdef :: l.drop (i + 1) := by
 rw [List.drop_eq_getElem_cons h, List.getD_eq_getElem?_getD, List.getElem?_eq_getElem h]; rfl
theorem rule_mem {l : List RuleT} {i : Nat} (h : i < l.length) : l.getD i rdef ∈ l := by
 rw [List.getD_eq_getElem?_getD, List.getElem?_eq_getElem h]; exact List.getElem_mem h
def candB (r s : RuleT) : Bool := decide (s.1 = r.1) && (decide (s.2.2.1 < r.2.2.1) && (mayB r.2.1 r.2.2.1 && hasB s.2.1 s.2.2.1 r.2.1))
def covf (R : List RuleT) (r : RuleT) : List RuleT → Nat → Int → Int
 | [], _, b => b
 | s :: l, i, b => covf R r l (i + 1) (if candB r s = true ∧ (b < 0 ∨ (R.getD b.toNat rdef).2.2.1 < s.2.2.1) then (i : Int) else b)
section
variable {a : ByteArray} {ns : List T_api_Node} {ls : List T_api_Link} {R : List RuleT} {r : RuleT}
theorem ref_cover_loop (hR : R.length ≤ 8) (hw : ∀ s ∈ R, Ad32 s.2.1) (hr : Ad32 r.2.1) : ∀ (n i : Nat) (b : Int), i + n = R.length → (b = -1 ∨ (0 ≤ b ∧ b < (i : Int))) → ref45_Cover_l0 b (i : Int) a ns ls R r.1 r.2.1 r.2.2.1 r.2.2.2.1 r.2.2.2.2 (covf R r (R.drop i) i b)
 | 0, i, b, hi, hb => ref45_Cover_l0_go (.inr ⟨by omega, by rw [List.drop_eq_nil_of_le (by omega)]; rfl⟩)
 | n + 1, i, b, hi, hb => by
  have h : i < R.length := by omega
  have hs := hw _ (rule_mem h)
  rw [rule_drop h, covf]
  have next : ∀ b', b' = (if candB r (R.getD i rdef) = true ∧ (b < 0 ∨ (R.getD b.toNat rdef).2.2.1 < (R.getD i rdef).2.2.1) then (i : Int) else b) → ref45_Cover_l0 b' (wi ((i : Int) + 1)) a ns ls R r.1 r.2.1 r.2.2.1 r.2.2.2.1 r.2.2.2.2 (covf R r (R.drop (i + 1)) (i + 1) (if candB r (R.getD i rdef) = true ∧ (b < 0 ∨ (R.getD b.toNat rdef).2.2.1 < (R.getD i rdef).2.2.1) then (i : Int) else b)) := by
   intro b' hb'
   rw [← hb', w_succ (by omega)]
   refine ref_cover_loop hR hw hr n (i + 1) b' (by omega) ?_
   rw [hb']
   split
   ·exact .inr ⟨by omega, by omega⟩
   ·omega
  have skip : candB r (R.getD i rdef) = false → ref45_Cover_l0 b (wi ((i : Int) + 1)) a ns ls R r.1 r.2.1 r.2.2.1 r.2.2.2.1 r.2.2.2.2 (covf R r (R.drop (i + 1)) (i + 1) (if candB r (R.getD i rdef) = true ∧ (b < 0 ∨ (R.getD b.toNat rdef).2.2.1 < (R.getD i rdef).2.2.1) then (i : Int) else b)) := fun hc => next b (by rw [if_neg (by rw [hc]; simp)])
  refine ref45_Cover_l0_go (.inl ⟨by omega, by omega, (R.getD i rdef).1, (R.getD i rdef).2.1, (R.getD i rdef).2.2.1, (R.getD i rdef).2.2.2.1, (R.getD i rdef).2.2.2.2, rfl, ?_⟩)
  by_cases h1 : (R.getD i rdef).1 = r.1
  ·refine .inl ⟨h1, _, ref_may_go hr, ?_⟩
   cases hm : mayB r.2.1 r.2.2.1 with
   | false => exact .inr ⟨by simp, skip (by unfold candB; rw [hm]; simp)⟩
   | true =>
    refine .inl ⟨rfl, _, ref_has_go hs hr, ?_⟩
    cases hh : hasB (R.getD i rdef).2.1 (R.getD i rdef).2.2.1 r.2.1 with
    | false => exact .inr ⟨by simp, skip (by unfold candB; rw [hh]; simp)⟩
    | true =>
     refine .inl ⟨rfl, ?_⟩
     by_cases h2 : (R.getD i rdef).2.2.1 < r.2.2.1
     ·have hc : candB r (R.getD i rdef) = true := by unfold candB; rw [hm, hh, decide_eq_true h1, decide_eq_true h2]; rfl
      refine .inl ⟨h2, ?_⟩
      by_cases h3 : b < 0
      ·exact .inl ⟨h3, next _ (by rw [if_pos ⟨hc, .inl h3⟩])⟩
      ·refine .inr ⟨h3, by omega, by omega, (R.getD b.toNat rdef).1, (R.getD b.toNat rdef).2.1, (R.getD b.toNat rdef).2.2.1, (R.getD b.toNat rdef).2.2.2.1, (R.getD b.toNat rdef).2.2.2.2, rfl, ?_⟩
       by_cases h4 : (R.getD b.toNat rdef).2.2.1 < (R.getD i rdef).2.2.1
       ·exact .inl ⟨h4, next _ (by rw [if_pos ⟨hc, .inr h4⟩])⟩
       ·exact .inr ⟨h4, next _ (by rw [if_neg (fun q => q.2.elim h3 h4)])⟩
     ·exact .inr ⟨h2, skip (by unfold candB; rw [decide_eq_false h2]; simp)⟩
  ·exact .inr ⟨h1, skip (by unfold candB; rw [decide_eq_false h1]; rfl)⟩
theorem within_has {x y : RuleT} (hl : y.2.2.1 < x.2.2.1) : withinB x.2.1 x.2.2.1 y.2.1 y.2.2.1 = (mayB x.2.1 x.2.2.1 && hasB y.2.1 y.2.2.1 x.2.1) := by
 unfold withinB
 rw [decide_eq_true (by omega : y.2.2.1 ≤ x.2.2.1), Bool.and_true]
theorem lean_cover_loop (hR : R.length ≤ 8) (hw : ∀ s ∈ R, Ad32 s.2.1) (hr : Ad32 r.2.1) : ∀ (n i : Nat) (b : Int), i + n = R.length → (b = -1 ∨ (0 ≤ b ∧ b < (i : Int))) → lean_Cover_l0 (mx b 0) (decide (0 ≤ b)) R (R.length : Int) (i : Int) a ns ls R r.1 r.2.1 r.2.2.1 r.2.2.2.1 r.2.2.2.2 (mx (covf R r (R.drop i) i b) 0) (decide (0 ≤ covf R r (R.drop i) i b))
 | 0, i, b, hi, hb => lean_Cover_l0_go (.inr ⟨by omega, by rw [List.drop_eq_nil_of_le (by omega)]; exact ⟨rfl, rfl⟩⟩)
 | n + 1, i, b, hi, hb => by
  have h : i < R.length := by omega
  have hs := hw _ (rule_mem h)
  rw [rule_drop h, covf]
  have next : ∀ b' x t, b' = (if candB r (R.getD i rdef) = true ∧ (b < 0 ∨ (R.getD b.toNat rdef).2.2.1 < (R.getD i rdef).2.2.1) then (i : Int) else b) → x = mx b' 0 → t = decide (0 ≤ b') → lean_Cover_l0 x t R (R.length : Int) (wi ((i : Int) + 1)) a ns ls R r.1 r.2.1 r.2.2.1 r.2.2.2.1 r.2.2.2.2 (mx (covf R r (R.drop (i + 1)) (i + 1) (if candB r (R.getD i rdef) = true ∧ (b < 0 ∨ (R.getD b.toNat rdef).2.2.1 < (R.getD i rdef).2.2.1) then (i : Int) else b)) 0) (decide (0 ≤ covf R r (R.drop (i + 1)) (i + 1) (if candB r (R.getD i rdef) = true ∧ (b < 0 ∨ (R.getD b.toNat rdef).2.2.1 < (R.getD i rdef).2.2.1) then (i : Int) else b))) := by
   intro b' x t hb' hx ht
   rw [← hb', hx, ht, w_succ (by omega)]
   refine lean_cover_loop hR hw hr n (i + 1) b' (by omega) ?_
   rw [hb']
   split
   ·exact .inr ⟨by omega, by omega⟩
   ·omega
  have skip : candB r (R.getD i rdef) = false → _ := fun hc => next b (mx b 0) (decide (0 ≤ b)) (by rw [if_neg (by rw [hc]; simp)]) rfl rfl
  have take : candB r (R.getD i rdef) = true → (b < 0 ∨ (R.getD b.toNat rdef).2.2.1 < (R.getD i rdef).2.2.1) → _ := fun hc hq => next (i : Int) (i : Int) true (by rw [if_pos ⟨hc, hq⟩]) (by unfold mx; split <;> omega) (by simp)
  refine lean_Cover_l0_go (.inl ⟨by omega, by omega, by omega, (R.getD i rdef).1, (R.getD i rdef).2.1, (R.getD i rdef).2.2.1, (R.getD i rdef).2.2.2.1, (R.getD i rdef).2.2.2.2, rfl, ?_⟩)
  by_cases h1 : (R.getD i rdef).1 = r.1
  ·refine .inl ⟨h1, ?_⟩
   by_cases h2 : (R.getD i rdef).2.2.1 < r.2.2.1
   ·refine .inr ⟨by omega, _, addr_within_go hr hs, ?_⟩
    rw [within_has (x := r) (y := R.getD i rdef) h2]
    cases hm : (mayB r.2.1 r.2.2.1 && hasB (R.getD i rdef).2.1 (R.getD i rdef).2.2.1 r.2.1) with
    | false => exact .inr ⟨by simp, skip (by unfold candB; rw [hm]; simp)⟩
    | true =>
     have hc : candB r (R.getD i rdef) = true := by unfold candB; rw [hm, decide_eq_true h1, decide_eq_true h2]; rfl
     refine .inl ⟨rfl, ?_⟩
     by_cases h3 : 0 ≤ b
     ·have hmx : mx b 0 = b := by unfold mx; split <;> omega
      refine .inl ⟨decide_eq_true h3, by rw [hmx]; exact h3, by rw [hmx]; omega, (R.getD b.toNat rdef).1, (R.getD b.toNat rdef).2.1, (R.getD b.toNat rdef).2.2.1, (R.getD b.toNat rdef).2.2.2.1, (R.getD b.toNat rdef).2.2.2.2, by rw [hmx], ?_⟩
      by_cases h4 : (R.getD b.toNat rdef).2.2.1 < (R.getD i rdef).2.2.1
      ·exact .inl ⟨h4, take hc (.inr h4)⟩
      ·exact .inr ⟨h4, next b _ _ (by rw [if_neg (fun q => q.2.elim (fun q => by omega) h4)]) rfl rfl⟩
     ·exact .inr ⟨by rw [decide_eq_false h3]; simp, take hc (.inl (by omega))⟩
   ·exact .inl ⟨by omega, skip (by unfold candB; rw [decide_eq_false h2]; simp)⟩
  ·exact .inr ⟨h1, skip (by unfold candB; rw [decide_eq_false h1]; rfl)⟩
theorem cover_go (hR : R.length ≤ 8) (hw : ∀ s ∈ R, Ad32 s.2.1) (a : ByteArray) (ns : List T_api_Node) (ls : List T_api_Link) (x : Int) : ∃ k : Int, -1 ≤ k ∧ ref45_Cover_R a ns ls R x k ∧ lean_Cover_R a ns ls R x (mx k 0) (decide (0 ≤ k)) := by
 by_cases h0 : x < 0
 ·exact ⟨-1, by omega, ref45_Cover_go (.inl ⟨h0, rfl⟩), lean_Cover_go (.inl ⟨h0, rfl, rfl⟩)⟩
 ·by_cases h1 : (R.length : Int) ≤ x
  ·exact ⟨-1, by omega, ref45_Cover_go (.inr ⟨h0, .inl ⟨h1, rfl⟩⟩), lean_Cover_go (.inr ⟨h0, .inl ⟨h1, rfl, rfl⟩⟩)⟩
  ·have hr := hw _ (rule_mem (show x.toNat < R.length by omega))
   have q1 := ref_cover_loop (a := a) (ns := ns) (ls := ls) hR hw hr R.length 0 (-1) (by omega) (.inl rfl)
   have q2 := lean_cover_loop (a := a) (ns := ns) (ls := ls) hR hw hr R.length 0 (-1) (by omega) (.inl rfl)
   rw [List.drop_zero] at q1 q2
   have hb : ∀ (l : List RuleT) (i : Nat) (b : Int), -1 ≤ b → -1 ≤ covf R (R.getD x.toNat rdef) l i b := by
    intro l
    induction l with
    | nil => intro i b h; exact h
    | cons s l ih =>
     intro i b h
     rw [covf]
     refine ih _ _ ?_
     split <;> omega
   exact ⟨_, hb R 0 (-1) (by omega), ref45_Cover_go (.inr ⟨h0, .inr ⟨h1, by omega, by omega, (R.getD x.toNat rdef).1, (R.getD x.toNat rdef).2.1, (R.getD x.toNat rdef).2.2.1, (R.getD x.toNat rdef).2.2.2.1, (R.getD x.toNat rdef).2.2.2.2, rfl, q1⟩⟩), lean_Cover_go (.inr ⟨h0, .inr ⟨h1, by omega, by omega, (R.getD x.toNat rdef).1, (R.getD x.toNat rdef).2.1, (R.getD x.toNat rdef).2.2.1, (R.getD x.toNat rdef).2.2.2.1, (R.getD x.toNat rdef).2.2.2.2, rfl, q2⟩⟩)⟩
end
theorem pow_disjoint (k r : Nat) : (2 ^ (k + 1) * r) ^^^ 2 ^ k = 2 ^ (k + 1) * r + 2 ^ k := by
 rw [Nat.two_pow_add_eq_or_of_lt (Nat.pow_lt_pow_right (by decide) (by omega))]
 apply Nat.eq_of_testBit_eq
 intro i
 rw [Nat.testBit_xor, Nat.testBit_or, Nat.testBit_two_pow_mul, Nat.testBit_two_pow]
 by_cases h : k = i
 ·subst h
  simp
 ·simp [h]
theorem bits_xor_nat {n m : Nat} (hn : n < 2 ^ 32) (hm : m < 2 ^ 32) : bits .xor .u32 (n : Int) (m : Int) = ((n ^^^ m : Nat) : Int) := by
 have hx : (BitVec.ofNat 32 n ^^^ BitVec.ofNat 32 m).toNat = n ^^^ m := by
  rw [BitVec.toNat_xor, BitVec.toNat_ofNat, BitVec.toNat_ofNat, Nat.mod_eq_of_lt hn, Nat.mod_eq_of_lt hm]
 show IntKind.wrap .u32 ((BitVec.ofInt 32 (n : Int) ^^^ BitVec.ofInt 32 (m : Int)).toNat : Int) = _
 rw [BitVec.ofInt_natCast, BitVec.ofInt_natCast, hx]
 have : n ^^^ m < 2 ^ 32 := Nat.xor_lt_two_pow hn hm
 exact wu32 (by omega) (by omega)
theorem bits_andNot_nat {n m : Nat} (hn : n < 2 ^ 32) (hm : m < 2 ^ 32) : bits .andNot .u32 (n : Int) (m : Int) = ((n &&& (2 ^ 32 - (m + 1)) : Nat) : Int) := by
 have hx : (BitVec.ofNat 32 n &&& ~~~(BitVec.ofNat 32 m)).toNat = n &&& (2 ^ 32 - (m + 1)) := by
  rw [BitVec.toNat_and, BitVec.toNat_not, BitVec.toNat_ofNat, BitVec.toNat_ofNat, Nat.mod_eq_of_lt hn, Nat.mod_eq_of_lt hm]
  congr 1
  omega
 show IntKind.wrap .u32 ((BitVec.ofInt 32 (n : Int) &&& ~~~(BitVec.ofInt 32 (m : Int))).toNat : Int) = _
 rw [BitVec.ofInt_natCast, BitVec.ofInt_natCast, hx]
 have : n &&& (2 ^ 32 - (m + 1)) ≤ n := Nat.and_le_left
 exact wu32 (by omega) (by omega)
theorem and_not_even {k r : Nat} (hk : k < 32) (h : 2 ^ (k + 1) * r < 2 ^ 32) : (2 ^ (k + 1) * r) &&& (2 ^ 32 - (2 ^ k + 1)) = 2 ^ (k + 1) * r := by
 apply Nat.eq_of_testBit_eq
 intro i
 have hk2 : 2 ^ k < 2 ^ 32 := Nat.pow_lt_pow_right (by decide) hk
 rw [Nat.testBit_and, Nat.testBit_two_pow_sub_succ hk2, Nat.testBit_two_pow]
 by_cases hi : i < 32
 ·by_cases h2 : k = i
  ·subst h2
   rw [Nat.testBit_two_pow_mul]
   simp
   omega
  ·simp [hi, h2]
 ·have : (2 ^ (k + 1) * r).testBit i = false := Nat.testBit_lt_two_pow (Nat.lt_of_lt_of_le h (Nat.pow_le_pow_right (by decide) (by omega)))
  simp [this]
theorem and_not_odd {k r : Nat} (hk : k < 32) (h : 2 ^ (k + 1) * r + 2 ^ k < 2 ^ 32) : (2 ^ (k + 1) * r + 2 ^ k) &&& (2 ^ 32 - (2 ^ k + 1)) = 2 ^ (k + 1) * r := by
 rw [Nat.two_pow_add_eq_or_of_lt (Nat.pow_lt_pow_right (by decide) (by omega))]
 have h' : 2 ^ (k + 1) * r < 2 ^ 32 := Nat.lt_of_le_of_lt (Nat.le_add_right ..) h
 apply Nat.eq_of_testBit_eq
 intro i
 have hk2 : 2 ^ k < 2 ^ 32 := Nat.pow_lt_pow_right (by decide) hk
 rw [Nat.testBit_and, Nat.testBit_or, Nat.testBit_two_pow_sub_succ hk2, Nat.testBit_two_pow]
 by_cases hi : i < 32
 ·by_cases h2 : k = i
  ·subst h2
   rw [Nat.testBit_two_pow_mul]
   simp
   omega
  ·simp [hi, h2]
 ·have : (2 ^ (k + 1) * r).testBit i = false := Nat.testBit_lt_two_pow (Nat.lt_of_lt_of_le h' (Nat.pow_le_pow_right (by decide) (by omega)))
  simp [this, hi]
theorem half_go {a l : Int} (ha : Ad32 a) : ∃ x0 x1 y0 y1 t, lean_Half_R a l x0 x1 y0 y1 t ∧ ref45_Half_R a l x0 x1 y0 y1 t := by
 cases hm : mayB a l with
 | false => exact ⟨0, 0, 0, 0, false, lean_Half_go ⟨_, addr_may_go ha, .inr ⟨by rw [hm]; simp, rfl, rfl, rfl, rfl, rfl⟩⟩, ref45_Half_go ⟨_, ref_may_go ha, .inr ⟨by rw [hm]; simp, rfl, rfl, rfl, rfl, rfl⟩⟩⟩
 | true =>
  by_cases hl : l = 0
  ·exact ⟨0, 0, 0, 0, false, lean_Half_go ⟨_, addr_may_go ha, .inl ⟨hm, .inl ⟨hl, rfl, rfl, rfl, rfl, rfl⟩⟩⟩, ref45_Half_go ⟨_, ref_may_go ha, .inl ⟨hm, .inl ⟨hl, rfl, rfl, rfl, rfl, rfl⟩⟩⟩⟩
  ·obtain ⟨h0, h1, h2, h3⟩ := may_le ha hm
   obtain ⟨n, rfl⟩ := Int.eq_ofNat_of_zero_le ha.1
   have hn : n < 2 ^ 32 := by have := ha.2; omega
   have hk : (32 - l).toNat < 32 := by omega
   generalize hkk : (32 - l).toNat = k at hk
   have hsz : sz l = 2 ^ k := by unfold sz; rw [hkk]
   have hk32 : 2 ^ k < 2 ^ 32 := Nat.pow_lt_pow_right (by decide) hk
   have hpos := Nat.two_pow_pos k
   have e1 : wi (32 - l) = 32 - l := s64i (by omega) (by omega)
   have e2 : IntKind.wrap .u32 (1 * 2 ^ (min (wi (32 - l)).toNat 32)) = ((2 ^ k : Nat) : Int) := by
    rw [e1, hkk, Nat.min_eq_left (by omega), Int.one_mul]
    have : (2 : Int) ^ k = ((2 ^ k : Nat) : Int) := by push_cast; rfl
    rw [this]
    exact wu32 (by omega) (by omega)
   have e3 : IntKind.wrap .u32 (sz l : Int) = ((2 ^ k : Nat) : Int) := by
    rw [hsz]; exact wu32 (by omega) (by omega)
   have e4 : wi (l - 1) = l - 1 := s64i (by omega) (by omega)
   have hdvd : n % 2 ^ k = 0 := by
    rw [hsz] at h2
    have : ((n % 2 ^ k : Nat) : Int) = 0 := by rw [Int.natCast_emod]; exact h2
    omega
   obtain ⟨q, hq⟩ := Nat.dvd_of_mod_eq_zero hdvd
   have hdiv : n / 2 ^ k = q := by rw [hq]; exact Nat.mul_div_cancel_left q hpos
   have e5 : (IntKind.wrap .u32 (Int.tdiv (n : Int) ((2 ^ k : Nat) : Int))) = (q : Int) := by
    rw [Int.tdiv_eq_ediv_of_nonneg (by omega), ← Int.natCast_ediv, hdiv]
    have : q ≤ n := by rw [← hdiv]; exact Nat.div_le_self ..
    exact wu32 (by omega) (by omega)
   have e6 : Int.tmod (q : Int) 2 = ((q % 2 : Nat) : Int) := by rw [Int.tmod_eq_emod_of_nonneg (by omega)]; omega
   rcases Nat.mod_two_eq_zero_or_one q with hz | hz
   ·obtain ⟨r, hr⟩ : ∃ r, q = 2 * r := ⟨q / 2, by omega⟩
    have hn2 : n = 2 ^ (k + 1) * r := by rw [hq, hr, Nat.pow_succ, Nat.mul_assoc]
    have hx : bits .xor .u32 (n : Int) ((2 ^ k : Nat) : Int) = ((n + 2 ^ k : Nat) : Int) := by rw [bits_xor_nat hn hk32, hn2, pow_disjoint]
    have hy : bits .andNot .u32 (n : Int) ((2 ^ k : Nat) : Int) = (n : Int) := by
     rw [bits_andNot_nat hn hk32]
     congr 1
     rw [hn2] at hn ⊢
     exact and_not_even hk hn
    have hlt : n + 2 ^ k < 2 ^ 32 := by
     have : n ^^^ 2 ^ k < 2 ^ 32 := Nat.xor_lt_two_pow hn hk32
     rw [hn2, pow_disjoint] at this
     rw [hn2]; exact this
    refine ⟨((n + 2 ^ k : Nat) : Int), l, (n : Int), l - 1, true, lean_Half_go ⟨_, addr_may_go ha, .inl ⟨hm, .inr ⟨hl, by omega, _, rfl, _, rfl, by rw [e2, hx], rfl, by rw [e2, hy], e4.symm, rfl⟩⟩⟩, ref45_Half_go ⟨_, ref_may_go ha, .inl ⟨hm, .inr ⟨hl, _, ref_size_go h0 h1, by rw [e3]; omega, 0, ?_, .inl ⟨?_, ?_, rfl, ?_, e4.symm, rfl⟩⟩⟩⟩⟩
    ·rw [e3, e5, e6, hz]; simp [wu32]
    ·rw [Int.sub_zero]; exact (wu32 (by omega) (by omega)).symm
    ·rw [e3, wu32 (by omega) (by omega)]; omega
    ·rw [Int.sub_zero]; exact (wu32 (by omega) (by omega)).symm
   ·obtain ⟨r, hr⟩ : ∃ r, q = 2 * r + 1 := ⟨q / 2, by omega⟩
    have hn2 : n = 2 ^ (k + 1) * r + 2 ^ k := by rw [hq, hr, Nat.mul_add, Nat.mul_one, Nat.pow_succ, Nat.mul_assoc]
    have hx : bits .xor .u32 (n : Int) ((2 ^ k : Nat) : Int) = ((2 ^ (k + 1) * r : Nat) : Int) := by
     rw [bits_xor_nat hn hk32, hn2, ← pow_disjoint, Nat.xor_assoc, Nat.xor_self, Nat.xor_zero]
    have hy : bits .andNot .u32 (n : Int) ((2 ^ k : Nat) : Int) = ((2 ^ (k + 1) * r : Nat) : Int) := by
     rw [bits_andNot_nat hn hk32]
     congr 1
     rw [hn2] at hn ⊢
     exact and_not_odd hk hn
    have e7 : IntKind.wrap .u32 (((2 ^ k : Nat) : Int)) = ((2 ^ k : Nat) : Int) := wu32 (by omega) (by omega)
    have e8 : IntKind.wrap .u32 ((n : Int) - ((2 ^ k : Nat) : Int)) = ((2 ^ (k + 1) * r : Nat) : Int) := by
     rw [wu32 (by omega) (by omega)]; omega
    refine ⟨((2 ^ (k + 1) * r : Nat) : Int), l, ((2 ^ (k + 1) * r : Nat) : Int), l - 1, true, lean_Half_go ⟨_, addr_may_go ha, .inl ⟨hm, .inr ⟨hl, by omega, _, rfl, _, rfl, by rw [e2, hx], rfl, by rw [e2, hy], e4.symm, rfl⟩⟩⟩, ref45_Half_go ⟨_, ref_may_go ha, .inl ⟨hm, .inr ⟨hl, _, ref_size_go h0 h1, by rw [e3]; omega, ((2 ^ k : Nat) : Int), ?_, .inr ⟨?_, ?_, rfl, ?_, e4.symm, rfl⟩⟩⟩⟩⟩
    ·have o : (((1 : Nat) : Int)) = 1 := rfl
     rw [e3, e5, e6, hz, o, Int.one_mul]; exact e7.symm
    ·rw [e8]; omega
    ·exact e8.symm
    ·exact e8.symm
end Go.Proofs.YtfijdkdpcjfiaaaGreatA
