/- A cleaned rule, its links' names, which of them live, and which group counts. -/
import Derived.Test.YtfijdkdpcjfiaaaGreatP1
import Derived.Test.YtfijdkdpcjfiaaaGreatW11
import Derived.Test.YtfijdkdpcjfiaaaGreatWX
set_option linter.unusedVariables false
set_option linter.unusedSimpArgs false
set_option maxRecDepth 100000
namespace Go.Proofs.YtfijdkdpcjfiaaaGreatA
open Go Go.Proofs
abbrev Hop := ByteArray × Int
theorem mn20 (n : Nat) : (mn (n : Int) 20).toNat = min n 20 := by unfold mn; split <;> omega
def short20 (s : ByteArray) : ByteArray := s.extract 0 (min s.size 20)
theorem short_go (s : ByteArray) : ref22_short_R s (short20 s) := by
 refine ref22_short_go ⟨by unfold mn; split <;> omega, by unfold mn; split <;> omega, ?_⟩
 rw [mn20]; rfl
def GoodG (g : List Hop) : Prop := g.length ≤ 5 ∧ ∀ h ∈ g, -1000000 ≤ h.2 ∧ h.2 ≤ 2147483648
def GoodGs (gs : List (List Hop)) : Prop := gs.length ≤ 4 ∧ ∀ g ∈ gs, GoodG g
theorem GoodG.nil : GoodG [] := ⟨by simp, fun h hh => by cases hh⟩
theorem GoodG.snoc {g : List Hop} (hg : GoodG g) (hl : g.length < 5) {s : ByteArray} {w : Int} (h1 : -1000000 ≤ w) (h2 : w ≤ 2147483648) : GoodG (g ++ [(s, w)]) :=
 ⟨by rw [List.length_append]; simp; omega, fun h hh => by
  rcases List.mem_append.1 hh with hh | hh
  ·exact hg.2 h hh
  ·rw [List.mem_singleton.1 hh]; exact ⟨h1, h2⟩⟩
theorem GoodGs.nil : GoodGs [] := ⟨by simp, fun g hg => by cases hg⟩
theorem GoodGs.snoc {gs : List (List Hop)} (hg : GoodGs gs) (hl : gs.length < 4) {g : List Hop} (h : GoodG g) : GoodGs (gs ++ [g]) :=
 ⟨by rw [List.length_append]; simp; omega, fun x hx => by
  rcases List.mem_append.1 hx with hx | hx
  ·exact hg.2 x hx
  ·rw [List.mem_singleton.1 hx]; exact h⟩
section
variable {a s : ByteArray} {b c : Int} {d : Bool} {gs : List (List Hop)}
theorem cr2 {acc : List (List Hop)} (hacc : acc.length < 4) {i : Nat} (hi : i < gs.length) (next : ∀ g, GoodG g → ∃ z, ref22_CleanRule_l3 (wi ((i : Int) + 1)) a b c d gs ⟨#[]⟩ 0 0 false s b c d ([g]) s b c d z ∧ GoodGs z) :
    ∀ (n k : Nat) (g : List Hop), k + n = 5 → g.length ≤ k → GoodG g → ∃ z, ref22_CleanRule_l2 (i : Int) (k : Int) a b c d gs ⟨#[]⟩ 0 0 false s b c d g s b c d z ∧ GoodGs z := by
  intro n
  induction n with
  | zero => ?_
  | succ n ih => ?_
  all_goals
    intro k g hk hgk hg
    obtain ⟨z0, hz0, hz1⟩ := next g hg
    by_cases hkl : k < (gs.getD i []).length
    · by_cases h5 : k < 5
      · first
          | (exfalso; omega)
          | (have get : (gs.getD i []).getD k (ByteArray.empty, 0) = (((gs.getD i []).getD k (ByteArray.empty, 0)).1, ((gs.getD i []).getD k (ByteArray.empty, 0)).2) := rfl
             have hgl : g.length < 5 := by omega
             have hb : (g.length + 1 + 192) * (24 + 1) ≤ 70368744177664 := by omega
             by_cases h1 : ((gs.getD i []).getD k (ByteArray.empty, 0)).2 < -1000000
             · obtain ⟨z, h2, h3⟩ := ih (k + 1) (g ++ [(short20 ((gs.getD i []).getD k (ByteArray.empty, 0)).1, 2)]) (by omega) (by rw [List.length_append]; simp; omega) (hg.snoc hgl (by omega) (by omega))
               exact ⟨z, ref22_CleanRule_l2_go ⟨by omega, by omega, .inl ⟨by rw [Int.toNat_natCast]; omega, .inl ⟨by omega, by omega, _, _, get, .inl ⟨h1, _, _, get, _, short_go _, hb, _, rfl, by rw [w_succ (by omega)]; exact h2⟩⟩⟩⟩, h3⟩
             · by_cases h2 : 2147483648 < ((gs.getD i []).getD k (ByteArray.empty, 0)).2
               · obtain ⟨z, h3, h4⟩ := ih (k + 1) (g ++ [(short20 ((gs.getD i []).getD k (ByteArray.empty, 0)).1, 2)]) (by omega) (by rw [List.length_append]; simp; omega) (hg.snoc hgl (by omega) (by omega))
                 exact ⟨z, ref22_CleanRule_l2_go ⟨by omega, by omega, .inl ⟨by rw [Int.toNat_natCast]; omega, .inl ⟨by omega, by omega, _, _, get, .inr ⟨h1, .inl ⟨h2, _, _, get, _, short_go _, hb, _, rfl, by rw [w_succ (by omega)]; exact h3⟩⟩⟩⟩⟩, h4⟩
               · obtain ⟨z, h3, h4⟩ := ih (k + 1) (g ++ [(short20 ((gs.getD i []).getD k (ByteArray.empty, 0)).1, ((gs.getD i []).getD k (ByteArray.empty, 0)).2)]) (by omega) (by rw [List.length_append]; simp; omega) (hg.snoc hgl (by omega) (by omega))
                 exact ⟨z, ref22_CleanRule_l2_go ⟨by omega, by omega, .inl ⟨by rw [Int.toNat_natCast]; omega, .inl ⟨by omega, by omega, _, _, get, .inr ⟨h1, .inr ⟨h2, _, _, get, _, short_go _, hb, _, rfl, by rw [w_succ (by omega)]; exact h3⟩⟩⟩⟩⟩, h4⟩)
      · exact ⟨z0, ref22_CleanRule_l2_go ⟨by omega, by omega, .inl ⟨by rw [Int.toNat_natCast]; omega, .inr ⟨by omega, by omega, _, rfl, hz0⟩⟩⟩, hz1⟩
    · exact ⟨z0, ref22_CleanRule_l2_go ⟨by omega, by omega, .inr ⟨by rw [Int.toNat_natCast]; omega, by omega, _, rfl, hz0⟩⟩, hz1⟩
theorem cr5 {acc : List (List Hop)} (hacc : acc.length < 4) {i : Nat} (hi : i < gs.length) (next : ∀ g, GoodG g → ∃ z, ref22_CleanRule_l3 (wi ((i : Int) + 1)) a b c d gs ⟨#[]⟩ 0 0 false s b c d (acc ++ [g]) s b c d z ∧ GoodGs z) :
    ∀ (n k : Nat) (g : List Hop), k + n = 5 → g.length ≤ k → GoodG g → ∃ z, ref22_CleanRule_l5 (i : Int) (k : Int) a b c d gs ⟨#[]⟩ 0 0 false s b c d g acc s b c d z ∧ GoodGs z := by
  intro n
  induction n with
  | zero => ?_
  | succ n ih => ?_
  all_goals
    intro k g hk hgk hg
    obtain ⟨z0, hz0, hz1⟩ := next g hg
    by_cases hkl : k < (gs.getD i []).length
    · by_cases h5 : k < 5
      · first
          | (exfalso; omega)
          | (have get : (gs.getD i []).getD k (ByteArray.empty, 0) = (((gs.getD i []).getD k (ByteArray.empty, 0)).1, ((gs.getD i []).getD k (ByteArray.empty, 0)).2) := rfl
             have hgl : g.length < 5 := by omega
             have hb : (g.length + 1 + 192) * (24 + 1) ≤ 70368744177664 := by omega
             by_cases h1 : ((gs.getD i []).getD k (ByteArray.empty, 0)).2 < -1000000
             · obtain ⟨z, h2, h3⟩ := ih (k + 1) (g ++ [(short20 ((gs.getD i []).getD k (ByteArray.empty, 0)).1, 2)]) (by omega) (by rw [List.length_append]; simp; omega) (hg.snoc hgl (by omega) (by omega))
               exact ⟨z, ref22_CleanRule_l5_go ⟨by omega, by omega, .inl ⟨by rw [Int.toNat_natCast]; omega, .inl ⟨by omega, by omega, _, _, get, .inl ⟨h1, _, _, get, _, short_go _, hb, _, rfl, by rw [w_succ (by omega)]; exact h2⟩⟩⟩⟩, h3⟩
             · by_cases h2 : 2147483648 < ((gs.getD i []).getD k (ByteArray.empty, 0)).2
               · obtain ⟨z, h3, h4⟩ := ih (k + 1) (g ++ [(short20 ((gs.getD i []).getD k (ByteArray.empty, 0)).1, 2)]) (by omega) (by rw [List.length_append]; simp; omega) (hg.snoc hgl (by omega) (by omega))
                 exact ⟨z, ref22_CleanRule_l5_go ⟨by omega, by omega, .inl ⟨by rw [Int.toNat_natCast]; omega, .inl ⟨by omega, by omega, _, _, get, .inr ⟨h1, .inl ⟨h2, _, _, get, _, short_go _, hb, _, rfl, by rw [w_succ (by omega)]; exact h3⟩⟩⟩⟩⟩, h4⟩
               · obtain ⟨z, h3, h4⟩ := ih (k + 1) (g ++ [(short20 ((gs.getD i []).getD k (ByteArray.empty, 0)).1, ((gs.getD i []).getD k (ByteArray.empty, 0)).2)]) (by omega) (by rw [List.length_append]; simp; omega) (hg.snoc hgl (by omega) (by omega))
                 exact ⟨z, ref22_CleanRule_l5_go ⟨by omega, by omega, .inl ⟨by rw [Int.toNat_natCast]; omega, .inl ⟨by omega, by omega, _, _, get, .inr ⟨h1, .inr ⟨h2, _, _, get, _, short_go _, hb, _, rfl, by rw [w_succ (by omega)]; exact h3⟩⟩⟩⟩⟩, h4⟩)
      · exact ⟨z0, ref22_CleanRule_l5_go ⟨by omega, by omega, .inl ⟨by rw [Int.toNat_natCast]; omega, .inr ⟨by omega, by omega, _, rfl, hz0⟩⟩⟩, hz1⟩
    · exact ⟨z0, ref22_CleanRule_l5_go ⟨by omega, by omega, .inr ⟨by rw [Int.toNat_natCast]; omega, by omega, _, rfl, hz0⟩⟩, hz1⟩
theorem cr1 {acc : List (List Hop)} (hacc : acc.length < 4) {i : Nat} (hi : i < gs.length) (next : ∀ g, GoodG g → ∃ z, ref22_CleanRule_l3 (wi ((i : Int) + 1)) a b c d gs ⟨#[]⟩ 0 0 false s b c d ([g]) s b c d z ∧ GoodGs z) :
  ∃ z, ref22_CleanRule_l1 (i : Int) 0 a b c d gs ⟨#[]⟩ 0 0 false s b c d s b c d z ∧ GoodGs z := by
 obtain ⟨z0, hz0, hz1⟩ := next [] .nil
 by_cases hkl : 0 < (gs.getD i []).length
 ·have get : (gs.getD i []).getD 0 (ByteArray.empty, 0) = (((gs.getD i []).getD 0 (ByteArray.empty, 0)).1, ((gs.getD i []).getD 0 (ByteArray.empty, 0)).2) := rfl
  have e1 : wi ((0 : Int) + 1) = ((1 : Nat) : Int) := by decide
  by_cases h1 : ((gs.getD i []).getD 0 (ByteArray.empty, 0)).2 < -1000000
  ·obtain ⟨z, h2, h3⟩ := cr2 (a := a) (s := s) (b := b) (c := c) (d := d) hacc hi next 4 1 [(short20 ((gs.getD i []).getD 0 (ByteArray.empty, 0)).1, 2)] (by omega) (by simp) (GoodG.nil.snoc (by simp) (by omega) (by omega))
   exact ⟨z, ref22_CleanRule_l1_go ⟨by omega, by omega, .inl ⟨by rw [Int.toNat_natCast]; omega, .inl ⟨by omega, by omega, _, _, get, .inl ⟨h1, _, _, get, _, short_go _, by omega, _, rfl, by rw [e1]; exact h2⟩⟩⟩⟩, h3⟩
  ·by_cases h2 : 2147483648 < ((gs.getD i []).getD 0 (ByteArray.empty, 0)).2
   ·obtain ⟨z, h3, h4⟩ := cr2 (a := a) (s := s) (b := b) (c := c) (d := d) hacc hi next 4 1 [(short20 ((gs.getD i []).getD 0 (ByteArray.empty, 0)).1, 2)] (by omega) (by simp) (GoodG.nil.snoc (by simp) (by omega) (by omega))
    exact ⟨z, ref22_CleanRule_l1_go ⟨by omega, by omega, .inl ⟨by rw [Int.toNat_natCast]; omega, .inl ⟨by omega, by omega, _, _, get, .inr ⟨h1, .inl ⟨h2, _, _, get, _, short_go _, by omega, _, rfl, by rw [e1]; exact h3⟩⟩⟩⟩⟩, h4⟩
   ·obtain ⟨z, h3, h4⟩ := cr2 (a := a) (s := s) (b := b) (c := c) (d := d) hacc hi next 4 1 [(short20 ((gs.getD i []).getD 0 (ByteArray.empty, 0)).1, ((gs.getD i []).getD 0 (ByteArray.empty, 0)).2)] (by omega) (by simp) (GoodG.nil.snoc (by simp) (by omega) (by omega))
    exact ⟨z, ref22_CleanRule_l1_go ⟨by omega, by omega, .inl ⟨by rw [Int.toNat_natCast]; omega, .inl ⟨by omega, by omega, _, _, get, .inr ⟨h1, .inr ⟨h2, _, _, get, _, short_go _, by omega, _, rfl, by rw [e1]; exact h3⟩⟩⟩⟩⟩, h4⟩
 ·exact ⟨z0, ref22_CleanRule_l1_go ⟨by omega, by omega, .inr ⟨by rw [Int.toNat_natCast]; omega, by omega, _, rfl, hz0⟩⟩, hz1⟩
theorem cr4 {acc : List (List Hop)} (hacc : acc.length < 4) {i : Nat} (hi : i < gs.length) (next : ∀ g, GoodG g → ∃ z, ref22_CleanRule_l3 (wi ((i : Int) + 1)) a b c d gs ⟨#[]⟩ 0 0 false s b c d (acc ++ [g]) s b c d z ∧ GoodGs z) :
  ∃ z, ref22_CleanRule_l4 (i : Int) 0 a b c d gs ⟨#[]⟩ 0 0 false s b c d acc s b c d z ∧ GoodGs z := by
 obtain ⟨z0, hz0, hz1⟩ := next [] .nil
 by_cases hkl : 0 < (gs.getD i []).length
 ·have get : (gs.getD i []).getD 0 (ByteArray.empty, 0) = (((gs.getD i []).getD 0 (ByteArray.empty, 0)).1, ((gs.getD i []).getD 0 (ByteArray.empty, 0)).2) := rfl
  have e1 : wi ((0 : Int) + 1) = ((1 : Nat) : Int) := by decide
  by_cases h1 : ((gs.getD i []).getD 0 (ByteArray.empty, 0)).2 < -1000000
  ·obtain ⟨z, h2, h3⟩ := cr5 (a := a) (s := s) (b := b) (c := c) (d := d) hacc hi next 4 1 [(short20 ((gs.getD i []).getD 0 (ByteArray.empty, 0)).1, 2)] (by omega) (by simp) (GoodG.nil.snoc (by simp) (by omega) (by omega))
   exact ⟨z, ref22_CleanRule_l4_go ⟨by omega, by omega, .inl ⟨by rw [Int.toNat_natCast]; omega, .inl ⟨by omega, by omega, _, _, get, .inl ⟨h1, _, _, get, _, short_go _, by omega, _, rfl, by rw [e1]; exact h2⟩⟩⟩⟩, h3⟩
  ·by_cases h2 : 2147483648 < ((gs.getD i []).getD 0 (ByteArray.empty, 0)).2
   ·obtain ⟨z, h3, h4⟩ := cr5 (a := a) (s := s) (b := b) (c := c) (d := d) hacc hi next 4 1 [(short20 ((gs.getD i []).getD 0 (ByteArray.empty, 0)).1, 2)] (by omega) (by simp) (GoodG.nil.snoc (by simp) (by omega) (by omega))
    exact ⟨z, ref22_CleanRule_l4_go ⟨by omega, by omega, .inl ⟨by rw [Int.toNat_natCast]; omega, .inl ⟨by omega, by omega, _, _, get, .inr ⟨h1, .inl ⟨h2, _, _, get, _, short_go _, by omega, _, rfl, by rw [e1]; exact h3⟩⟩⟩⟩⟩, h4⟩
   ·obtain ⟨z, h3, h4⟩ := cr5 (a := a) (s := s) (b := b) (c := c) (d := d) hacc hi next 4 1 [(short20 ((gs.getD i []).getD 0 (ByteArray.empty, 0)).1, ((gs.getD i []).getD 0 (ByteArray.empty, 0)).2)] (by omega) (by simp) (GoodG.nil.snoc (by simp) (by omega) (by omega))
    exact ⟨z, ref22_CleanRule_l4_go ⟨by omega, by omega, .inl ⟨by rw [Int.toNat_natCast]; omega, .inl ⟨by omega, by omega, _, _, get, .inr ⟨h1, .inr ⟨h2, _, _, get, _, short_go _, by omega, _, rfl, by rw [e1]; exact h3⟩⟩⟩⟩⟩, h4⟩
 ·exact ⟨z0, ref22_CleanRule_l4_go ⟨by omega, by omega, .inr ⟨by rw [Int.toNat_natCast]; omega, by omega, _, rfl, hz0⟩⟩, hz1⟩
theorem cr3 : ∀ (n i : Nat) (acc : List (List Hop)), i + n = 4 → acc.length ≤ i → GoodGs acc → ∃ z, ref22_CleanRule_l3 (i : Int) a b c d gs ⟨#[]⟩ 0 0 false s b c d acc s b c d z ∧ GoodGs z
 | 0, i, acc, hi, hl, hg => by
  by_cases h : i < gs.length
  ·exact ⟨acc, ref22_CleanRule_l3_go (.inl ⟨by omega, .inr ⟨by omega, rfl, rfl, rfl, rfl, rfl⟩⟩), hg⟩
  ·exact ⟨acc, ref22_CleanRule_l3_go (.inr ⟨by omega, rfl, rfl, rfl, rfl, rfl⟩), hg⟩
 | n + 1, i, acc, hi, hl, hg => by
  by_cases h : i < gs.length
  ·obtain ⟨z, h1, h2⟩ := cr4 (a := a) (s := s) (b := b) (c := c) (d := d) (acc := acc) (by omega) h fun g hgg => by
    rw [w_succ (by omega)]
    exact cr3 n (i + 1) (acc ++ [g]) (by omega) (by rw [List.length_append]; simp; omega) (hg.snoc (by omega) hgg)
   exact ⟨z, ref22_CleanRule_l3_go (.inl ⟨by omega, .inl ⟨by omega, h1⟩⟩), h2⟩
  ·exact ⟨acc, ref22_CleanRule_l3_go (.inr ⟨by omega, rfl, rfl, rfl, rfl, rfl⟩), hg⟩
end
theorem clean_go (a : ByteArray) (b c : Int) (d : Bool) (gs : List (List Hop)) : ∃ z, ref22_CleanRule_R a b c d gs (short20 a) b c d z ∧ GoodGs z := by
 have key : ∃ z, ref22_CleanRule_l0 0 a b c d gs ⟨#[]⟩ 0 0 false (short20 a) b c d (short20 a) b c d z ∧ GoodGs z := by
  by_cases h : 0 < gs.length
  ·obtain ⟨z, h1, h2⟩ := cr1 (a := a) (s := short20 a) (b := b) (c := c) (d := d) (gs := gs) (acc := []) (by simp) (i := 0) h fun g hg => by
    have e1 : wi (((0 : Nat) : Int) + 1) = ((1 : Nat) : Int) := by decide
    rw [e1]
    exact cr3 3 1 [g] (by omega) (by simp) (GoodGs.nil.snoc (by simp) hg)
   exact ⟨z, ref22_CleanRule_l0_go (.inl ⟨by omega, .inl ⟨by omega, h1⟩⟩), h2⟩
  ·exact ⟨[], ref22_CleanRule_l0_go (.inr ⟨by omega, rfl, rfl, rfl, rfl, rfl⟩), .nil⟩
 obtain ⟨z, h1, h2⟩ := key
 exact ⟨z, ref22_CleanRule_go ⟨_, short_go a, h1⟩, h2⟩
end Go.Proofs.YtfijdkdpcjfiaaaGreatA
