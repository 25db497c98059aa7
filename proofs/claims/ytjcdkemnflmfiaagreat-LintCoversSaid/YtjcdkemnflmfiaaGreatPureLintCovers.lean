/- Whether a prefix is covered by others, both ways, and the law's function. -/
import Derived.Test.YtjcdkemnflmfiaaGreatAddr1
import Derived.Test.YtjcdkemnflmfiaaGreatWlintCovered
import Derived.Test.YtjcdkemnflmfiaaGreatWlintCovered1v0
import Derived.Test.YtjcdkemnflmfiaaGreatWlintCovered2v0
import Derived.Test.YtjcdkemnflmfiaaGreatW9
import Derived.Test.YtjcdkemnflmfiaaGreatWref44Covered
import Derived.Test.YtjcdkemnflmfiaaGreatWcon
import Derived.Test.YtjcdkemnflmfiaaGreatWlaw44LintCovers
set_option linter.unusedVariables false
set_option linter.unusedSimpArgs false
set_option maxRecDepth 100000
namespace Go.Proofs.YtjcdkemnflmfiaaGreatA
open Go Go.Proofs
abbrev Pf := Int × Int
def covS (by' : List Pf) (x : Int) : Bool := by'.any fun q => hasB q.1 q.2 x
def covP (a l : Int) (by' : List Pf) : Prop := mayB a l = true → ∀ x, a ≤ x → x < a + (sz l : Int) → covS by' x = true
open Classical in
noncomputable def covD (a l : Int) (by' : List Pf) : Bool := decide (covP a l by')
open Classical in
theorem covD_t {a l : Int} {b : List Pf} (h : covP a l b) : covD a l b = true := by unfold covD; exact decide_eq_true h
open Classical in
theorem covD_f {a l : Int} {b : List Pf} (h : ¬ covP a l b) : covD a l b = false := by unfold covD; exact decide_eq_false h
open Classical in
theorem covD_iff {a l : Int} {b : List Pf} : covD a l b = true ↔ covP a l b := by unfold covD; exact decide_eq_true_iff
def WfP (l : List Pf) : Prop := ∀ q ∈ l, Ad32 q.1
theorem getD_mem {l : List Pf} {i : Nat} (h : i < l.length) : l.getD i (0, 0) ∈ l := by
  rw [List.getD_eq_getElem?_getD, List.getElem?_eq_getElem h]; exact List.getElem_mem h
theorem drop_cons' {l : List Pf} {i : Nat} (h : i < l.length) : l.drop i = l.getD i (0, 0) :: l.drop (i + 1) := by
  rw [List.drop_eq_getElem_cons h, List.getD_eq_getElem?_getD, List.getElem?_eq_getElem h]; rfl
/-! ### numbers -/
theorem fits {a q : Int} {s S : Nat} (hs : 0 < s) (hd : s ∣ S) (ha : a % (s : Int) = 0) (hq : q % (S : Int) = 0) (h : a < q + (S : Int)) : a + (s : Int) ≤ q + (S : Int) := by
  obtain ⟨k, rfl⟩ := hd
  obtain ⟨i, rfl⟩ := Int.dvd_of_emod_eq_zero ha
  obtain ⟨j, rfl⟩ := Int.dvd_of_emod_eq_zero hq
  push_cast at h ⊢
  have hp : (0 : Int) < (s : Int) := by omega
  have e : (s : Int) * (k : Int) * j + (s : Int) * (k : Int) = (s : Int) * ((k : Int) * j + (k : Int)) := by rw [Int.mul_add, Int.mul_assoc]
  rw [e] at h ⊢
  have h1 : i < (k : Int) * j + (k : Int) := Int.lt_of_mul_lt_mul_left h (by omega)
  have h2 := Int.mul_le_mul_of_nonneg_left (show i + 1 ≤ (k : Int) * j + (k : Int) by omega) (show (0 : Int) ≤ (s : Int) by omega)
  rw [Int.mul_add] at h2
  omega
theorem above {a q x : Int} {s S : Nat} (hs : 0 < s) (hd : s ∣ S) (ha : a % (s : Int) = 0) (hq : q % (S : Int) = 0) (h1 : a ≤ x) (h2 : x < a + (s : Int)) (h3 : q ≤ x) (h4 : x < q + (S : Int)) : q ≤ a ∧ a + (s : Int) ≤ q + (S : Int) := by
  have hf := fits hs hd ha hq (by omega)
  refine ⟨?_, hf⟩
  obtain ⟨k, rfl⟩ := hd
  obtain ⟨i, rfl⟩ := Int.dvd_of_emod_eq_zero ha
  obtain ⟨j, rfl⟩ := Int.dvd_of_emod_eq_zero hq
  push_cast at *
  have hp : (0 : Int) < (s : Int) := by omega
  rw [Int.mul_assoc] at h3 ⊢
  have e : (s : Int) * i + (s : Int) = (s : Int) * (i + 1) := by rw [Int.mul_add, Int.mul_one]
  have h5 : (s : Int) * ((k : Int) * j) < (s : Int) * (i + 1) := by omega
  have h6 : (k : Int) * j < i + 1 := Int.lt_of_mul_lt_mul_left h5 (by omega)
  exact Int.mul_le_mul_of_nonneg_left (by omega) (by omega)
theorem has_iff {a l x : Int} : hasB a l x = true ↔ mayB a l = true ∧ a ≤ x ∧ x < a + (sz l : Int) := by
  unfold hasB
  rw [Bool.and_eq_true, decide_eq_true_iff]
theorem within_iff {a l b m : Int} : withinB a l b m = true ↔ mayB a l = true ∧ m ≤ l ∧ hasB b m a = true := by
  unfold withinB
  rw [Bool.and_eq_true, Bool.and_eq_true, decide_eq_true_iff, and_assoc]
theorem may_iff {a l : Int} : mayB a l = true ↔ 0 ≤ l ∧ l ≤ 32 ∧ a % (sz l : Int) = 0 := by
  unfold mayB; rw [decide_eq_true_iff]
theorem within_cov {a l : Int} {q : Pf} (h : withinB a l q.1 q.2 = true) {x : Int} (h1 : a ≤ x) (h2 : x < a + (sz l : Int)) : hasB q.1 q.2 x = true := by
  obtain ⟨hm, hl, hh⟩ := within_iff.1 h
  obtain ⟨hq, h3, h4⟩ := has_iff.1 hh
  obtain ⟨hm0, hm1, hm2⟩ := may_iff.1 hm
  obtain ⟨hq0, hq1, hq2⟩ := may_iff.1 hq
  have := fits (sz_pos l) (sz_mono hl) hm2 hq2 h4
  exact has_iff.2 ⟨hq, by omega, by omega⟩
theorem cov_in {a l : Int} {b : List Pf} (hm : mayB a l = true) (hn : b.any (fun q => withinB a l q.1 q.2) = false) {x : Int} (h1 : a ≤ x) (h2 : x < a + (sz l : Int)) :
    covS b x = covS (b.filter fun q => withinB q.1 q.2 a l) x := by
  have key : covS b x = true ↔ covS (b.filter fun q => withinB q.1 q.2 a l) x = true := by
    unfold covS
    rw [List.any_eq_true, List.any_eq_true]
    constructor
    · rintro ⟨q, hq, hh⟩
      refine ⟨q, List.mem_filter.2 ⟨hq, ?_⟩, hh⟩
      obtain ⟨hqm, h3, h4⟩ := has_iff.1 hh
      obtain ⟨hm0, hm1, hm2⟩ := may_iff.1 hm
      obtain ⟨hq0, hq1, hq2⟩ := may_iff.1 hqm
      rcases Int.le_total l q.2 with h | h
      · have := above (sz_pos q.2) (sz_mono h) hq2 hm2 h3 h4 h1 h2
        have hp := sz_pos q.2
        exact within_iff.2 ⟨hqm, h, has_iff.2 ⟨hm, by omega, by omega⟩⟩
      · exfalso
        have := above (sz_pos l) (sz_mono h) hm2 hq2 h1 h2 h3 h4
        have hp := sz_pos l
        have hw : withinB a l q.1 q.2 = true := within_iff.2 ⟨hm, h, has_iff.2 ⟨hqm, by omega, by omega⟩⟩
        rw [List.any_eq_false] at hn
        exact hn q hq hw
    · rintro ⟨q, hq, hh⟩
      exact ⟨q, (List.mem_filter.1 hq).1, hh⟩
  cases h : covS b x <;> cases h' : covS (b.filter fun q => withinB q.1 q.2 a l) x <;> simp_all
theorem half_may {a l : Int} (hm : mayB a l = true) (hl : l < 32) : mayB a (l + 1) = true ∧ mayB (a + (sz (l + 1) : Int)) (l + 1) = true := by
  obtain ⟨h0, h1, h2⟩ := may_iff.1 hm
  have hd : ((sz (l + 1) : Nat) : Int) ∣ a := Int.dvd_trans (Int.natCast_dvd_natCast.2 (sz_mono (by omega))) (Int.dvd_of_emod_eq_zero h2)
  exact ⟨may_iff.2 ⟨by omega, by omega, Int.emod_eq_zero_of_dvd hd⟩, may_iff.2 ⟨by omega, by omega, Int.emod_eq_zero_of_dvd (Int.dvd_add hd (Int.dvd_refl _))⟩⟩
theorem cov_halves {a l : Int} {b : List Pf} (hm : mayB a l = true) (hl : l < 32) : covP a l b ↔ covP a (l + 1) b ∧ covP (a + (sz (l + 1) : Int)) (l + 1) b := by
  obtain ⟨m1, m2⟩ := half_may hm hl
  have e := sz_half hl
  have e2 : (sz l : Int) = (sz (l + 1) : Int) + (sz (l + 1) : Int) := by omega
  constructor
  · intro h
    refine ⟨fun _ x h1 h2 => h hm x h1 (by omega), fun _ x h1 h2 => h hm x (by omega) (by omega)⟩
  · rintro ⟨h1, h2⟩ _ x h3 h4
    by_cases hx : x < a + (sz (l + 1) : Int)
    · exact h1 m1 x h3 hx
    · exact h2 m2 x (by omega) (by omega)
/-! ### the program's -/
/-- The place of the first one of which it is so, or -1. -/
def fi (p : Pf → Bool) : List Pf → Nat → Int
  | [], _ => -1
  | x :: l, i => if p x then (i : Int) else fi p l (i + 1)
theorem fi_any (p : Pf → Bool) : ∀ (l : List Pf) (i : Nat), decide (0 ≤ fi p l i) = l.any p
  | [], i => by simp [fi]
  | x :: l, i => by
    unfold fi
    cases h : p x
    · simp [h, fi_any p l (i + 1)]
    · simp [h]
theorem fi_tells (p : Pf → Bool) : ∀ (l : List Pf) (i : Nat), (fi p l i = -1 ∧ l.filter (fun x => !p x) = l) ∨ (∃ k : Nat, fi p l i = ((i + k : Nat) : Int) ∧ k < l.length ∧ l.filter (fun x => !p x) = l.take k ++ (l.drop (k + 1)).filter fun x => !p x)
  | [], i => .inl ⟨rfl, rfl⟩
  | x :: l, i => by
    unfold fi
    cases h : p x
    · rcases fi_tells p l (i + 1) with ⟨h1, h2⟩ | ⟨k, h1, h2, h3⟩
      · exact .inl ⟨by simpa using h1, by simp [h, h2]⟩
      · refine .inr ⟨k + 1, ?_, by simp; omega, by simp [h, h3]⟩
        rw [if_neg (by simp), h1]
        omega
    · exact .inr ⟨0, by simp, by simp, by simp [h]⟩
theorem idx0_go {b : List Pf} {a l : Int} (ha : Ad32 a) (hw : WfP b) (hb : b.length < 100) : ∀ (rest : List Pf) (i : Nat), b.drop i = rest → slices_IndexFunc___api_Prefix_api_Prefix__v0_l0 b a l (b.length : Int) (i : Int) (fi (fun q => withinB a l q.1 q.2) rest i)
  | [], i, hr => slices_IndexFunc___api_Prefix_api_Prefix__v0_l0_go (.inr ⟨by have := List.drop_eq_nil_iff.1 hr; omega, rfl⟩)
  | x :: rest, i, hr => by
    have hi : i < b.length := by
      rcases Nat.lt_or_ge i b.length with h | h
      · exact h
      · rw [List.drop_eq_nil_of_le h] at hr; cases hr
    rw [drop_cons' hi] at hr
    injection hr with h1 h2
    refine slices_IndexFunc___api_Prefix_api_Prefix__v0_l0_go (.inl ⟨by omega, by omega, by omega, x.1, x.2, by rw [Int.toNat_natCast, h1], _, lint_Covered_1_v0_go ⟨_, addr_within_go ha (hw x (h1 ▸ getD_mem hi)), rfl⟩, ?_⟩)
    unfold fi
    cases h : withinB a l x.1 x.2
    · refine .inr ⟨by simp, ?_⟩
      rw [if_neg (by simp), s64i (by omega) (by omega)]
      exact idx0_go ha hw hb rest (i + 1) h2
    · exact .inl ⟨rfl, by simp⟩
theorem idx1_go {b : List Pf} {a l : Int} (ha : Ad32 a) (hw : WfP b) (hb : b.length < 100) : ∀ (rest : List Pf) (i : Nat), b.drop i = rest → slices_IndexFunc___api_Prefix_api_Prefix__v1_l0 b a l (b.length : Int) (i : Int) (fi (fun q => !withinB q.1 q.2 a l) rest i)
  | [], i, hr => slices_IndexFunc___api_Prefix_api_Prefix__v1_l0_go (.inr ⟨by have := List.drop_eq_nil_iff.1 hr; omega, rfl⟩)
  | x :: rest, i, hr => by
    have hi : i < b.length := by
      rcases Nat.lt_or_ge i b.length with h | h
      · exact h
      · rw [List.drop_eq_nil_of_le h] at hr; cases hr
    rw [drop_cons' hi] at hr
    injection hr with h1 h2
    refine slices_IndexFunc___api_Prefix_api_Prefix__v1_l0_go (.inl ⟨by omega, by omega, by omega, x.1, x.2, by rw [Int.toNat_natCast, h1], _, lint_Covered_2_v0_go ⟨_, addr_within_go (hw x (h1 ▸ getD_mem hi)) ha, rfl⟩, ?_⟩)
    unfold fi
    cases h : withinB x.1 x.2 a l
    · exact .inl ⟨rfl, by simp⟩
    · refine .inr ⟨by simp, ?_⟩
      rw [if_neg (by simp), s64i (by omega) (by omega)]
      exact idx1_go ha hw hb rest (i + 1) h2
theorem contains_go {b : List Pf} {a l : Int} (ha : Ad32 a) (hw : WfP b) (hb : b.length < 100) : slices_ContainsFunc___api_Prefix_api_Prefix__v0_R b a l (b.any fun q => withinB a l q.1 q.2) :=
  slices_ContainsFunc___api_Prefix_api_Prefix__v0_go ⟨_, slices_IndexFunc___api_Prefix_api_Prefix__v0_go (idx0_go ha hw hb b 0 rfl), (fi_any _ b 0).symm⟩
theorem set_take {r : List Pf} {i : Nat} (hi : i < r.length) (e : Pf) : (r.set i e).take (i + 1) = r.take i ++ [e] := by
  rw [List.take_succ_eq_append_getElem (by simpa using hi), List.getElem_set_self, List.take_set_of_le (Nat.le_refl i)]
theorem del1_go {cb : Nat → Blk} {ver ver2 : Nat} {a l : Int} (ha : Ad32 a) : ∀ (n : Nat) (i j : Nat) (r : List Pf), WfP r → r.length < 100 → i ≤ j → j + n = r.length → ∀ ys, ys = r.take i ++ (r.drop j).filter (fun q => withinB q.1 q.2 a l) →
    slices_DeleteFunc___api_Prefix_api_Prefix__L1_l1 cb ver ver2 a l (i : Int) (j : Int) r ys
  | 0, i, j, r, hw, hl, hij, hn, ys, hy => by
    refine slices_DeleteFunc___api_Prefix_api_Prefix__L1_l1_go (.inr ⟨by omega, by omega, by omega, _, rfl, ?_⟩)
    rw [hy, List.drop_eq_nil_of_le (by omega), Int.toNat_natCast]; simp
  | n + 1, i, j, r, hw, hl, hij, hn, ys, hy => by
    have hj : j < r.length := by omega
    refine slices_DeleteFunc___api_Prefix_api_Prefix__L1_l1_go (.inl ⟨by omega, by omega, (r.getD j (0, 0)).1, (r.getD j (0, 0)).2, rfl, _, lint_Covered_2_v0_go ⟨_, addr_within_go (hw _ (getD_mem hj)) ha, rfl⟩, ?_⟩)
    rw [drop_cons' hj] at hy
    rw [s64i (by omega) (by omega), s64i (by omega) (by omega)]
    cases h : withinB (r.getD j (0, 0)).1 (r.getD j (0, 0)).2 a l
    · refine .inl ⟨rfl, ?_⟩
      exact del1_go ha n i (j + 1) r hw hl (by omega) (by omega) ys (by rw [hy, List.filter_cons_of_neg (by rw [h]; decide)])
    · refine .inr ⟨by simp, by omega, by omega, _, rfl, ?_⟩
      rw [Int.toNat_natCast]
      have hm := getD_mem hj
      refine del1_go ha n (i + 1) (j + 1) (r.set i (r.getD j (0, 0))) ?_ (by simpa using hl) (by omega) (by simp; omega) ys ?_
      · intro q hq
        rcases List.mem_or_eq_of_mem_set hq with h' | h'
        · exact hw q h'
        · rw [h']; exact hw _ hm
      · rw [hy, List.filter_cons_of_pos (by rw [h])]
        have hi : i < r.length := by omega
        have e1 : (r.set i (r.getD j (0, 0))).drop (j + 1) = r.drop (j + 1) := by rw [List.drop_set_of_lt (by omega)]
        have e2 : (r.set i (r.getD j (0, 0))).take (i + 1) = r.take i ++ [r.getD j (0, 0)] := by
          exact set_take hi _
        rw [e1, e2]; simp
theorem del0_go {cb : Nat → Blk} {ver ver2 : Nat} {a l : Int} (ha : Ad32 a) (i : Nat) (r : List Pf) (hw : WfP r) (hl : r.length < 100) (hi : i < r.length) :
    slices_DeleteFunc___api_Prefix_api_Prefix__L1_l0 cb ver ver2 a l (i : Int) (((i + 1 : Nat)) : Int) r (r.take i ++ (r.drop (i + 1)).filter (fun q => withinB q.1 q.2 a l)) := by
  by_cases hj : i + 1 < r.length
  · refine slices_DeleteFunc___api_Prefix_api_Prefix__L1_l0_go (.inl ⟨by omega, by omega, (r.getD (i + 1) (0, 0)).1, (r.getD (i + 1) (0, 0)).2, rfl, _, lint_Covered_2_v0_go ⟨_, addr_within_go (hw _ (getD_mem hj)) ha, rfl⟩, ?_⟩)
    rw [drop_cons' hj, s64i (by omega) (by omega), s64i (by omega) (by omega)]
    cases h : withinB (r.getD (i + 1) (0, 0)).1 (r.getD (i + 1) (0, 0)).2 a l
    · refine .inl ⟨rfl, ?_⟩
      exact del1_go ha (r.length - (i + 2)) i (i + 2) r hw hl (by omega) (by omega) _ (by rw [List.filter_cons_of_neg (by rw [h]; decide)])
    · refine .inr ⟨by simp, by omega, by omega, _, rfl, ?_⟩
      rw [Int.toNat_natCast]
      have hm := getD_mem hj
      refine del1_go ha (r.length - (i + 2)) (i + 1) (i + 2) (r.set i (r.getD (i + 1) (0, 0))) ?_ (by simpa using hl) (by omega) (by simp; omega) _ ?_
      · intro q hq
        rcases List.mem_or_eq_of_mem_set hq with h' | h'
        · exact hw q h'
        · rw [h']; exact hw _ hm
      · rw [List.filter_cons_of_pos (by rw [h])]
        have e1 : (r.set i (r.getD (i + 1) (0, 0))).drop (i + 2) = r.drop (i + 2) := by rw [List.drop_set_of_lt (by omega)]
        have e2 : (r.set i (r.getD (i + 1) (0, 0))).take (i + 1) = r.take i ++ [r.getD (i + 1) (0, 0)] := by
          exact set_take hi _
        rw [e1, e2]; simp
  · refine slices_DeleteFunc___api_Prefix_api_Prefix__L1_l0_go (.inr ⟨by omega, by omega, by omega, _, rfl, ?_⟩)
    rw [List.drop_eq_nil_of_le (by omega), Int.toNat_natCast]; simp
theorem delete_go {b : List Pf} {a l : Int} (ha : Ad32 a) (hw : WfP b) (hb : b.length < 100) : slices_DeleteFunc___api_Prefix_api_Prefix__L1_R b a l (b.filter fun q => withinB q.1 q.2 a l) := by
  refine slices_DeleteFunc___api_Prefix_api_Prefix__L1_go fun cb ver ver2 => ⟨_, slices_IndexFunc___api_Prefix_api_Prefix__v1_go (idx1_go ha hw hb b 0 rfl), ?_⟩
  rcases fi_tells (fun q => !withinB q.1 q.2 a l) b 0 with ⟨h1, h2⟩ | ⟨k, h1, h2, h3⟩
  · exact .inl ⟨h1, by simpa using h2⟩
  · refine .inr ⟨by omega, ?_⟩
    simp only [Bool.not_not] at h3
    rw [h3, h1, s64i (by omega) (by omega), Nat.zero_add]
    exact del0_go ha k b hw hb h2
theorem or_half {a l : Int} (ha : Ad32 a) (hm : mayB a l = true) (hl : l < 32) : bits .or .u32 a (IntKind.wrap .u32 (1 * 2 ^ (min (wi (31 - l)).toNat 32))) = a + (sz (l + 1) : Int) := by
  obtain ⟨h0, h1, h2⟩ := may_iff.1 hm
  have e : wi (31 - l) = 31 - l := s64i (by omega) (by omega)
  have e2 : (1 * 2 ^ (min (wi (31 - l)).toNat 32) : Int) = (sz (l + 1) : Int) := by
    rw [e, Nat.min_eq_left (by omega), Int.one_mul]
    unfold sz
    rw [show 32 - (l + 1) = 31 - l by omega]
    push_cast; rfl
  have hs := sz_half hl
  have hsl := sz_le h0
  have hp := sz_pos (l + 1)
  rw [e2, wu32 (by omega) (by omega)]
  obtain ⟨n, rfl⟩ := Int.eq_ofNat_of_zero_le ha.1
  have hn : n < 2 ^ 32 := by have := ha.2; omega
  have h2' : n % sz l = 0 := by
    have := h2
    rw [← Int.natCast_emod] at this
    exact_mod_cast this
  have key := (bits_nat .u32 32 (by decide) wraps_u32' n (sz (l + 1)) hn (by omega)).2
  rw [key]
  have hor : n ||| sz (l + 1) = n + sz (l + 1) := by
    obtain ⟨t, rfl⟩ := Nat.dvd_of_mod_eq_zero h2'
    have hsz : sz l = 2 ^ (32 - l).toNat := rfl
    rw [hsz, ← Nat.two_pow_add_eq_or_of_lt (i := (32 - l).toNat) (b := sz (l + 1)) (by rw [← hsz]; omega)]
  rw [hor]
  push_cast; rfl
theorem covered_go : ∀ (n : Nat) (a l : Int) (b : List Pf), (32 - l).toNat ≤ n → Ad32 a → -9000000000000000000 ≤ l → WfP b → b.length < 100 → lint_Covered_R a l b (covD a l b) := by
  intro n
  induction n with
  | zero => ?_
  | succ n ih => ?_
  all_goals
    intro a l b hn ha hl64 hw hb
    refine lint_Covered_go ⟨_, addr_may_go ha, ?_⟩
    cases hm : mayB a l with
    | false => exact .inr ⟨by simp, covD_t fun h => by rw [hm] at h; cases h⟩
    | true =>
      obtain ⟨h0, h1, h2⟩ := may_iff.1 hm
      refine .inl ⟨rfl, _, contains_go ha hw hb, ?_⟩
      cases hc : b.any (fun q => withinB a l q.1 q.2) with
      | true =>
        refine .inl ⟨rfl, covD_t fun _ x hx1 hx2 => ?_⟩
        obtain ⟨q, hq, hh⟩ := List.any_eq_true.1 hc
        exact List.any_eq_true.2 ⟨q, hq, within_cov hh hx1 hx2⟩
      | false =>
        refine .inr ⟨by simp, ?_⟩
        have hp := sz_pos l
        have hno : covS (b.filter fun q => withinB q.1 q.2 a l) a = false → covD a l b = false := fun h => covD_f fun hcov => by
          have := hcov hm a (by omega) (by omega)
          rw [cov_in hm hc (by omega) (by omega), h] at this
          cases this
        have h32 : l = 32 → covD a l b = false := fun h => hno (by
          rw [← cov_in hm hc (by omega) (by omega)]
          cases hx : covS b a with
          | false => rfl
          | true =>
            obtain ⟨q, hq, hh⟩ := List.any_eq_true.1 hx
            obtain ⟨hqm, h3, h4⟩ := has_iff.1 hh
            obtain ⟨hq0, hq1, hq2⟩ := may_iff.1 hqm
            have : withinB a l q.1 q.2 = true := within_iff.2 ⟨hm, by omega, hh⟩
            rw [List.any_eq_false] at hc
            exact absurd this (hc q hq))
        by_cases hbn : b = []
        · refine .inl ⟨hbn, .inl ⟨by simp, ?_⟩⟩
          exact hno (by rw [hbn]; rfl)
        · refine .inr ⟨hbn, by omega, _, delete_go ha hw hb, ?_⟩
          by_cases hz : (b.filter fun q => withinB q.1 q.2 a l) = []
          · exact .inl ⟨by rw [hz]; rfl, hno (by rw [hz]; rfl)⟩
          · refine .inr ⟨by rw [Int.natCast_eq_zero, List.length_eq_zero_iff]; exact hz, ?_⟩
            by_cases hl : l = 32
            · exact .inl ⟨hl, h32 hl⟩
            · refine .inr ⟨hl, by rw [s64i (by omega) (by omega)]; omega, _, rfl, ?_⟩
              rw [or_half ha hm (by omega), s64i (n := l + 1) (by omega) (by omega)]
              obtain ⟨m1, m2⟩ := half_may hm (by omega)
              have hs := sz_half (show l < 32 by omega)
              have hml := may_le ha hm
              have hp1 := sz_pos (l + 1)
              have hwf : WfP (b.filter fun q => withinB q.1 q.2 a l) := fun q hq => hw q (List.mem_filter.1 hq).1
              have hbf : (b.filter fun q => withinB q.1 q.2 a l).length < 100 := Nat.lt_of_le_of_lt (List.length_filter_le ..) hb
              have hcc : covP a l b ↔ covP a (l + 1) (b.filter fun q => withinB q.1 q.2 a l) ∧ covP (a + (sz (l + 1) : Int)) (l + 1) (b.filter fun q => withinB q.1 q.2 a l) := by
                rw [← cov_halves hm (by omega)]
                exact ⟨fun h hm' x hx1 hx2 => by rw [← cov_in hm hc hx1 hx2]; exact h hm' x hx1 hx2, fun h hm' x hx1 hx2 => by rw [cov_in hm hc hx1 hx2]; exact h hm' x hx1 hx2⟩
              first
                | (exfalso; omega)
                | (refine ⟨_, ih a (l + 1) _ (by omega) ha (by omega) hwf hbf, ?_⟩
                   cases hA : covD a (l + 1) (b.filter fun q => withinB q.1 q.2 a l) with
                   | false =>
                     refine .inr ⟨by simp, covD_f fun h => ?_⟩
                     have := covD_t (hcc.1 h).1
                     rw [hA] at this; cases this
                   | true =>
                     refine .inl ⟨rfl, _, ih (a + (sz (l + 1) : Int)) (l + 1) _ (by omega) ⟨by have := ha.1; omega, by omega⟩ (by omega) hwf hbf, ?_⟩
                     cases hB : covD (a + (sz (l + 1) : Int)) (l + 1) (b.filter fun q => withinB q.1 q.2 a l) with
                     | false =>
                       refine covD_f fun h => ?_
                       have := covD_t (hcc.1 h).2
                       rw [hB] at this; cases this
                     | true => exact covD_t (hcc.2 ⟨covD_iff.1 hA, covD_iff.1 hB⟩))
/-! ### the document's -/
def pts (q : Pf) : List Int := if mayB q.1 q.2 = true then [q.1] ++ (if q.1 + (sz q.2 : Int) - 1 = 4294967295 then [] else [q.1 + (sz q.2 : Int)]) else []
def okB (f t : Int) (b : List Pf) (x : Int) : Bool := decide (x < f) || decide (t < x) || covS b x
def L0 (k : Nat) (b : List Pf) (L : List Int) (i : Int) (f t : Int) (z : Bool) : Prop := match k with
  | 0 => ref44_Covered_l0 b L i f t z
  | 1 => ref44_Covered_l1 b i f t L z
  | _ => ref44_Covered_l2 b i f t L z
def L3 (k : Nat) (b : List Pf) (L : List Int) (i : Int) (f t : Int) (z : Bool) : Prop := match k with
  | 0 => ref44_Covered_l3 b L i f t z
  | 1 => ref44_Covered_l4 b i f t L z
  | _ => ref44_Covered_l5 b i f t L z
def L6 (k : Nat) (b : List Pf) (L : List Int) (i : Int) (c : Bool) (j : Int) (f t : Int) (z : Bool) : Prop := match k with
  | 0 => ref44_Covered_l6 b L i c j f t z
  | 1 => ref44_Covered_l7 b i c j f t L z
  | _ => ref44_Covered_l8 b i c j f t L z
theorem L6_go {k : Nat} {b : List Pf} {L : List Int} {i j : Int} {c : Bool} {f t : Int} {z : Bool} (H : (j < (b.length : Int) ∧ ((c = true ∧ L6 k b L i true (wi (j + 1)) f t z) ∨ (¬ c = true ∧ 0 ≤ j ∧ ∃ e e', b.getD j.toNat (0, 0) = (e, e') ∧ 0 ≤ i ∧ i < (L.length : Int) ∧ ∃ d, ref18_Has_R e e' (L.getD i.toNat 0) d ∧ L6 k b L i d (wi (j + 1)) f t z))) ∨ (¬ j < (b.length : Int) ∧ ((c = true ∧ L3 k b L (wi (i + 1)) f t z) ∨ (¬ c = true ∧ z = false)))) : L6 k b L i c j f t z := by
  match k with
  | 0 => exact ref44_Covered_l6_go H
  | 1 => exact ref44_Covered_l7_go H
  | _ + 2 => exact ref44_Covered_l8_go H
theorem L3_go {k : Nat} {b : List Pf} {L : List Int} {i : Int} {f t : Int} {z : Bool} (H : (i < (L.length : Int) ∧ 0 ≤ i ∧ ((L.getD i.toNat 0 < f ∧ L3 k b L (wi (i + 1)) f t z) ∨ (¬ L.getD i.toNat 0 < f ∧ ((t < L.getD i.toNat 0 ∧ L3 k b L (wi (i + 1)) f t z) ∨ (¬ t < L.getD i.toNat 0 ∧ L6 k b L i false 0 f t z))))) ∨ (¬ i < (L.length : Int) ∧ z = true)) : L3 k b L i f t z := by
  match k with
  | 0 => exact ref44_Covered_l3_go H
  | 1 => exact ref44_Covered_l4_go H
  | _ + 2 => exact ref44_Covered_l5_go H
theorem L0_go {k : Nat} {b : List Pf} {L : List Int} {i : Int} {f t : Int} {z : Bool} (H : (i < (b.length : Int) ∧ 0 ≤ i ∧ ∃ e e', b.getD i.toNat (0, 0) = (e, e') ∧ ∃ c, ref18_May_R e e' c ∧ ((c = true ∧ ∃ u u', b.getD i.toNat (0, 0) = (u, u') ∧ ∃ p q, ref18_Range_R u u' p q ∧ (L.length + 1 + 192) * (4 + 1) ≤ 70368744177664 ∧ ∃ y, y = L ++ [p] ∧ ((q = 4294967295 ∧ L0 1 b y (wi (i + 1)) f t z) ∨ (¬ q = 4294967295 ∧ (y.length + 1 + 192) * (4 + 1) ≤ 70368744177664 ∧ ∃ y', y' = y ++ [IntKind.wrap .u32 (q + 1)] ∧ L0 2 b y' (wi (i + 1)) f t z))) ∨ (¬ c = true ∧ L0 k b L (wi (i + 1)) f t z))) ∨ (¬ i < (b.length : Int) ∧ L3 k b L 0 f t z)) : L0 k b L i f t z := by
  match k with
  | 0 => exact ref44_Covered_l0_go H
  | 1 => exact ref44_Covered_l1_go H
  | _ + 2 => exact ref44_Covered_l2_go H
theorem has_loop {k : Nat} {b : List Pf} {L : List Int} (hw : WfP b) (hb : b.length < 100) {i : Nat} (hi : i < L.length) (hL : Ad32 (L.getD i 0)) {f t : Int} {z : Bool} (hy : covS b (L.getD i 0) = true → L3 k b L (wi ((i : Int) + 1)) f t z) (hn : covS b (L.getD i 0) = false → z = false) :
    ∀ (n j : Nat) (c : Bool), j + n = b.length → (c || (b.drop j).any fun q => hasB q.1 q.2 (L.getD i 0)) = covS b (L.getD i 0) → L6 k b L (i : Int) c (j : Int) f t z
  | 0, j, c, hj, hc => by
    rw [List.drop_eq_nil_of_le (by omega), List.any_nil, Bool.or_false] at hc
    cases c with
    | true => exact L6_go (.inr ⟨by omega, .inl ⟨rfl, hy hc.symm⟩⟩)
    | false => exact L6_go (.inr ⟨by omega, .inr ⟨by simp, hn hc.symm⟩⟩)
  | n + 1, j, c, hj, hc => by
    have hjb : j < b.length := by omega
    rw [drop_cons' hjb, List.any_cons] at hc
    cases c with
    | true =>
      refine L6_go (.inl ⟨by omega, .inl ⟨rfl, ?_⟩⟩)
      rw [s64i (by omega) (by omega)]
      exact has_loop hw hb hi hL hy hn n (j + 1) true (by omega) (by simpa using hc)
    | false =>
      refine L6_go (.inl ⟨by omega, .inr ⟨by simp, by omega, _, _, rfl, by omega, by omega, _, ref_has_go (hw _ (getD_mem hjb)) hL, ?_⟩⟩)
      rw [s64i (by omega) (by omega)]
      refine has_loop hw hb hi hL hy hn n (j + 1) _ (by omega) ?_
      rw [Bool.false_or] at hc
      exact hc
theorem pts_loop {k : Nat} {b : List Pf} {L : List Int} (hw : WfP b) (hb : b.length < 100) (hL : ∀ x ∈ L, Ad32 x) (hl : L.length < 1000) {f t : Int} : ∀ (n i : Nat), i + n = L.length → L3 k b L (i : Int) f t ((L.drop i).all (okB f t b))
  | 0, i, hn => L3_go (.inr ⟨by omega, by rw [List.drop_eq_nil_of_le (by omega)]; rfl⟩)
  | n + 1, i, hn => by
    have hi : i < L.length := by omega
    have ih := pts_loop (k := k) hw hb hL hl (f := f) (t := t) n (i + 1) (by omega)
    have hx : Ad32 (L.getD i 0) := hL _ (by rw [List.getD_eq_getElem?_getD, List.getElem?_eq_getElem hi]; exact List.getElem_mem hi)
    rw [drop_cons_getD L i hi, List.all_cons]
    refine L3_go (.inl ⟨by omega, by omega, ?_⟩)
    rw [Int.toNat_natCast, s64i (by omega) (by omega)]
    have e : ((i : Int) + 1) = ((i + 1 : Nat) : Int) := by omega
    by_cases h1 : L.getD i 0 < f
    · refine .inl ⟨h1, ?_⟩
      rw [show okB f t b (L.getD i 0) = true by unfold okB; rw [decide_eq_true h1]; rfl, Bool.true_and]
      exact ih
    · refine .inr ⟨h1, ?_⟩
      by_cases h2 : t < L.getD i 0
      · refine .inl ⟨h2, ?_⟩
        rw [show okB f t b (L.getD i 0) = true by unfold okB; rw [decide_eq_true h2, Bool.or_true]; rfl, Bool.true_and]
        exact ih
      · refine .inr ⟨h2, ?_⟩
        rw [show okB f t b (L.getD i 0) = covS b (L.getD i 0) by unfold okB; rw [decide_eq_false h1, decide_eq_false h2]; rfl]
        refine has_loop hw hb hi hx (fun h => ?_) (fun h => by rw [h]; rfl) b.length 0 false (by omega) rfl
        rw [h, Bool.true_and, s64i (by omega) (by omega)]
        exact ih
theorem begin_loop {b : List Pf} (hw : WfP b) (hb : b.length < 100) {f t : Int} : ∀ (n i k : Nat) (L : List Int), i + n = b.length → (∀ x ∈ L, Ad32 x) → L.length + 2 * n < 1000 → L0 k b L (i : Int) f t ((L ++ (b.drop i).flatMap pts).all (okB f t b))
  | 0, i, k, L, hn, hL, hl => by
    refine L0_go (.inr ⟨by omega, ?_⟩)
    rw [List.drop_eq_nil_of_le (by omega), List.flatMap_nil, List.append_nil]
    exact pts_loop hw hb hL (by omega) L.length 0 (by omega)
  | n + 1, i, k, L, hn, hL, hl => by
    have hi : i < b.length := by omega
    have hq := hw _ (getD_mem hi)
    refine L0_go (.inl ⟨by omega, by omega, (b.getD i (0, 0)).1, (b.getD i (0, 0)).2, rfl, _, ref_may_go hq, ?_⟩)
    rw [Int.toNat_natCast, s64i (n := (i : Int) + 1) (by omega) (by omega), drop_cons' hi, List.flatMap_cons]
    cases hm : mayB (b.getD i (0, 0)).1 (b.getD i (0, 0)).2 with
    | false =>
      refine .inr ⟨by simp, ?_⟩
      rw [show pts (b.getD i (0, 0)) = [] by unfold pts; rw [if_neg (by rw [hm]; simp)], List.nil_append]
      exact begin_loop hw hb n (i + 1) k L (by omega) hL (by omega)
    | true =>
      obtain ⟨h0, h1, h2, h3⟩ := may_le hq hm
      have hp := sz_pos (b.getD i (0, 0)).2
      refine .inl ⟨rfl, (b.getD i (0, 0)).1, (b.getD i (0, 0)).2, rfl, _, _, ref_range_go hq hm, by omega, _, rfl, ?_⟩
      have hL1 : ∀ x ∈ L ++ [(b.getD i (0, 0)).1], Ad32 x := fun x hx => by
        rcases List.mem_append.1 hx with h | h
        · exact hL x h
        · rw [List.mem_singleton.1 h]; exact hq
      by_cases he : (b.getD i (0, 0)).1 + (sz (b.getD i (0, 0)).2 : Int) - 1 = 4294967295
      · refine .inl ⟨he, ?_⟩
        rw [show pts (b.getD i (0, 0)) = [(b.getD i (0, 0)).1] by unfold pts; rw [if_pos hm, if_pos he]; rfl, ← List.append_assoc]
        exact begin_loop hw hb n (i + 1) 1 _ (by omega) hL1 (by rw [List.length_append]; simp; omega)
      · have hw32 : IntKind.wrap .u32 ((b.getD i (0, 0)).1 + (sz (b.getD i (0, 0)).2 : Int) - 1 + 1) = (b.getD i (0, 0)).1 + (sz (b.getD i (0, 0)).2 : Int) := by
          have := hq.1
          rw [wu32 (by omega) (by omega)]; omega
        refine .inr ⟨he, by rw [List.length_append]; simp; omega, _, rfl, ?_⟩
        rw [hw32, show pts (b.getD i (0, 0)) = [(b.getD i (0, 0)).1] ++ [(b.getD i (0, 0)).1 + (sz (b.getD i (0, 0)).2 : Int)] by unfold pts; rw [if_pos hm, if_neg he], ← List.append_assoc, ← List.append_assoc]
        refine begin_loop hw hb n (i + 1) 2 _ (by omega) (fun x hx => ?_) (by rw [List.length_append, List.length_append]; simp; omega)
        rcases List.mem_append.1 hx with h | h
        · exact hL1 x h
        · rw [List.mem_singleton.1 h]
          have := hq.1
          exact ⟨by omega, by omega⟩
theorem begins {a l : Int} {b : List Pf} (ha : Ad32 a) (hm : mayB a l = true) : ([a] ++ b.flatMap pts).all (okB a (a + (sz l : Int) - 1) b) = covD a l b := by
  obtain ⟨h0, h1, h2, h3⟩ := may_le ha hm
  have hp := sz_pos l
  have key : ([a] ++ b.flatMap pts).all (okB a (a + (sz l : Int) - 1) b) = true ↔ covP a l b := by
    rw [List.all_eq_true]
    constructor
    · intro H _
      have step : ∀ (n : Nat) (x : Int), x = a + (n : Int) → x < a + (sz l : Int) → covS b x = true := by
        intro n
        induction n with
        | zero =>
          intro x hx hx2
          have := H a (by simp)
          unfold okB at this
          rw [decide_eq_false (by omega), decide_eq_false (by omega)] at this
          rw [hx]; simpa using this
        | succ n ih =>
          intro x hx hx2
          obtain ⟨q, hq, hh⟩ := List.any_eq_true.1 (ih (x - 1) (by omega) (by omega))
          obtain ⟨hqm, h4, h5⟩ := has_iff.1 hh
          by_cases hx3 : x < q.1 + (sz q.2 : Int)
          · exact List.any_eq_true.2 ⟨q, hq, has_iff.2 ⟨hqm, by omega, hx3⟩⟩
          · have e : x = q.1 + (sz q.2 : Int) := by omega
            have := H x (List.mem_append.2 (.inr (List.mem_flatMap.2 ⟨q, hq, by
              unfold pts
              rw [if_pos hqm, if_neg (by omega)]
              simp [e]⟩)))
            unfold okB at this
            rw [decide_eq_false (by omega), decide_eq_false (by omega)] at this
            simpa using this
      intro x hx1 hx2
      exact step (x - a).toNat x (by omega) hx2
    · intro H x _
      unfold okB
      by_cases h4 : x < a
      · rw [decide_eq_true h4]; rfl
      · by_cases h5 : a + (sz l : Int) - 1 < x
        · rw [decide_eq_true h5, Bool.or_true]; rfl
        · rw [H hm x (by omega) (by omega)]; simp
  cases h : ([a] ++ b.flatMap pts).all (okB a (a + (sz l : Int) - 1) b) with
  | true => exact (covD_t (key.1 h)).symm
  | false =>
    refine (covD_f fun hc => ?_).symm
    rw [key.2 hc] at h
    cases h
theorem refcov_go {a l : Int} {b : List Pf} (ha : Ad32 a) (hw : WfP b) (hb : b.length < 100) : ref44_Covered_R a l b (covD a l b) := by
  refine ref44_Covered_go ⟨_, ref_may_go ha, ?_⟩
  cases hm : mayB a l with
  | false => exact .inr ⟨by simp, covD_t fun h => by rw [hm] at h; cases h⟩
  | true =>
    refine .inl ⟨rfl, _, _, ref_range_go ha hm, ?_⟩
    rw [← begins ha hm]
    exact begin_loop hw hb b.length 0 0 [a] (by omega) (fun x hx => by rw [List.mem_singleton.1 hx]; exact ha) (by simp; omega)
theorem law_LintCovers (a l : Int) (b : List Pf) (ha : Ad32 a) (hl : -9000000000000000000 ≤ l ∨ l < 0) (hw : WfP b) (h64 : b.length < 9223372036854775808) : law44_LintCovers_R a l b true := by
  have e : (mn (b.length : Int) 12).toNat = min b.length 12 := by unfold mn; split <;> omega
  have hlen : (b.take (min b.length 12)).length ≤ 12 := by rw [List.length_take]; omega
  have hw' : WfP (b.take (min b.length 12)) := fun q hq => hw q (List.mem_of_mem_take hq)
  refine law44_LintCovers_go ⟨by unfold mn; split <;> omega, by unfold mn; split <;> omega, ?_⟩
  rw [e]
  have hc1 : lint_Covered_R a l (b.take (min b.length 12)) (covD a l (b.take (min b.length 12))) := by
    by_cases h0 : 0 ≤ l
    · exact covered_go (32 - l).toNat a l _ (Nat.le_refl _) ha (by omega) hw' (by omega)
    · refine lint_Covered_go ⟨_, addr_may_go ha, ?_⟩
      have hm : mayB a l = false := by unfold mayB; rw [decide_eq_false (fun h => h0 h.1)]
      rw [hm]
      exact .inr ⟨by simp, covD_t fun h => by rw [hm] at h; cases h⟩
  refine ⟨by omega, _, rfl, by omega, _, rfl, _, hc1, _, refcov_go ha hw' (by omega), ?_⟩
  cases covD a l (b.take (min b.length 12)) with
  | true => exact .inl ⟨rfl, .inl ⟨rfl, _, law44_works_is, rfl⟩⟩
  | false => exact .inr ⟨by simp, .inr ⟨by simp, _, law44_works_is, rfl⟩⟩
end Go.Proofs.YtjcdkemnflmfiaaGreatA
