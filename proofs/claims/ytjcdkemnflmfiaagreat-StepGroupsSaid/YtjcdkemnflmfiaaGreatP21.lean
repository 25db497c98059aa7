/- Sums, products, ends and powers of fractions in rows. -/
import Derived.Test.YtjcdkemnflmfiaaGreatP18
import Derived.Test.YtjcdkemnflmfiaaGreatW8
set_option linter.unusedVariables false
set_option linter.unusedSimpArgs false
namespace Go.Proofs.YtjcdkemnflmfiaaGreatA
open Go
def sumQ (s : Rat) (qs : List Rat) : Rat := qs.foldl (· + ·) s
theorem sumQ_cons (s q : Rat) (qs : List Rat) : sumQ s (q :: qs) = sumQ (s + q) qs := rfl
theorem SZ.sum {c : Nat} : ∀ {qs : List Rat} {m : Nat} {s : Rat}, AZ c qs → SZ m s → SZ (m + qs.length * (c + 1)) (sumQ s qs)
 | [], m, s, _, hs => hs.mono (by omega)
 | q :: qs, m, s, h, hs => by
  have := SZ.sum (qs := qs) (m := m + c + 1) (fun p hp => h p (List.mem_cons_of_mem _ hp)) (hs.add2 (h q (List.mem_cons_self ..)))
  refine this.mono ?_
  rw [List.length_cons, Nat.add_mul]; omega
def Fits (qs : List Rat) : Prop := ∃ c, AZ c qs ∧ 2 + qs.length * (c + 1) ≤ 900
theorem Fits.tail {i : Nat} {qs : List Rat} (h : i < qs.length) {m : Nat} {s : Rat} {c : Nat} (hz : AZ c qs) (hs : SZ m s) (hm : m + (qs.length - i) * (c + 1) ≤ 900) : SZ 10000 s ∧ SZ 10000 (qs.getD i 0) ∧ SZ (m + c + 1) (s + qs.getD i 0) ∧ SZ (m + c + 1) (s * qs.getD i 0) ∧ m + c + 1 + (qs.length - (i + 1)) * (c + 1) ≤ 900 := by
 obtain ⟨k, hk⟩ : ∃ k, qs.length - i = k + 1 := ⟨qs.length - i - 1, by omega⟩
 have hk' : qs.length - (i + 1) = k := by omega
 rw [hk, Nat.add_mul] at hm
 have hi := hz.get h
 refine ⟨hs.mono (by omega), hi.mono (by omega), hs.add2 hi, (hs.mul2 hi).mono (by omega), ?_⟩
 rw [hk']; omega
theorem fold_Sum_S_loop {cb : Nat → Blk} {ver : Nat} {qs : List Rat} {c : Nat} (hz : AZ c qs) (hl : qs.length ≤ 1000000) {u : Bool} (d : Nat) : ∀ (i m : Nat) (s : Rat), i + d = qs.length → SZ m s → m + (qs.length - i) * (c + 1) ≤ 900 →
  fold_Sum_S_l1 cb ver ((qs.map fQ).length : Int) (i : Int) (qs.map fQ) u (ng s.num) (ab s.num) (lim s.den) (ng (sumQ s (qs.drop i)).num) (ab (sumQ s (qs.drop i)).num) (lim (sumQ s (qs.drop i)).den) (qs.map fQ) := by
 have hL : (qs.map fQ).length = qs.length := List.length_map _
 induction d with
 | zero =>
  intro i m s hi hs hm
  rw [List.drop_of_length_le (by omega)]
  exact fold_Sum_S_l1_go (.inr ⟨by omega, rfl, rfl, rfl, rfl⟩)
 | succ d ih =>
  intro i m s hi hs hm
  have h : i < qs.length := by omega
  obtain ⟨t1, t2, t3, _, t4⟩ := Fits.tail h hz hs hm
  refine fold_Sum_S_l1_go (.inl ⟨by omega, by omega, by omega, _, _, _, getD_fQ h _, _, _, _, rat_Add_is t1 t2, ?_⟩)
  rw [w_succ (by omega), drop_getD h, sumQ_cons]
  exact ih (i + 1) _ _ (by omega) t3 t4
theorem fold_Sum_S_is {qs : List Rat} (h : Fits qs) : fold_Sum_S_R (qs.map fQ) (ng (sumQ 0 qs).num) (ab (sumQ 0 qs).num) (lim (sumQ 0 qs).den) (qs.map fQ) := by
 obtain ⟨c, hz, hc⟩ := h
 have hq : qs.length ≤ qs.length * (c + 1) := Nat.le_mul_of_pos_right _ (by omega)
 have hL : (qs.map fQ).length = qs.length := List.length_map _
 refine fold_Sum_S_go fun cb ver => ⟨_, _, _, rat_Of0, ?_⟩
 rcases Nat.eq_zero_or_pos qs.length with h0 | h0
 ·have := List.length_eq_zero_iff.1 h0
  subst this
  exact fold_Sum_S_l0_go (.inr ⟨by omega, rfl, rfl, rfl, rfl⟩)
 ·obtain ⟨t1, t2, t3, _, t4⟩ := Fits.tail h0 hz SZ0 (by rw [Nat.sub_zero]; omega)
  refine fold_Sum_S_l0_go (.inl ⟨by omega, by omega, by omega, _, _, _, getD_fQ h0 _, _, _, _, rat_Add_is t1 t2, ?_⟩)
  have := fold_Sum_S_loop (cb := cb) (ver := ver) hz (by omega) (u := false) (qs.length - 1) 1 _ _ (by omega) t3 t4
  rw [s64i (n := 0 + 1) (by omega) (by omega)]
  rw [show sumQ 0 qs = sumQ (0 + qs.getD 0 0) (qs.drop 1) by rw [← sumQ_cons, ← drop_getD h0]; rfl]
  exact this
end Go.Proofs.YtjcdkemnflmfiaaGreatA
