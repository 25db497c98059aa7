/- What a law's function is handed: rows of fractions. -/
import Derived.Test.YtmdgdgfhgaeddaaGreatLaw0
import Derived.Test.YtmdgdgfhgaeddaaGreatP18
set_option linter.unusedVariables false
namespace Go.Proofs.YtmdgdgfhgaeddaaGreatA
open Go Go.Proofs
theorem ty_rats {P : Program} {n : Nat} {t s e : TypeId} {f0 f1 g0 g1 : Field} {d : D} (hs : P.underlying t = some (.slice s)) (ht : P.underlying s = some (.struct #[g0, g1])) (hc : P.cellsOf s = 3) (hi : P.underlying g0.type = some (.struct #[f0, f1])) (h0 : P.underlying f0.type = some .bool) (h1 : P.underlying f1.type = some (.slice e)) (hd : P.underlying g1.type = some (.slice e)) (he : P.underlying e = some (.int .u64)) (h : TyD P (n + 4) t d) :
    ∃ L : List T_api_Rat, d = .list 3 (L.map E_api_Rat) ∧ ∀ p ∈ L, RawQ p := by
  rw [TyD] at h
  simp only [hs, ht] at h
  obtain ⟨xs, rfl, hl, hx⟩ := h
  have key : ∀ xs : List D, (∀ x ∈ xs, TyD P (n + 3) s x) → ∃ L : List T_api_Rat, xs = L.map E_api_Rat ∧ ∀ p ∈ L, RawQ p := by
    intro xs
    induction xs with
    | nil => exact fun _ => ⟨[], rfl, fun m hm => by cases hm⟩
    | cons x xs ih =>
      intro hx
      obtain ⟨L, rfl, h2⟩ := ih (fun y hy => hx y (List.mem_cons_of_mem _ hy))
      obtain ⟨b, l, m, rfl, k1, k2⟩ := ty_rat ht hi h0 h1 hd he (hx x (List.mem_cons_self ..))
      refine ⟨(b, l, m) :: L, rfl, fun p hp => ?_⟩
      rcases List.mem_cons.1 hp with rfl | hp
      · exact ⟨k1, k2⟩
      · exact h2 p hp
  obtain ⟨L, rfl, h2⟩ := key xs hx
  rw [hc]
  exact ⟨L, rfl, h2⟩
end Go.Proofs.YtmdgdgfhgaeddaaGreatA
