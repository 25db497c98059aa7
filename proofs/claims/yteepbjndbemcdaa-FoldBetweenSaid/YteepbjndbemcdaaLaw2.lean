/- What a law's function is handed: rows of weights. -/
import Derived.Test.YteepbjndbemcdaaLaw1
import Derived.Test.YteepbjndbemcdaaP19
set_option linter.unusedVariables false
namespace Go.Proofs.YteepbjndbemcdaaA
open Go Go.Proofs
theorem ty_w64 {P : Program} {n : Nat} {t e : TypeId} {d : D} (ht : P.underlying t = some (.slice e)) (he : P.underlying e = some (.int .i64)) (h : TyD P (n + 1) t d) : ∃ xs, d = .ints .i64 xs ∧ W64 xs := by
  obtain ⟨xs, rfl, _, hx⟩ := ty_ints ht he h
  exact ⟨xs, rfl, fun x hx' => wf_i64 (hx x hx')⟩
end Go.Proofs.YteepbjndbemcdaaA
