/- The shadow machine, a step at a time: maps, calls of which all is told, texts. -/
import Derived.Test.YtfijdkdpcjfiaaaGreatB6
set_option linter.unusedVariables false
set_option linter.unusedSimpArgs false
namespace Go.Proofs.YtfijdkdpcjfiaaaGreatA
open Go
section
variable {κ ν : Type} [DecidableEq κ] {ek : κ → D} {ev : ν → D} {kd : TypeDesc}
abbrev mrow (ek : κ → D) (ev : ν → D) (L : List (κ × ν)) : List (D × D) := L.map fun p => (ek p.1, ev p.2)
end
section
variable {C : Cx} {F : Forget} {f base : Nat} {c : Cf} {Q : X → St → Prop} {κ ν : Type} [DecidableEq κ] {ek : κ → D} {ev : ν → D}
end
end Go.Proofs.YtfijdkdpcjfiaaaGreatA
namespace Go.Proofs.YtfijdkdpcjfiaaaGreatA
open Go Go.Proofs
theorem Ic.con {f : FuncId} {ds : List D} {e : D} (K : Nat) (h : ∀ n, icall C (run C F (n + K)) f ds = some e) : Ic C F f ds e := ⟨K, fun k hk => by
 obtain ⟨n, rfl⟩ := Nat.exists_eq_add_of_le' hk
 exact h n⟩
end Go.Proofs.YtfijdkdpcjfiaaaGreatA
