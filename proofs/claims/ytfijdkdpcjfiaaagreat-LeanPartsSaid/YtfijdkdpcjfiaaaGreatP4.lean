/- Products by Karatsuba's way: what the functions answer. -/
import Derived.Test.YtfijdkdpcjfiaaaGreatP3
set_option linter.unusedVariables false
set_option linter.unusedSimpArgs false
namespace Go.Proofs.YtfijdkdpcjfiaaaGreatA
open Go
theorem lim_len_mono {x y : Nat} (h : x ≤ y) : (lim x).length ≤ (lim y).length := digs_len_mono (by omega) h
theorem lim_len_one {x : Nat} (h : x < 4294967296) : (lim x).length ≤ 1 := lim_len.2 (by rw [Nat.pow_one]; exact h)
end Go.Proofs.YtfijdkdpcjfiaaaGreatA
