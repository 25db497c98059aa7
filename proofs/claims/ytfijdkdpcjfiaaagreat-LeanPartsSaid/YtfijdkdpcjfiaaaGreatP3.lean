/- Natural numbers and products: what the functions answer. -/
import Derived.Test.YtfijdkdpcjfiaaaGreatP2
import Derived.Test.YtfijdkdpcjfiaaaGreatWX
set_option linter.unusedVariables false
set_option linter.unusedSimpArgs false
namespace Go.Proofs.YtfijdkdpcjfiaaaGreatA
open Go
theorem val_lt_of_top {b : Int} (hb : 0 < b) {l m : List Int} (hl : Dig b l) (hm : Dig b m) (h : l.length = m.length) (i : Nat) (hi : i < l.length) (he : val b (l.drop (i + 1)) = val b (m.drop (i + 1))) (hlt : l.getD i 0 < m.getD i 0) : val b l < val b m := by
 rw [val_take_drop b l i (by omega), val_take_drop b m i (by omega), val_drop b l i hi, val_drop b m i (by omega), he]
 have h1 := val_lt hb (hl.take i)
 rw [List.length_take, Nat.min_eq_left (by omega)] at h1
 have h2 := val_nonneg hb (hm.take i)
 have h3 : b ^ i * (l.getD i 0 + 1) ≤ b ^ i * m.getD i 0 := Int.mul_le_mul_of_nonneg_left (by omega) (Int.le_of_lt (powb_pos hb i))
 rw [Int.mul_add, Int.mul_one] at h3
 rw [Int.mul_add, Int.mul_add]
 omega
end Go.Proofs.YtfijdkdpcjfiaaaGreatA
