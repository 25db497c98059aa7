/-
  No cell of these rows narrows 'for every input' (looked for: loops, veiled, ifaces, maps, wideKeys, modest, calm, conditions, laid).
  DERIVED. THE GIVEN ROWS OF THIS SEAT. 5 by the template 'for every input the law returns true; each argument reads behind the call as it read before'; 0 by the template 'total and deterministic' (their statements: YteepbjndbemcdaaTotals.lean).
  GIVEN WITH THE SEED: the statements are not yours to turn. If you find one false, say at which input.
  Laid BY PROGRAM, IN A SANDBOX (cutbox-rows.mjs): the forced cells as the released guide's own fill.sh prints them over the translation 37a3a659df15a783… (all of the seat's roots in one cut). By AI agents, Wed Nov 11 2026. No macro, syntax, notation, axiom, sorry.
-/
import Derived.Test.YteepbjndbemcdaaChecked
import GoSem.Claim
import GoSem.ClaimJoined
import GoSem.ClaimMapViews
import Derived.JoinedTies
import Derived.KernelRfl
namespace Go.Proofs.Yteepbjndbemcdaa
/- THE CELL 'sum', in the pinned program and in every row, IS THE sha256 OF THE DUMP (.gsa) THAT YteepbjndbemcdaaProg.lean LOADS. Nothing in Lean hashes anything: it is a label: what it is worth is what the hold of that sum in a sandbox is worth. -/
noncomputable def Try.pinned : Pinned := { name := "yteepbjndbemcdaa", sum := "37a3a659df15a783618264099ecc1c217502e7d044154126a1153fb7ba539f5a", checked := Try.checked }
namespace Rows
def none {H : Type} : Left H := { results := [], args := [] }

/-- 'triviumlaw29.FailWhole': WHATEVER THE INPUT: true; the input reads as it did. -/
def failWholeSpec : ChangeSpec := { name := "failWhole", fn := fun _ => fun
  | [d1, d2] => { results := [.lit (.bool true)], args := [d1, d2] }
  | _ => none }
def failWholeRow : OpenClaim := { program := "yteepbjndbemcdaa", sum := "37a3a659df15a783618264099ecc1c217502e7d044154126a1153fb7ba539f5a", func := "trivium/triviumlaw29.FailWhole", spec := "failWhole", unfollowed := true, recurses := true, apart := false }
def FailWholeSaid : Prop := failWholeRow.holds Try.pinned (OpenSpec.ofChange failWholeSpec)

/-- ITS FALSE NEIGHBOUR: 'it returns false'. Refute it at one input. -/
def failWholeWrong : ChangeSpec := { name := "failWhole", fn := fun _ => fun
  | [d1, d2] => { results := [.lit (.bool false)], args := [d1, d2] }
  | _ => none }
def FailWholeWrongFalsely : Prop := failWholeRow.holds Try.pinned (OpenSpec.ofChange failWholeWrong)

/-- 'triviumlaw10.FoldShares': WHATEVER THE INPUT: true; the input reads as it did. -/
def foldSharesSpec : ChangeSpec := { name := "foldShares", fn := fun _ => fun
  | [d1, d2] => { results := [.lit (.bool true)], args := [d1, d2] }
  | _ => none }
def foldSharesRow : OpenClaim := { program := "yteepbjndbemcdaa", sum := "37a3a659df15a783618264099ecc1c217502e7d044154126a1153fb7ba539f5a", func := "trivium/triviumlaw10.FoldShares", spec := "foldShares", recurses := true, apart := false }
def FoldSharesSaid : Prop := foldSharesRow.holds Try.pinned (OpenSpec.ofChange foldSharesSpec)

/-- ITS FALSE NEIGHBOUR: 'it returns false'. Refute it at one input. -/
def foldSharesWrong : ChangeSpec := { name := "foldShares", fn := fun _ => fun
  | [d1, d2] => { results := [.lit (.bool false)], args := [d1, d2] }
  | _ => none }
def FoldSharesWrongFalsely : Prop := foldSharesRow.holds Try.pinned (OpenSpec.ofChange foldSharesWrong)

/-- 'triviumlaw10.FoldEnds': WHATEVER THE INPUT: true; the input reads as it did. -/
def foldEndsSpec : ChangeSpec := { name := "foldEnds", fn := fun _ => fun
  | [d] => { results := [.lit (.bool true)], args := [d] }
  | _ => none }
def foldEndsRow : OpenClaim := { program := "yteepbjndbemcdaa", sum := "37a3a659df15a783618264099ecc1c217502e7d044154126a1153fb7ba539f5a", func := "trivium/triviumlaw10.FoldEnds", spec := "foldEnds", unfollowed := true, recurses := true, apart := false }
def FoldEndsSaid : Prop := foldEndsRow.holds Try.pinned (OpenSpec.ofChange foldEndsSpec)

/-- ITS FALSE NEIGHBOUR: 'it returns false'. Refute it at one input. -/
def foldEndsWrong : ChangeSpec := { name := "foldEnds", fn := fun _ => fun
  | [d] => { results := [.lit (.bool false)], args := [d] }
  | _ => none }
def FoldEndsWrongFalsely : Prop := foldEndsRow.holds Try.pinned (OpenSpec.ofChange foldEndsWrong)

/-- 'triviumlaw10.FoldPowers': WHATEVER THE INPUT: true; the input reads as it did. -/
def foldPowersSpec : ChangeSpec := { name := "foldPowers", fn := fun _ => fun
  | [d1, d2] => { results := [.lit (.bool true)], args := [d1, d2] }
  | _ => none }
def foldPowersRow : OpenClaim := { program := "yteepbjndbemcdaa", sum := "37a3a659df15a783618264099ecc1c217502e7d044154126a1153fb7ba539f5a", func := "trivium/triviumlaw10.FoldPowers", spec := "foldPowers", recurses := true, apart := false }
def FoldPowersSaid : Prop := foldPowersRow.holds Try.pinned (OpenSpec.ofChange foldPowersSpec)

/-- ITS FALSE NEIGHBOUR: 'it returns false'. Refute it at one input. -/
def foldPowersWrong : ChangeSpec := { name := "foldPowers", fn := fun _ => fun
  | [d1, d2] => { results := [.lit (.bool false)], args := [d1, d2] }
  | _ => none }
def FoldPowersWrongFalsely : Prop := foldPowersRow.holds Try.pinned (OpenSpec.ofChange foldPowersWrong)

/-- 'triviumlaw10.FoldBetween': WHATEVER THE INPUT: true; the input reads as it did. -/
def foldBetweenSpec : ChangeSpec := { name := "foldBetween", fn := fun _ => fun
  | [d1, d2] => { results := [.lit (.bool true)], args := [d1, d2] }
  | _ => none }
def foldBetweenRow : OpenClaim := { program := "yteepbjndbemcdaa", sum := "37a3a659df15a783618264099ecc1c217502e7d044154126a1153fb7ba539f5a", func := "trivium/triviumlaw10.FoldBetween", spec := "foldBetween", unfollowed := true, recurses := true, apart := false }
def FoldBetweenSaid : Prop := foldBetweenRow.holds Try.pinned (OpenSpec.ofChange foldBetweenSpec)

/-- ITS FALSE NEIGHBOUR: 'it returns false'. Refute it at one input. -/
def foldBetweenWrong : ChangeSpec := { name := "foldBetween", fn := fun _ => fun
  | [d1, d2] => { results := [.lit (.bool false)], args := [d1, d2] }
  | _ => none }
def FoldBetweenWrongFalsely : Prop := foldBetweenRow.holds Try.pinned (OpenSpec.ofChange foldBetweenWrong)

/- THE SECOND FORM. 'bulk': how many values and letters a reading holds, each counted each time it is reached (what is shared counts as often as it is met; a slice's spare places count too). A statement '..UptoSaid' is the law's where the arguments, and the package variables that the reading takes, are together of bulk at most 1048576: NARROWER than '..Said'. Prove '..Said' where nothing that the law and all that it calls make is longer than what came in: it says more and counts as full. Else prove '..UptoSaid'. A law counts once. -/
mutual
def uptoBulk {H : Type} : DataW H → Nat
  | .lit (.string bytes) => bytes.length + 1
  | .lit _ => 1
  | .nil => 1
  | .ptr d => uptoBulk d + 1
  | .slice elems spare => uptoBulkAll elems + uptoBulkAll spare + 1
  | .agg parts => uptoBulkAll parts + 1
  | .iface _ d => uptoBulk d + 1
  | .map entries => uptoBulkEntries entries + 1
  | .held _ => 1
def uptoBulkAll {H : Type} : List (DataW H) → Nat
  | [] => 0
  | d :: r => uptoBulk d + uptoBulkAll r
def uptoBulkEntries {H : Type} : List (Lit × DataW H) → Nat
  | [] => 0
  | x :: r => uptoBulkEntry x + uptoBulkEntries r
def uptoBulkEntry {H : Type} : Lit × DataW H → Nat
  | (.string bytes, d) => bytes.length + uptoBulk d + 1
  | (_, d) => uptoBulk d + 1
 end
def uptoSmall : (H : Type) → List (DataW H) → Bool := fun _ ds => decide (uptoBulkAll ds ≤ 1048576)
def OpenSpec.upto (s : _root_.Go.ChangeSpec) : _root_.Go.OpenSpec := { _root_.Go.OpenSpec.ofChange s with cond := some uptoSmall }

/-- 'triviumlaw29.FailWhole', WHERE WHAT IT READS IS OF BULK AT MOST 1048576: true; the input reads as it did. -/
def failWholeUptoRow : OpenClaim := { program := "yteepbjndbemcdaa", sum := "37a3a659df15a783618264099ecc1c217502e7d044154126a1153fb7ba539f5a", func := "trivium/triviumlaw29.FailWhole", spec := "failWhole", unfollowed := true, recurses := true, apart := false, narrowed := true }
def FailWholeUptoSaid : Prop := failWholeUptoRow.holds Try.pinned (OpenSpec.upto failWholeSpec)

/-- 'triviumlaw10.FoldShares', WHERE WHAT IT READS IS OF BULK AT MOST 1048576: true; the input reads as it did. -/
def foldSharesUptoRow : OpenClaim := { program := "yteepbjndbemcdaa", sum := "37a3a659df15a783618264099ecc1c217502e7d044154126a1153fb7ba539f5a", func := "trivium/triviumlaw10.FoldShares", spec := "foldShares", recurses := true, apart := false, narrowed := true }
def FoldSharesUptoSaid : Prop := foldSharesUptoRow.holds Try.pinned (OpenSpec.upto foldSharesSpec)

/-- 'triviumlaw10.FoldEnds', WHERE WHAT IT READS IS OF BULK AT MOST 1048576: true; the input reads as it did. -/
def foldEndsUptoRow : OpenClaim := { program := "yteepbjndbemcdaa", sum := "37a3a659df15a783618264099ecc1c217502e7d044154126a1153fb7ba539f5a", func := "trivium/triviumlaw10.FoldEnds", spec := "foldEnds", unfollowed := true, recurses := true, apart := false, narrowed := true }
def FoldEndsUptoSaid : Prop := foldEndsUptoRow.holds Try.pinned (OpenSpec.upto foldEndsSpec)

/-- 'triviumlaw10.FoldPowers', WHERE WHAT IT READS IS OF BULK AT MOST 1048576: true; the input reads as it did. -/
def foldPowersUptoRow : OpenClaim := { program := "yteepbjndbemcdaa", sum := "37a3a659df15a783618264099ecc1c217502e7d044154126a1153fb7ba539f5a", func := "trivium/triviumlaw10.FoldPowers", spec := "foldPowers", recurses := true, apart := false, narrowed := true }
def FoldPowersUptoSaid : Prop := foldPowersUptoRow.holds Try.pinned (OpenSpec.upto foldPowersSpec)

/-- 'triviumlaw10.FoldBetween', WHERE WHAT IT READS IS OF BULK AT MOST 1048576: true; the input reads as it did. -/
def foldBetweenUptoRow : OpenClaim := { program := "yteepbjndbemcdaa", sum := "37a3a659df15a783618264099ecc1c217502e7d044154126a1153fb7ba539f5a", func := "trivium/triviumlaw10.FoldBetween", spec := "foldBetween", unfollowed := true, recurses := true, apart := false, narrowed := true }
def FoldBetweenUptoSaid : Prop := foldBetweenUptoRow.holds Try.pinned (OpenSpec.upto foldBetweenSpec)

end Rows
end Go.Proofs.Yteepbjndbemcdaa
