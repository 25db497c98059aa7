/-
  No cell of these rows narrows 'for every input' (looked for: loops, veiled, ifaces, maps, wideKeys, modest, calm, conditions, laid).
  DERIVED. THE GIVEN ROWS OF THIS SEAT. 4 by the template 'for every input the law returns true; each argument reads behind the call as it read before'; 0 by the template 'total and deterministic' (their statements: YteepbjndbemcdaaGreatTotals.lean).
  GIVEN WITH THE SEED: the statements are not yours to turn. If you find one false, say at which input.
  Laid BY PROGRAM, IN A SANDBOX (cutbox-rows.mjs): the forced cells as the released guide's own fill.sh prints them over the translation d3e6c1cb361afc79… (all of the seat's roots in one cut). By AI agents, Wed Nov 11 2026. No macro, syntax, notation, axiom, sorry.
-/
import Derived.Test.YteepbjndbemcdaaGreatChecked
import GoSem.Claim
import GoSem.ClaimJoined
import GoSem.ClaimMapViews
import Derived.JoinedTies
import Derived.KernelRfl
namespace Go.Proofs.YteepbjndbemcdaaGreat
/- THE CELL 'sum', in the pinned program and in every row, IS THE sha256 OF THE DUMP (.gsa) THAT YteepbjndbemcdaaGreatProg.lean LOADS. Nothing in Lean hashes anything: it is a label: what it is worth is what the hold of that sum in a sandbox is worth. -/
noncomputable def Tryz.pinned : Pinned := { name := "yteepbjndbemcdaagreat", sum := "d3e6c1cb361afc79080c216ccfedd5726fc74df9d3037d5a504b6b5982303d62", checked := Tryz.checked }
namespace Rows
def none {H : Type} : Left H := { results := [], args := [] }

/-- 'triviumlaw29.FailChances': WHATEVER THE INPUT: true; the input reads as it did. -/
def failChancesSpec : ChangeSpec := { name := "failChances", fn := fun _ => fun
  | [d1, d2] => { results := [.lit (.bool true)], args := [d1, d2] }
  | _ => none }
def failChancesRow : OpenClaim := { program := "yteepbjndbemcdaagreat", sum := "d3e6c1cb361afc79080c216ccfedd5726fc74df9d3037d5a504b6b5982303d62", func := "trivium/triviumlaw29.FailChances", spec := "failChances", unfollowed := true, recurses := true, apart := false }
def FailChancesSaid : Prop := failChancesRow.holds Tryz.pinned (OpenSpec.ofChange failChancesSpec)

/-- ITS FALSE NEIGHBOUR: 'it returns false'. Refute it at one input. -/
def failChancesWrong : ChangeSpec := { name := "failChances", fn := fun _ => fun
  | [d1, d2] => { results := [.lit (.bool false)], args := [d1, d2] }
  | _ => none }
def FailChancesWrongFalsely : Prop := failChancesRow.holds Tryz.pinned (OpenSpec.ofChange failChancesWrong)

/-- 'triviumlaw29.FailCases': WHATEVER THE INPUT: true; the input reads as it did. -/
def failCasesSpec : ChangeSpec := { name := "failCases", fn := fun _ => fun
  | [d1, d2, d3] => { results := [.lit (.bool true)], args := [d1, d2, d3] }
  | _ => none }
def failCasesRow : OpenClaim := { program := "yteepbjndbemcdaagreat", sum := "d3e6c1cb361afc79080c216ccfedd5726fc74df9d3037d5a504b6b5982303d62", func := "trivium/triviumlaw29.FailCases", spec := "failCases", unfollowed := true, recurses := true, apart := false }
def FailCasesSaid : Prop := failCasesRow.holds Tryz.pinned (OpenSpec.ofChange failCasesSpec)

/-- ITS FALSE NEIGHBOUR: 'it returns false'. Refute it at one input. -/
def failCasesWrong : ChangeSpec := { name := "failCases", fn := fun _ => fun
  | [d1, d2, d3] => { results := [.lit (.bool false)], args := [d1, d2, d3] }
  | _ => none }
def FailCasesWrongFalsely : Prop := failCasesRow.holds Tryz.pinned (OpenSpec.ofChange failCasesWrong)

/-- 'triviumlaw10.FoldSums': WHATEVER THE INPUT: true; the input reads as it did. -/
def foldSumsSpec : ChangeSpec := { name := "foldSums", fn := fun _ => fun
  | [d1, d2] => { results := [.lit (.bool true)], args := [d1, d2] }
  | _ => none }
def foldSumsRow : OpenClaim := { program := "yteepbjndbemcdaagreat", sum := "d3e6c1cb361afc79080c216ccfedd5726fc74df9d3037d5a504b6b5982303d62", func := "trivium/triviumlaw10.FoldSums", spec := "foldSums", recurses := true, apart := false }
def FoldSumsSaid : Prop := foldSumsRow.holds Tryz.pinned (OpenSpec.ofChange foldSumsSpec)

/-- ITS FALSE NEIGHBOUR: 'it returns false'. Refute it at one input. -/
def foldSumsWrong : ChangeSpec := { name := "foldSums", fn := fun _ => fun
  | [d1, d2] => { results := [.lit (.bool false)], args := [d1, d2] }
  | _ => none }
def FoldSumsWrongFalsely : Prop := foldSumsRow.holds Tryz.pinned (OpenSpec.ofChange foldSumsWrong)

/-- 'triviumlaw10.FoldSorts': WHATEVER THE INPUT: true; the input reads as it did. -/
def foldSortsSpec : ChangeSpec := { name := "foldSorts", fn := fun _ => fun
  | [d] => { results := [.lit (.bool true)], args := [d] }
  | _ => none }
def foldSortsRow : OpenClaim := { program := "yteepbjndbemcdaagreat", sum := "d3e6c1cb361afc79080c216ccfedd5726fc74df9d3037d5a504b6b5982303d62", func := "trivium/triviumlaw10.FoldSorts", spec := "foldSorts", unfollowed := true, recurses := true, apart := false }
def FoldSortsSaid : Prop := foldSortsRow.holds Tryz.pinned (OpenSpec.ofChange foldSortsSpec)

/-- ITS FALSE NEIGHBOUR: 'it returns false'. Refute it at one input. -/
def foldSortsWrong : ChangeSpec := { name := "foldSorts", fn := fun _ => fun
  | [d] => { results := [.lit (.bool false)], args := [d] }
  | _ => none }
def FoldSortsWrongFalsely : Prop := foldSortsRow.holds Tryz.pinned (OpenSpec.ofChange foldSortsWrong)

/- THE SECOND FORM. 'bulk': how many values and letters a reading holds, each counted each time it is reached (what is shared counts as often as it is met; a slice's spare places count too). A statement '..UptoSaid' is the law's where the arguments, and the package variables that the reading takes, are together of bulk at most 1048576: NARROWER than '..Said'. Prove '..Said' where nothing that the law and all that it calls make is longer than what came in: it says more and counts as full. Else prove '..UptoSaid'. A law counts once. -/
mutual
def uptoBulk {H : Type} : DataW H → Nat
  | .lit (.string bytes) => bytes.length + 1
  | .lit _ => 1
  | .nil => 1
  | .ptr d => uptoBulk d + 1
  | .slice elems spare => uptoBulkAll elems + uptoBulkAll spare + 1
  | .agg parts => uptoBulkAll parts + 1
  | .iface _ d => uptoBulk d + 1
  | .map entries => uptoBulkEntries entries + 1
  | .held _ => 1
def uptoBulkAll {H : Type} : List (DataW H) → Nat
  | [] => 0
  | d :: r => uptoBulk d + uptoBulkAll r
def uptoBulkEntries {H : Type} : List (Lit × DataW H) → Nat
  | [] => 0
  | x :: r => uptoBulkEntry x + uptoBulkEntries r
def uptoBulkEntry {H : Type} : Lit × DataW H → Nat
  | (.string bytes, d) => bytes.length + uptoBulk d + 1
  | (_, d) => uptoBulk d + 1
 end
def uptoSmall : (H : Type) → List (DataW H) → Bool := fun _ ds => decide (uptoBulkAll ds ≤ 1048576)
def OpenSpec.upto (s : _root_.Go.ChangeSpec) : _root_.Go.OpenSpec := { _root_.Go.OpenSpec.ofChange s with cond := some uptoSmall }

/-- 'triviumlaw29.FailChances', WHERE WHAT IT READS IS OF BULK AT MOST 1048576: true; the input reads as it did. -/
def failChancesUptoRow : OpenClaim := { program := "yteepbjndbemcdaagreat", sum := "d3e6c1cb361afc79080c216ccfedd5726fc74df9d3037d5a504b6b5982303d62", func := "trivium/triviumlaw29.FailChances", spec := "failChances", unfollowed := true, recurses := true, apart := false, narrowed := true }
def FailChancesUptoSaid : Prop := failChancesUptoRow.holds Tryz.pinned (OpenSpec.upto failChancesSpec)

/-- 'triviumlaw29.FailCases', WHERE WHAT IT READS IS OF BULK AT MOST 1048576: true; the input reads as it did. -/
def failCasesUptoRow : OpenClaim := { program := "yteepbjndbemcdaagreat", sum := "d3e6c1cb361afc79080c216ccfedd5726fc74df9d3037d5a504b6b5982303d62", func := "trivium/triviumlaw29.FailCases", spec := "failCases", unfollowed := true, recurses := true, apart := false, narrowed := true }
def FailCasesUptoSaid : Prop := failCasesUptoRow.holds Tryz.pinned (OpenSpec.upto failCasesSpec)

/-- 'triviumlaw10.FoldSums', WHERE WHAT IT READS IS OF BULK AT MOST 1048576: true; the input reads as it did. -/
def foldSumsUptoRow : OpenClaim := { program := "yteepbjndbemcdaagreat", sum := "d3e6c1cb361afc79080c216ccfedd5726fc74df9d3037d5a504b6b5982303d62", func := "trivium/triviumlaw10.FoldSums", spec := "foldSums", recurses := true, apart := false, narrowed := true }
def FoldSumsUptoSaid : Prop := foldSumsUptoRow.holds Tryz.pinned (OpenSpec.upto foldSumsSpec)

/-- 'triviumlaw10.FoldSorts', WHERE WHAT IT READS IS OF BULK AT MOST 1048576: true; the input reads as it did. -/
def foldSortsUptoRow : OpenClaim := { program := "yteepbjndbemcdaagreat", sum := "d3e6c1cb361afc79080c216ccfedd5726fc74df9d3037d5a504b6b5982303d62", func := "trivium/triviumlaw10.FoldSorts", spec := "foldSorts", unfollowed := true, recurses := true, apart := false, narrowed := true }
def FoldSortsUptoSaid : Prop := foldSortsUptoRow.holds Tryz.pinned (OpenSpec.upto foldSortsSpec)

end Rows
end Go.Proofs.YteepbjndbemcdaaGreat
