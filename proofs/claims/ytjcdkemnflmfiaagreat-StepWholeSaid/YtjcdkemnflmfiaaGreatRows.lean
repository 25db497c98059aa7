/-
  No cell of these rows narrows 'for every input' (looked for: loops, veiled, ifaces, maps, wideKeys, modest, calm, conditions, laid).
  DERIVED. THE GIVEN ROWS OF THIS SEAT. 5 by the template 'for every input the law returns true; each argument reads behind the call as it read before'; 0 by the template 'total and deterministic' (their statements: YtjcdkemnflmfiaaGreatTotals.lean).
  GIVEN WITH THE SEED: the statements are not yours to turn. If you find one false, say at which input.
  Laid BY PROGRAM, IN A SANDBOX (cutbox-rows.mjs): the forced cells as the released guide's own fill.sh prints them over the translation 6539bb9db92a508d… (all of the seat's roots in one cut). By AI agents, Wed Nov 11 2026. No macro, syntax, notation, axiom, sorry.
-/
import Derived.Test.YtjcdkemnflmfiaaGreatChecked
import GoSem.Claim
import GoSem.ClaimJoined
import GoSem.ClaimMapViews
import Derived.JoinedTies
import Derived.KernelRfl
namespace Go.Proofs.YtjcdkemnflmfiaaGreat
/- THE CELL 'sum', in the pinned program and in every row, IS THE sha256 OF THE DUMP (.gsa) THAT YtjcdkemnflmfiaaGreatProg.lean LOADS. Nothing in Lean hashes anything: it is a label: what it is worth is what the hold of that sum in a sandbox is worth. -/
noncomputable def Tryz.pinned : Pinned := { name := "ytjcdkemnflmfiaagreat", sum := "6539bb9db92a508ddae93723444038849956225f016cfe6ca0a2866d3ebf8198", checked := Tryz.checked }
namespace Rows
def none {H : Type} : Left H := { results := [], args := [] }

/-- 'triviumlaw30.StepOf': WHATEVER THE INPUT: true; the input reads as it did. -/
def stepOfSpec : ChangeSpec := { name := "stepOf", fn := fun _ => fun
  | [d1, d2] => { results := [.lit (.bool true)], args := [d1, d2] }
  | _ => none }
def stepOfRow : OpenClaim := { program := "ytjcdkemnflmfiaagreat", sum := "6539bb9db92a508ddae93723444038849956225f016cfe6ca0a2866d3ebf8198", func := "trivium/triviumlaw30.StepOf", spec := "stepOf", unfollowed := true, recurses := true, plainKeys := false, apart := false }
def StepOfSaid : Prop := stepOfRow.holds Tryz.pinned (OpenSpec.ofChange stepOfSpec)

/-- ITS FALSE NEIGHBOUR: 'it returns false'. Refute it at one input. -/
def stepOfWrong : ChangeSpec := { name := "stepOf", fn := fun _ => fun
  | [d1, d2] => { results := [.lit (.bool false)], args := [d1, d2] }
  | _ => none }
def StepOfWrongFalsely : Prop := stepOfRow.holds Tryz.pinned (OpenSpec.ofChange stepOfWrong)

/-- 'triviumlaw30.StepGroups': WHATEVER THE INPUT: true; the input reads as it did. -/
def stepGroupsSpec : ChangeSpec := { name := "stepGroups", fn := fun _ => fun
  | [d1, d2] => { results := [.lit (.bool true)], args := [d1, d2] }
  | _ => none }
def stepGroupsRow : OpenClaim := { program := "ytjcdkemnflmfiaagreat", sum := "6539bb9db92a508ddae93723444038849956225f016cfe6ca0a2866d3ebf8198", func := "trivium/triviumlaw30.StepGroups", spec := "stepGroups", unfollowed := true, recurses := true, plainKeys := false, apart := false }
def StepGroupsSaid : Prop := stepGroupsRow.holds Tryz.pinned (OpenSpec.ofChange stepGroupsSpec)

/-- ITS FALSE NEIGHBOUR: 'it returns false'. Refute it at one input. -/
def stepGroupsWrong : ChangeSpec := { name := "stepGroups", fn := fun _ => fun
  | [d1, d2] => { results := [.lit (.bool false)], args := [d1, d2] }
  | _ => none }
def StepGroupsWrongFalsely : Prop := stepGroupsRow.holds Tryz.pinned (OpenSpec.ofChange stepGroupsWrong)

/-- 'triviumlaw30.StepWhole': WHATEVER THE INPUT: true; the input reads as it did. -/
def stepWholeSpec : ChangeSpec := { name := "stepWhole", fn := fun _ => fun
  | [d1, d2] => { results := [.lit (.bool true)], args := [d1, d2] }
  | _ => none }
def stepWholeRow : OpenClaim := { program := "ytjcdkemnflmfiaagreat", sum := "6539bb9db92a508ddae93723444038849956225f016cfe6ca0a2866d3ebf8198", func := "trivium/triviumlaw30.StepWhole", spec := "stepWhole", unfollowed := true, recurses := true, plainKeys := false, apart := false }
def StepWholeSaid : Prop := stepWholeRow.holds Tryz.pinned (OpenSpec.ofChange stepWholeSpec)

/-- ITS FALSE NEIGHBOUR: 'it returns false'. Refute it at one input. -/
def stepWholeWrong : ChangeSpec := { name := "stepWhole", fn := fun _ => fun
  | [d1, d2] => { results := [.lit (.bool false)], args := [d1, d2] }
  | _ => none }
def StepWholeWrongFalsely : Prop := stepWholeRow.holds Tryz.pinned (OpenSpec.ofChange stepWholeWrong)

/-- 'triviumlaw44.LintCovers': WHATEVER THE INPUT: true; the input reads as it did. -/
def lintCoversSpec : ChangeSpec := { name := "lintCovers", fn := fun _ => fun
  | [d1, d2] => { results := [.lit (.bool true)], args := [d1, d2] }
  | _ => none }
def lintCoversRow : OpenClaim := { program := "ytjcdkemnflmfiaagreat", sum := "6539bb9db92a508ddae93723444038849956225f016cfe6ca0a2866d3ebf8198", func := "trivium/triviumlaw44.LintCovers", spec := "lintCovers", unfollowed := true, recurses := true, plainKeys := false, apart := false }
def LintCoversSaid : Prop := lintCoversRow.holds Tryz.pinned (OpenSpec.ofChange lintCoversSpec)

/-- ITS FALSE NEIGHBOUR: 'it returns false'. Refute it at one input. -/
def lintCoversWrong : ChangeSpec := { name := "lintCovers", fn := fun _ => fun
  | [d1, d2] => { results := [.lit (.bool false)], args := [d1, d2] }
  | _ => none }
def LintCoversWrongFalsely : Prop := lintCoversRow.holds Tryz.pinned (OpenSpec.ofChange lintCoversWrong)

/-- 'triviumlaw44.LintUseless': WHATEVER THE INPUT: true; the input reads as it did. -/
def lintUselessSpec : ChangeSpec := { name := "lintUseless", fn := fun _ => fun
  | [d1, d2, d3] => { results := [.lit (.bool true)], args := [d1, d2, d3] }
  | _ => none }
def lintUselessRow : OpenClaim := { program := "ytjcdkemnflmfiaagreat", sum := "6539bb9db92a508ddae93723444038849956225f016cfe6ca0a2866d3ebf8198", func := "trivium/triviumlaw44.LintUseless", spec := "lintUseless", unfollowed := true, recurses := true, plainKeys := false, apart := false }
def LintUselessSaid : Prop := lintUselessRow.holds Tryz.pinned (OpenSpec.ofChange lintUselessSpec)

/-- ITS FALSE NEIGHBOUR: 'it returns false'. Refute it at one input. -/
def lintUselessWrong : ChangeSpec := { name := "lintUseless", fn := fun _ => fun
  | [d1, d2, d3] => { results := [.lit (.bool false)], args := [d1, d2, d3] }
  | _ => none }
def LintUselessWrongFalsely : Prop := lintUselessRow.holds Tryz.pinned (OpenSpec.ofChange lintUselessWrong)

/- THE SECOND FORM. 'bulk': how many values and letters a reading holds, each counted each time it is reached (what is shared counts as often as it is met; a slice's spare places count too). A statement '..UptoSaid' is the law's where the arguments, and the package variables that the reading takes, are together of bulk at most 1048576: NARROWER than '..Said'. Prove '..Said' where nothing that the law and all that it calls make is longer than what came in: it says more and counts as full. Else prove '..UptoSaid'. A law counts once. -/
mutual
def uptoBulk {H : Type} : DataW H → Nat
  | .lit (.string bytes) => bytes.length + 1
  | .lit _ => 1
  | .nil => 1
  | .ptr d => uptoBulk d + 1
  | .slice elems spare => uptoBulkAll elems + uptoBulkAll spare + 1
  | .agg parts => uptoBulkAll parts + 1
  | .iface _ d => uptoBulk d + 1
  | .map entries => uptoBulkEntries entries + 1
  | .held _ => 1
def uptoBulkAll {H : Type} : List (DataW H) → Nat
  | [] => 0
  | d :: r => uptoBulk d + uptoBulkAll r
def uptoBulkEntries {H : Type} : List (Lit × DataW H) → Nat
  | [] => 0
  | x :: r => uptoBulkEntry x + uptoBulkEntries r
def uptoBulkEntry {H : Type} : Lit × DataW H → Nat
  | (.string bytes, d) => bytes.length + uptoBulk d + 1
  | (_, d) => uptoBulk d + 1
 end
def uptoSmall : (H : Type) → List (DataW H) → Bool := fun _ ds => decide (uptoBulkAll ds ≤ 1048576)
def OpenSpec.upto (s : _root_.Go.ChangeSpec) : _root_.Go.OpenSpec := { _root_.Go.OpenSpec.ofChange s with cond := some uptoSmall }

/-- 'triviumlaw30.StepOf', WHERE WHAT IT READS IS OF BULK AT MOST 1048576: true; the input reads as it did. -/
def stepOfUptoRow : OpenClaim := { program := "ytjcdkemnflmfiaagreat", sum := "6539bb9db92a508ddae93723444038849956225f016cfe6ca0a2866d3ebf8198", func := "trivium/triviumlaw30.StepOf", spec := "stepOf", unfollowed := true, recurses := true, plainKeys := false, apart := false, narrowed := true }
def StepOfUptoSaid : Prop := stepOfUptoRow.holds Tryz.pinned (OpenSpec.upto stepOfSpec)

/-- 'triviumlaw30.StepGroups', WHERE WHAT IT READS IS OF BULK AT MOST 1048576: true; the input reads as it did. -/
def stepGroupsUptoRow : OpenClaim := { program := "ytjcdkemnflmfiaagreat", sum := "6539bb9db92a508ddae93723444038849956225f016cfe6ca0a2866d3ebf8198", func := "trivium/triviumlaw30.StepGroups", spec := "stepGroups", unfollowed := true, recurses := true, plainKeys := false, apart := false, narrowed := true }
def StepGroupsUptoSaid : Prop := stepGroupsUptoRow.holds Tryz.pinned (OpenSpec.upto stepGroupsSpec)

/-- 'triviumlaw30.StepWhole', WHERE WHAT IT READS IS OF BULK AT MOST 1048576: true; the input reads as it did. -/
def stepWholeUptoRow : OpenClaim := { program := "ytjcdkemnflmfiaagreat", sum := "6539bb9db92a508ddae93723444038849956225f016cfe6ca0a2866d3ebf8198", func := "trivium/triviumlaw30.StepWhole", spec := "stepWhole", unfollowed := true, recurses := true, plainKeys := false, apart := false, narrowed := true }
def StepWholeUptoSaid : Prop := stepWholeUptoRow.holds Tryz.pinned (OpenSpec.upto stepWholeSpec)

/-- 'triviumlaw44.LintCovers', WHERE WHAT IT READS IS OF BULK AT MOST 1048576: true; the input reads as it did. -/
def lintCoversUptoRow : OpenClaim := { program := "ytjcdkemnflmfiaagreat", sum := "6539bb9db92a508ddae93723444038849956225f016cfe6ca0a2866d3ebf8198", func := "trivium/triviumlaw44.LintCovers", spec := "lintCovers", unfollowed := true, recurses := true, plainKeys := false, apart := false, narrowed := true }
def LintCoversUptoSaid : Prop := lintCoversUptoRow.holds Tryz.pinned (OpenSpec.upto lintCoversSpec)

/-- 'triviumlaw44.LintUseless', WHERE WHAT IT READS IS OF BULK AT MOST 1048576: true; the input reads as it did. -/
def lintUselessUptoRow : OpenClaim := { program := "ytjcdkemnflmfiaagreat", sum := "6539bb9db92a508ddae93723444038849956225f016cfe6ca0a2866d3ebf8198", func := "trivium/triviumlaw44.LintUseless", spec := "lintUseless", unfollowed := true, recurses := true, plainKeys := false, apart := false, narrowed := true }
def LintUselessUptoSaid : Prop := lintUselessUptoRow.holds Tryz.pinned (OpenSpec.upto lintUselessSpec)

end Rows
end Go.Proofs.YtjcdkemnflmfiaaGreat
