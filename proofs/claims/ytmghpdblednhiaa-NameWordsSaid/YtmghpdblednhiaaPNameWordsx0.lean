-- Written by a program of this session (the kit's print, with additions) out of the translation. Not trusted: Lean checks it.
import Derived.Test.YtmghpdblednhiaaProg
import Derived.Below
import Derived.Deep.Draws
import Derived.Deep.AppendLies
import Derived.Maps.AppendAt
import Derived.OwnWalk
import Derived.Laws.BytesArg
import Derived.Laws.MakeOwn
import Derived.Laws.OwnMore
import Derived.Deep.OwnRows
import Derived.Tactics
import Derived.Lib.ConvBytes
import Derived.Laws.Slices
import Derived.WalkKit
import Derived.KernelRfl
import Derived.RowKit3
import Derived.Deep.LoopGhost
import Derived.Deep.QuietTactic
import Derived.BigQuiet
import Derived.WideLaws
import Derived.Deep.DeepCutAuto
import Derived.Deep.CutBlock
import Derived.Deep.RegionHeld3
import Derived.Laws.Rows
import Derived.Lib.AppendStr
import Derived.ArgAppend
import Derived.Laws.IdiomCopy
import Derived.OrdersHeld
import Derived.Laws.BitsLemmas
import Derived.RowKit
import Derived.Laws.RangeString
import Derived.Laws.RangeAny
import Derived.Lib.OthersKept
import Derived.Test.YtmghpdblednhiaaWWords
import Derived.Test.YtmghpdblednhiaaWLast
import Derived.Test.YtmghpdblednhiaaWTab
import Derived.Test.YtmghpdblednhiaaWFour
import Derived.Test.YtmghpdblednhiaaWQPut
import Derived.Test.YtmghpdblednhiaaWApart
import Derived.Test.YtmghpdblednhiaaWArr
import Derived.Test.YtmghpdblednhiaaWZeros
import Derived.Test.YtmghpdblednhiaaWFoot
import Derived.Test.YtmghpdblednhiaaWKept
import Derived.Test.YtmghpdblednhiaaWShare
import Derived.Test.YtmghpdblednhiaaWN
import Derived.Test.YtmghpdblednhiaaWFootNe
import Derived.Test.YtmghpdblednhiaaWAt
import Derived.Test.YtmghpdblednhiaaWEqStruct
import Derived.Test.YtmghpdblednhiaaWRepsOne
import Derived.Test.YtmghpdblednhiaaWInv
import Derived.Test.YtmghpdblednhiaaWInvWords
import Derived.Test.YtmghpdblednhiaaWGuard
import Derived.Test.YtmghpdblednhiaaWNEv
import Derived.Test.YtmghpdblednhiaaWMore
import Derived.Test.YtmghpdblednhiaaXWords
namespace Go.Proofs.Ytmghpdblednhiaa.PNameWords
open Go.RowKit Go.Proofs.YtmghpdblednhiaaW.PrintWords Go.Proofs.YtmghpdblednhiaaW.PrintLast Go.Proofs.YtmghpdblednhiaaW.PrintMore
attribute [local go_sem] max2_int min2_int max_two min_two max_three min_three max_four min_four   -- for this text's walks alone
set_option linter.unusedVariables false
set_option linter.unusedSimpArgs false



def errW : Option Int → Value
  | none => .nilIface
  | some c => .iface 0 (.int .i64 c)
theorem errW_none : errW none = .nilIface := rfl
theorem errW_some (c : Int) : errW (some c) = .iface 0 (.int .i64 c) := rfl

theorem info5 : (Try.prog.info? 5).map (fun i => (i.zero, i.size, i.bytes)) = some (some (.int .u8 0), 1, 1) := by kernel_rfl
theorem info9 : (Try.prog.info? 9).map (fun i => (i.zero, i.size, i.bytes)) = some (some (.string ⟨#[]⟩), 1, 16) := by kernel_rfl
-- the values' own types

end Go.Proofs.Ytmghpdblednhiaa.PNameWords
