-- PRINTED BY print.sh 35421559b90ae4d0a3588c463048766b98c2df88dd9212a6774a882060cdf62d: not written by this session
import Derived.Test.YthcgncopgbcjcaaProg
import Derived.Below
import Derived.Deep.Draws
import Derived.Deep.AppendLies
import Derived.Maps.AppendAt
import Derived.OwnWalk
import Derived.Laws.BytesArg
import Derived.Laws.MakeOwn
import Derived.Laws.OwnMore
import Derived.Deep.OwnRows
import Derived.Tactics
import Derived.Lib.ConvBytes
import Derived.Laws.Slices
import Derived.WalkKit
import Derived.KernelRfl
import Derived.RowKit3
import Derived.Deep.LoopGhost
import Derived.Deep.QuietTactic
import Derived.BigQuiet
import Derived.WideLaws
import Derived.Deep.DeepCutAuto
import Derived.Deep.CutBlock
import Derived.Deep.RegionHeld3
import Derived.Laws.Rows
import Derived.Lib.AppendStr
import Derived.ArgAppend
import Derived.Laws.IdiomCopy
import Derived.OrdersHeld
import Derived.Laws.BitsLemmas
import Derived.RowKit
import Derived.Test.YthcgncopgbcjcaaWWords
import Derived.Test.YthcgncopgbcjcaaWLast
import Derived.Test.YthcgncopgbcjcaaWTab
import Derived.Test.YthcgncopgbcjcaaWFour
import Derived.Test.YthcgncopgbcjcaaWQPut
import Derived.Test.YthcgncopgbcjcaaWApart
import Derived.Test.YthcgncopgbcjcaaWArr
import Derived.Test.YthcgncopgbcjcaaWZeros
import Derived.Test.YthcgncopgbcjcaaWFoot
import Derived.Test.YthcgncopgbcjcaaWKept
import Derived.Test.YthcgncopgbcjcaaWShare
import Derived.Test.YthcgncopgbcjcaaWN
import Derived.Test.YthcgncopgbcjcaaWFootNe
import Derived.Test.YthcgncopgbcjcaaWAt
import Derived.Test.YthcgncopgbcjcaaWEqStruct
import Derived.Test.YthcgncopgbcjcaaWRepsOne
import Derived.Test.YthcgncopgbcjcaaWInv
import Derived.Test.YthcgncopgbcjcaaWInvWords
import Derived.Test.YthcgncopgbcjcaaWGuard
import Derived.Test.YthcgncopgbcjcaaWNEv
import Derived.Test.YthcgncopgbcjcaaWMore
namespace Go.Proofs.Ythcgncopgbcjcaa.PLimbBack
open Go.RowKit Go.Proofs.YthcgncopgbcjcaaW.PrintWords Go.Proofs.YthcgncopgbcjcaaW.PrintLast Go.Proofs.YthcgncopgbcjcaaW.PrintMore
attribute [local go_sem] max2_int min2_int max_two min_two max_three min_three max_four min_four   -- for this text's walks alone
set_option linter.unusedVariables false
set_option linter.unusedSimpArgs false



def errW : Option Int → Value
  | none => .nilIface
  | some c => .iface 0 (.int .i64 c)
theorem errW_none : errW none = .nilIface := rfl
theorem errW_some (c : Int) : errW (some c) = .iface 0 (.int .i64 c) := rfl

-- the values' own types

end Go.Proofs.Ythcgncopgbcjcaa.PLimbBack
