-- Written by a program of this session (wip/cprint.py), which calls the kit's print and adds contracts proved by hand.
import Derived.Test.YtfhbeghmlfjfjaaProg
import Derived.Below
import Derived.Deep.Draws
import Derived.Deep.AppendLies
import Derived.Maps.AppendAt
import Derived.OwnWalk
import Derived.Laws.BytesArg
import Derived.Laws.MakeOwn
import Derived.Laws.OwnMore
import Derived.Deep.OwnRows
import Derived.Tactics
import Derived.Lib.ConvBytes
import Derived.Laws.Slices
import Derived.WalkKit
import Derived.KernelRfl
import Derived.RowKit3
import Derived.Deep.LoopGhost
import Derived.Deep.QuietTactic
import Derived.BigQuiet
import Derived.WideLaws
import Derived.Deep.DeepCutAuto
import Derived.Deep.CutBlock
import Derived.Deep.RegionHeld3
import Derived.Laws.Rows
import Derived.Lib.AppendStr
import Derived.ArgAppend
import Derived.Laws.IdiomCopy
import Derived.OrdersHeld
import Derived.Laws.BitsLemmas
import Derived.RowKit
import Derived.Lib.SliceRun
import Derived.WalkMore
import Derived.Test.YtfhbeghmlfjfjaaWWords
import Derived.Test.YtfhbeghmlfjfjaaWLast
import Derived.Test.YtfhbeghmlfjfjaaWTab
import Derived.Test.YtfhbeghmlfjfjaaWFour
import Derived.Test.YtfhbeghmlfjfjaaWQPut
import Derived.Test.YtfhbeghmlfjfjaaWApart
import Derived.Test.YtfhbeghmlfjfjaaWArr
import Derived.Test.YtfhbeghmlfjfjaaWZeros
import Derived.Test.YtfhbeghmlfjfjaaWFoot
import Derived.Test.YtfhbeghmlfjfjaaWKept
import Derived.Test.YtfhbeghmlfjfjaaWShare
import Derived.Test.YtfhbeghmlfjfjaaWN
import Derived.Test.YtfhbeghmlfjfjaaWFootNe
import Derived.Test.YtfhbeghmlfjfjaaWAt
import Derived.Test.YtfhbeghmlfjfjaaWEqStruct
import Derived.Test.YtfhbeghmlfjfjaaWRepsOne
import Derived.Test.YtfhbeghmlfjfjaaWInv
import Derived.Test.YtfhbeghmlfjfjaaWInvWords
import Derived.Test.YtfhbeghmlfjfjaaWGuard
import Derived.Test.YtfhbeghmlfjfjaaWNEv
import Derived.Test.YtfhbeghmlfjfjaaWMore
namespace Go.Proofs.Ytfhbeghmlfjfjaa.Print
open Go.RowKit Go.Proofs.YtfhbeghmlfjfjaaW.PrintWords Go.Proofs.YtfhbeghmlfjfjaaW.PrintLast Go.Proofs.YtfhbeghmlfjfjaaW.PrintMore
attribute [local go_sem] max2_int min2_int max_two min_two max_three min_three max_four min_four   -- for this text's walks alone
set_option linter.unusedVariables false
set_option linter.unusedSimpArgs false



def errW : Option Int → Value
  | none => .nilIface
  | some c => .iface 0 (.int .i64 c)
theorem errW_none : errW none = .nilIface := rfl
theorem errW_some (c : Int) : errW (some c) = .iface 0 (.int .i64 c) := rfl

theorem info5 : (Try.prog.info? 5).map (fun i => (i.zero, i.size, i.bytes)) = some (some (.int .u8 0), 1, 1) := by kernel_rfl
-- the values' own types

end Go.Proofs.Ytfhbeghmlfjfjaa.Print
