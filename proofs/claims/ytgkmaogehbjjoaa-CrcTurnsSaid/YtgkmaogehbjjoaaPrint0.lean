-- Written by a program of this session (wip/cprint.py), which calls the kit's print and adds contracts proved by hand.
import Derived.Test.YtgkmaogehbjjoaaProg
import Derived.Below
import Derived.Deep.Draws
import Derived.Deep.AppendLies
import Derived.Maps.AppendAt
import Derived.OwnWalk
import Derived.Laws.BytesArg
import Derived.Laws.MakeOwn
import Derived.Laws.OwnMore
import Derived.Deep.OwnRows
import Derived.Tactics
import Derived.Lib.ConvBytes
import Derived.Laws.Slices
import Derived.WalkKit
import Derived.KernelRfl
import Derived.RowKit3
import Derived.Deep.LoopGhost
import Derived.Deep.QuietTactic
import Derived.BigQuiet
import Derived.WideLaws
import Derived.Deep.DeepCutAuto
import Derived.Deep.CutBlock
import Derived.Deep.RegionHeld3
import Derived.Laws.Rows
import Derived.Lib.AppendStr
import Derived.ArgAppend
import Derived.Laws.IdiomCopy
import Derived.OrdersHeld
import Derived.Laws.BitsLemmas
import Derived.RowKit
import Derived.Lib.SliceRun
import Derived.Lib.SlBytesConst
import Derived.WalkMore
import Derived.WalkLawsBesides
import Derived.Laws.Externs
import Derived.Lib.BytesEntry
import Derived.Test.YtgkmaogehbjjoaaHandWords
import Derived.Test.YtgkmaogehbjjoaaRowTools
import Derived.Test.YtgkmaogehbjjoaaWWords
import Derived.Test.YtgkmaogehbjjoaaWLast
import Derived.Test.YtgkmaogehbjjoaaWTab
import Derived.Test.YtgkmaogehbjjoaaWFour
import Derived.Test.YtgkmaogehbjjoaaWQPut
import Derived.Test.YtgkmaogehbjjoaaWApart
import Derived.Test.YtgkmaogehbjjoaaWArr
import Derived.Test.YtgkmaogehbjjoaaWZeros
import Derived.Test.YtgkmaogehbjjoaaWFoot
import Derived.Test.YtgkmaogehbjjoaaWKept
import Derived.Test.YtgkmaogehbjjoaaWShare
import Derived.Test.YtgkmaogehbjjoaaWN
import Derived.Test.YtgkmaogehbjjoaaWFootNe
import Derived.Test.YtgkmaogehbjjoaaWAt
import Derived.Test.YtgkmaogehbjjoaaWEqStruct
import Derived.Test.YtgkmaogehbjjoaaWRepsOne
import Derived.Test.YtgkmaogehbjjoaaWInv
import Derived.Test.YtgkmaogehbjjoaaWInvWords
import Derived.Test.YtgkmaogehbjjoaaWGuard
import Derived.Test.YtgkmaogehbjjoaaWNEv
import Derived.Test.YtgkmaogehbjjoaaWMore
namespace Go.Proofs.Ytgkmaogehbjjoaa.Print
open Go.RowKit Go.Proofs.YtgkmaogehbjjoaaW.PrintWords Go.Proofs.YtgkmaogehbjjoaaW.PrintLast Go.Proofs.YtgkmaogehbjjoaaW.PrintMore
attribute [local go_sem] max2_int min2_int max_two min_two max_three min_three max_four min_four   -- for this text's walks alone
set_option linter.unusedVariables false
set_option linter.unusedSimpArgs false



def errW : Option Int → Value
  | none => .nilIface
  | some c => .iface 0 (.int .i64 c)
theorem errW_none : errW none = .nilIface := rfl
theorem errW_some (c : Int) : errW (some c) = .iface 0 (.int .i64 c) := rfl

theorem info5 : (Try.prog.info? 5).map (fun i => (i.zero, i.size, i.bytes)) = some (some (.int .u8 0), 1, 1) := by kernel_rfl
-- the values' own types

end Go.Proofs.Ytgkmaogehbjjoaa.Print
