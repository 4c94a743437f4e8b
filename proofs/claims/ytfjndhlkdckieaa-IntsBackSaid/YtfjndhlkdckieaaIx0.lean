-- Written by a program: the kit's printer with changes of this session (NOTES.md).
import Derived.Test.YtfjndhlkdckieaaProg
import Derived.Below
import Derived.Deep.Draws
import Derived.Deep.AppendLies
import Derived.Maps.AppendAt
import Derived.OwnWalk
import Derived.Laws.BytesArg
import Derived.Laws.MakeOwn
import Derived.Laws.OwnMore
import Derived.Deep.OwnRows
import Derived.Tactics
import Derived.Lib.ConvBytes
import Derived.Laws.Slices
import Derived.WalkKit
import Derived.KernelRfl
import Derived.RowKit3
import Derived.Deep.LoopGhost
import Derived.Deep.QuietTactic
import Derived.BigQuiet
import Derived.WideLaws
import Derived.Deep.DeepCutAuto
import Derived.Deep.CutBlock
import Derived.Deep.RegionHeld3
import Derived.Laws.Rows
import Derived.Lib.AppendStr
import Derived.ArgAppend
import Derived.Laws.IdiomCopy
import Derived.OrdersHeld
import Derived.Laws.BitsLemmas
import Derived.RowKit
import Derived.Test.YtfjndhlkdckieaaWWords
import Derived.Test.YtfjndhlkdckieaaWLast
import Derived.Test.YtfjndhlkdckieaaWTab
import Derived.Test.YtfjndhlkdckieaaWFour
import Derived.Test.YtfjndhlkdckieaaWQPut
import Derived.Test.YtfjndhlkdckieaaWApart
import Derived.Test.YtfjndhlkdckieaaWArr
import Derived.Test.YtfjndhlkdckieaaWZeros
import Derived.Test.YtfjndhlkdckieaaWFoot
import Derived.Test.YtfjndhlkdckieaaWKept
import Derived.Test.YtfjndhlkdckieaaWShare
import Derived.Test.YtfjndhlkdckieaaWN
import Derived.Test.YtfjndhlkdckieaaWFootNe
import Derived.Test.YtfjndhlkdckieaaWAt
import Derived.Test.YtfjndhlkdckieaaWEqStruct
import Derived.Test.YtfjndhlkdckieaaWRepsOne
import Derived.Test.YtfjndhlkdckieaaWInv
import Derived.Test.YtfjndhlkdckieaaWInvWords
import Derived.Test.YtfjndhlkdckieaaWGuard
import Derived.Test.YtfjndhlkdckieaaWNEv
import Derived.Test.YtfjndhlkdckieaaWMore
namespace Go.Proofs.Ytfjndhlkdckieaa.I
open Go.RowKit Go.Proofs.YtfjndhlkdckieaaW.PrintWords Go.Proofs.YtfjndhlkdckieaaW.PrintLast Go.Proofs.YtfjndhlkdckieaaW.PrintMore
attribute [local go_sem] max2_int min2_int max_two min_two max_three min_three max_four min_four   -- for this text's walks alone
set_option linter.unusedVariables false
set_option linter.unusedSimpArgs false



def errW : Option Int → Value
  | none => .nilIface
  | some c => .iface 0 (.int .i64 c)
theorem errW_none : errW none = .nilIface := rfl
theorem errW_some (c : Int) : errW (some c) = .iface 0 (.int .i64 c) := rfl

theorem info5 : (Try.prog.info? 5).map (fun i => (i.zero, i.size, i.bytes)) = some (some (.int .u8 0), 1, 1) := by kernel_rfl
theorem info23 : (Try.prog.info? 23).map (fun i => (i.zero, i.size, i.bytes)) = some (some (.int .u64 0), 1, 8) := by kernel_rfl
-- the values' own types

end Go.Proofs.Ytfjndhlkdckieaa.I
