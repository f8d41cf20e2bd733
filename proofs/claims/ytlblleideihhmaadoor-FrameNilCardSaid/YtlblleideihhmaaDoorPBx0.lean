-- Written by a program of this session (wip/pp), out of the translation.
import Derived.Test.YtlblleideihhmaaDoorProg
import Derived.Below
import Derived.Deep.Draws
import Derived.Deep.AppendLies
import Derived.Maps.AppendAt
import Derived.OwnWalk
import Derived.Laws.BytesArg
import Derived.Laws.MakeOwn
import Derived.Laws.OwnMore
import Derived.Deep.OwnRows
import Derived.Tactics
import Derived.Lib.ConvBytes
import Derived.Laws.Slices
import Derived.WalkKit
import Derived.KernelRfl
import Derived.RowKit3
import Derived.Deep.LoopGhost
import Derived.Deep.QuietTactic
import Derived.BigQuiet
import Derived.WideLaws
import Derived.Deep.DeepCutAuto
import Derived.Deep.CutBlock
import Derived.Deep.RegionHeld3
import Derived.Laws.Rows
import Derived.Lib.AppendStr
import Derived.ArgAppend
import Derived.Laws.IdiomCopy
import Derived.OrdersHeld
import Derived.Laws.BitsLemmas
import Derived.RowKit
import Derived.Test.YtlblleideihhmaaDoorMine
import Derived.Test.YtlblleideihhmaaDoorWWords
import Derived.Test.YtlblleideihhmaaDoorWLast
import Derived.Test.YtlblleideihhmaaDoorWTab
import Derived.Test.YtlblleideihhmaaDoorWFour
import Derived.Test.YtlblleideihhmaaDoorWQPut
import Derived.Test.YtlblleideihhmaaDoorWApart
import Derived.Test.YtlblleideihhmaaDoorWArr
import Derived.Test.YtlblleideihhmaaDoorWZeros
import Derived.Test.YtlblleideihhmaaDoorWFoot
import Derived.Test.YtlblleideihhmaaDoorWKept
import Derived.Test.YtlblleideihhmaaDoorWShare
import Derived.Test.YtlblleideihhmaaDoorWN
import Derived.Test.YtlblleideihhmaaDoorWFootNe
import Derived.Test.YtlblleideihhmaaDoorWAt
import Derived.Test.YtlblleideihhmaaDoorWEqStruct
import Derived.Test.YtlblleideihhmaaDoorWRepsOne
import Derived.Test.YtlblleideihhmaaDoorWInv
import Derived.Test.YtlblleideihhmaaDoorWInvWords
import Derived.Test.YtlblleideihhmaaDoorWGuard
import Derived.Test.YtlblleideihhmaaDoorWNEv
import Derived.Test.YtlblleideihhmaaDoorWMore
namespace Go.Proofs.YtlblleideihhmaaDoor.PB
open Go.RowKit Go.Proofs.YtlblleideihhmaaDoor.Mine Go.Proofs.YtlblleideihhmaaDoorW.PrintWords Go.Proofs.YtlblleideihhmaaDoorW.PrintLast Go.Proofs.YtlblleideihhmaaDoorW.PrintMore
attribute [local go_sem] max2_int min2_int max_two min_two max_three min_three max_four min_four   -- for this text's walks alone
set_option linter.unusedVariables false
set_option linter.unusedSimpArgs false



def errW : Option Int → Value
  | none => .nilIface
  | some c => .iface 0 (.int .i64 c)
theorem errW_none : errW none = .nilIface := rfl
theorem errW_some (c : Int) : errW (some c) = .iface 0 (.int .i64 c) := rfl

theorem info5 : (Tryd.prog.info? 5).map (fun i => (i.zero, i.size, i.bytes)) = some (some (.int .u8 0), 1, 1) := by kernel_rfl
-- the values' own types

end Go.Proofs.YtlblleideihhmaaDoor.PB
