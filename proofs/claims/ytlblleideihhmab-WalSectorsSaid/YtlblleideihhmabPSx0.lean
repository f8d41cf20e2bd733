-- Written by a program of this session (wip/pp), out of the translation.
import Derived.Test.YtlblleideihhmabProg
import Derived.Below
import Derived.Deep.Draws
import Derived.Deep.AppendLies
import Derived.Maps.AppendAt
import Derived.OwnWalk
import Derived.Laws.BytesArg
import Derived.Laws.MakeOwn
import Derived.Laws.OwnMore
import Derived.Deep.OwnRows
import Derived.Tactics
import Derived.Lib.ConvBytes
import Derived.Laws.Slices
import Derived.WalkKit
import Derived.KernelRfl
import Derived.RowKit3
import Derived.Deep.LoopGhost
import Derived.Deep.QuietTactic
import Derived.BigQuiet
import Derived.WideLaws
import Derived.Deep.DeepCutAuto
import Derived.Deep.CutBlock
import Derived.Deep.RegionHeld3
import Derived.Laws.Rows
import Derived.Lib.AppendStr
import Derived.ArgAppend
import Derived.Laws.IdiomCopy
import Derived.OrdersHeld
import Derived.Laws.BitsLemmas
import Derived.RowKit
import Derived.Test.YtlblleideihhmabMine
import Derived.Laws.CopyOwn
import Derived.Laws.CopyRow
import Derived.Test.YtlblleideihhmabWWords
import Derived.Test.YtlblleideihhmabWLast
import Derived.Test.YtlblleideihhmabWTab
import Derived.Test.YtlblleideihhmabWFour
import Derived.Test.YtlblleideihhmabWQPut
import Derived.Test.YtlblleideihhmabWApart
import Derived.Test.YtlblleideihhmabWArr
import Derived.Test.YtlblleideihhmabWZeros
import Derived.Test.YtlblleideihhmabWFoot
import Derived.Test.YtlblleideihhmabWKept
import Derived.Test.YtlblleideihhmabWShare
import Derived.Test.YtlblleideihhmabWN
import Derived.Test.YtlblleideihhmabWFootNe
import Derived.Test.YtlblleideihhmabWAt
import Derived.Test.YtlblleideihhmabWEqStruct
import Derived.Test.YtlblleideihhmabWRepsOne
import Derived.Test.YtlblleideihhmabWInv
import Derived.Test.YtlblleideihhmabWInvWords
import Derived.Test.YtlblleideihhmabWGuard
import Derived.Test.YtlblleideihhmabWNEv
import Derived.Test.YtlblleideihhmabWMore
namespace Go.Proofs.Ytlblleideihhmab.PS
open Go.RowKit Go.Proofs.Ytlblleideihhmab.Mine Go.Proofs.YtlblleideihhmabW.PrintWords Go.Proofs.YtlblleideihhmabW.PrintLast Go.Proofs.YtlblleideihhmabW.PrintMore
attribute [local go_sem] max2_int min2_int max_two min_two max_three min_three max_four min_four   -- for this text's walks alone
set_option linter.unusedVariables false
set_option linter.unusedSimpArgs false



def errW : Option Int → Value
  | none => .nilIface
  | some c => .iface 0 (.int .i64 c)
theorem errW_none : errW none = .nilIface := rfl
theorem errW_some (c : Int) : errW (some c) = .iface 0 (.int .i64 c) := rfl

theorem info5 : (Try.prog.info? 5).map (fun i => (i.zero, i.size, i.bytes)) = some (some (.int .u8 0), 1, 1) := by kernel_rfl
-- the values' own types

end Go.Proofs.Ytlblleideihhmab.PS
