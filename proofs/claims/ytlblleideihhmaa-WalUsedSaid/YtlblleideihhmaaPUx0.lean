-- Written by a program of this session (wip/pp), out of the translation.
import Derived.Test.YtlblleideihhmaaProg
import Derived.Below
import Derived.Deep.Draws
import Derived.Deep.AppendLies
import Derived.Maps.AppendAt
import Derived.OwnWalk
import Derived.Laws.BytesArg
import Derived.Laws.MakeOwn
import Derived.Laws.OwnMore
import Derived.Deep.OwnRows
import Derived.Tactics
import Derived.Lib.ConvBytes
import Derived.Laws.Slices
import Derived.WalkKit
import Derived.KernelRfl
import Derived.RowKit3
import Derived.Deep.LoopGhost
import Derived.Deep.QuietTactic
import Derived.BigQuiet
import Derived.WideLaws
import Derived.Deep.DeepCutAuto
import Derived.Deep.CutBlock
import Derived.Deep.RegionHeld3
import Derived.Laws.Rows
import Derived.Lib.AppendStr
import Derived.ArgAppend
import Derived.Laws.IdiomCopy
import Derived.OrdersHeld
import Derived.Laws.BitsLemmas
import Derived.RowKit
import Derived.Test.YtlblleideihhmaaMine
import Derived.Laws.CopyOwn
import Derived.Test.YtlblleideihhmaaWWords
import Derived.Test.YtlblleideihhmaaWLast
import Derived.Test.YtlblleideihhmaaWTab
import Derived.Test.YtlblleideihhmaaWFour
import Derived.Test.YtlblleideihhmaaWQPut
import Derived.Test.YtlblleideihhmaaWApart
import Derived.Test.YtlblleideihhmaaWArr
import Derived.Test.YtlblleideihhmaaWZeros
import Derived.Test.YtlblleideihhmaaWFoot
import Derived.Test.YtlblleideihhmaaWKept
import Derived.Test.YtlblleideihhmaaWShare
import Derived.Test.YtlblleideihhmaaWN
import Derived.Test.YtlblleideihhmaaWFootNe
import Derived.Test.YtlblleideihhmaaWAt
import Derived.Test.YtlblleideihhmaaWEqStruct
import Derived.Test.YtlblleideihhmaaWRepsOne
import Derived.Test.YtlblleideihhmaaWInv
import Derived.Test.YtlblleideihhmaaWInvWords
import Derived.Test.YtlblleideihhmaaWGuard
import Derived.Test.YtlblleideihhmaaWNEv
import Derived.Test.YtlblleideihhmaaWMore
namespace Go.Proofs.Ytlblleideihhmaa.PU
open Go.RowKit Go.Proofs.Ytlblleideihhmaa.Mine Go.Proofs.YtlblleideihhmaaW.PrintWords Go.Proofs.YtlblleideihhmaaW.PrintLast Go.Proofs.YtlblleideihhmaaW.PrintMore
attribute [local go_sem] max2_int min2_int max_two min_two max_three min_three max_four min_four   -- for this text's walks alone
set_option linter.unusedVariables false
set_option linter.unusedSimpArgs false



def errW : Option Int → Value
  | none => .nilIface
  | some c => .iface 0 (.int .i64 c)
theorem errW_none : errW none = .nilIface := rfl
theorem errW_some (c : Int) : errW (some c) = .iface 0 (.int .i64 c) := rfl

theorem info5 : (Try.prog.info? 5).map (fun i => (i.zero, i.size, i.bytes)) = some (some (.int .u8 0), 1, 1) := by kernel_rfl
-- the values' own types

end Go.Proofs.Ytlblleideihhmaa.PU
