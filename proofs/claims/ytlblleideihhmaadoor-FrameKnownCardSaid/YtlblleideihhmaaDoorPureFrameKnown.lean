/- FrameKnown: what must come: the sum of nine digits, a number, a frame. -/
import Derived.Test.YtlblleideihhmaaDoorPBx4
namespace Go.Proofs.YtlblleideihhmaaDoor.Pure
open Go.RowKit Go.Proofs.YtlblleideihhmaaDoorW.PrintWords Go.Proofs.YtlblleideihhmaaDoorW.PrintLast Go.Proofs.YtlblleideihhmaaDoor.PB
theorem FrameKnown : larderlaw01_FrameKnown.Pure := ⟨60, by decide +kernel⟩
end Go.Proofs.YtlblleideihhmaaDoor.Pure
