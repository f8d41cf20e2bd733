/- FrameUnseals: any bytes: what the program's Unseal answers is what the document's does. -/
import Derived.Test.YtlblleideihhmaaDoorPBx1
import Derived.Test.YtlblleideihhmaaDoorPBx10
import Derived.Test.YtlblleideihhmaaDoorUnLaw
namespace Go.Proofs.YtlblleideihhmaaDoor.Pure
open Go Go.RowKit Go.Proofs.YtlblleideihhmaaDoor.Crc Go.Proofs.YtlblleideihhmaaDoor.CrcLaw Go.Proofs.YtlblleideihhmaaDoor.SealLaw Go.Proofs.YtlblleideihhmaaDoor.FrMore Go.Proofs.YtlblleideihhmaaDoor.UnLaw Go.Proofs.YtlblleideihhmaaDoor.Num Go.Proofs.YtlblleideihhmaaDoorW.PrintWords Go.Proofs.YtlblleideihhmaaDoorW.PrintLast Go.Proofs.YtlblleideihhmaaDoor.PB

theorem FrameUnseals : larderlaw01_FrameUnseals.Pure := by
  intro b _ hl hb
  have hb := bytes_of_wf hb
  refine ⟨10 * b.length + 100, ?_⟩
  unfold larderlaw01_FrameUnseals.f
  have e1 : larderref01_Lent.f b = some b := by unfold larderref01_Lent.f; rw [if_pos (by omega)]
  rw [e1, Option.bind_some, unseal_ok _ b hb (by omega) (by omega), Option.bind_some, refUnseal_ok _ b hb (by omega) (by omega), Option.bind_some, if_pos rfl, if_pos rfl, if_pos rfl, if_pos rfl]
  unfold larderref01_Kept.f
  rw [if_pos rfl]
  rfl
end Go.Proofs.YtlblleideihhmaaDoor.Pure
