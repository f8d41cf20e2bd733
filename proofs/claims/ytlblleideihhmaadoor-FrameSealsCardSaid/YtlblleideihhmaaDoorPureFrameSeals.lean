/- FrameSeals: any load: its frame, byte by byte, or none and ErrLong. -/
import Derived.Test.YtlblleideihhmaaDoorSealLaw
namespace Go.Proofs.YtlblleideihhmaaDoor.Pure
open Go Go.RowKit Go.Proofs.YtlblleideihhmaaDoor.Crc Go.Proofs.YtlblleideihhmaaDoor.CrcLaw Go.Proofs.YtlblleideihhmaaDoor.SealLaw Go.Proofs.YtlblleideihhmaaDoor.Num Go.Proofs.YtlblleideihhmaaDoorW.PrintWords Go.Proofs.YtlblleideihhmaaDoorW.PrintLast Go.Proofs.YtlblleideihhmaaDoor.PB

theorem FrameSeals : larderlaw01_FrameSeals.Pure := by
  intro p _ hl hb
  have hb := bytes_of_wf hb
  refine ⟨10 * p.length + 200, ?_⟩
  unfold larderlaw01_FrameSeals.f
  have e1 : larderref01_Lent.f p = some p := by unfold larderref01_Lent.f; rw [if_pos (by omega)]
  rw [e1, Option.bind_some]
  by_cases h : p.length ≤ 65536
  · rw [seal_ok _ p hb h (by omega), Option.bind_some, refSeal_ok _ p hb h (by omega), Option.bind_some, if_pos rfl, if_pos rfl]
    unfold larderref01_Kept.f
    rw [if_pos rfl]
    rfl
  · rw [seal_long _ p (by omega), Option.bind_some, refSeal_long _ p (by omega), Option.bind_some, if_pos rfl, if_pos rfl]
    unfold larderref01_Kept.f
    rw [if_pos rfl]
    rfl
end Go.Proofs.YtlblleideihhmaaDoor.Pure
