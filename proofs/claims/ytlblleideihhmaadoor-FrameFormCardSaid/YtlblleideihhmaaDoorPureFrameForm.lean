/- FrameForm: what is read is, byte by byte, what would be written of it. -/
import Derived.Test.YtlblleideihhmaaDoorFormLaw
import Derived.Test.YtlblleideihhmaaDoorPBx8
namespace Go.Proofs.YtlblleideihhmaaDoor.Pure
open Go Go.RowKit Go.Proofs.YtlblleideihhmaaDoor.SealLaw Go.Proofs.YtlblleideihhmaaDoor.FormLaw Go.Proofs.YtlblleideihhmaaDoor.Num Go.Proofs.YtlblleideihhmaaDoorW.PrintWords Go.Proofs.YtlblleideihhmaaDoorW.PrintLast Go.Proofs.YtlblleideihhmaaDoor.PB
theorem FrameForm : larderlaw01_FrameForm.Pure := by
  intro b most _ hl hb hm
  have hb := bytes_of_wf hb
  have hm := i64_bd hm
  refine ⟨b.length + 70000, ?_⟩
  unfold larderlaw01_FrameForm.f
  rw [if_pos]
  exact ⟨lives_ok _ (by omega), uint_back _ b hb (by omega) (by omega), int_back _ b hb (by omega) (by omega), text_back _ b most hb (by omega) (by omega) hm, unseal_back _ b hb (by omega) (by omega)⟩
end Go.Proofs.YtlblleideihhmaaDoor.Pure
