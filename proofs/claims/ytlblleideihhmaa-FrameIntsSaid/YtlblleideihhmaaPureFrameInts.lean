/- FrameInts: any bytes, any int: what is written, what is read, what was handed in. -/
import Derived.Test.YtlblleideihhmaaNumRef
namespace Go.Proofs.Ytlblleideihhmaa.Pure
open Go Go.RowKit Go.Proofs.Ytlblleideihhmaa.Num Go.Proofs.YtlblleideihhmaaW.PrintWords Go.Proofs.YtlblleideihhmaaW.PrintLast Go.Proofs.Ytlblleideihhmaa.PA

theorem FrameInts : larderlaw01_FrameInts.Pure := by
  intro l a _ hl hb ha
  have hb := bytes_of_wf hb
  have ha := i64_bd ha
  refine ⟨3 * l.length + 20, ?_⟩
  unfold larderlaw01_FrameInts.f
  have e1 : larderref01_Lent.f l = some l := by unfold larderref01_Lent.f; rw [if_pos (by omega)]
  rw [e1]
  rw [Option.bind_some]
  rw [putInt_ok _ (by omega) l a ha.1 ha.2 (by omega)]
  rw [Option.bind_some]
  rw [refPutInt_ok _ (by omega) l a ha.1 ha.2 (by omega)]
  rw [Option.bind_some]
  rw [if_pos rfl, frame_int l hb (by omega) _ (by omega)]
  rw [Option.bind_some]
  rw [ref_int l hb (by omega) _ (by omega)]
  simp only [Option.bind_some, if_true]
  unfold larderref01_Kept.f
  rw [if_pos rfl]
  rfl
end Go.Proofs.Ytlblleideihhmaa.Pure
