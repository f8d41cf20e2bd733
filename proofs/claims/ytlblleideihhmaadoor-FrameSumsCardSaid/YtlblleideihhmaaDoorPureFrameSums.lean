/- FrameSums: any bytes, any sum ahead of them: the program's sums are the document's. -/
import Derived.Test.YtlblleideihhmaaDoorCrcLaw
namespace Go.Proofs.YtlblleideihhmaaDoor.Pure
open Go Go.RowKit Go.Proofs.YtlblleideihhmaaDoor.Crc Go.Proofs.YtlblleideihhmaaDoor.CrcLaw Go.Proofs.YtlblleideihhmaaDoor.Num Go.Proofs.YtlblleideihhmaaDoorW.PrintWords Go.Proofs.YtlblleideihhmaaDoorW.PrintLast Go.Proofs.YtlblleideihhmaaDoor.PB

theorem u32_bd {a : Int} (h : (Lit.int .u32 a).wf = true) : 0 ≤ a ∧ a < 4294967296 := by
  simp [Lit.wf, IntKind.min, IntKind.max, IntKind.bits, IntKind.signed] at h
  omega
theorem FrameSums : larderlaw01_FrameSums.Pure := by
  intro p a _ hl hb ha
  have hb := bytes_of_wf hb
  obtain ⟨c, rfl⟩ := I_mk (u32_bd ha).1 (u32_bd ha).2
  refine ⟨10 * p.length + 20, ?_⟩
  unfold larderlaw01_FrameSums.f
  have e1 : larderref01_Lent.f p = some p := by unfold larderref01_Lent.f; rw [if_pos (by omega)]
  rw [e1, Option.bind_some, crc_ok _ p hb (by omega) (by omega), Option.bind_some, crcOn_ok _ p hb (by omega) (by omega) c, Option.bind_some, refCrc_ok _ p hb (by omega) (by omega), Option.bind_some, if_pos rfl,
    refCrcOn_ok _ p hb (by omega) (by omega) c, Option.bind_some, if_pos rfl]
  unfold larderref01_Kept.f
  rw [if_pos rfl]
  rfl
end Go.Proofs.YtlblleideihhmaaDoor.Pure
