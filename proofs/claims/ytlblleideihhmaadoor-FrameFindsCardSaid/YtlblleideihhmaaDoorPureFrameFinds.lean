/- FrameFinds: a bit that is turned is found again, whichever; of more bytes than may be none is. -/
import Derived.Test.YtlblleideihhmaaDoorTurnLaw
import Derived.Test.YtlblleideihhmaaDoorPBx5
namespace Go.Proofs.YtlblleideihhmaaDoor.Pure
open Go Go.RowKit Go.Proofs.YtlblleideihhmaaDoor.Mine Go.Proofs.YtlblleideihhmaaDoor.Crc Go.Proofs.YtlblleideihhmaaDoor.CrcLaw Go.Proofs.YtlblleideihhmaaDoor.SealLaw Go.Proofs.YtlblleideihhmaaDoor.UnLaw Go.Proofs.YtlblleideihhmaaDoor.ErrLaw Go.Proofs.YtlblleideihhmaaDoor.TurnLaw Go.Proofs.YtlblleideihhmaaDoor.Num Go.Proofs.YtlblleideihhmaaDoorW.PrintWords Go.Proofs.YtlblleideihhmaaDoorW.PrintLast Go.Proofs.YtlblleideihhmaaDoor.PB
set_option linter.unusedVariables false
theorem FrameFinds : larderlaw01_FrameFinds.Pure := by
  intro p a _ hlp hp ha
  have hp := bytes_of_wf hp
  have ha := i64_bd ha
  refine ⟨p.length + 20, ?_⟩
  unfold larderlaw01_FrameFinds.f
  by_cases h0 : p.length = 0
  · obtain rfl := List.eq_nil_of_length_eq_zero h0
    obtain ⟨r, hr, ht⟩ := turned_ok (([] : List Int).length + 20) [] hp (by simp) (by simp) (by simp) 1#32
    rw [show I 1#32 = 1 from rfl] at hr
    rw [if_pos (by rfl), hr, Option.bind_some, ht.2 (fun pos h => by simp at h)]
    rfl
  · obtain ⟨pos, hpos, hw⟩ := within_ok a (8 * p.length) ha.1 ha.2 (by omega) (by omega)
    have hj : pos / 8 < p.length := by omega
    rw [if_neg (by omega), w64 (by omega) (by omega), show 8 * (p.length : Int) = ((8 * p.length : Nat) : Int) by omega, hw, Option.bind_some, law_joined _ _ (by rw [List.length_nil]; omega), Option.bind_some, List.append_nil,
      e2_ pos (by omega), e3_ pos, if_pos (by omega), if_pos (by omega), if_pos (by omega), crc_ok _ p hp (by omega) (by omega), Option.bind_some, shl8 _ (Nat.mod_lt _ (by decide)), Int.toNat_natCast, (rd_bytes hp _ hj).1]
    by_cases hs : p.length ≤ 65536
    · rw [found _ p hp (by omega) (by omega) hs pos hj, Option.bind_some, if_neg (by omega), if_pos rfl]
    · rw [turned_long _ _ _ (by rw [List.length_set]; omega), Option.bind_some, if_pos (by omega), if_pos rfl]
      rfl
end Go.Proofs.YtlblleideihhmaaDoor.Pure
