/- FrameTurns: any bytes, any sum: the one bit that must be turned, or none. -/
import Derived.Test.YtlblleideihhmaaDoorTurnLaw
import Derived.Test.YtlblleideihhmaaDoorPBx1
import Derived.Test.YtlblleideihhmaaDoorPBx3
namespace Go.Proofs.YtlblleideihhmaaDoor.Pure
open Go Go.RowKit Go.Proofs.YtlblleideihhmaaDoor.Mine Go.Proofs.YtlblleideihhmaaDoor.Crc Go.Proofs.YtlblleideihhmaaDoor.CrcLaw Go.Proofs.YtlblleideihhmaaDoor.SealLaw Go.Proofs.YtlblleideihhmaaDoor.UnLaw Go.Proofs.YtlblleideihhmaaDoor.ErrLaw Go.Proofs.YtlblleideihhmaaDoor.TurnLaw Go.Proofs.YtlblleideihhmaaDoor.Num Go.Proofs.YtlblleideihhmaaDoorW.PrintWords Go.Proofs.YtlblleideihhmaaDoorW.PrintLast Go.Proofs.YtlblleideihhmaaDoor.PB
set_option linter.unusedVariables false
theorem FrameTurns : larderlaw01_FrameTurns.Pure := by
  intro p c0 a _ hlp hp hc ha
  have hp := bytes_of_wf hp
  have ha := i64_bd ha
  have hcb : 0 ≤ c0 ∧ c0 < 4294967296 := by
    simp [Lit.wf, IntKind.min, IntKind.max, IntKind.bits, IntKind.signed] at hc
    omega
  obtain ⟨c, rfl⟩ := I_mk hcb.1 hcb.2
  have eL : larderref01_Lent.f p = some p := by unfold larderref01_Lent.f; rw [if_pos (by omega)]
  obtain ⟨k, hk⟩ : ∃ k, k = 10 * p.length + 20 := ⟨_, rfl⟩
  refine ⟨k + 1 + 1, ?_⟩
  unfold larderlaw01_FrameTurns.f
  obtain ⟨r, h1, h2⟩ := both (k + 1 + 1) p hp (by omega) (by omega) c
  rw [eL, Option.bind_some, h1, Option.bind_some, h2, Option.bind_some, if_pos rfl, if_neg (by simp)]
  have eK : larderref01_Kept.f p p = some true := by unfold larderref01_Kept.f; rw [if_pos rfl]
  rw [eK, Option.bind_some]
  simp only [larderlaw01_FrameTurns.j0]
  rw [if_neg (by decide), refCrc_ok _ p hp (by omega) (by omega), Option.bind_some, none_wanted _ p hp (by omega) (by omega), Option.bind_some]
  simp only
  rw [if_neg (by decide), show ((-1 : Int) != -1) = false from rfl]
  simp only [larderlaw01_FrameTurns.j1]
  rw [if_neg (by decide)]
  by_cases h0 : p.length = 0
  · rw [if_pos (by omega)]
  · obtain ⟨pos, hpos, hw⟩ := within_ok a (8 * p.length) ha.1 ha.2 (by omega) (by omega)
    have hj : pos / 8 < p.length := by omega
    have htu := turn hp pos hj 0#32
    rw [if_neg (by omega), w64 (by omega) (by omega), show 8 * (p.length : Int) = ((8 * p.length : Nat) : Int) by omega, hw, Option.bind_some,
      e2_ pos (by omega), e3_ pos, if_pos (by omega), if_pos (by omega), if_pos (by omega), shl8 _ (Nat.mod_lt _ (by decide)), Int.toNat_natCast, (rd_bytes hp _ hj).1, refCrc_ok _ _ htu.1 (by rw [List.length_set]; omega) (by rw [List.length_set]; omega), Option.bind_some, eL, Option.bind_some]
    obtain ⟨r, h1, h2⟩ := both k p hp (by omega) (by omega) (crc (p.set (pos / 8) (Go.bits .xor .u8 (p.getD (pos / 8) 0) ((2 ^ (pos % 8) : Nat) : Int))))
    rw [h1, Option.bind_some, h2, Option.bind_some, if_pos rfl]
    simp
end Go.Proofs.YtlblleideihhmaaDoor.Pure
