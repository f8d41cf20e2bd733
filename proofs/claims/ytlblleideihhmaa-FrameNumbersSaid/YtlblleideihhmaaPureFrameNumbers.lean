/- FrameNumbers: any bytes, any number: what is written, what is read, errors and places, what was handed in. -/
import Derived.Test.YtlblleideihhmaaNumWord
namespace Go.Proofs.Ytlblleideihhmaa.Pure
open Go Go.RowKit Go.Proofs.Ytlblleideihhmaa.Num Go.Proofs.YtlblleideihhmaaW.PrintWords Go.Proofs.YtlblleideihhmaaW.PrintLast Go.Proofs.Ytlblleideihhmaa.PA

theorem FrameNumbers : larderlaw01_FrameNumbers.Pure := by
  intro l a _ hl hb ha
  have hb := bytes_of_wf hb
  have ha := u64_bd ha
  obtain ⟨n, rfl⟩ := Int.eq_ofNat_of_zero_le ha.1
  obtain ⟨k, hk⟩ : ∃ k : Nat, k = 3 * l.length + 20 := ⟨_, rfl⟩
  refine ⟨k + 1, ?_⟩
  unfold larderlaw01_FrameNumbers.f
  have e1 : larderref01_Lent.f l = some l := by unfold larderref01_Lent.f; rw [if_pos (by omega)]
  rw [e1]
  rw [Option.bind_some]
  rw [putUint_ok _ (by omega) l n (by omega) (by omega)]
  rw [Option.bind_some]
  rw [putWord_ok _ (by omega) l n (by omega)]
  rw [Option.bind_some]
  rw [refPutUint_ok _ (by omega) l n (by omega) (by omega)]
  rw [Option.bind_some]
  rw [if_pos rfl, refPutWord_ok _ (by omega) l n (by omega) (by omega)]
  simp only [Option.bind_some, bne_self_eq_false, larderlaw01_FrameNumbers.j0]
  rw [if_neg (by decide), frame_uint l hb (by omega) _ (by omega)]
  rw [Option.bind_some]
  rw [ref_uint l hb (by omega) _ (by omega)]
  rw [Option.bind_some]
  rw [word_ok _ (by omega) l hb]
  rw [Option.bind_some]
  rw [refWord_ok _ (by omega) l hb]
  simp only [Option.bind_some, if_true]
  unfold larderref01_Kept.f
  rw [if_pos rfl]
  rfl
end Go.Proofs.Ytlblleideihhmaa.Pure
