/- FrameBack, of what is of bulk at most 1048576: numbers, ints, words, texts, loads come back, whatever stands ahead and behind. -/
import Derived.Test.YtlblleideihhmaaDoorBackLaw
import Derived.Test.YtlblleideihhmaaDoorPBx6
import Derived.Test.YtlblleideihhmaaDoorPBx7
namespace Go.Proofs.YtlblleideihhmaaDoor.Pure
open Go Go.RowKit Go.Proofs.YtlblleideihhmaaDoor.SealLaw Go.Proofs.YtlblleideihhmaaDoor.UnLaw Go.Proofs.YtlblleideihhmaaDoor.BackLaw Go.Proofs.YtlblleideihhmaaDoor.Num Go.Proofs.YtlblleideihhmaaDoorW.PrintWords Go.Proofs.YtlblleideihhmaaDoorW.PrintLast Go.Proofs.YtlblleideihhmaaDoor.PB
theorem FrameBack : larderlaw01_FrameBack.Pure := by
  intro a n x s p z _ ha hab hn hx hs _ hp hpb _ hz hzb
  have hab := bytes_of_wf hab
  have hpb := bytes_of_wf hpb
  have hzb := bytes_of_wf hzb
  have hn := u64_bd hn
  have hx := i64_bd hx
  obtain ⟨n, rfl⟩ := Int.eq_ofNat_of_zero_le hn.1
  have hbl := bytesOf_length s
  refine ⟨a.length + s.size + p.length + z.length + 70000, ?_⟩
  unfold larderlaw01_FrameBack.f
  rw [if_pos]
  have e1 := enc_len 10 n
  have e2 := enc_len 10 (zz x)
  have e3 := enc_len 10 s.size
  refine ⟨⟨⟨enc 10 n, putUint_ok _ (by omega) a n (by omega) (by omega), joined_ok' _ _ (by omega), uint_read _ n (by omega) z hzb (by omega) (by omega)⟩, ⟨enc 10 (zz x), putInt_ok _ (by omega) a x hx.1 hx.2 (by omega), joined_ok' _ _ (by omega), int_read _ x hx.1 hx.2 z hzb (by omega) (by omega)⟩,
    ⟨le 8 n, putWord_ok _ (by omega) a n (by omega), le_len 8 n, joined_ok' _ _ (by rw [le_len]; omega), word_read _ n (by omega) z hzb (by omega)⟩, ⟨enc 10 s.size ++ bytesOf s, ?_, joined_ok' _ _ (by rw [List.length_append]; omega), text_read _ s hs z hzb (by omega) (by omega)⟩, ?_⟩, by omega⟩
  · unfold frame_PutText.f
    rw [w64 (by omega) (by omega), grown_ok a _ (by omega) (by omega) (by omega), Option.bind_some, show IntKind.u64.wrap (s.size : Int) = ((s.size : Nat) : Int) by rw [IntKind.wrap_u64]; omega, putUint_raw _ (by omega) a s.size (by omega) (by omega), Option.bind_some, if_pos (by rw [List.length_append]; omega), List.append_assoc]
  · by_cases hl : p.length ≤ 65536
    · have hfl := fr_len p
      have hbl2 := body_len p
      refine ⟨fr p, 0, seal_ok _ p hpb hl (by omega), fun h => absurd rfl h, fun _ => ⟨joined_ok' _ _ (by omega), ?_⟩⟩
      rw [unseal_ok _ _ ((fr_bytes hpb).append hzb) (by rw [List.length_append]; omega) (by rw [List.length_append]; omega), un_fr p z hpb hl]
    · exact ⟨[], 1, seal_long _ p (by omega), fun _ => ⟨rfl, by omega, rfl⟩, fun h => absurd h (by decide)⟩
end Go.Proofs.YtlblleideihhmaaDoor.Pure
