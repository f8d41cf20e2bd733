/- FrameCuts, of what is of bulk at most 1048576: the sum of two parts: by CrcOn and by CrcJoin. -/
import Derived.Test.YtlblleideihhmaaDoorSealLaw
import Derived.Test.YtlblleideihhmaaDoorJoin
namespace Go.Proofs.YtlblleideihhmaaDoor.Pure
open Go Go.RowKit Go.Proofs.YtlblleideihhmaaDoor.Crc Go.Proofs.YtlblleideihhmaaDoor.CrcLaw Go.Proofs.YtlblleideihhmaaDoor.SealLaw Go.Proofs.YtlblleideihhmaaDoor.Join Go.Proofs.YtlblleideihhmaaDoor.Num Go.Proofs.YtlblleideihhmaaDoorW.PrintWords Go.Proofs.YtlblleideihhmaaDoorW.PrintLast Go.Proofs.YtlblleideihhmaaDoor.PB

theorem law_joined (a b : List Int) (h : a.length + b.length < 140737488355328) : larderlaw01_joined.f a b = some (a ++ b) := by
  unfold larderlaw01_joined.f
  rw [List.length_nil, if_pos (by omega)]
  simp only [Option.bind_some, List.nil_append]
  rw [if_pos h]
theorem FrameCuts : larderlaw01_FrameCuts.Pure := by
  intro x y _ hlx hx _ hly hy
  have hx := bytes_of_wf hx
  have hy := bytes_of_wf hy
  refine ⟨x.length + y.length + 300, ?_⟩
  unfold larderlaw01_FrameCuts.f
  have hl : (x ++ y).length = x.length + y.length := List.length_append
  have e0 := crcOn_ok (x.length + y.length + 300) x hx (by omega) (by omega) 0#32
  rw [show I 0#32 = 0 from rfl] at e0
  rw [lives_ok _ (by omega), Option.bind_some, if_pos rfl, law_joined x y (by omega), Option.bind_some, crc_ok _ (x ++ y) (hx.append hy) (by omega) (by omega), Option.bind_some, crc_ok _ x hx (by omega) (by omega), Option.bind_some,
    crcOn_ok _ y hy (by omega) (by omega) (crc x), Option.bind_some, crc_append, if_pos rfl, e0, Option.bind_some, Option.bind_some]
  rw [show (I (crcOn 0#32 x) != I (crc x)) = false by rw [show crcOn 0#32 x = crc x from rfl]; simp]
  simp only [larderlaw01_FrameCuts.j0]
  rw [if_neg (by decide), crc_ok _ x hx (by omega) (by omega), Option.bind_some, crc_ok _ y hy (by omega) (by omega), Option.bind_some, join_ok _ (by omega) _ _ _ (by omega), Option.bind_some, ← crcOn_join, if_pos rfl]
  rfl
end Go.Proofs.YtlblleideihhmaaDoor.Pure
