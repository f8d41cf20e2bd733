/- What Seal answers, the program's and the document's: one frame, byte by byte. -/
import Derived.Test.YtlblleideihhmaaDoorPBx1
import Derived.Test.YtlblleideihhmaaDoorPBx2
import Derived.Test.YtlblleideihhmaaDoorCrcLaw
import Derived.Test.YtlblleideihhmaaDoorNumWord
namespace Go.Proofs.YtlblleideihhmaaDoor.SealLaw
open Go Go.RowKit Go.Proofs.YtlblleideihhmaaDoor.Crc Go.Proofs.YtlblleideihhmaaDoor.CrcLaw Go.Proofs.YtlblleideihhmaaDoor.Num Go.Proofs.YtlblleideihhmaaDoorW.PrintWords Go.Proofs.YtlblleideihhmaaDoorW.PrintLast Go.Proofs.YtlblleideihhmaaDoor.PB
set_option linter.unusedVariables false

/-- What stands ahead of a frame's sum. -/
def body (p : List Int) : List Int := 167 :: (enc 10 p.length ++ p)
/-- A frame. -/
def fr (p : List Int) : List Int := body p ++ le 4 (crc (body p)).toNat
theorem body_bytes {p : List Int} (hb : IsBytes p) : IsBytes (body p) := by
  intro x hx
  rcases List.mem_cons.1 hx with h | h
  · omega
  · exact ((enc_bytes 10 p.length).append hb) x h
theorem fr_bytes {p : List Int} (hb : IsBytes p) : IsBytes (fr p) := (body_bytes hb).append (le_bytes 4 _)
theorem body_len (p : List Int) : (body p).length ≤ p.length + 11 := by
  have := enc_len 10 p.length
  simp only [body, List.length_cons, List.length_append]
  omega
theorem fr_len (p : List Int) : (fr p).length = (body p).length + 4 := by
  unfold fr
  rw [List.length_append, le_len]
theorem putLow4 (k : Nat) (hk : 4 < k) (l : List Int) (c : R) (hl : l.length + 4 < 140737488355328) : frame_putLow.f k l (I c) 4 = some (l ++ le 4 c.toNat) := by
  unfold frame_putLow.f
  have := putLow_l0 4 c.toNat k 0 4 l rfl (by decide) hk hl
  exact this
theorem seal_long (k : Nat) (p : List Int) (h : 65536 < p.length) : frame_Seal.f k p = some ([], 1) := by
  unfold frame_Seal.f
  rw [if_pos (by omega)]
theorem seal_ok (k : Nat) (p : List Int) (hb : IsBytes p) (h : p.length ≤ 65536) (hk : p.length + 20 < k) : frame_Seal.f k p = some (fr p, 0) := by
  unfold frame_Seal.f
  have hbl := body_len p
  rw [if_neg (by omega), w64 (x := 11 + (p.length : Int)) (by omega) (by omega), w64 (by omega) (by omega), if_pos (by omega), if_pos (by omega), Option.bind_some, if_pos (by simp)]
  have e1 : IntKind.u64.wrap (p.length : Int) = ((p.length : Nat) : Int) := by rw [IntKind.wrap_u64]; omega
  rw [e1, List.nil_append, putUint_raw k (by omega) [167] p.length (by omega) (by simp), Option.bind_some]
  have e2 : ([167] ++ enc 10 p.length ++ p : List Int) = body p := rfl
  have hel := enc_len 10 p.length
  rw [if_pos (by simp only [List.length_append, List.length_cons, List.length_nil]; omega), Option.bind_some, e2, crc_ok k _ (body_bytes hb) (by omega) (by omega), Option.bind_some]
  have e3 : IntKind.u64.wrap (I (crc (body p))) = I (crc (body p)) := by
    have := I_bd (crc (body p))
    rw [IntKind.wrap_u64]; omega
  rw [e3, putLow4 k (by omega) _ _ (by omega)]
  rfl
/-- The head: mark and length. -/
theorem body_eq (p : List Int) : body p = (167 :: enc 10 p.length) ++ p := rfl
end Go.Proofs.YtlblleideihhmaaDoor.SealLaw
