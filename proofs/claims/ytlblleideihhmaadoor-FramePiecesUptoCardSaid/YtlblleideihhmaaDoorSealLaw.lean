/- What Seal answers, the program's and the document's: one frame, byte by byte. -/
import Derived.Test.YtlblleideihhmaaDoorPBx4
import Derived.Test.YtlblleideihhmaaDoorCrcLaw
import Derived.Test.YtlblleideihhmaaDoorNumWord
namespace Go.Proofs.YtlblleideihhmaaDoor.SealLaw
open Go Go.RowKit Go.Proofs.YtlblleideihhmaaDoor.Crc Go.Proofs.YtlblleideihhmaaDoor.CrcLaw Go.Proofs.YtlblleideihhmaaDoor.Num Go.Proofs.YtlblleideihhmaaDoorW.PrintWords Go.Proofs.YtlblleideihhmaaDoorW.PrintLast Go.Proofs.YtlblleideihhmaaDoor.PB
set_option linter.unusedVariables false

/-- What stands ahead of a frame's sum. -/
def body (p : List Int) : List Int := 167 :: (enc 10 p.length ++ p)
/-- A frame. -/
def fr (p : List Int) : List Int := body p ++ le 4 (crc (body p)).toNat
theorem body_bytes {p : List Int} (hb : IsBytes p) : IsBytes (body p) := by
  intro x hx
  rcases List.mem_cons.1 hx with h | h
  · omega
  · exact ((enc_bytes 10 p.length).append hb) x h
theorem fr_bytes {p : List Int} (hb : IsBytes p) : IsBytes (fr p) := (body_bytes hb).append (le_bytes 4 _)
theorem body_len (p : List Int) : (body p).length ≤ p.length + 11 := by
  have := enc_len 10 p.length
  simp only [body, List.length_cons, List.length_append]
  omega
theorem fr_len (p : List Int) : (fr p).length = (body p).length + 4 := by
  unfold fr
  rw [List.length_append, le_len]
theorem four_ok (c : R) : larderref01_four.f (I c) = some (le 4 c.toNat) := by
  unfold larderref01_four.f
  have h := c.isLt
  simp only [le]
  unfold I
  rw [show ((c.toNat : Nat) : Int) / 256 % 256 = ((c.toNat / 256 % 256 : Nat) : Int) by omega, show ((c.toNat : Nat) : Int) / 65536 % 256 = ((c.toNat / 256 / 256 % 256 : Nat) : Int) by omega, show ((c.toNat : Nat) : Int) / 16777216 % 256 = ((c.toNat / 256 / 256 / 256 % 256 : Nat) : Int) by omega, show ((c.toNat : Nat) : Int) % 256 = ((c.toNat % 256 : Nat) : Int) by omega]
/-- The head: mark and length. -/
theorem body_eq (p : List Int) : body p = (167 :: enc 10 p.length) ++ p := rfl
end Go.Proofs.YtlblleideihhmaaDoor.SealLaw
