/- What was written is read back: numbers, ints, words, texts, frames, whatever stands behind. -/
import Derived.Test.YtlblleideihhmaaDoorPBx1
import Derived.Test.YtlblleideihhmaaDoorPBx2
import Derived.Test.YtlblleideihhmaaDoorPBx5
import Derived.Test.YtlblleideihhmaaDoorPBx6
import Derived.Test.YtlblleideihhmaaDoorUnLaw
import Derived.Test.YtlblleideihhmaaDoorNumWord
namespace Go.Proofs.YtlblleideihhmaaDoor.BackLaw
open Go Go.RowKit Go.Proofs.YtlblleideihhmaaDoor.Crc Go.Proofs.YtlblleideihhmaaDoor.CrcLaw Go.Proofs.YtlblleideihhmaaDoor.SealLaw Go.Proofs.YtlblleideihhmaaDoor.FrMore Go.Proofs.YtlblleideihhmaaDoor.UnLaw Go.Proofs.YtlblleideihhmaaDoor.Num Go.Proofs.YtlblleideihhmaaDoorW.PrintWords Go.Proofs.YtlblleideihhmaaDoorW.PrintLast Go.Proofs.YtlblleideihhmaaDoor.PB
set_option linter.unusedVariables false

theorem sclone_ok (l : List Int) (h : l.length < 140737488355328) : slices_Clone_byte_byte.f l = some l := by
  unfold slices_Clone_byte_byte.f
  rw [if_pos h]
theorem joined_ok' (a b : List Int) (h : a.length + b.length < 140737488355328) : larderlaw01_joined.f a b = some (a ++ b) := by
  unfold larderlaw01_joined.f
  rw [List.length_nil, if_pos (by omega)]
  simp only [Option.bind_some, List.nil_append]
  rw [if_pos h]
theorem str_bytesOf (s : ByteArray) : strOfNums (bytesOf s) = s := by
  have h : (strOfNums (bytesOf s)).data.toList = s.data.toList := by
    rw [strOfNums_data, bytesOf, List.map_map]
    conv => rhs; rw [← List.map_id s.data.toList]
    refine List.map_congr_left (fun x _ => ?_)
    show UInt8.ofNat ((x.toNat : Int)).toNat = x
    rw [Int.toNat_natCast]
    exact UInt8.ofNat_toNat
  have h2 : (strOfNums (bytesOf s)).data = s.data := by
    have := congrArg List.toArray h
    simpa using this
  generalize strOfNums (bytesOf s) = t at h2
  cases s
  cases t
  simp only at h2
  rw [h2]
theorem bytesOf_bytes (s : ByteArray) : IsBytes (bytesOf s) := by
  intro x hx
  obtain ⟨y, _, rfl⟩ := List.mem_map.1 hx
  have := y.toNat_lt
  omega
theorem uint_read (k : Nat) (n : Nat) (hn : n < 18446744073709551616) (z : List Int) (hz : IsBytes z) (hl : z.length < 140737488355000) (hk : z.length + 50 < k) :
    frame_Uint.f k (enc 10 n ++ z) = some ((n : Int), ((enc 10 n).length : Int), 0) := by
  have hel := enc_len 10 n
  rw [frame_uint _ ((enc_bytes 10 n).append hz) (by rw [List.length_append]; omega) k (by rw [List.length_append]; omega), ug_enc0 n hn z]
theorem int_read (k : Nat) (x : Int) (h0 : -9223372036854775808 ≤ x) (h1 : x ≤ 9223372036854775807) (z : List Int) (hz : IsBytes z) (hl : z.length < 140737488355000) (hk : z.length + 50 < k) :
    frame_Int.f k (enc 10 (zz x) ++ z) = some (x, ((enc 10 (zz x)).length : Int), 0) := by
  have hel := enc_len 10 (zz x)
  rw [frame_int _ ((enc_bytes 10 _).append hz) (by rw [List.length_append]; omega) k (by rw [List.length_append]; omega), ug_enc0 _ (zz_lt h0 h1) z]
  unfold ig
  simp only
  rw [unzz_zz]
theorem word_read (k : Nat) (n : Nat) (hn : n < 18446744073709551616) (z : List Int) (hz : IsBytes z) (hk : 50 < k) : frame_Word.f k (le 8 n ++ z) = some ((n : Int), 0) := by
  rw [word_ok k (by omega) _ ((le_bytes 8 n).append hz)]
  unfold wg
  rw [if_neg (by rw [List.length_append, le_len]; omega), List.take_append_of_le_length (by rw [le_len]; exact Nat.le_refl _), List.take_of_length_le (by rw [le_len]; exact Nat.le_refl _), leV_le, Nat.mod_eq_of_lt (by simpa using hn)]
theorem text_read (k : Nat) (s : ByteArray) (hs : s.size ≤ 1048576) (z : List Int) (hz : IsBytes z) (hl : z.length ≤ 1048576) (hk : z.length + s.size + 50 < k) :
    frame_Text.f k ((enc 10 s.size ++ bytesOf s) ++ z) (s.size : Int) = some (s, ((enc 10 s.size ++ bytesOf s).length : Int), 0) := by
  have hel := enc_len 10 s.size
  have hbl := bytesOf_length s
  have hb : IsBytes ((enc 10 s.size ++ bytesOf s) ++ z) := ((enc_bytes 10 _).append (bytesOf_bytes s)).append hz
  have hlen : ((enc 10 s.size ++ bytesOf s) ++ z).length = (enc 10 s.size).length + s.size + z.length := by rw [List.length_append, List.length_append, hbl]
  have hu : ug 0 0 ((enc 10 s.size ++ bytesOf s) ++ z) = ((s.size : Int), ((enc 10 s.size).length : Int), 0) := by
    rw [List.append_assoc]
    exact ug_enc0 s.size (by omega) _
  unfold frame_Text.f
  rw [if_neg (by omega), frame_uint _ hb (by omega) k (by omega), Option.bind_some, hu, hlen]
  simp only
  rw [if_pos trivial, if_neg (by rw [IntKind.wrap_u64]; omega), if_neg (by rw [w64 (by omega) (by omega), IntKind.wrap_u64]; omega), if_pos (by omega), w64 (x := (s.size : Int)) (by omega) (by omega), w64 (x := ((enc 10 s.size).length : Int) + (s.size : Int)) (by omega) (by omega), if_pos (by omega), if_pos (by omega), Int.toNat_natCast,
    show (((enc 10 s.size).length : Int) + (s.size : Int)).toNat = (enc 10 s.size ++ bytesOf s).length by rw [List.length_append, hbl]; omega, List.take_left, List.drop_left, sclone_ok _ (by omega), Option.bind_some, str_bytesOf, List.length_append, hbl]
  rfl
theorem un_fr (p z : List Int) (hp : IsBytes p) (hl : p.length ≤ 65536) : un (fr p ++ z) = (p, ((fr p).length : Int), 0, 0) := by
  have hb := body_len p
  have hL : (fr p).length = 1 + (enc 10 p.length).length + p.length + 4 := by
    rw [fr_len]
    simp only [body, List.length_cons, List.length_append]
    omega
  have hc : fr p ++ z = 167 :: (enc 10 p.length ++ (p ++ le 4 (crc (body p)).toNat ++ z)) := by rw [fr_eq]; simp
  have hlen : (fr p ++ z).length = (fr p).length + z.length := List.length_append
  have hu : ug 0 0 ((fr p ++ z).drop 1) = ((p.length : Int), ((enc 10 p.length).length : Int), 0) := by
    rw [hc, List.drop_succ_cons, List.drop_zero]
    exact ug_enc0 _ (by omega) _
  have hbody : (fr p ++ z).take (1 + (enc 10 p.length).length + p.length) = body p := by
    have h1 : 1 + (enc 10 p.length).length + p.length = (body p).length := by simp only [body, List.length_cons, List.length_append]; omega
    unfold fr
    rw [h1, List.append_assoc, List.take_left]
  have hfr : (fr p ++ z).take (1 + (enc 10 p.length).length + p.length + 4) = fr p := by rw [← hL, List.take_left]
  have htail : (fr p).drop (1 + (enc 10 p.length).length + p.length) = le 4 (crc (body p)).toNat := by
    have h1 : 1 + (enc 10 p.length).length + p.length = (body p).length := by simp only [body, List.length_cons, List.length_append]; omega
    unfold fr
    rw [h1, List.drop_left]
  unfold un
  rw [if_neg (by omega), if_pos (by rw [hc]; rfl), hu]
  simp only
  rw [if_pos trivial, if_neg (by omega), if_neg (by omega), show (1 + ((enc 10 p.length).length : Int) + (p.length : Int) + 4).toNat = 1 + (enc 10 p.length).length + p.length + 4 by omega, show (1 + ((enc 10 p.length).length : Int) + (p.length : Int)).toNat = 1 + (enc 10 p.length).length + p.length by omega, show (1 + ((enc 10 p.length).length : Int)).toNat = 1 + (enc 10 p.length).length by omega, hfr, htail, hbody,
    if_pos (by rw [leV_le, Nat.mod_eq_of_lt (by have := (crc (body p)).isLt; omega)]; rfl)]
  refine Prod.ext ?_ (Prod.ext (by simp only; omega) rfl)
  show (body p).drop (1 + (enc 10 p.length).length) = p
  rw [body_eq, show 1 + (enc 10 p.length).length = ((167 : Int) :: enc 10 p.length).length by simp; omega, List.drop_left]
end Go.Proofs.YtlblleideihhmaaDoor.BackLaw
