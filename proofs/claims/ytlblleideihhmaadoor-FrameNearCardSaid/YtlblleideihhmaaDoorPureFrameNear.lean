/- FrameNear: a frame with turned bits that lie within 32 bits of one another behind its head: ErrSum, at the sum. -/
import Derived.Test.YtlblleideihhmaaDoorErrLaw
import Derived.Test.YtlblleideihhmaaDoorPBx13
namespace Go.Proofs.YtlblleideihhmaaDoor.Pure
open Go Go.RowKit Go.Proofs.YtlblleideihhmaaDoor.Crc Go.Proofs.YtlblleideihhmaaDoor.CrcLaw Go.Proofs.YtlblleideihhmaaDoor.SealLaw Go.Proofs.YtlblleideihhmaaDoor.FrMore Go.Proofs.YtlblleideihhmaaDoor.UnLaw Go.Proofs.YtlblleideihhmaaDoor.ErrLaw Go.Proofs.YtlblleideihhmaaDoor.Num Go.Proofs.YtlblleideihhmaaDoorW.PrintWords Go.Proofs.YtlblleideihhmaaDoorW.PrintLast Go.Proofs.YtlblleideihhmaaDoor.PB
set_option linter.unusedVariables false

theorem mask_bit (m : R) (i : Nat) (hi : i < 32) : (Go.bits .and .u32 (shr .u32 (I m) (IntKind.u64.wrap (i : Int))) 1 = 1) = (m.getLsbD i = true) := by
  have e0 : IntKind.u64.wrap (i : Int) = (i : Int) := by rw [IntKind.wrap_u64]; omega
  have e1 : shr .u32 (I m) (i : Int) = I (m >>> i) := by
    unfold shr
    rw [show ((i : Nat) : Int).toNat = i from rfl, Nat.min_eq_left (show i ≤ IntKind.u32.bits by show i ≤ 32; omega), I_shrn]
  rw [e0, e1, show (1 : Int) = I 1#32 from rfl, I_and, I_eq, and1, BitVec.getLsbD_ushiftRight, Nat.add_zero]
  cases m.getLsbD i <;> simp
theorem near_l0 (p : List Int) (hp : IsBytes p) (hl : p.length ≤ 65536) (m : R) (hm : m ≠ 0#32) (at_ : Nat) (h1 : 8 * hd p ≤ at_) (h2 : at_ + 32 ≤ 8 * (fr p).length) :
    ∀ (d k i : Nat) (x : List Int), i + d = 32 → 2 * (fr p).length + d + 100 < k → x.length = (fr p).length → IsBytes x → x.take (hd p) = (fr p).take (hd p) →
      on 0xffffffff#32 x = sound ^^^ it (8 * (fr p).length - at_) (low i m) → larderlaw01_FrameNear.l0 k (I m) (fr p) (at_ : Int) x (i : Int) = some true := by
  have hL := fr_length p
  have hh : hd p ≤ 11 := by have := enc_len 10 p.length; unfold hd; omega
  intro d
  induction d with
  | zero =>
    intro k i x hi hk hx hb ht ho
    obtain ⟨k, rfl⟩ : ∃ n, k = n + 1 := ⟨k - 1, by omega⟩
    obtain rfl : i = 32 := by omega
    rw [low_all] at ho
    have hne : on 0xffffffff#32 x ≠ sound := by
      intro h
      rw [ho] at h
      have h3 : it (8 * (fr p).length - at_) m = 0#32 := by
        have h4 := congrArg (fun z => sound ^^^ z) h
        simp only [← BitVec.xor_assoc, BitVec.xor_self, BitVec.zero_xor] at h4
        exact h4
      exact hm (it_eq_zero h3)
    have hu := (un_near p x hl hb hx ht).2 hne
    simp only [larderlaw01_FrameNear.l0]
    rw [if_neg (by omega), unseal_ok k x hb (by omega) (by omega), Option.bind_some, hu]
    simp only
    rw [if_pos (show (([] : List Int).length : Int) = 0 from rfl), if_pos trivial, if_pos trivial, w64 (by omega) (by omega), hx]
    simp
  | succ d ih =>
    intro k i x hi hk hx hb ht ho
    obtain ⟨k, rfl⟩ : ∃ n, k = n + 1 := ⟨k - 1, by omega⟩
    simp only [larderlaw01_FrameNear.l0]
    rw [if_pos (by omega), if_pos (by rw [IntKind.wrap_u64]; omega), w64 (x := (i : Int) + 1) (by omega) (by omega), show (i : Int) + 1 = ((i + 1 : Nat) : Int) by omega]
    have hls := low_succ i (by omega) m
    by_cases hbit : m.getLsbD i = true
    · have e0 : wrap64 ((at_ : Int) + (i : Int)) = ((at_ + i : Nat) : Int) := by rw [w64 (by omega) (by omega)]; omega
      have e1 : wrap64 (Int.tdiv ((at_ + i : Nat) : Int) 8) = (((at_ + i) / 8 : Nat) : Int) := by
        rw [Int.tdiv_eq_ediv_of_nonneg (by omega), w64 (by omega) (by omega)]; omega
      have e2 : IntKind.u64.wrap (Int.tmod ((at_ + i : Nat) : Int) 8) = (((at_ + i) % 8 : Nat) : Int) := by
        rw [Int.tmod_eq_emod_of_nonneg (by omega), IntKind.wrap_u64]; omega
      have hj : (at_ + i) / 8 < x.length := by omega
      have htu := turn hb (at_ + i) hj 0xffffffff#32
      rw [if_pos ((mask_bit m i (by omega)).mpr hbit), e0, e1, e2, if_pos (by omega), if_pos (by omega), if_pos (by omega), shl8 _ (Nat.mod_lt _ (by decide)), Int.toNat_natCast, (rd_bytes hb _ hj).1]
      refine ih k (i + 1) _ (by omega) (by omega) (by rw [List.length_set, hx]) htu.1 ?_ ?_
      · rw [← ht]
        exact List.take_set_of_le (by omega)
      · rw [htu.2, ho, hls, hbit, cond_true, it_xor, show 8 * (fr p).length - at_ = (8 * x.length - (at_ + i)) + i by omega, it_add _ i (1#32 <<< i), it_bit i (by omega)]
        ac_rfl
    · have hbf : m.getLsbD i = false := by simpa using hbit
      rw [if_neg (fun h => hbit ((mask_bit m i (by omega)).mp h))]
      refine ih k (i + 1) x (by omega) (by omega) hx hb ht ?_
      rw [ho, hls, hbf, cond_false, BitVec.xor_zero]
theorem FrameNear : larderlaw01_FrameNear.Pure := by
  intro p a mask _ hlp hp ha hm
  have hp := bytes_of_wf hp
  have ha := i64_bd ha
  have hmb : 0 ≤ mask ∧ mask < 4294967296 := by
    simp [Lit.wf, IntKind.min, IntKind.max, IntKind.bits, IntKind.signed] at hm
    omega
  obtain ⟨m, rfl⟩ := I_mk hmb.1 hmb.2
  by_cases hl : p.length ≤ 65536
  · have hL := fr_length p
    have hh : hd p ≤ 11 := by have := enc_len 10 p.length; unfold hd; omega
    refine ⟨2 * (fr p).length + 500, ?_⟩
    unfold larderlaw01_FrameNear.f
    rw [seal_ok _ p hp hl (by omega), Option.bind_some, if_pos rfl]
    simp only [larderlaw01_FrameNear.j0]
    by_cases h0 : I m = 0
    · rw [if_pos (by rw [h0]; rfl), decide_eq_true (by omega)]
      rfl
    · have hm0 : m ≠ 0#32 := fun h => h0 (by rw [h]; rfl)
      rw [if_neg (by simpa using h0), head_ok _ (by omega) p (by omega), Option.bind_some, Option.bind_some, w64 (x := ((hd p : Nat) : Int) + (p.length : Int)) (by omega) (by omega), w64 (x := ((hd p : Nat) : Int) + (p.length : Int) + 4) (by omega) (by omega), if_pos (by omega),
        w64 (x := 8 * ((fr p).length : Int)) (by omega) (by omega), w64 (x := 8 * ((hd p : Nat) : Int)) (by omega) (by omega), w64 (x := 8 * ((fr p).length : Int) - 8 * ((hd p : Nat) : Int)) (by omega) (by omega), w64 (x := 8 * ((fr p).length : Int) - 8 * ((hd p : Nat) : Int) - 31) (by omega) (by omega),
        show 8 * ((fr p).length : Int) - 8 * ((hd p : Nat) : Int) - 31 = ((8 * p.length + 1 : Nat) : Int) by omega]
      obtain ⟨t, ht, hw⟩ := within_ok a (8 * p.length + 1) ha.1 ha.2 (by omega) (by omega)
      rw [hw, Option.bind_some, law_joined _ _ (by rw [List.length_nil]; omega), Option.bind_some, List.append_nil, w64 (by omega) (by omega), show 8 * ((hd p : Nat) : Int) + (t : Int) = ((8 * hd p + t : Nat) : Int) by omega]
      exact near_l0 p hp hl m hm0 (8 * hd p + t) (by omega) (by omega) 32 _ 0 (fr p) rfl (by omega) rfl (fr_bytes hp) rfl (by rw [fr_sound, show low 0 m = 0#32 by unfold low; rw [Nat.pow_zero, Nat.mod_one], it_zero, BitVec.xor_zero])
  · refine ⟨10, ?_⟩
    unfold larderlaw01_FrameNear.f
    rw [seal_long _ p (by omega), Option.bind_some, if_neg (by decide)]
    simp only [larderlaw01_FrameNear.j0]
    rw [if_pos trivial, decide_eq_false (by omega)]
    rfl
end Go.Proofs.YtlblleideihhmaaDoor.Pure
