/- FrameFew: a frame with some bits turned behind its head: a few of them, or an odd number, are seen. -/
import Derived.Test.YtlblleideihhmaaDoorFewLaw
import Derived.Test.YtlblleideihhmaaDoorPBx12
namespace Go.Proofs.YtlblleideihhmaaDoor.Pure
open Go Go.RowKit Go.Proofs.YtlblleideihhmaaDoor.Crc Go.Proofs.YtlblleideihhmaaDoor.CrcLaw Go.Proofs.YtlblleideihhmaaDoor.SealLaw Go.Proofs.YtlblleideihhmaaDoor.FrMore Go.Proofs.YtlblleideihhmaaDoor.UnLaw Go.Proofs.YtlblleideihhmaaDoor.ErrLaw Go.Proofs.YtlblleideihhmaaDoor.FewLaw Go.Proofs.YtlblleideihhmaaDoor.Num Go.Proofs.YtlblleideihhmaaDoorW.PrintWords Go.Proofs.YtlblleideihhmaaDoorW.PrintLast Go.Proofs.YtlblleideihhmaaDoor.PB
set_option linter.unusedVariables false

/-- What is unlike. -/
def unlike (b own : List Int) : List Int := List.zipWith (fun x y => Go.bits .xor .u8 x y) b own
theorem unlike_length {b own : List Int} (h : own.length = b.length) : (unlike b own).length = b.length := by
  unfold unlike
  rw [List.length_zipWith, h, Nat.min_self]
theorem unlike_get {b own : List Int} (h : own.length = b.length) (i : Nat) (hi : i < b.length) : (unlike b own).getD i 0 = Go.bits .xor .u8 (b.getD i 0) (own.getD i 0) := by
  unfold unlike
  rw [List.getD_eq_getElem?_getD, List.getD_eq_getElem?_getD, List.getD_eq_getElem?_getD, List.getElem?_zipWith, List.getElem?_eq_getElem hi, List.getElem?_eq_getElem (show i < own.length by omega)]
  rfl
theorem unlike_bytes {b own : List Int} (hb : IsBytes b) (ho : IsBytes own) (h : own.length = b.length) : IsBytes (unlike b own) := by
  intro x hx
  obtain ⟨i, hi, rfl⟩ := List.mem_iff_getElem.1 hx
  rw [unlike_length h] at hi
  have h2 := unlike_get h i hi
  rw [List.getD_eq_getElem?_getD, List.getElem?_eq_getElem (by rw [unlike_length h]; exact hi), Option.getD_some] at h2
  rw [h2]
  exact (xor8 (rd_bytes hb i hi).2 (rd_bytes ho i (by omega)).2).1
theorem unlike_on {b own : List Int} (hb : IsBytes b) (ho : IsBytes own) (h : own.length = b.length) : on 0xffffffff#32 own = on 0xffffffff#32 b ^^^ on 0#32 (unlike b own) := by
  have := on_two b own (unlike b own) 0xffffffff#32 0xffffffff#32 h.symm (by rw [unlike_length h, h]) (fun i hi => by
    rw [unlike_get h i hi, (xor8 (rd_bytes hb i hi).2 (rd_bytes ho i (by omega)).2).2])
  rw [BitVec.xor_self] at this
  rw [← this, ← BitVec.xor_assoc, BitVec.xor_self, BitVec.zero_xor]
theorem B_inj {x y : Int} (hx : 0 ≤ x ∧ x < 256) (hy : 0 ≤ y ∧ y < 256) (h : B x = B y) : x = y := by
  rw [I_B hx, I_B hy, h]
theorem unlike_none {b own : List Int} (hb : IsBytes b) (ho : IsBytes own) (h : own.length = b.length) (h0 : cnt (unlike b own) = 0) : own = b := by
  have hz := cnt_zero _ (unlike_bytes hb ho h) h0
  refine List.ext_getElem h (fun i h1 h2 => ?_)
  have hg := hz i
  rw [unlike_get h i h2] at hg
  have r1 := rd_bytes hb i h2
  have r2 := rd_bytes ho i h1
  have hx := xor8 r1.2 r2.2
  rw [hg] at hx
  have he : B (b.getD i 0) = B (own.getD i 0) := by
    have := hx.2
    rw [show B 0 = 0#32 from rfl] at this
    exact BitVec.xor_eq_zero_iff.1 this.symm
  have := B_inj r1.2 r2.2 he
  rw [List.getD_eq_getElem?_getD, List.getD_eq_getElem?_getD, List.getElem?_eq_getElem h2, List.getElem?_eq_getElem h1, Option.getD_some, Option.getD_some] at this
  exact this.symm
theorem few_l2 (p b own : List Int) (i : Int) : ∀ (c d n k : Nat), d < 256 → pc d = c → n + c < 9223372036854775807 → larderlaw01_FrameFew.l2 (k + c + 1) p b own (n : Int) i (d : Int) = larderlaw01_FrameFew.l1 k p b own ((n + c : Nat) : Int) (wrap64 (i + 1)) := by
  intro c
  induction c with
  | zero =>
    intro d n k hd hc hn
    have := pc_zero d hd hc
    subst this
    simp only [larderlaw01_FrameFew.l2]
    rw [if_pos (by rfl)]
    rfl
  | succ c ih =>
    intro d n k hd hc hn
    have h0 : d ≠ 0 := by
      rintro rfl
      exact absurd hc (by have : pc 0 = 0 := by decide
                          omega)
    obtain ⟨h1, h2, h3⟩ := pc_step d hd h0
    obtain ⟨K, hK⟩ : ∃ K, K = k + c + 1 := ⟨_, rfl⟩
    rw [show k + (c + 1) + 1 = K + 1 by omega]
    simp only [larderlaw01_FrameFew.l2]
    rw [if_neg (by omega), h1, hK, w64 (by omega) (by omega), show (n : Int) + 1 = ((n + 1 : Nat) : Int) by omega, ih _ (n + 1) k h2 (by omega) (by omega), show n + 1 + c = n + (c + 1) by omega]
theorem few_l1 (p b own : List Int) (hb : IsBytes b) (ho : IsBytes own) (h : own.length = b.length) (hl : b.length < 100000) (N K : Nat)
    (fin : ∀ k, K < k → larderlaw01_FrameFew.l1 k p b own (N : Int) ((b.length : Nat) : Int) = some true) :
    ∀ (rest : List Int) (i n k : Nat), (unlike b own).drop i = rest → i ≤ b.length → n + cnt rest = N → N < 9000000 → 10 * rest.length + K < k → larderlaw01_FrameFew.l1 k p b own (n : Int) (i : Int) = some true := by
  have hul := unlike_length h
  have hub := unlike_bytes hb ho h
  intro rest
  induction rest with
  | nil =>
    intro i n k hd hi hn hN hk
    have : (unlike b own).length ≤ i := by
      rcases Nat.lt_or_ge i (unlike b own).length with h1 | h1
      · have := congrArg List.length hd; simp at this; omega
      · exact h1
    obtain rfl : i = b.length := by omega
    simp only [cnt, Nat.add_zero] at hn
    subst hn
    exact fin k (by simpa using hk)
  | cons c t ih =>
    intro i n k hd hi hn hN hk
    simp only [List.length_cons, cnt] at hk hn
    obtain ⟨hlt, hrd, hd2⟩ := rd_drop hd
    rw [hul] at hlt
    have hc : 0 ≤ c ∧ c < 256 := (hub.drop i) c (by rw [hd]; exact List.mem_cons_self ..)
    have hp8 := pc_le c.toNat (toNat_lt hc)
    obtain ⟨k, rfl⟩ : ∃ m, k = (m + pc c.toNat + 1) + 1 := ⟨k - pc c.toNat - 2, by omega⟩
    have e : Go.bits .xor .u8 (rd b (i : Int)) (rd own (i : Int)) = ((c.toNat : Nat) : Int) := by
      rw [(rd_bytes hb i hlt).1, (rd_bytes ho i (by omega)).1, ← unlike_get h i hlt]
      have : rd (unlike b own) (i : Int) = (unlike b own).getD i 0 := rfl
      rw [← this, hrd]
      omega
    simp only [larderlaw01_FrameFew.l1]
    rw [if_pos (by omega), if_pos (by omega), if_pos (by omega), e, few_l2 p b own i (pc c.toNat) c.toNat n k (toNat_lt hc) rfl (by omega), w64 (by omega) (by omega), show (i : Int) + 1 = ((i + 1 : Nat) : Int) by omega]
    exact ih (i + 1) (n + pc c.toNat) k hd2 (by omega) (by omega) hN (by omega)
theorem few_end (p own : List Int) (hp : IsBytes p) (hl : p.length ≤ 65536) (ho : IsBytes own) (h : own.length = (fr p).length) (ht : own.take (hd p) = (fr p).take (hd p)) (k : Nat) (hk : (fr p).length + 50 < k) :
    larderlaw01_FrameFew.l1 k p (fr p) own ((cnt (unlike (fr p) own) : Nat) : Int) (((fr p).length : Nat) : Int) = some true := by
  obtain ⟨k, rfl⟩ : ∃ m, k = m + 1 := ⟨k - 1, by omega⟩
  have hL := fr_length p
  have hh : hd p ≤ 11 := by have := enc_len 10 p.length; unfold hd; omega
  have hun := un_near p own hl ho h ht
  have hon := unlike_on (fr_bytes hp) ho h
  rw [fr_sound] at hon
  have hul := unlike_length h
  have hub := unlike_bytes (fr_bytes hp) ho h
  have hbad : (on 0#32 (unlike (fr p) own) ≠ 0#32) → un own = ([], 0, 13, (own.length : Int) - 4) := fun h0 => hun.2 (fun h1 => by
    rw [hon] at h1
    have h4 := congrArg (fun z => sound ^^^ z) h1
    simp only [← BitVec.xor_assoc, BitVec.xor_self, BitVec.zero_xor] at h4
    exact h0 h4)
  have hgood : (on 0#32 (unlike (fr p) own) = 0#32) → un own = ((own.drop (hd p)).take p.length, (own.length : Int), 0, 0) := fun h0 => hun.1 (by rw [hon, h0, BitVec.xor_zero])
  have ew : wrap64 (((fr p).length : Int) - 4) = (own.length : Int) - 4 := by rw [w64 (by omega) (by omega)]; omega
  simp only [larderlaw01_FrameFew.l1]
  rw [if_neg (by omega), unseal_ok k own ho (by omega) (by omega), Option.bind_some, ew]
  by_cases h0 : cnt (unlike (fr p) own) = 0
  · have he := unlike_none (fr_bytes hp) ho h h0
    rw [hgood (cnt_none _ hub h0)]
    simp only
    have hp2 : (own.drop (hd p)).take p.length = p := by
      rw [he, fr_hd, List.drop_append_of_le_length (by simp [hd]; omega), List.drop_of_length_le (by simp [hd]; omega), List.nil_append, List.take_append_of_le_length (Nat.le_refl _), List.take_length]
    rw [hp2, if_pos (by omega), if_pos (show (strOfNums p).toList = (strOfNums p).toList from rfl), if_pos (by omega)]
    rfl
  · have hseen : cnt (unlike (fr p) own) % 2 = 1 ∨ cnt (unlike (fr p) own) = 2 → on 0#32 (unlike (fr p) own) ≠ 0#32 := fun hc => noticed _ hub (by omega) hc
    generalize cnt (unlike (fr p) own) = N at h0 hseen
    rw [if_neg (by omega), Int.tmod_eq_emod_of_nonneg (by omega)]
    by_cases h1 : on 0#32 (unlike (fr p) own) = 0#32
    · have h2 : ¬ (N % 2 = 1 ∨ N = 2) := fun hc => hseen hc h1
      rw [hgood h1]
      simp only
      rw [if_pos (by omega), if_pos (by omega), if_pos trivial, if_pos (by omega)]
    · rw [hbad h1]
      simp only
      by_cases h3 : (N : Int) > 3
      · rw [if_pos h3]
        by_cases h4 : (N : Int) % 2 = 0
        · rw [if_pos h4, if_neg (by decide), if_pos trivial, if_pos trivial, if_pos (by rfl)]
          rfl
        · rw [if_neg h4, if_pos trivial, if_pos trivial, if_pos (by rfl)]
          rfl
      · rw [if_neg h3, if_pos trivial, if_pos trivial, if_pos (by rfl)]
        rfl
theorem few_e0 (L H n : Nat) (h : L = H + n) (hs : L < 1000000) : wrap64 (8 * wrap64 ((L : Int) - (H : Int))) = ((8 * n : Nat) : Int) := by
  rw [w64 (x := (L : Int) - (H : Int)) (by omega) (by omega), w64 (by omega) (by omega)]; omega
theorem few_e1 (H t pos : Nat) (h : pos = 8 * H + t) (hs : pos < 10000000) : wrap64 (wrap64 (8 * (H : Int)) + (t : Int)) = (pos : Int) := by
  rw [w64 (x := 8 * (H : Int)) (by omega) (by omega), w64 (by omega) (by omega)]; omega
theorem few_e2 (pos : Nat) (hs : pos < 10000000) : wrap64 (Int.tdiv (pos : Int) 8) = ((pos / 8 : Nat) : Int) := by
  rw [Int.tdiv_eq_ediv_of_nonneg (by omega), w64 (by omega) (by omega)]; omega
theorem few_e3 (pos : Nat) : IntKind.u64.wrap (Int.tmod (pos : Int) 8) = ((pos % 8 : Nat) : Int) := by
  rw [Int.tmod_eq_emod_of_nonneg (by omega), IntKind.wrap_u64]; omega
theorem few_l0 (p : List Int) (H : Nat) (hH : hd p = H) (hp : IsBytes p) (hl : p.length ≤ 65536) (bits : List Int) (hbs : ∀ x ∈ bits, -9223372036854775808 ≤ x ∧ x ≤ 9223372036854775807) (hlb : bits.length < 9223372036854775807) :
    ∀ (d k i : Nat) (own : List Int), i + d = bits.length → 11 * (fr p).length + d + 200 < k → own.length = (fr p).length → IsBytes own → own.take H = (fr p).take H →
      larderlaw01_FrameFew.l0 k p bits (fr p) (H : Int) own (i : Int) = some true := by
  have hL := fr_length p
  have hh : hd p ≤ 11 := by have := enc_len 10 p.length; unfold hd; omega
  rw [hH] at hL hh
  intro d
  induction d with
  | zero =>
    intro k i own hi hk hx hb ht
    obtain ⟨k, rfl⟩ : ∃ n, k = n + 1 := ⟨k - 1, by omega⟩
    simp only [larderlaw01_FrameFew.l0]
    rw [if_neg (by omega)]
    have hcl := cnt_le (unlike (fr p) own) (unlike_bytes (fr_bytes hp) hb hx)
    rw [unlike_length hx] at hcl
    exact few_l1 p (fr p) own (fr_bytes hp) hb hx (by omega) (cnt (unlike (fr p) own)) ((fr p).length + 50) (fun k hk => few_end p own hp hl hb hx (by rw [hH]; exact ht) k hk) (unlike (fr p) own) 0 0 k rfl (by omega) (by omega) (by omega) (by rw [unlike_length hx]; omega)
  | succ d ih =>
    intro k i own hi hk hx hb ht
    obtain ⟨k, rfl⟩ : ∃ n, k = n + 1 := ⟨k - 1, by omega⟩
    have hib : i < bits.length := by omega
    have hbi : -9223372036854775808 ≤ rd bits (i : Int) ∧ rd bits (i : Int) ≤ 9223372036854775807 := by
      have : rd bits (i : Int) = bits[i] := by
        show bits.getD i 0 = _
        rw [List.getD_eq_getElem?_getD, List.getElem?_eq_getElem hib, Option.getD_some]
      rw [this]
      exact hbs _ (List.getElem_mem hib)
    obtain ⟨t, htl, hw⟩ := within_ok (rd bits (i : Int)) (8 * (p.length + 4)) hbi.1 hbi.2 (by omega) (by omega)
    obtain ⟨pos, hpos⟩ : ∃ pos : Nat, pos = 8 * H + t := ⟨_, rfl⟩
    have hj : pos / 8 < own.length := by omega
    have htu := turn hb pos hj 0#32
    simp only [larderlaw01_FrameFew.l0]
    rw [if_pos (by omega), if_pos (by omega), few_e0 (fr p).length H (p.length + 4) (by omega) (by omega), hw, Option.bind_some, few_e1 H t pos hpos (by omega), few_e2 pos (by omega), few_e3 pos, if_pos (by omega), if_pos (by omega), if_pos (by omega), shl8 _ (Nat.mod_lt _ (by decide)), Int.toNat_natCast, (rd_bytes hb _ hj).1, w64 (by omega) (by omega), show (i : Int) + 1 = ((i + 1 : Nat) : Int) by omega]
    refine ih k (i + 1) _ (by omega) (by omega) (by rw [List.length_set, hx]) htu.1 ?_
    rw [← ht]
    exact List.take_set_of_le (by omega)
theorem FrameFew : larderlaw01_FrameFew.Pure := by
  intro p bits _ hlp hp hlb0 hlb hbits
  have hp := bytes_of_wf hp
  have hbits : ∀ x ∈ bits, -9223372036854775808 ≤ x ∧ x ≤ 9223372036854775807 := fun x hx => i64_bd (hbits x hx)
  by_cases hl : p.length ≤ 65536
  · have hL := fr_length p
    have hh : hd p ≤ 11 := by have := enc_len 10 p.length; unfold hd; omega
    refine ⟨11 * (fr p).length + bits.length + 500, ?_⟩
    unfold larderlaw01_FrameFew.f
    rw [seal_ok _ p hp hl (by omega), Option.bind_some]
    dsimp only
    rw [if_pos rfl, head_ok _ (by omega) p (by omega), Option.bind_some, w64 (x := ((hd p : Nat) : Int) + (p.length : Int)) (by omega) (by omega), w64 (x := ((hd p : Nat) : Int) + (p.length : Int) + 4) (by omega) (by omega), if_pos (by omega),
      law_joined _ _ (by rw [List.length_nil]; omega), Option.bind_some, List.append_nil]
    exact few_l0 p (hd p) rfl hp hl bits hbits (by omega) bits.length _ 0 (fr p) (by omega) (by omega) rfl (fr_bytes hp) rfl
  · refine ⟨10, ?_⟩
    unfold larderlaw01_FrameFew.f
    rw [seal_long _ p (by omega), Option.bind_some]
    dsimp only
    rw [if_neg (by decide), if_pos (by omega), if_pos rfl]
    rfl
end Go.Proofs.YtlblleideihhmaaDoor.Pure
