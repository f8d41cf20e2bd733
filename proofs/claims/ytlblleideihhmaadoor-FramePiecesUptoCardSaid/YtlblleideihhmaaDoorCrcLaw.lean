/- What the program's sums and the document's sums answer: one register, byte by byte. -/
import Derived.Test.YtlblleideihhmaaDoorCrc
import Derived.Test.YtlblleideihhmaaDoorNumSpec
import Derived.Test.YtlblleideihhmaaDoorMine
import Derived.Test.YtlblleideihhmaaDoorPBx1
import Derived.Test.YtlblleideihhmaaDoorPBx4
namespace Go.Proofs.YtlblleideihhmaaDoor.CrcLaw
open Go Go.RowKit Go.Proofs.YtlblleideihhmaaDoor.Crc Go.Proofs.YtlblleideihhmaaDoor.Mine Go.Proofs.YtlblleideihhmaaDoor.Num Go.Proofs.YtlblleideihhmaaDoorW.PrintWords Go.Proofs.YtlblleideihhmaaDoorW.PrintLast Go.Proofs.YtlblleideihhmaaDoor.PB
set_option linter.unusedVariables false

/-- A byte as a register. -/
def B (x : Int) : R := BitVec.ofNat 32 x.toNat
theorem I_B {x : Int} (h : 0 ≤ x ∧ x < 256) : x = I (B x) := by
  unfold I B
  rw [BitVec.toNat_ofNat, Nat.mod_eq_of_lt (by omega)]
  omega
/-- The register behind some bytes. -/
def on (r : R) (p : List Int) : R := p.foldl (fun r x => it 8 (r ^^^ B x)) r
theorem on_nil (r : R) : on r [] = r := rfl
theorem on_cons (r : R) (x : Int) (p : List Int) : on r (x :: p) = on (it 8 (r ^^^ B x)) p := rfl
theorem on_append (r : R) (p q : List Int) : on r (p ++ q) = on (on r p) q := by unfold on; rw [List.foldl_append]
theorem on_lin (p : List Int) : ∀ r s : R, on (r ^^^ s) p = on r p ^^^ it (8 * p.length) s := by
  induction p with
  | nil => intro r s; rfl
  | cons x p ih =>
    intro r s
    rw [on_cons, on_cons, show r ^^^ s ^^^ B x = (r ^^^ B x) ^^^ s by ac_rfl, it_xor, ih, ← it_add, List.length_cons, Nat.mul_succ]
/-- The sum of bytes behind bytes whose sum is c. -/
def crcOn (c : R) (p : List Int) : R := 0xffffffff#32 ^^^ on (0xffffffff#32 ^^^ c) p
def crc (p : List Int) : R := crcOn 0#32 p
theorem ones_ones (x : R) : 0xffffffff#32 ^^^ (0xffffffff#32 ^^^ x) = x := by rw [← BitVec.xor_assoc, BitVec.xor_self, BitVec.zero_xor]
theorem crcOn_append (c : R) (p q : List Int) : crcOn c (p ++ q) = crcOn (crcOn c p) q := by
  unfold crcOn
  rw [on_append, ones_ones]
theorem crc_append (p q : List Int) : crc (p ++ q) = crcOn (crc p) q := crcOn_append 0#32 p q
theorem crcOn_join (c : R) (q : List Int) : crcOn c q = it (8 * q.length) c ^^^ crc q := by
  unfold crc crcOn
  rw [on_lin q _ c, BitVec.xor_zero]
  ac_rfl
/-- The register, bit by bit, is even-handed. -/
theorem on_even : ∀ (x y z a : List Int) (r s t : R), x.length = y.length → y.length = z.length → z.length = a.length →
    (∀ i, i < x.length → B (x.getD i 0) ^^^ B (y.getD i 0) ^^^ B (z.getD i 0) = B (a.getD i 0)) → on r x ^^^ on s y ^^^ on t z = on (r ^^^ s ^^^ t) a := by
  intro x
  induction x with
  | nil =>
    intro y z a r s t h1 h2 h3 _
    obtain rfl : y = [] := List.eq_nil_of_length_eq_zero h1.symm
    obtain rfl : z = [] := List.eq_nil_of_length_eq_zero h2.symm
    obtain rfl : a = [] := List.eq_nil_of_length_eq_zero h3.symm
    rfl
  | cons u x ih =>
    intro y z a r s t h1 h2 h3 h
    cases y with
    | nil => simp at h1
    | cons v y =>
      cases z with
      | nil => simp at h2
      | cons w z =>
        cases a with
        | nil => simp at h3
        | cons b a =>
          have h0 := h 0 (by simp)
          simp only [List.getD_cons_zero] at h0
          rw [on_cons, on_cons, on_cons, on_cons, ih y z a _ _ _ (by simpa using h1) (by simpa using h2) (by simpa using h3) (fun i hi => by simpa using h (i + 1) (by simpa using hi))]
          rw [← it_xor, ← it_xor, ← h0]
          congr 2
          ac_rfl

/-! ### the program's way -/
theorem tab_it : ∀ m, m < 16 → crcTab.getD m 0 = I (it 4 (BitVec.ofNat 32 m)) := by decide +kernel
theorem and_xor (m a b : R) : m &&& (a ^^^ b) = (m &&& a) ^^^ (m &&& b) := by
  apply BitVec.eq_of_getLsbD_eq
  intro i hi
  simp only [BitVec.getLsbD_xor, BitVec.getLsbD_and, Bool.and_xor_distrib_left]
theorem it4_shift_basis : ∀ i : Nat, i < 32 → it 4 ((1#32 <<< i : R) <<< (4 : Nat) : R) = ((1#32 <<< i : R) &&& 0x0fffffff#32) := by decide +kernel
theorem it4_shift (x : R) : it 4 (x <<< (4 : Nat) : R) = x &&& 0x0fffffff#32 := by
  refine lin_ext (f := fun x : R => it 4 (x <<< (4 : Nat) : R)) (g := fun x : R => x &&& 0x0fffffff#32) (fun a b => ?_) (fun a b => ?_) it4_shift_basis x
  · simp only [BitVec.shiftLeft_xor_distrib, it_xor]
  · simp only [BitVec.and_comm _ 0x0fffffff#32, and_xor]
theorem low_high (r : R) : r = (r &&& 15#32) ^^^ ((r >>> 4) <<< 4) := by
  apply BitVec.eq_of_getLsbD_eq
  intro i hi
  rw [BitVec.getLsbD_xor, BitVec.getLsbD_and, BitVec.getLsbD_shiftLeft, BitVec.getLsbD_ushiftRight]
  have h15 : (15#32).getLsbD i = decide (i < 4) := by
    have : ∀ i, i < 32 → (15#32).getLsbD i = decide (i < 4) := by decide
    exact this i hi
  rw [h15]
  by_cases h : i < 4
  · simp [h]
  · simp [h, hi, show 4 + (i - 4) = i by omega]
theorem shr4_and (r : R) : (r >>> 4) &&& 0x0fffffff#32 = r >>> 4 := by
  apply BitVec.eq_of_getLsbD_eq
  intro i hi
  rw [BitVec.getLsbD_and, BitVec.getLsbD_ushiftRight]
  by_cases h : i < 28
  · have : (0x0fffffff#32).getLsbD i = true := by
      have : ∀ i, i < 28 → (0x0fffffff#32).getLsbD i = true := by decide
      exact this i h
    rw [this, Bool.and_true]
  · rw [BitVec.getLsbD_of_ge _ _ (by omega)]
    simp
theorem it4 (r : R) : it 4 r = it 4 (r &&& 15#32) ^^^ (r >>> 4) := by
  conv => lhs; rw [low_high r]
  rw [it_xor, it4_shift, shr4_and]
theorem nib_I (r : R) : nib (I r) = I (it 4 r) := by
  unfold nib
  have h15 : Go.bits .and .u32 (I r) 15 = I (r &&& 15#32) := I_and r 15#32
  have hlt : (r &&& 15#32).toNat < 16 := by
    rw [BitVec.toNat_and]
    exact Nat.lt_of_le_of_lt Nat.and_le_right (by decide)
  have hrd : rd crcTab (I (r &&& 15#32)) = I (it 4 (r &&& 15#32)) := by
    unfold rd I
    rw [Int.toNat_natCast, tab_it _ hlt]
    unfold I
    simp
  have h16 : I r / (16 : Int) = I (r >>> 4) := I_shrn r 4
  rw [h15, hrd, h16, I_xor, ← it4]
theorem moved_I (r : R) : frame_moved.f (I r) = some (I (it 8 r)) := by
  unfold frame_moved.f
  rw [nib_I, nib_I, ← it_add]
theorem crcOn_l0 (p : List Int) (hb : IsBytes p) (hl : p.length < 9223372036854775807) : ∀ (rest : List Int) (i k : Nat) (r : R), p.drop i = rest → i ≤ p.length → rest.length < k →
    frame_CrcOn.l0 k (I r) p (p.length : Int) i = some (I (0xffffffff#32 ^^^ on r rest)) := by
  intro rest
  induction rest with
  | nil =>
    intro i k r hd hil hk
    obtain ⟨k, rfl⟩ : ∃ m, k = m + 1 := ⟨k - 1, by simp at hk; omega⟩
    have : p.length ≤ i := by
      rcases Nat.lt_or_ge i p.length with h | h
      · have := congrArg List.length hd; simp at this; omega
      · exact h
    simp only [frame_CrcOn.l0]
    rw [if_neg (by omega)]
    rw [show (4294967295 : Int) = I 0xffffffff#32 from rfl, I_xor, on_nil]
  | cons c t ih =>
    intro i k r hd hil hk
    simp only [List.length_cons] at hk
    obtain ⟨k, rfl⟩ : ∃ m, k = m + 1 := ⟨k - 1, by omega⟩
    obtain ⟨hlt, hrd, hd2⟩ := rd_drop hd
    have hc : 0 ≤ c ∧ c < 256 := (hb.drop i) c (by rw [hd]; exact List.mem_cons_self ..)
    simp only [frame_CrcOn.l0]
    rw [if_pos (by omega), if_pos (by omega), if_pos (by omega), hrd, show c % 4294967296 = c by omega]
    conv => lhs; rw [I_B hc, I_xor, moved_I]
    simp only [Option.bind_some]
    rw [w64 (by omega) (by omega), show (i : Int) + 1 = ((i + 1 : Nat) : Int) by omega, ih (i + 1) k _ hd2 (by omega) (by omega), on_cons]
theorem crcOn_ok (k : Nat) (p : List Int) (hb : IsBytes p) (hl : p.length < 9223372036854775807) (hk : p.length < k) (c : R) : frame_CrcOn.f k (I c) p = some (I (crcOn c p)) := by
  unfold frame_CrcOn.f crcOn
  rw [show (4294967295 : Int) = I 0xffffffff#32 from rfl, I_xor]
  exact crcOn_l0 p hb hl p 0 k _ rfl (by omega) hk
theorem crc_ok (k : Nat) (p : List Int) (hb : IsBytes p) (hl : p.length < 9223372036854775807) (hk : p.length < k) : frame_Crc.f k p = some (I (crc p)) := by
  unfold frame_Crc.f
  rw [show (0 : Int) = I 0#32 from rfl, crcOn_ok k p hb hl hk]
  rfl

/-! ### the document's way -/
theorem half_if1 (A : R) : I (half A) = if Go.bits .and .u32 (I A) 1 = 1 then Go.bits .xor .u32 (I A / (2 : Int)) 2197175160 else I A / (2 : Int) := by
  rw [half_if]
  have h : Go.bits .and .u32 (I A) 1 = 0 ∨ Go.bits .and .u32 (I A) 1 = 1 := by
    rw [show (1 : Int) = I 1#32 from rfl, I_and, and1]
    cases A.getLsbD 0
    · exact .inl rfl
    · exact .inr rfl
  rcases h with h | h
  · rw [if_pos h, if_neg (by rw [h]; decide)]
  · rw [if_neg (by rw [h]; decide), if_pos h]
theorem on_l1 (p : List Int) (i : Nat) (hi : i < p.length) (hl : p.length < 9223372036854775807) : ∀ (m j k : Nat) (r : R), j + m = 8 → m < k → larderref01_on.l1 k (I r) p i j = larderref01_on.l0 (k - m - 1) (I (it m r)) p ((i + 1 : Nat) : Int) := by
  intro m
  induction m with
  | zero =>
    intro j k r hj hk
    obtain ⟨k, rfl⟩ : ∃ m, k = m + 1 := ⟨k - 1, by omega⟩
    simp only [larderref01_on.l1]
    rw [if_neg (by omega), w64 (by omega) (by omega)]
    rfl
  | succ m ih =>
    intro j k r hj hk
    obtain ⟨k, rfl⟩ : ∃ m, k = m + 1 := ⟨k - 1, by omega⟩
    simp only [larderref01_on.l1]
    have hw : wrap64 ((j : Int) + 1) = ((j + 1 : Nat) : Int) := by rw [w64 (by omega) (by omega)]; omega
    have hs := ih (j + 1) k (half r) (by omega) (by omega)
    rw [if_pos (by omega), hw, show k + 1 - (m + 1) - 1 = k - m - 1 by omega, show it (m + 1) r = it m (half r) from rfl, ← hs, half_if1]
    split <;> rfl
theorem on_l0 (p : List Int) (hb : IsBytes p) (hl : p.length < 9223372036854775807) : ∀ (rest : List Int) (i k : Nat) (r : R), p.drop i = rest → i ≤ p.length → 10 * rest.length < k →
    larderref01_on.l0 k (I r) p i = some (I (on r rest)) := by
  intro rest
  induction rest with
  | nil =>
    intro i k r hd hil hk
    obtain ⟨k, rfl⟩ : ∃ m, k = m + 1 := ⟨k - 1, by simp at hk; omega⟩
    have : p.length ≤ i := by
      rcases Nat.lt_or_ge i p.length with h | h
      · have := congrArg List.length hd; simp at this; omega
      · exact h
    simp only [larderref01_on.l0]
    rw [if_neg (by omega), on_nil]
  | cons c t ih =>
    intro i k r hd hil hk
    simp only [List.length_cons] at hk
    obtain ⟨k, rfl⟩ : ∃ m, k = m + 1 := ⟨k - 1, by omega⟩
    obtain ⟨hlt, hrd, hd2⟩ := rd_drop hd
    have hc : 0 ≤ c ∧ c < 256 := (hb.drop i) c (by rw [hd]; exact List.mem_cons_self ..)
    have h1 := on_l1 p i hlt hl 8 0 k (r ^^^ B c) rfl (by omega)
    rw [show ((0 : Nat) : Int) = 0 from rfl] at h1
    simp only [larderref01_on.l0]
    rw [if_pos (by omega), if_pos (by omega), hrd, show c % 4294967296 = c by omega]
    conv => lhs; rw [I_B hc, I_xor]
    rw [h1, ih (i + 1) _ _ hd2 (by omega) (by omega), on_cons]
theorem refOn_ok (k : Nat) (p : List Int) (hb : IsBytes p) (hl : p.length < 9223372036854775807) (hk : 10 * p.length < k) (r : R) : larderref01_on.f k (I r) p = some (I (on r p)) := by
  unfold larderref01_on.f
  exact on_l0 p hb hl p 0 k r rfl (by omega) hk
theorem refCrc_ok (k : Nat) (p : List Int) (hb : IsBytes p) (hl : p.length < 9223372036854775807) (hk : 10 * p.length < k) : larderref01_Crc.f k p = some (I (crc p)) := by
  unfold larderref01_Crc.f crc crcOn
  rw [show (4294967295 : Int) = I 0xffffffff#32 from rfl, refOn_ok k p hb hl hk]
  simp only [Option.bind_some]
  rw [I_xor, BitVec.xor_zero]
end Go.Proofs.YtlblleideihhmaaDoor.CrcLaw
