/- What the program's own product and join of sums answer: steps of the register. -/
import Derived.Test.YtlblleideihhmaaCrc
import Derived.Test.YtlblleideihhmaaPJx1
namespace Go.Proofs.Ytlblleideihhmaa.Join
open Go Go.RowKit Go.Proofs.Ytlblleideihhmaa.Crc Go.Proofs.Ytlblleideihhmaa.PJ Go.Proofs.YtlblleideihhmaaW.PrintWords Go.Proofs.YtlblleideihhmaaW.PrintLast

theorem halved_spec (A : R) : frame_halved.f (I A) = some (I (half A)) := by
  unfold frame_halved.f
  rw [half_if]
  split <;> rfl
theorem times_l0_spec (n : Nat) : ∀ (k : Nat) (A B P : R), n < k → A <<< n = 0#32 → frame_times.l0 k (I A) (I B) (I P) = some (I (P ^^^ T n A B)) := by
  induction n with
  | zero =>
    intro k A B P hk hA
    obtain ⟨k, rfl⟩ : ∃ m, k = m + 1 := ⟨k - 1, by omega⟩
    simp only [frame_times.l0]
    rw [if_pos]
    · simp [T]
    · have : A = 0#32 := by simpa using hA
      rw [this]; rfl
  | succ n ih =>
    intro k A B P hk hA
    obtain ⟨k, rfl⟩ : ∃ m, k = m + 1 := ⟨k - 1, by omega⟩
    simp only [frame_times.l0]
    by_cases h0 : A = 0#32
    · rw [if_pos (by rw [h0]; rfl), h0, T_zero_left]
      simp
    · rw [if_neg (by intro h; exact h0 (I_inj (h.trans rfl)))]
      have hsh : (A <<< 1) <<< n = 0#32 := by rw [← BitVec.shiftLeft_add, Nat.add_comm]; exact hA
      rw [halved_spec]
      simp only [Option.bind_some]
      rw [I_shl]
      rw [I_xor, ih k _ _ _ (by omega) hsh, ih k _ _ _ (by omega) hsh]
      cases hm : A.msb
      · rw [if_pos (by rw [msb_if]; exact hm)]
        simp [T, hm]
      · rw [if_neg (by rw [msb_if, hm]; decide)]
        simp only [T, hm, cond_true]
        rw [BitVec.xor_assoc]
theorem times_spec (k : Nat) (hk : 32 < k) (A B : R) : frame_times.f k (I A) (I B) = some (I (tm A B)) := by
  unfold frame_times.f
  have := times_l0_spec 32 k A B 0#32 hk (by simp)
  rw [show (0 : Int) = I 0#32 from rfl, this]
  simp [tm]

theorem and1_nat (n : Nat) (h : n ≤ 1099511627776) : Go.bits .and .i64 (n : Int) 1 = ((n % 2 : Nat) : Int) := i64_and1 n (by omega)
theorem join_l1 (d : Nat) : ∀ (k n : Nat) (A B P Q : R) (ep eq : Nat), n < 2 ^ d → d + 33 < k → n ≤ 1099511627776 → Rounds P ep → Rounds Q eq →
    frame_CrcJoin.l1 k (I A) (I B) n (I P) (I Q) = some (I (it (ep + n * eq) A ^^^ B), 0) := by
  induction d with
  | zero =>
    intro k n A B P Q ep eq hn hk hb hP hQ
    obtain ⟨k, rfl⟩ : ∃ m, k = m + 1 := ⟨k - 1, by omega⟩
    obtain rfl : n = 0 := by omega
    simp only [frame_CrcJoin.l1]
    rw [if_neg (by decide), times_spec k (by omega)]
    simp only [Option.bind_some]
    rw [I_xor, hP, Nat.zero_mul, Nat.add_zero]
  | succ d ih =>
    intro k n A B P Q ep eq hn hk hb hP hQ
    obtain ⟨k, rfl⟩ : ∃ m, k = m + 1 := ⟨k - 1, by omega⟩
    simp only [frame_CrcJoin.l1]
    by_cases h0 : n = 0
    · subst h0
      rw [if_neg (by decide), times_spec k (by omega)]
      simp only [Option.bind_some]
      rw [I_xor, hP, Nat.zero_mul, Nat.add_zero]
    · rw [if_pos (by omega), and1_nat n hb]
      have hdiv : ((n : Int) / 2) = ((n / 2 : Nat) : Int) := by omega
      rw [hdiv, times_spec k (by omega), times_spec k (by omega)]
      simp only [Option.bind_some]
      have e2 : 2 ^ (d + 1) = 2 ^ d * 2 := rfl
      rw [ih k (n / 2) A B P (tm Q Q) ep (eq + eq) (by omega) (by omega) (by omega) hP (hQ.mul hQ), ih k (n / 2) A B (tm P Q) (tm Q Q) (ep + eq) (eq + eq) (by omega) (by omega) (by omega) (hP.mul hQ) (hQ.mul hQ)]
      have e3 : n / 2 * (eq + eq) = (2 * (n / 2)) * eq := by rw [Nat.mul_add, Nat.mul_comm 2, Nat.mul_assoc, Nat.two_mul, Nat.mul_add]
      rcases Nat.mod_two_eq_zero_or_one n with h | h
      · rw [h, if_pos (show ((0 : Nat) : Int) = 0 from rfl), e3, show 2 * (n / 2) = n from by omega]
      · rw [h, if_neg (show ¬ ((1 : Nat) : Int) = 0 from by decide), e3]
        have e4 : n * eq = 2 * (n / 2) * eq + eq := by
          have e5 : n = 2 * (n / 2) + 1 := by omega
          have e6 : n * eq = (2 * (n / 2) + 1) * eq := by rw [← e5]
          rw [e6, Nat.add_mul, Nat.one_mul]
        rw [e4, show ep + eq + 2 * (n / 2) * eq = ep + (2 * (n / 2) * eq + eq) from by omega]
theorem join_ok (k : Nat) (hk : 100 < k) (A B : R) (n : Nat) (hn : n ≤ 1099511627776) : frame_CrcJoin.f k (I A) (I B) n = some (I (it (8 * n) A ^^^ B), 0) := by
  obtain ⟨k, rfl⟩ : ∃ m, k = m + 5 := ⟨k - 5, by omega⟩
  unfold frame_CrcJoin.f
  rw [if_neg (by omega), decide_eq_false (by omega)]
  simp only [frame_CrcJoin.j0]
  rw [if_neg (by decide)]
  simp only [frame_CrcJoin.l0]
  have w1 : wrap64 (0 + 1) = 1 := by unfold wrap64; omega
  have w2 : wrap64 (1 + 1) = 2 := by unfold wrap64; omega
  have w3 : wrap64 (2 + 1) = 3 := by unfold wrap64; omega
  rw [w1, w2, w3]
  rw [if_pos (by decide), show (1073741824 : Int) = I 0x40000000#32 from rfl, times_spec _ (by omega)]
  simp only [Option.bind_some]
  rw [if_pos (by decide), times_spec _ (by omega)]
  simp only [Option.bind_some]
  rw [if_pos (by decide), times_spec _ (by omega)]
  simp only [Option.bind_some]
  rw [if_neg (by decide), show (2147483648 : Int) = I 0x80000000#32 from rfl]
  have s2 := Rounds.one.mul Rounds.one
  have s4 := s2.mul s2
  have s8 := s4.mul s4
  rw [join_l1 41 k n A B _ _ 0 _ (by omega) (by omega) hn Rounds.zero s8]
  rw [Nat.zero_add, Nat.mul_comm n]
theorem join_arg (k : Nat) (hk : 0 < k) (a b n : Int) (h : n < 0 ∨ 1099511627776 < n) : frame_CrcJoin.f k a b n = some (0, 2) := by
  obtain ⟨k, rfl⟩ : ∃ m, k = m + 1 := ⟨k - 1, by omega⟩
  unfold frame_CrcJoin.f
  split
  · simp [frame_CrcJoin.j0]
  · rw [decide_eq_true (by omega)]
    simp [frame_CrcJoin.j0]
end Go.Proofs.Ytlblleideihhmaa.Join
