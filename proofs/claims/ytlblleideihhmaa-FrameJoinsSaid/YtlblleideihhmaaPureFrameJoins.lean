/- FrameJoins: any two sums, any number of bytes: the joined sum, or ErrArg. -/
import Derived.Test.YtlblleideihhmaaJoin
import Derived.Test.YtlblleideihhmaaPJx2
namespace Go.Proofs.Ytlblleideihhmaa.Pure
open Go Go.RowKit Go.Proofs.Ytlblleideihhmaa.Crc Go.Proofs.Ytlblleideihhmaa.Join Go.Proofs.YtlblleideihhmaaW.PrintWords Go.Proofs.YtlblleideihhmaaW.PrintLast Go.Proofs.Ytlblleideihhmaa.PJ
set_option linter.unusedVariables false

/-- A way that stands for m steps. -/
def Way (ws : List Int) (m : Nat) : Prop := ∀ i, i < 32 → ws.getD i 0 = I (it m (1#32 <<< i))
theorem bit_if (c : R) (j : Nat) : (Go.bits .and .u32 (I c / (2 : Int) ^ j) 1 = 1) = (c.getLsbD j = true) := by
  rw [I_shrn, show (1 : Int) = I 1#32 from rfl, I_and, I_eq, and1, BitVec.getLsbD_ushiftRight, Nat.add_zero]
  cases c.getLsbD j <;> simp
theorem gone_low {ws : List Int} {m : Nat} (hw : Way ws m) (c : R) : ∀ n j, j + n = 32 → goneF ws (I c) n j (I (it m (low j c))) = I (it m c) := by
  intro n
  induction n with
  | zero =>
    intro j hj
    obtain rfl : j = 32 := by omega
    rw [goneF, low_all]
  | succ n ih =>
    intro j hj
    rw [goneF, hw j (by omega)]
    have hs := low_succ j (by omega) c
    have : (if Go.bits .and .u32 (I c / (2 : Int) ^ j) 1 = 1 then Go.bits .xor .u32 (I (it m (low j c))) (I (it m (1#32 <<< j))) else I (it m (low j c))) = I (it m (low (j + 1) c)) := by
      by_cases hb : c.getLsbD j = true
      · rw [if_pos ((bit_if c j).mpr hb), I_xor, hs, hb, cond_true, it_xor]
      · rw [if_neg (fun h => hb ((bit_if c j).mp h)), hs, show c.getLsbD j = false by simpa using hb, cond_false, BitVec.xor_zero]
    rw [this]
    exact ih (j + 1) (by omega)
theorem gone_ok {ws : List Int} {m : Nat} (hw : Way ws m) (c : R) : goneF ws (I c) 32 0 0 = I (it m c) := by
  have h := gone_low hw c 32 0 rfl
  rw [show low 0 c = 0#32 by unfold low; rw [Nat.pow_zero, Nat.mod_one], it_zero, show I 0#32 = 0 from rfl] at h
  exact h
theorem twice_ok {ws : List Int} {m : Nat} (hw : Way ws m) : Way (twiceF ws) (m + m) := by
  intro i hi
  rw [List.getD_eq_getElem?_getD, twiceF_at ws i hi, Option.getD_some, hw i hi, gone_ok hw, it_add]
theorem way0_all : way0 = (List.range 32).map fun i => I (it 8 (1#32 <<< i)) := by decide +kernel
theorem way0_ok : Way way0 8 := by
  intro i hi
  rw [way0_all, List.getD_eq_getElem?_getD, List.getElem?_map, List.getElem?_range hi]
  rfl
theorem joinL_ok : ∀ (d : Nat) (ws : List Int) (m n : Nat) (a : R), Way ws m → n < 2 ^ d → joinL d ws (I a) (n : Int) = I (it (n * m) a) := by
  intro d
  induction d with
  | zero =>
    intro ws m n a _ hn
    obtain rfl : n = 0 := by simpa using hn
    rw [joinL, Nat.zero_mul]
    rfl
  | succ d ih =>
    intro ws m n a hw hn
    rw [joinL]
    by_cases h0 : n = 0
    · subst h0
      rw [if_neg (by decide), Nat.zero_mul]
      rfl
    · rw [if_pos (by omega), show (n : Int) / 2 = ((n / 2 : Nat) : Int) by omega, gone_ok hw]
      have hn2 : n / 2 < 2 ^ d := by rw [Nat.pow_succ] at hn; omega
      have e1 : n / 2 * (m + m) = 2 * (n / 2) * m := by rw [Nat.mul_add, Nat.mul_comm 2, Nat.mul_assoc, Nat.two_mul, Nat.mul_add]
      by_cases h1 : n % 2 = 1
      · rw [if_pos (by omega), ih _ _ _ _ (twice_ok hw) hn2, ← it_add, e1]
        have e2 : n * m = 2 * (n / 2) * m + m := by
          have e5 : n = 2 * (n / 2) + 1 := by omega
          have e6 : n * m = (2 * (n / 2) + 1) * m := by rw [← e5]
          rw [e6, Nat.add_mul, Nat.one_mul]
        rw [e2]
      · rw [if_neg (by omega), ih _ _ _ _ (twice_ok hw) hn2, e1, show 2 * (n / 2) = n by omega]
theorem u32_bd {a : Int} (h : (Lit.int .u32 a).wf = true) : 0 ≤ a ∧ a < 4294967296 := by
  simp [Lit.wf, IntKind.min, IntKind.max, IntKind.bits, IntKind.signed] at h
  omega
theorem FrameJoins : larderlaw01_FrameJoins.Pure := by
  intro a b n ha hb hn
  obtain ⟨A, rfl⟩ := I_mk (u32_bd ha).1 (u32_bd ha).2
  obtain ⟨B, rfl⟩ := I_mk (u32_bd hb).1 (u32_bd hb).2
  refine ⟨200, ?_⟩
  unfold larderlaw01_FrameJoins.f larderref01_CrcJoin.f
  rw [if_pos ⟨(I_bd A).1, (I_bd A).2⟩]
  by_cases h : n < 0 ∨ n > 1099511627776
  · rw [if_pos h, join_arg _ (by decide) _ _ _ (by omega)]
    rfl
  · obtain ⟨m, rfl⟩ := Int.eq_ofNat_of_zero_le (show 0 ≤ n by omega)
    rw [if_neg h, join_ok _ (by decide) A B m (by omega), joinL_ok 41 way0 8 m A way0_ok (by omega), I_xor, Nat.mul_comm m 8]
    simp
end Go.Proofs.Ytlblleideihhmaa.Pure
