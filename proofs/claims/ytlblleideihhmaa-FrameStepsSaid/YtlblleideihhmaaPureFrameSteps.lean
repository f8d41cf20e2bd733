/- FrameSteps: three sums joined from the left and from the right are one sum; a number out of its bounds is refused. -/
import Derived.Test.YtlblleideihhmaaJoinSteps
import Derived.Test.YtlblleideihhmaaPFrameStepsx1
namespace Go.Proofs.Ytlblleideihhmaa.Pure
open Go Go.RowKit Go.Proofs.Ytlblleideihhmaa.Crc Go.Proofs.Ytlblleideihhmaa.Join Go.Proofs.Ytlblleideihhmaa.PFrameSteps Go.Proofs.YtlblleideihhmaaW.PrintWords Go.Proofs.YtlblleideihhmaaW.PrintLast

theorem u32_bd {a : Int} (h : (Lit.int .u32 a).wf = true) : 0 ≤ a ∧ a < 4294967296 := by
  simp [Lit.wf, IntKind.min, IntKind.max, IntKind.bits, IntKind.signed] at h
  omega
theorem i64_bd {a : Int} (h : (Lit.int .i64 a).wf = true) : -9223372036854775808 ≤ a ∧ a ≤ 9223372036854775807 := by
  simp [Lit.wf, IntKind.min, IntKind.max, IntKind.bits, IntKind.signed] at h
  omega

theorem FrameSteps : larderlaw01_FrameSteps.Pure := by
  intro a b c n m ha hb hc hn hm
  obtain ⟨A, rfl⟩ := I_mk (u32_bd ha).1 (u32_bd ha).2
  obtain ⟨B, rfl⟩ := I_mk (u32_bd hb).1 (u32_bd hb).2
  obtain ⟨C, rfl⟩ := I_mk (u32_bd hc).1 (u32_bd hc).2
  clear ha hb hc hn hm
  obtain ⟨k, hk⟩ : ∃ k : Nat, 100 < k := ⟨101, by omega⟩
  refine ⟨k + 2, ?_⟩
  unfold larderlaw01_FrameSteps.f
  by_cases hn : 0 ≤ n ∧ n ≤ 1099511627776
  · obtain ⟨h1, h2⟩ := hn
    obtain ⟨n, rfl⟩ := Int.eq_ofNat_of_zero_le h1
    rw [join_ok _ (by omega) A B n (by omega)]
    simp only [Option.bind_some]
    by_cases hm : 0 ≤ m ∧ m ≤ 1099511627776
    · obtain ⟨h3, h4⟩ := hm
      obtain ⟨m, rfl⟩ := Int.eq_ofNat_of_zero_le h3
      rw [join_ok _ (by omega) B C m (by omega)]
      simp only [Option.bind_some]
      rw [if_pos (show (n : Int) ≥ 0 from h1), decide_eq_true h2, if_neg (by decide), if_pos (show (m : Int) ≥ 0 from h3), decide_eq_true h4]
      simp only [larderlaw01_FrameSteps.j0]
      rw [if_neg (by decide), if_pos trivial, if_pos trivial]
      have hw : wrap64 ((n : Int) + (m : Int)) = ((n + m : Nat) : Int) := by unfold wrap64; omega
      simp only [larderlaw01_FrameSteps.j1]
      by_cases hs : n + m ≤ 1099511627776
      · rw [decide_eq_false (by omega), if_neg (by decide), join_ok k hk _ C m (by omega), hw, join_ok k hk A _ (n + m) hs]
        simp only [Option.bind_some]
        have h0 := join_ok k hk A 0#32 0 (by omega)
        rw [show I 0#32 = 0 from rfl] at h0
        rw [show ((0 : Nat) : Int) = 0 from rfl] at h0
        rw [h0]
        simp only [Option.bind_some]
        have e : it (8 * m) (it (8 * n) A ^^^ B) ^^^ C = it (8 * (n + m)) A ^^^ (it (8 * m) B ^^^ C) := by
          rw [it_xor, ← it_add, show 8 * m + 8 * n = 8 * (n + m) from by omega, BitVec.xor_assoc]
        rw [if_pos (by rw [e]), if_pos trivial, if_pos trivial, if_pos (by rw [Nat.mul_zero, BitVec.xor_zero]; rfl)]
        rfl
      · rw [decide_eq_true (by omega), if_pos rfl, if_pos trivial, if_pos trivial]
    · rw [join_arg _ (by omega) _ _ m (by omega)]
      simp only [Option.bind_some]
      rw [if_pos (show (n : Int) ≥ 0 from h1), decide_eq_true h2, if_neg (by decide)]
      by_cases h3 : m ≥ 0
      · rw [if_pos h3, decide_eq_false (by omega)]
        simp only [larderlaw01_FrameSteps.j0, larderlaw01_FrameSteps.j1]
        rfl
      · rw [if_neg h3]
        simp only [larderlaw01_FrameSteps.j0, larderlaw01_FrameSteps.j1]
        rfl
  · rw [join_arg _ (by omega) _ _ n (by omega)]
    simp only [Option.bind_some]
    by_cases hm : 0 ≤ m ∧ m ≤ 1099511627776
    · obtain ⟨h3, h4⟩ := hm
      obtain ⟨m, rfl⟩ := Int.eq_ofNat_of_zero_le h3
      rw [join_ok _ (by omega) B C m (by omega)]
      simp only [Option.bind_some]
      by_cases h5 : n ≥ 0
      · rw [if_pos h5, decide_eq_false (show ¬ n ≤ 1099511627776 from by omega), if_neg (by decide), if_pos (show (m : Int) ≥ 0 from h3), decide_eq_true h4]
        simp only [larderlaw01_FrameSteps.j0, larderlaw01_FrameSteps.j1]
        rfl
      · rw [if_neg h5, if_neg (by decide), if_pos (show (m : Int) ≥ 0 from h3), decide_eq_true h4]
        simp only [larderlaw01_FrameSteps.j0, larderlaw01_FrameSteps.j1]
        rfl
    · rw [join_arg _ (by omega) _ _ m (by omega)]
      simp only [Option.bind_some]
      have key : ∀ x : Bool, x = false → larderlaw01_FrameSteps.j0 (k + 2) (I A) (I C) n m 0 2 0 2 x = some true := by
        intro x hx
        subst hx
        simp only [larderlaw01_FrameSteps.j0, larderlaw01_FrameSteps.j1]
        rfl
      by_cases h5 : n ≥ 0
      · rw [if_pos h5, decide_eq_false (show ¬ n ≤ 1099511627776 from by omega), if_neg (by decide)]
        by_cases h3 : m ≥ 0
        · rw [if_pos h3]
          exact key _ (by rw [decide_eq_false (by omega)]; rfl)
        · rw [if_neg h3]
          exact key _ rfl
      · rw [if_neg h5, if_neg (by decide)]
        by_cases h3 : m ≥ 0
        · rw [if_pos h3]
          exact key _ (by rw [decide_eq_false (by omega)]; rfl)
        · rw [if_neg h3]
          exact key _ rfl
end Go.Proofs.Ytlblleideihhmaa.Pure
