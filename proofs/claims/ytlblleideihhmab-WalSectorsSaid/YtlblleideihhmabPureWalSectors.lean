/- WalSectors: any life, number, bytes: Need, Stamp, Sector. -/
import Derived.Test.YtlblleideihhmabNumWord
import Derived.Test.YtlblleideihhmabPSx1
import Derived.Test.YtlblleideihhmabPSx2
import Derived.Test.YtlblleideihhmabPSx3
import Derived.Test.YtlblleideihhmabPSx4
namespace Go.Proofs.Ytlblleideihhmab.Pure
open Go Go.RowKit Go.Proofs.Ytlblleideihhmab.Num Go.Proofs.YtlblleideihhmabW.PrintWords Go.Proofs.YtlblleideihhmabW.PrintLast Go.Proofs.Ytlblleideihhmab.PS
set_option linter.unusedVariables false

theorem stamp_ok (a b : Int) : ∃ x : Nat, x < 18446744073709551616 ∧ wal_Stamp.f a b = some (x : Int) ∧ larderref10_Stamp.f a b = some (x : Int) := by
  unfold wal_Stamp.f larderref10_Stamp.f
  split
  · exact ⟨0, by decide, rfl, rfl⟩
  · split
    · exact ⟨0, by decide, rfl, rfl⟩
    · split
      · exact ⟨0, by decide, rfl, rfl⟩
      · split
        · exact ⟨0, by decide, rfl, rfl⟩
        · have h : ∀ y : Int, 0 ≤ IntKind.u64.wrap y ∧ IntKind.u64.wrap y < 18446744073709551616 := fun y => by rw [IntKind.wrap_u64]; omega
          obtain ⟨n, hn⟩ := Int.eq_ofNat_of_zero_le (h (IntKind.u64.wrap (IntKind.u64.wrap a * 4096) + IntKind.u64.wrap b)).1
          have := (h (IntKind.u64.wrap (IntKind.u64.wrap a * 4096) + IntKind.u64.wrap b)).2
          rw [hn] at this ⊢
          exact ⟨n, by omega, rfl, rfl⟩
theorem sector_l0 (x : Nat) (hx : x < 18446744073709551616) : ∀ (d k : Nat) (y : List Int), y.length + d = 120 → d + 20 < k → larderref10_Sector.l0 k x y = some (y ++ List.replicate d 0 ++ le 8 x, 0) := by
  intro d
  induction d with
  | zero =>
    intro k y hy hk
    obtain ⟨k, rfl⟩ : ∃ m, k = m + 1 := ⟨k - 1, by omega⟩
    simp only [larderref10_Sector.l0]
    rw [if_neg (by omega), refPutWord_ok k (by omega) y x hx (by omega), Option.bind_some]
    simp
  | succ d ih =>
    intro k y hy hk
    obtain ⟨k, rfl⟩ : ∃ m, k = m + 1 := ⟨k - 1, by omega⟩
    simp only [larderref10_Sector.l0]
    rw [if_pos (by omega), if_pos (by omega), ih k (y ++ [0]) (by simp; omega) (by omega), List.replicate_succ]
    simp
theorem sectors_same (k : Nat) (hk : 200 < k) (a b : Int) (l : List Int) (hl : l.length < 140737488355328) : ∃ r, wal_Sector.f k a b l = some r ∧ larderref10_Sector.f k a b l = some r := by
  obtain ⟨x, hx, h1, h2⟩ := stamp_ok a b
  unfold wal_Sector.f larderref10_Sector.f
  rw [h1, h2, Option.bind_some, Option.bind_some]
  by_cases h0 : (x : Int) = 0
  · rw [if_pos h0, if_pos h0]
    exact ⟨_, rfl, rfl⟩
  · rw [if_neg h0, if_neg h0]
    by_cases h3 : (l.length : Int) > 111
    · rw [if_pos h3, if_pos h3]
      exact ⟨_, rfl, rfl⟩
    · rw [if_neg h3, if_neg h3, putWord_ok k (by omega) [] x (by simp), Option.bind_some, List.nil_append, if_pos (le_len 8 x), refPutWord_ok k (by omega) [] x hx (by simp), Option.bind_some, List.nil_append, if_pos (by rw [le_len]; decide), Option.bind_some,
        if_pos (by simp only [List.length_append, le_len, List.length_cons, List.length_nil]; omega), show (l.length : Int) % 256 = (l.length : Int) by omega,
        sector_l0 x hx (111 - l.length) k _ (by simp only [List.length_append, le_len, List.length_cons, List.length_nil]; omega) (by omega)]
      exact ⟨_, rfl, rfl⟩
theorem need_same (n : Int) : ∃ r, wal_Need.f n = some r ∧ larderref10_Need.f n = some r := by
  unfold wal_Need.f larderref10_Need.f
  split
  · exact ⟨_, rfl, rfl⟩
  · split <;> exact ⟨_, rfl, rfl⟩
theorem WalSectors : larderlaw10_WalSectors.Pure := by
  intro a b l _ _ _ hl hb
  obtain ⟨x, hx, h1, h2⟩ := stamp_ok a b
  obtain ⟨n1, e1, e2⟩ := need_same b
  obtain ⟨n2, e3, e4⟩ := need_same (l.length : Int)
  obtain ⟨r, s1, s2⟩ := sectors_same 300 (by decide) a b l (by omega)
  refine ⟨300 + 1, ?_⟩
  unfold larderlaw10_WalSectors.f
  rw [e1, Option.bind_some, e2, Option.bind_some, if_pos rfl, e3, Option.bind_some, e4, Option.bind_some, if_pos rfl, h1, Option.bind_some, h2, Option.bind_some, show (((x : Int) != (x : Int)) : Bool) = false by simp]
  simp only [larderlaw10_WalSectors.j0]
  have eL : larderref01_Lent.f l = some l := by unfold larderref01_Lent.f; rw [if_pos (by omega)]
  have eK : larderref01_Kept.f l l = some true := by unfold larderref01_Kept.f; rw [if_pos rfl]
  rw [if_neg (by decide), eL, Option.bind_some, s1, Option.bind_some, s2, Option.bind_some, if_pos rfl, if_pos rfl, eK]
  rfl
end Go.Proofs.Ytlblleideihhmab.Pure
