/- What Unseal answers, the program's and the document's; and what it makes of frames. -/
import Derived.Test.YtlblleideihhmaaDoorFrMore
namespace Go.Proofs.YtlblleideihhmaaDoor.UnLaw
open Go Go.RowKit Go.Proofs.YtlblleideihhmaaDoor.Crc Go.Proofs.YtlblleideihhmaaDoor.CrcLaw Go.Proofs.YtlblleideihhmaaDoor.SealLaw Go.Proofs.YtlblleideihhmaaDoor.FrMore Go.Proofs.YtlblleideihhmaaDoor.Num Go.Proofs.YtlblleideihhmaaDoorW.PrintWords Go.Proofs.YtlblleideihhmaaDoorW.PrintLast Go.Proofs.YtlblleideihhmaaDoor.PB
set_option linter.unusedVariables false

theorem ug_at (l : List Int) : ∀ (i n : Nat), (i : Int) ≤ (ug i n l).2.1 ∧ (ug i n l).2.1 ≤ (i : Int) + l.length ∧ ((ug i n l).2.2 = 0 → (i : Int) < (ug i n l).2.1) := by
  induction l with
  | nil => intro i n; simp [ug]
  | cons c t ih =>
    intro i n
    unfold ug
    split
    · simp; omega
    · split
      · simp; omega
      · split
        · simp; omega
        · have := ih (i + 1) (n + c.toNat % 128 * 128 ^ i)
          simp only [List.length_cons]
          refine ⟨by omega, by omega, fun h => ?_⟩
          have := this.2.2 h
          omega
/-- What Unseal answers. -/
def un (b : List Int) : List Int × Int × Int × Int :=
  if b.length = 0 then ([], 0, 3, 0) else if b.getD 0 0 = 167 then
    (if (ug 0 0 (b.drop 1)).2.2 = 0 then
      (if (ug 0 0 (b.drop 1)).1 > 65536 then ([], 0, 12, 1)
       else if (b.length : Int) < 1 + (ug 0 0 (b.drop 1)).2.1 + (ug 0 0 (b.drop 1)).1 + 4 then ([], 0, 3, (b.length : Int))
       else if ((leV ((b.take (1 + (ug 0 0 (b.drop 1)).2.1 + (ug 0 0 (b.drop 1)).1 + 4).toNat).drop (1 + (ug 0 0 (b.drop 1)).2.1 + (ug 0 0 (b.drop 1)).1).toNat) : Nat) : Int) = I (crc (b.take (1 + (ug 0 0 (b.drop 1)).2.1 + (ug 0 0 (b.drop 1)).1).toNat)) then
         ((b.take (1 + (ug 0 0 (b.drop 1)).2.1 + (ug 0 0 (b.drop 1)).1).toNat).drop (1 + (ug 0 0 (b.drop 1)).2.1).toNat, 1 + (ug 0 0 (b.drop 1)).2.1 + (ug 0 0 (b.drop 1)).1 + 4, 0, 0)
       else ([], 0, 13, 1 + (ug 0 0 (b.drop 1)).2.1 + (ug 0 0 (b.drop 1)).1))
     else ([], 0, (ug 0 0 (b.drop 1)).2.2, 1 + (ug 0 0 (b.drop 1)).2.1))
  else ([], 0, 14, 0)
theorem u64_I (c : R) : IntKind.u64.wrap (I c) = I c := by
  have := I_bd c
  rw [IntKind.wrap_u64]; omega
theorem un_len (b : List Int) : (un b).1.length ≤ b.length := by
  unfold un
  repeat' split
  all_goals first | (simp; done) | (simp only [List.length_drop, List.length_take]; omega)
theorem four_cut {b : List Int} (hb : IsBytes b) (hl : b.length = 4) (c : R) : (((leV b : Nat) : Int) = I c) = (le 4 c.toNat = b) := by
  apply propext
  have h1 := leV_le 4 c.toNat
  have h2 := c.isLt
  rw [Nat.mod_eq_of_lt (show c.toNat < 256 ^ 4 by omega)] at h1
  constructor
  · intro h
    refine leV_inj _ _ (by rw [le_len, hl]) (le_bytes 4 _) hb ?_
    rw [h1]
    unfold I at h
    omega
  · intro h
    rw [← h, h1]
    rfl
end Go.Proofs.YtlblleideihhmaaDoor.UnLaw
