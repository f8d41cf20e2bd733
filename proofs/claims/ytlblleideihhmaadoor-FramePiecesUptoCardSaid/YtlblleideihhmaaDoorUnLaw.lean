/- What Unseal answers, the program's and the document's; and what it makes of frames. -/
import Derived.Test.YtlblleideihhmaaDoorPBx3
import Derived.Test.YtlblleideihhmaaDoorPBx4
import Derived.Test.YtlblleideihhmaaDoorPBx6
import Derived.Test.YtlblleideihhmaaDoorFrMore
namespace Go.Proofs.YtlblleideihhmaaDoor.UnLaw
open Go Go.RowKit Go.Proofs.YtlblleideihhmaaDoor.Crc Go.Proofs.YtlblleideihhmaaDoor.CrcLaw Go.Proofs.YtlblleideihhmaaDoor.SealLaw Go.Proofs.YtlblleideihhmaaDoor.FrMore Go.Proofs.YtlblleideihhmaaDoor.Num Go.Proofs.YtlblleideihhmaaDoorW.PrintWords Go.Proofs.YtlblleideihhmaaDoorW.PrintLast Go.Proofs.YtlblleideihhmaaDoor.PB
set_option linter.unusedVariables false

theorem ug_at (l : List Int) : ∀ (i n : Nat), (i : Int) ≤ (ug i n l).2.1 ∧ (ug i n l).2.1 ≤ (i : Int) + l.length ∧ ((ug i n l).2.2 = 0 → (i : Int) < (ug i n l).2.1) := by
  induction l with
  | nil => intro i n; simp [ug]
  | cons c t ih =>
    intro i n
    unfold ug
    split
    · simp; omega
    · split
      · simp; omega
      · split
        · simp; omega
        · have := ih (i + 1) (n + c.toNat % 128 * 128 ^ i)
          simp only [List.length_cons]
          refine ⟨by omega, by omega, fun h => ?_⟩
          have := this.2.2 h
          omega
/-- What Unseal answers. -/
def un (b : List Int) : List Int × Int × Int × Int :=
  if b.length = 0 then ([], 0, 3, 0) else if b.getD 0 0 = 167 then
    (if (ug 0 0 (b.drop 1)).2.2 = 0 then
      (if (ug 0 0 (b.drop 1)).1 > 65536 then ([], 0, 12, 1)
       else if (b.length : Int) < 1 + (ug 0 0 (b.drop 1)).2.1 + (ug 0 0 (b.drop 1)).1 + 4 then ([], 0, 3, (b.length : Int))
       else if ((leV ((b.take (1 + (ug 0 0 (b.drop 1)).2.1 + (ug 0 0 (b.drop 1)).1 + 4).toNat).drop (1 + (ug 0 0 (b.drop 1)).2.1 + (ug 0 0 (b.drop 1)).1).toNat) : Nat) : Int) = I (crc (b.take (1 + (ug 0 0 (b.drop 1)).2.1 + (ug 0 0 (b.drop 1)).1).toNat)) then
         ((b.take (1 + (ug 0 0 (b.drop 1)).2.1 + (ug 0 0 (b.drop 1)).1).toNat).drop (1 + (ug 0 0 (b.drop 1)).2.1).toNat, 1 + (ug 0 0 (b.drop 1)).2.1 + (ug 0 0 (b.drop 1)).1 + 4, 0, 0)
       else ([], 0, 13, 1 + (ug 0 0 (b.drop 1)).2.1 + (ug 0 0 (b.drop 1)).1))
     else ([], 0, (ug 0 0 (b.drop 1)).2.2, 1 + (ug 0 0 (b.drop 1)).2.1))
  else ([], 0, 14, 0)
theorem u64_I (c : R) : IntKind.u64.wrap (I c) = I c := by
  have := I_bd c
  rw [IntKind.wrap_u64]; omega
theorem load_ok (k : Nat) (b : List Int) (hb : IsBytes b) (hl : b.length < 140737488355328) (hk : b.length + 20 < k) : frame_load.f k b = some (un b) := by
  unfold frame_load.f un
  by_cases h0 : b.length = 0
  · rw [if_pos (by omega), if_pos h0]
  · rw [if_neg (by omega), if_neg h0, if_pos (by omega)]
    by_cases h1 : b.getD 0 0 = 167
    · have hd : (b.drop 1).length = b.length - 1 := List.length_drop
      rw [if_pos (show rd b 0 = 167 from h1), if_pos h1, if_pos (by omega), frame_uint (b.drop 1) (hb.drop 1) (by omega) k (by omega), Option.bind_some]
      have hu := ug_lt (b.drop 1) 0 0 (by omega) (by decide) (hb.drop 1)
      have ha := ug_at (b.drop 1) 0 0
      generalize ug 0 0 (b.drop 1) = g at *
      obtain ⟨u, a, e⟩ := g
      simp only at hu ha ⊢
      have e1 : wrap64 (1 + a) = 1 + a := w64 (by omega) (by omega)
      rw [e1]
      by_cases he : e = 0
      · rw [if_pos he, if_pos he]
        by_cases hs : u > 65536
        · rw [if_pos hs, if_pos hs]
        · rw [if_neg hs, if_neg hs]
          have e2 : wrap64 u = u := w64 (by omega) (by omega)
          have e3 : wrap64 (1 + a + u) = 1 + a + u := w64 (by omega) (by omega)
          have e4 : wrap64 (1 + a + u + 4) = 1 + a + u + 4 := w64 (by omega) (by omega)
          rw [e2, e3, e4]
          by_cases ht : (b.length : Int) < 1 + a + u + 4
          · rw [if_pos ht, if_pos ht]
          · have hc : ((b.take (1 + a + u + 4).toNat).drop (1 + a + u).toNat).length = 4 := by rw [List.length_drop, List.length_take]; omega
            rw [if_neg ht, if_neg ht, if_pos (by omega), if_pos (by omega), if_pos (by omega), low_ok k _ ((hb.take _).drop _) (by omega) (by omega), Option.bind_some, if_pos (by omega),
              crc_ok k _ (hb.take _) (by rw [List.length_take]; omega) (by rw [List.length_take]; omega), Option.bind_some, u64_I]
            by_cases hx : ((leV ((b.take (1 + a + u + 4).toNat).drop (1 + a + u).toNat) : Nat) : Int) = I (crc (b.take (1 + a + u).toNat))
            · rw [if_pos hx, if_pos hx, if_pos (by omega), if_pos (by omega)]
            · rw [if_neg hx, if_neg hx]
      · rw [if_neg he, if_neg he]
    · rw [if_neg (show ¬ rd b 0 = 167 from h1), if_neg h1]
theorem clone_ok (l : List Int) (h : l.length < 140737488355328) : bytes_Clone.f l = some l := by
  unfold bytes_Clone.f
  rw [if_pos h]
theorem un_len (b : List Int) : (un b).1.length ≤ b.length := by
  unfold un
  repeat' split
  all_goals first | (simp; done) | (simp only [List.length_drop, List.length_take]; omega)
theorem unseal_ok (k : Nat) (b : List Int) (hb : IsBytes b) (hl : b.length < 140737488355328) (hk : b.length + 20 < k) : frame_Unseal.f k b = some (un b) := by
  unfold frame_Unseal.f
  have := un_len b
  rw [load_ok k b hb hl hk, Option.bind_some, clone_ok _ (by omega), Option.bind_some]
theorem four_cut {b : List Int} (hb : IsBytes b) (hl : b.length = 4) (c : R) : (((leV b : Nat) : Int) = I c) = (le 4 c.toNat = b) := by
  apply propext
  have h1 := leV_le 4 c.toNat
  have h2 := c.isLt
  rw [Nat.mod_eq_of_lt (show c.toNat < 256 ^ 4 by omega)] at h1
  constructor
  · intro h
    refine leV_inj _ _ (by rw [le_len, hl]) (le_bytes 4 _) hb ?_
    rw [h1]
    unfold I at h
    omega
  · intro h
    rw [← h, h1]
    rfl
theorem refUnseal_ok (k : Nat) (b : List Int) (hb : IsBytes b) (hl : b.length < 140737488355328) (hk : 10 * b.length + 50 < k) : larderref01_Unseal.f k b = some (un b) := by
  unfold larderref01_Unseal.f un
  by_cases h0 : b.length = 0
  · rw [if_pos (by omega), if_pos h0]
  · rw [if_neg (by omega), if_neg h0, if_pos (by omega)]
    by_cases h1 : b.getD 0 0 = 167
    · have hd : (b.drop 1).length = b.length - 1 := List.length_drop
      rw [if_pos (show rd b 0 = 167 from h1), if_pos h1, if_pos (by omega), ref_uint (b.drop 1) (hb.drop 1) (by omega) k (by omega), Option.bind_some]
      have hu := ug_lt (b.drop 1) 0 0 (by omega) (by decide) (hb.drop 1)
      have ha := ug_at (b.drop 1) 0 0
      generalize ug 0 0 (b.drop 1) = g at *
      obtain ⟨u, a, e⟩ := g
      simp only at hu ha ⊢
      have e1 : wrap64 (a + 1) = 1 + a := by rw [w64 (by omega) (by omega)]; omega
      rw [e1]
      by_cases he : e = 0
      · rw [if_pos he, if_pos he]
        by_cases hs : u > 65536
        · rw [if_pos hs, if_pos hs]
        · rw [if_neg hs, if_neg hs]
          have e2 : wrap64 u = u := w64 (by omega) (by omega)
          have e3 : wrap64 (1 + a + u) = 1 + a + u := w64 (by omega) (by omega)
          have e4 : wrap64 (1 + a + u + 4) = 1 + a + u + 4 := w64 (by omega) (by omega)
          rw [e2, e3, e4]
          by_cases ht : (b.length : Int) < 1 + a + u + 4
          · rw [if_pos (by omega), if_pos ht]
          · have hc : ((b.take (1 + a + u + 4).toNat).drop (1 + a + u).toNat).length = 4 := by rw [List.length_drop, List.length_take]; omega
            rw [if_neg (by omega), if_neg ht, if_pos (by omega), if_pos (by omega), refCrc_ok k _ (hb.take _) (by rw [List.length_take]; omega) (by rw [List.length_take]; omega), Option.bind_some, four_ok, Option.bind_some, if_pos (by omega), if_pos (by omega)]
            have hq := four_cut ((hb.take (1 + a + u + 4).toNat).drop (1 + a + u).toNat) hc (crc (b.take (1 + a + u).toNat))
            have hz := str_eq (le_bytes 4 (crc (b.take (1 + a + u).toNat)).toNat) ((hb.take (1 + a + u + 4).toNat).drop (1 + a + u).toNat)
            by_cases hx : le 4 (crc (b.take (1 + a + u).toNat)).toNat = (b.take (1 + a + u + 4).toNat).drop (1 + a + u).toNat
            · rw [decide_eq_true hx] at hz
              rw [if_pos (beq_iff_eq.1 hz), if_pos (hq.mpr hx), if_pos (by omega), if_pos (by omega), joined_ok _ _ (by rw [List.length_drop, List.length_take, List.length_nil]; omega), Option.bind_some, List.nil_append]
            · rw [decide_eq_false hx] at hz
              rw [if_neg (beq_eq_false_iff_ne.1 hz), if_neg (fun h => hx (hq.mp h))]
      · rw [if_neg he, if_neg he]
    · rw [if_neg (show ¬ rd b 0 = 167 from h1), if_neg h1]
end Go.Proofs.YtlblleideihhmaaDoor.UnLaw
