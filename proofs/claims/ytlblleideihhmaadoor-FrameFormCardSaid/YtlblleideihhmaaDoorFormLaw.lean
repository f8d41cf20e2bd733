/- What was read is what would be written: numbers, texts, frames. -/
import Derived.Test.YtlblleideihhmaaDoorPBx2
import Derived.Test.YtlblleideihhmaaDoorPBx4
import Derived.Test.YtlblleideihhmaaDoorPBx6
import Derived.Test.YtlblleideihhmaaDoorPBx7
import Derived.Test.YtlblleideihhmaaDoorUnLaw
import Derived.Test.YtlblleideihhmaaDoorNumRef
namespace Go.Proofs.YtlblleideihhmaaDoor.FormLaw
open Go Go.RowKit Go.Proofs.YtlblleideihhmaaDoor.Crc Go.Proofs.YtlblleideihhmaaDoor.CrcLaw Go.Proofs.YtlblleideihhmaaDoor.SealLaw Go.Proofs.YtlblleideihhmaaDoor.FrMore Go.Proofs.YtlblleideihhmaaDoor.UnLaw Go.Proofs.YtlblleideihhmaaDoor.Num Go.Proofs.YtlblleideihhmaaDoorW.PrintWords Go.Proofs.YtlblleideihhmaaDoorW.PrintLast Go.Proofs.YtlblleideihhmaaDoor.PB
set_option linter.unusedVariables false

theorem ug_back (l : List Int) : ∀ (i n : Nat), i ≤ 9 → IsBytes l → (ug i n l).2.2 = 0 →
    ∃ d j : Nat, (ug i n l).1 = ((n + d * 128 ^ i : Nat) : Int) ∧ (ug i n l).2.1 = ((i + j : Nat) : Int) ∧ 0 < j ∧ j ≤ l.length ∧ l.take j = enc (10 - i) d ∧ (0 < i → 0 < d) := by
  induction l with
  | nil => intro i n _ _ h; simp [ug] at h
  | cons c t ih =>
    intro i n hi hb h
    have hc := hb c (List.mem_cons_self ..)
    have ht : IsBytes t := fun x hx => hb x (List.mem_cons_of_mem _ hx)
    unfold ug at h ⊢
    by_cases h9 : i = 9 ∧ c > 1
    · rw [if_pos h9] at h; exact absurd h (by simp)
    · rw [if_neg h9] at h ⊢
      by_cases h0 : 0 < i ∧ c = 0
      · rw [if_pos h0] at h; exact absurd h (by simp)
      · rw [if_neg h0] at h ⊢
        obtain ⟨f, hf⟩ : ∃ f, 10 - i = f + 1 := ⟨9 - i, by omega⟩
        by_cases h1 : c < 128
        · rw [if_pos h1]
          refine ⟨c.toNat, 1, ?_, rfl, by decide, by simp, ?_, fun hi0 => ?_⟩
          · simp only
            rw [show c.toNat % 128 = c.toNat by omega]
          · rw [hf, enc, if_pos (by omega), List.take_succ_cons, List.take_zero, show ((c.toNat : Nat) : Int) = c by omega]
          · have : c ≠ 0 := fun h2 => h0 ⟨hi0, h2⟩
            omega
        · rw [if_neg h1] at h ⊢
          have hi8 : i + 1 ≤ 9 := by
            rcases Nat.lt_or_ge i 9 with h2 | h2
            · omega
            · exact absurd ⟨by omega, by omega⟩ h9
          obtain ⟨d, j, e1, e2, e3, e4, e5, e6⟩ := ih (i + 1) (n + c.toNat % 128 * 128 ^ i) hi8 ht h
          have hd := e6 (by omega)
          refine ⟨c.toNat % 128 + 128 * d, j + 1, ?_, ?_, by omega, by simp only [List.length_cons]; omega, ?_, fun _ => by omega⟩
          · rw [e1, Nat.pow_succ, Nat.add_mul]
            congr 1
            rw [Nat.add_assoc, show d * (128 ^ i * 128) = 128 * d * 128 ^ i by rw [Nat.mul_comm (128 ^ i) 128, ← Nat.mul_assoc, Nat.mul_comm d 128]]
          · rw [e2]; omega
          · rw [hf, enc, if_neg (by omega), List.take_succ_cons, e5, show 10 - (i + 1) = f by omega, show (c.toNat % 128 + 128 * d) % 128 + 128 = c.toNat by omega, show (c.toNat % 128 + 128 * d) / 128 = d by omega, show ((c.toNat : Nat) : Int) = c by omega]
theorem ug_back0 {l : List Int} (hb : IsBytes l) (h : (ug 0 0 l).2.2 = 0) :
    ∃ d j : Nat, (ug 0 0 l).1 = (d : Int) ∧ (ug 0 0 l).2.1 = (j : Int) ∧ 0 < j ∧ j ≤ l.length ∧ l.take j = enc 10 d ∧ d < 18446744073709551616 := by
  obtain ⟨d, j, e1, e2, e3, e4, e5, _⟩ := ug_back l 0 0 (by decide) hb h
  have hlt := (ug_lt l 0 0 (by decide) (by decide) hb).2
  rw [Nat.pow_zero, Nat.mul_one, Nat.zero_add] at e1
  rw [e1] at hlt
  exact ⟨d, j, e1, by rw [e2, Nat.zero_add], e3, e4, e5, by omega⟩
theorem uint_back (k : Nat) (b : List Int) (hb : IsBytes b) (hl : b.length < 140737488355328) (hk : b.length + 20 < k) :
    ∃ n at_ e, frame_Uint.f k b = some (n, at_, e) ∧ (e = 0 → 1 ≤ at_ ∧ at_ ≤ b.length ∧ frame_PutUint.f k [] n = some (b.take at_.toNat)) := by
  refine ⟨_, _, _, frame_uint b hb (by omega) k (by omega), fun he => ?_⟩
  obtain ⟨d, j, e1, e2, e3, e4, e5, e6⟩ := ug_back0 hb he
  rw [e1, e2]
  refine ⟨by omega, by omega, ?_⟩
  rw [putUint_ok k (by omega) [] d e6 (by simp), List.nil_append, Int.toNat_natCast, e5]
theorem unzz_bd {u : Nat} (h : u < 18446744073709551616) : -9223372036854775808 ≤ unzz (u : Int) ∧ unzz (u : Int) ≤ 9223372036854775807 := by
  unfold unzz
  split <;> omega
theorem int_back (k : Nat) (b : List Int) (hb : IsBytes b) (hl : b.length < 140737488355328) (hk : b.length + 20 < k) :
    ∃ n at_ e, frame_Int.f k b = some (n, at_, e) ∧ (e = 0 → 1 ≤ at_ ∧ at_ ≤ b.length ∧ frame_PutInt.f k [] n = some (b.take at_.toNat)) := by
  refine ⟨_, _, _, frame_int b hb (by omega) k (by omega), fun he => ?_⟩
  obtain ⟨d, j, e1, e2, e3, e4, e5, e6⟩ := ug_back0 hb he
  have hz := zz_unzz (d : Int) (by omega)
  have hbd := unzz_bd e6
  show 1 ≤ (ug 0 0 b).2.1 ∧ (ug 0 0 b).2.1 ≤ _ ∧ frame_PutInt.f k [] (unzz (ug 0 0 b).1) = some (b.take (ug 0 0 b).2.1.toNat)
  rw [e1, e2]
  refine ⟨by omega, by omega, ?_⟩
  rw [putInt_ok k (by omega) [] _ hbd.1 hbd.2 (by simp), List.nil_append, Int.toNat_natCast, e5, show zz (unzz (d : Int)) = d by omega]
theorem sclone_ok (l : List Int) (h : l.length < 140737488355328) : slices_Clone_byte_byte.f l = some l := by
  unfold slices_Clone_byte_byte.f
  rw [if_pos h]
theorem bytesOf_str {l : List Int} (hb : IsBytes l) : bytesOf (strOfNums l) = l := by
  unfold bytesOf
  rw [strOfNums_data, List.map_map]
  conv => rhs; rw [← List.map_id l]
  refine List.map_congr_left (fun x hx => ?_)
  have := hb x hx
  show (((UInt8.ofNat x.toNat).toNat : Nat) : Int) = x
  rw [UInt8.toNat_ofNat']
  omega
theorem text_back (k : Nat) (b : List Int) (most : Int) (hb : IsBytes b) (hl : b.length < 140737488355300) (hk : b.length + 20 < k) (hm : -9223372036854775808 ≤ most ∧ most ≤ 9223372036854775807) :
    ∃ s at_ e, frame_Text.f k b most = some (s, at_, e) ∧ (e = 0 → 1 ≤ at_ ∧ at_ ≤ b.length ∧ (s.size : Int) ≤ most ∧ frame_PutText.f k [] s = some (b.take at_.toNat)) := by
  unfold frame_Text.f
  by_cases h : most < 0
  · rw [if_pos h]
    exact ⟨_, _, _, rfl, fun h2 => absurd h2 (by decide)⟩
  · rw [if_neg h, frame_uint b hb (by omega) k (by omega), Option.bind_some]
    have hbk := ug_back0 (l := b) hb
    generalize ug 0 0 b = g at *
    obtain ⟨u, t, e⟩ := g
    dsimp only at hbk ⊢
    by_cases he : e = 0
    · obtain ⟨d, j, rfl, rfl, e3, e4, e5, e6⟩ := hbk he
      rw [if_pos he, show IntKind.u64.wrap most = most by rw [IntKind.wrap_u64]; omega]
      by_cases h1 : (d : Int) > most
      · rw [if_pos h1]
        exact ⟨_, _, _, rfl, fun h2 => absurd h2 (by decide)⟩
      · rw [if_neg h1, w64 (x := (b.length : Int) - (j : Int)) (by omega) (by omega), show IntKind.u64.wrap ((b.length : Int) - (j : Int)) = (b.length : Int) - (j : Int) by rw [IntKind.wrap_u64]; omega]
        by_cases h2 : (d : Int) > (b.length : Int) - (j : Int)
        · rw [if_pos h2]
          exact ⟨_, _, _, rfl, fun h3 => absurd h3 (by decide)⟩
        · have hlen : ((b.take (j + d)).drop j).length = d := by rw [List.length_drop, List.length_take]; omega
          rw [if_neg h2, w64 (x := (d : Int)) (by omega) (by omega), w64 (x := (j : Int) + (d : Int)) (by omega) (by omega), if_pos (by omega), if_pos (by omega), if_pos (by omega), show ((j : Int) + (d : Int)).toNat = j + d by omega, Int.toNat_natCast, sclone_ok _ (by omega), Option.bind_some]
          refine ⟨_, _, _, rfl, fun _ => ⟨by omega, by omega, by rw [strOfNums_size, hlen]; omega, ?_⟩⟩
          have hsz : (strOfNums ((b.take (j + d)).drop j)).size = d := by rw [strOfNums_size, hlen]
          have hel := enc_len 10 d
          unfold frame_PutText.f
          rw [hsz, w64 (by omega) (by omega), grown_ok [] _ (by omega) (by omega) (by simp), Option.bind_some, show IntKind.u64.wrap (d : Int) = ((d : Nat) : Int) by rw [IntKind.wrap_u64]; omega, putUint_raw k (by omega) [] d e6 (by simp), Option.bind_some, List.nil_append, if_pos (by omega), bytesOf_str ((hb.take _).drop _), ← e5, show ((j : Int) + (d : Int)).toNat = j + d by omega]
          congr 1
          rw [List.drop_take, show j + d - j = d by omega, List.take_add]
    · rw [if_neg he]
      exact ⟨_, _, _, rfl, fun h2 => absurd h2 he⟩
theorem un_back (k : Nat) (b : List Int) (hb : IsBytes b) (hl : b.length < 140737488355328) (hk : b.length + 65600 < k) :
    ((un b).2.2.1 ≠ 0 → (un b).1.length = 0 ∧ (un b).2.1 = 0 ∧ 0 ≤ (un b).2.2.2 ∧ (un b).2.2.2 ≤ b.length) ∧ ((un b).2.2.1 = 0 → (un b).2.2.2 = 0 ∧ 6 ≤ (un b).2.1 ∧ (un b).2.1 ≤ b.length ∧ frame_Seal.f k (un b).1 = some (b.take (un b).2.1.toNat, 0)) := by
  constructor
  · intro he
    unfold un at he ⊢
    by_cases h0 : b.length = 0
    · rw [if_pos h0]; simp
    · rw [if_neg h0] at he ⊢
      by_cases h1 : b.getD 0 0 = 167
      · rw [if_pos h1] at he ⊢
        have ha := ug_at (b.drop 1) 0 0
        have hu := ug_lt (b.drop 1) 0 0 (by omega) (by decide) (hb.drop 1)
        rw [List.length_drop] at ha
        by_cases h2 : (ug 0 0 (b.drop 1)).2.2 = 0
        · rw [if_pos h2] at he ⊢
          by_cases h3 : (ug 0 0 (b.drop 1)).1 > 65536
          · rw [if_pos h3]; simp; omega
          · rw [if_neg h3] at he ⊢
            by_cases h4 : (b.length : Int) < 1 + (ug 0 0 (b.drop 1)).2.1 + (ug 0 0 (b.drop 1)).1 + 4
            · rw [if_pos h4]; simp
            · rw [if_neg h4] at he ⊢
              split at he
              · exact absurd rfl he
              · rename_i h5
                rw [if_neg h5]
                refine ⟨rfl, rfl, ?_, ?_⟩
                · show 0 ≤ 1 + (ug 0 0 (b.drop 1)).2.1 + (ug 0 0 (b.drop 1)).1
                  omega
                · show 1 + (ug 0 0 (b.drop 1)).2.1 + (ug 0 0 (b.drop 1)).1 ≤ _
                  omega
        · rw [if_neg h2]
          refine ⟨rfl, rfl, ?_, ?_⟩
          · show 0 ≤ 1 + (ug 0 0 (b.drop 1)).2.1
            omega
          · show 1 + (ug 0 0 (b.drop 1)).2.1 ≤ _
            omega
      · rw [if_neg h1]; simp
  · intro he
    unfold un at he ⊢
    by_cases h0 : b.length = 0
    · rw [if_pos h0] at he; exact absurd he (by decide)
    · rw [if_neg h0] at he ⊢
      by_cases h1 : b.getD 0 0 = 167
      · rw [if_pos h1] at he ⊢
        by_cases h2 : (ug 0 0 (b.drop 1)).2.2 = 0
        · rw [if_pos h2] at he ⊢
          obtain ⟨d, j, e1, e2, e3, e4, e5, e6⟩ := ug_back0 (hb.drop 1) h2
          rw [e1, e2] at he ⊢
          rw [List.length_drop] at e4
          by_cases h3 : (d : Int) > 65536
          · rw [if_pos h3] at he; exact absurd he (by decide)
          · rw [if_neg h3] at he ⊢
            by_cases h4 : (b.length : Int) < 1 + (j : Int) + (d : Int) + 4
            · rw [if_pos h4] at he; exact absurd he (by show ¬ ((3 : Int) = 0); decide)
            · rw [if_neg h4] at he ⊢
              rw [show (1 + (j : Int) + (d : Int) + 4).toNat = 1 + j + d + 4 by omega, show (1 + (j : Int) + (d : Int)).toNat = 1 + j + d by omega, show (1 + (j : Int)).toNat = 1 + j by omega] at he ⊢
              split at he
              · rename_i h5
                rw [if_pos h5]
                refine ⟨rfl, by show 6 ≤ 1 + (j : Int) + (d : Int) + 4; omega, by show 1 + (j : Int) + (d : Int) + 4 ≤ _; omega, ?_⟩
                show frame_Seal.f k ((b.take (1 + j + d)).drop (1 + j)) = some (b.take (1 + (j : Int) + (d : Int) + 4).toNat, 0)
                have hpl : ((b.take (1 + j + d)).drop (1 + j)).length = d := by rw [List.length_drop, List.length_take]; omega
                have hbody : body ((b.take (1 + j + d)).drop (1 + j)) = b.take (1 + j + d) := by
                  rw [body_eq, hpl, ← e5]
                  have hcons : b = 167 :: b.drop 1 := by
                    cases b with
                    | nil => simp at h0
                    | cons x t => simp at h1; rw [h1]; rfl
                  have h6 : (167 : Int) :: (b.drop 1).take j = b.take (1 + j) := by
                    conv => rhs; rw [hcons]
                    rw [Nat.add_comm 1 j, List.take_succ_cons]
                  rw [h6, List.drop_take, show 1 + j + d - (1 + j) = d by omega, ← List.take_add]
                rw [seal_ok k _ ((hb.take _).drop _) (by omega) (by omega)]
                congr 2
                unfold fr
                rw [hbody]
                have h7 : ((b.take (1 + j + d + 4)).drop (1 + j + d)).length = 4 := by rw [List.length_drop, List.length_take]; omega
                rw [four_cut ((hb.take _).drop _) h7] at h5
                rw [h5, List.drop_take, show 1 + j + d + 4 - (1 + j + d) = 4 by omega, show (1 + (j : Int) + (d : Int) + 4).toNat = (1 + j + d) + 4 by omega]
                exact List.take_add.symm
              · exact absurd he (by simp)
        · rw [if_neg h2] at he; exact absurd he h2
      · rw [if_neg h1] at he; exact absurd he (by decide)
theorem unseal_back (k : Nat) (b : List Int) (hb : IsBytes b) (hl : b.length < 140737488355328) (hk : b.length + 65600 < k) :
    ∃ p at_ e pl, frame_Unseal.f k b = some (p, at_, e, pl) ∧ (e ≠ 0 → p.length = 0 ∧ at_ = 0 ∧ 0 ≤ pl ∧ pl ≤ b.length) ∧ (e = 0 → pl = 0 ∧ 6 ≤ at_ ∧ at_ ≤ b.length ∧ frame_Seal.f k p = some (b.take at_.toNat, 0)) :=
  ⟨(un b).1, (un b).2.1, (un b).2.2.1, (un b).2.2.2, unseal_ok k b hb hl (by omega), un_back k b hb hl hk⟩
end Go.Proofs.YtlblleideihhmaaDoor.FormLaw
