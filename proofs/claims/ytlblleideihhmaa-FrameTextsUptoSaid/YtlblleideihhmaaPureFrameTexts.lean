/- FrameTexts, of what is of bulk at most 1048576: texts laid and read, as the document does. -/
import Derived.Test.YtlblleideihhmaaNumRef
import Derived.Test.YtlblleideihhmaaPAx1
import Derived.Test.YtlblleideihhmaaPAx10
import Derived.Test.YtlblleideihhmaaPAx11
import Derived.Test.YtlblleideihhmaaPAx4
import Derived.Test.YtlblleideihhmaaPAx9
namespace Go.Proofs.Ytlblleideihhmaa.Pure
open Go Go.RowKit Go.Proofs.Ytlblleideihhmaa.Num Go.Proofs.Ytlblleideihhmaa.Mine Go.Proofs.YtlblleideihhmaaW.PrintWords Go.Proofs.YtlblleideihhmaaW.PrintLast Go.Proofs.Ytlblleideihhmaa.PA
set_option linter.unusedVariables false

theorem ug_at (l : List Int) : ∀ (i n : Nat), (i : Int) ≤ (ug i n l).2.1 ∧ (ug i n l).2.1 ≤ (i : Int) + l.length := by
  induction l with
  | nil => intro i n; simp [ug]
  | cons c t ih =>
    intro i n
    unfold ug
    split
    · simp; omega
    · split
      · simp; omega
      · split
        · simp; omega
        · have := ih (i + 1) (n + c.toNat % 128 * 128 ^ i)
          simp only [List.length_cons]
          omega
theorem sclone_ok (l : List Int) (h : l.length < 140737488355328) : slices_Clone_byte_byte.f l = some l := by
  unfold slices_Clone_byte_byte.f
  rw [if_pos h]
theorem text_same (k : Nat) (l : List Int) (a : Int) (hb : IsBytes l) (hl : l.length < 140737488355328) (hk : 3 * l.length + 20 < k) (ha : -9223372036854775808 ≤ a ∧ a ≤ 9223372036854775807) :
    ∃ r, frame_Text.f k l a = some r ∧ larderref01_Text.f k l a = some r := by
  unfold frame_Text.f larderref01_Text.f
  by_cases h : a < 0
  · rw [if_pos h, if_pos h]
    exact ⟨_, rfl, rfl⟩
  · rw [if_neg h, if_neg h, frame_uint l hb (by omega) k (by omega), Option.bind_some, ref_uint l hb (by omega) k (by omega), Option.bind_some]
    have hu := ug_lt l 0 0 (by omega) (by decide) hb
    have hat := ug_at l 0 0
    generalize ug 0 0 l = g at *
    obtain ⟨u, t, e⟩ := g
    dsimp only at hu hat ⊢
    by_cases he : e = 0
    · rw [if_pos he, if_pos he, show IntKind.u64.wrap a = a by rw [IntKind.wrap_u64]; omega]
      by_cases h1 : u > a
      · rw [if_pos h1, if_pos h1]
        exact ⟨_, rfl, rfl⟩
      · rw [if_neg h1, if_neg h1, w64 (x := (l.length : Int) - t) (by omega) (by omega), show IntKind.u64.wrap ((l.length : Int) - t) = (l.length : Int) - t by rw [IntKind.wrap_u64]; omega]
        by_cases h2 : u > (l.length : Int) - t
        · rw [if_pos h2, if_pos h2]
          exact ⟨_, rfl, rfl⟩
        · rw [if_neg h2, if_neg h2, w64 (x := u) (by omega) (by omega), w64 (x := t + u) (by omega) (by omega), if_pos (by omega), if_pos (by omega), if_pos (by omega), sclone_ok _ (by rw [List.length_drop, List.length_take]; omega), Option.bind_some, if_pos (by omega), if_pos (by omega), if_pos (by omega)]
          exact ⟨_, rfl, rfl⟩
    · rw [if_neg he, if_neg he]
      exact ⟨_, rfl, rfl⟩
theorem FrameTexts : larderlaw01_FrameTexts.Pure := by
  intro l s a _ hl hb hs ha
  have hb := bytes_of_wf hb
  have ha := i64_bd ha
  refine ⟨3 * l.length + 100, ?_⟩
  unfold larderlaw01_FrameTexts.f
  have e1 : larderref01_Lent.f l = some l := by unfold larderref01_Lent.f; rw [if_pos (by omega)]
  have hlen : (bytesOf s).length = s.size := bytesOf_length s
  have e2 : IntKind.u64.wrap (s.size : Int) = ((s.size : Nat) : Int) := by rw [IntKind.wrap_u64]; omega
  have hel := enc_len 10 s.size
  have e3 : frame_PutText.f (3 * l.length + 100) l s = some (l ++ enc 10 s.size ++ bytesOf s) := by
    unfold frame_PutText.f
    rw [w64 (by omega) (by omega), grown_ok l _ (by omega) (by omega) (by omega), Option.bind_some, e2, putUint_raw _ (by omega) l s.size (by omega) (by omega), Option.bind_some, if_pos (by rw [List.length_append]; omega)]
  have e4 : larderref01_PutText.f (3 * l.length + 100) l s = some (l ++ enc 10 s.size ++ bytesOf s) := by
    unfold larderref01_PutText.f
    rw [e2, refPutUint_ok _ (by omega) l s.size (by omega) (by omega), Option.bind_some, if_pos (by omega), joined_ok _ _ (by rw [List.length_append]; omega), Option.bind_some]
  obtain ⟨r, h1, h2⟩ := text_same (3 * l.length + 100) l a hb (by omega) (by omega) ha
  rw [e1, Option.bind_some, e3, Option.bind_some, e4, Option.bind_some, if_pos rfl, h1, Option.bind_some, h2, Option.bind_some, if_pos rfl, if_pos rfl, if_pos rfl]
  unfold larderref01_Kept.f
  rw [if_pos rfl]
  rfl
end Go.Proofs.Ytlblleideihhmaa.Pure
