/- FrameFirst: no frame is the beginning of another, but of its own. -/
import Derived.Test.YtlblleideihhmaaDoorFrMore
namespace Go.Proofs.YtlblleideihhmaaDoor.Pure
set_option linter.unusedVariables false
open Go Go.RowKit Go.Proofs.YtlblleideihhmaaDoor.Crc Go.Proofs.YtlblleideihhmaaDoor.CrcLaw Go.Proofs.YtlblleideihhmaaDoor.SealLaw Go.Proofs.YtlblleideihhmaaDoor.FrMore Go.Proofs.YtlblleideihhmaaDoor.Num Go.Proofs.YtlblleideihhmaaDoorW.PrintWords Go.Proofs.YtlblleideihhmaaDoorW.PrintLast Go.Proofs.YtlblleideihhmaaDoor.PB

theorem first_side {x y : List Int} (hx : IsBytes x) (hy : IsBytes y) (lx : x.length < 18446744073709551616) (ly : y.length < 18446744073709551616) (m : Nat) (hm : m = (fr x).length ∨ m = (fr y).length) (h1 : m ≤ (fr x).length) (h2 : m ≤ (fr y).length) :
    (((strOfNums ((fr x).take m)).toList == (strOfNums ((fr y).take m)).toList) == ((strOfNums x).toList == (strOfNums y).toList)) = true := by
  rw [str_eq ((fr_bytes hx).take m) ((fr_bytes hy).take m), str_eq hx hy]
  by_cases e : x = y
  · subst e; simp
  · rw [decide_eq_false e, decide_eq_false ?_]
    · rfl
    · intro h
      rcases hm with hm | hm
      · have h3 : fr x ++ (fr y).drop m = fr y ++ [] := by
          rw [List.append_nil]
          conv => rhs; rw [← List.take_append_drop m (fr y), ← h, List.take_of_length_le (by omega)]
        exact e (fr_app lx ly h3).1
      · have h3 : fr x ++ [] = fr y ++ (fr x).drop m := by
          rw [List.append_nil]
          conv => lhs; rw [← List.take_append_drop m (fr x), h, List.take_of_length_le (l := fr y) (by omega)]
        exact e (fr_app lx ly h3).1
theorem FrameFirst : larderlaw01_FrameFirst.Pure := by
  intro x y _ hlx hx _ hly hy
  have hx := bytes_of_wf hx
  have hy := bytes_of_wf hy
  refine ⟨x.length + y.length + 30, ?_⟩
  unfold larderlaw01_FrameFirst.f
  by_cases h1 : x.length ≤ 65536
  · by_cases h2 : y.length ≤ 65536
    · rw [seal_ok _ x hx h1 (by omega), Option.bind_some, seal_ok _ y hy h2 (by omega), Option.bind_some, if_pos rfl]
      have s1 := fr_six x
      have s2 := fr_six y
      simp only [larderlaw01_FrameFirst.j0]
      rw [if_neg (by decide), if_neg (by omega), if_neg (by omega)]
      by_cases h3 : ((fr y).length : Int) < ((fr x).length : Int)
      · rw [if_pos h3, if_pos (by omega), if_pos (by omega), if_pos (Int.le_refl _)]
        exact congrArg some (first_side hx hy (by omega) (by omega) _ (Or.inr rfl) (by omega) (by omega))
      · rw [if_neg h3, if_pos (by omega), if_pos (Int.le_refl _), if_pos (by omega)]
        exact congrArg some (first_side hx hy (by omega) (by omega) _ (Or.inl rfl) (by omega) (by omega))
    · rw [seal_ok _ x hx h1 (by omega), Option.bind_some, seal_long _ y (by omega), Option.bind_some, if_pos rfl]
      simp only [larderlaw01_FrameFirst.j0]
      rw [if_pos (by decide), if_neg (by omega), decide_eq_true (by omega)]
  · have e : ∃ r, frame_Seal.f (x.length + y.length + 30) y = some r := by
      by_cases h2 : y.length ≤ 65536
      · exact ⟨_, seal_ok _ y hy h2 (by omega)⟩
      · exact ⟨_, seal_long _ y (by omega)⟩
    obtain ⟨r, e⟩ := e
    rw [seal_long _ x (by omega), Option.bind_some, e, Option.bind_some, if_neg (by decide)]
    simp only [larderlaw01_FrameFirst.j0]
    rw [if_pos trivial, if_pos (by omega)]
end Go.Proofs.YtlblleideihhmaaDoor.Pure
