/- The choices: how many there are, that none comes twice; rows of them in memory. Plain facts, and what crashes answers. -/
import Derived.Test.YtpaonoaedjkekaaDoorDkIt
import Derived.Test.YtpaonoaedjkekaaDoorPDx3
import Derived.Test.YtpaonoaedjkekaaDoorDkSm
namespace Go.Proofs.YtpaonoaedjkekaaDoor.Dk
open Go Go.RowKit Go.Proofs.SeqWith Go.Proofs.YtpaonoaedjkekaaDoor.PD Go.Proofs.YtpaonoaedjkekaaDoorW.PrintWords Go.Proofs.YtpaonoaedjkekaaDoorW.PrintLast Go.Proofs.YtpaonoaedjkekaaDoorW.PrintMore
set_option linter.unusedVariables false
set_option linter.unusedSimpArgs false
set_option maxRecDepth 100000
theorem choices_len (k : Nat) (h : k ≤ 7) : (choicesL k).length = 2 ^ k + k * 2 ^ k / 2 := by
  have : ∀ k : Fin 8, (choicesL k.val).length = 2 ^ k.val + k.val * 2 ^ k.val / 2 := by decide +kernel
  exact this ⟨k, by omega⟩
theorem choices_small (k : Nat) (h : k ≤ 7) : (choicesL k).length ≤ 1000 := by
  have : ∀ k : Fin 8, (choicesL k.val).length ≤ 1000 := by decide +kernel
  exact this ⟨k, by omega⟩
/-- A number of a choice: another one for each. -/
def codeC (c : Ck) : Nat := (c.2.1 + 1).toNat * 1024 + c.1.foldl (fun s i => s + 2 ^ i.toNat) 0
def upB : List Nat → Bool
  | [] => true
  | [_] => true
  | a :: b :: l => decide (a < b) && upB (b :: l)
theorem upB_pairwise : ∀ l, upB l = true → l.Pairwise (· < ·)
  | [], _ => List.Pairwise.nil
  | [a], _ => by simp
  | a :: b :: l, h => by
    simp only [upB, Bool.and_eq_true, decide_eq_true_eq] at h
    have ih := upB_pairwise (b :: l) h.2
    refine List.Pairwise.cons (fun x hx => ?_) ih
    rcases List.mem_cons.1 hx with rfl | hx
    · exact h.1
    · exact Nat.lt_trans h.1 ((List.pairwise_cons.1 ih).1 x hx)
theorem codes_sorted (k : Nat) (h : k ≤ 7) : ((choicesL k).map codeC).Pairwise (· < ·) := by
  have : ∀ k : Fin 8, upB ((choicesL k.val).map codeC) = true := by decide +kernel
  exact upB_pairwise _ (this ⟨k, by omega⟩)
theorem choices_nodup (k : Nat) (h : k ≤ 7) : (choicesL k).Nodup :=
  List.Pairwise.of_map codeC (fun a b h e => by rw [e] at h; exact Nat.lt_irrefl _ h) (codes_sorted k h)
theorem choices_bytes (k : Nat) : ∀ c ∈ choicesL k, c.2.2 = 0 ∨ c.2.2 = 64 := fun c hc => by
  unfold choicesL at hc
  split at hc
  · cases hc
  · rcases List.mem_append.1 hc with hc | hc
    · obtain ⟨m, _, rfl⟩ := List.mem_map.1 hc
      exact .inl rfl
    · obtain ⟨i, _, hc⟩ := List.mem_flatMap.1 hc
      obtain ⟨m, _, rfl⟩ := List.mem_map.1 hc
      exact .inr rfl
theorem ints_l0 (l0 l1 : List Int) (hl : l0.length = l1.length) (hn : l0.length < 9223372036854775807) : ∀ (k i : Nat), i + k = l0.length → l0.take i = l1.take i → larderlaw06_ints.l0 (k + 1) l0 l1 (i : Int) = some (decide (l0 = l1))
  | 0, i, h, he => by
    unfold larderlaw06_ints.l0
    rw [if_neg (by omega)]
    rw [List.take_of_length_le (by omega), List.take_of_length_le (by omega)] at he
    rw [decide_eq_true he]
  | k + 1, i, h, he => by
    have ih := ints_l0 l0 l1 hl hn k (i + 1) (by omega)
    obtain ⟨x, hx⟩ : ∃ x, l0[i]? = some x := ⟨_, List.getElem?_eq_getElem (by omega)⟩
    obtain ⟨y, hy⟩ : ∃ y, l1[i]? = some y := ⟨_, List.getElem?_eq_getElem (by omega)⟩
    have e0 : rd l0 (i : Int) = x := by unfold rd; rw [Int.toNat_natCast, List.getD_eq_getElem?_getD, hx]; rfl
    have e1 : rd l1 (i : Int) = y := by unfold rd; rw [Int.toNat_natCast, List.getD_eq_getElem?_getD, hy]; rfl
    unfold larderlaw06_ints.l0
    rw [if_pos (by omega), if_pos (by omega), if_pos (by omega), e0, e1]
    by_cases hxy : x = y
    · rw [if_pos hxy, w64n (by omega)]
      exact ih (by rw [take_snoc hx, take_snoc hy, he, hxy])
    · rw [if_neg hxy, decide_eq_false (fun e => hxy (by rw [e] at hx; rw [hx] at hy; exact Option.some.inj hy))]
theorem ints_ok (l0 l1 : List Int) (hn : l0.length < 9223372036854775807) : larderlaw06_ints.f (l0.length + 1) l0 l1 = some (decide (l0 = l1)) := by
  unfold larderlaw06_ints.f
  by_cases h : l0.length = l1.length
  · rw [if_pos (by omega)]
    exact ints_l0 l0 l1 h hn l0.length 0 (by omega) (by simp)
  · rw [if_neg (by omega), decide_eq_false (fun e => h (by rw [e]))]
theorem crashes_ok (c d : Ck) (hn : c.1.length < 9223372036854775807) : larderlaw06_crashes.f (c.1.length + 1) c.1 c.2.1 c.2.2 d.1 d.2.1 d.2.2 = some (decide (c = d)) := by
  obtain ⟨k, t, b⟩ := c
  obtain ⟨k', t', b'⟩ := d
  unfold larderlaw06_crashes.f
  rw [ints_ok k k' hn, Option.bind_some]
  by_cases h1 : k = k'
  · rw [if_pos (decide_eq_true h1)]
    by_cases h2 : t = t'
    · rw [if_pos h2]
      congr 1
      subst h1 h2
      by_cases h3 : b = b'
      · subst h3; simp
      · simp [h3]
    · rw [if_neg h2]
      congr 1
      symm
      apply decide_eq_false
      intro e
      injection e with _ e
      injection e with e _
      exact h2 e
  · rw [if_neg (by simp [h1])]
    congr 1
    symm
    apply decide_eq_false
    intro e
    injection e with e _
    exact h1 e
end Go.Proofs.YtpaonoaedjkekaaDoor.Dk
