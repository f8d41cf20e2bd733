/- Plain facts on the small functions of the disk's laws: full, within. -/
import Derived.Test.YtpaonoaedjkekaaDoorPDx1
import Derived.Test.YtpaonoaedjkekaaDoorPDx2
import Derived.Test.YtpaonoaedjkekaaDoorDkB
namespace Go.Proofs.YtpaonoaedjkekaaDoor.Dk
open Go Go.RowKit Go.Proofs.YtpaonoaedjkekaaDoor.PD Go.Proofs.YtpaonoaedjkekaaDoorW.PrintWords Go.Proofs.YtpaonoaedjkekaaDoorW.PrintLast Go.Proofs.YtpaonoaedjkekaaDoorW.PrintMore
set_option linter.unusedVariables false
set_option linter.unusedSimpArgs false
theorem full_l0 (a : Int) : ∀ (k i : Nat), i + k = 128 → larderlaw06_full.l0 (k + 1) a (List.replicate i a ++ List.replicate (128 - i) 0) (i : Int) = some (List.replicate 128 a)
  | 0, i, h => by
    obtain rfl : i = 128 := by omega
    unfold larderlaw06_full.l0
    rw [if_neg (by simp)]
    simp
  | k + 1, i, h => by
    have ih := full_l0 a k (i + 1) (by omega)
    unfold larderlaw06_full.l0
    have e1 : wrap64 ((i : Int) + 1) = ((i + 1 : Nat) : Int) := by unfold wrap64; omega
    have e2 : (List.replicate i a ++ List.replicate (128 - i) 0).set ((i : Int).toNat) a = List.replicate (i + 1) a ++ List.replicate (128 - (i + 1)) 0 := by
      rw [Int.toNat_natCast, List.set_append_right _ _ (by simp), List.length_replicate, Nat.sub_self, show 128 - i = (128 - (i + 1)) + 1 from by omega, List.replicate_succ, List.set_cons_zero, List.replicate_succ', List.append_assoc]
      rfl
    rw [if_pos (by simp; omega), if_pos (by omega), e2, e1]
    exact ih
theorem full_ok (a : Int) : larderlaw06_full.f 129 a = some (List.replicate 128 a) := by
  unfold larderlaw06_full.f
  rw [if_pos (by decide)]
  have := full_l0 a 128 0 rfl
  simpa using this
/-- Which sector a number means. -/
def sec (x : Int) : Nat := if x < 0 then ((-(x + 1)) % 6).toNat else (x % 6).toNat
theorem sec_lt (x : Int) : sec x < 6 := by
  unfold sec
  split <;> omega
theorem within_ok (x : Int) (h : -9223372036854775808 ≤ x ∧ x ≤ 9223372036854775807) : larderlaw06_within.f x 0 5 = some (sec x : Int) := by
  have e6 : wrap64 ((wrap64 (5 - 0)) + 1) = 6 := by unfold wrap64; omega
  unfold larderlaw06_within.f
  simp only [e6]
  by_cases hx : x < 0
  · have e1 : wrap64 (x + 1) = x + 1 := by unfold wrap64; omega
    have e2 : wrap64 (-(x + 1)) = -(x + 1) := by unfold wrap64; omega
    have e3 : (sec x : Int) = (-(x + 1)) % 6 := by unfold sec; rw [if_pos hx]; omega
    rw [if_pos hx, if_neg (by decide), e1, e2, Int.tmod_eq_emod_of_nonneg (by omega), e3]
    congr 1
    unfold wrap64
    omega
  · have e3 : (sec x : Int) = x % 6 := by unfold sec; rw [if_neg hx]; omega
    rw [if_neg hx, if_neg (by decide), Int.tmod_eq_emod_of_nonneg (by omega), e3]
    congr 1
    unfold wrap64
    omega
/-- The operation of a put. -/
def opOf (p : S37) : Int × List Int := if p.f2 = true then flushOp else ((sec p.f0 : Int), List.replicate 128 p.f1)
def opsOf (puts : List S37) : List (Int × List Int) := puts.map opOf
theorem opOf_ok (p : S37) : (opOf p).2.length = 128 ∧ (opOf p = flushOp ∨ ∃ s : Nat, (opOf p).1 = (s : Int) ∧ 128 * s + 128 ≤ 768) := by
  unfold opOf
  split
  · exact ⟨List.length_replicate .., .inl rfl⟩
  · exact ⟨List.length_replicate .., .inr ⟨sec p.f0, rfl, by have := sec_lt p.f0; omega⟩⟩
theorem opsOf_ok (puts : List S37) : Oks 768 (opsOf puts) := fun op h => by
  obtain ⟨p, _, rfl⟩ := List.mem_map.1 h
  exact opOf_ok p
theorem opsOf_take {puts : List S37} {i : Nat} {p : S37} (h : puts[i]? = some p) : opsOf (puts.take (i + 1)) = opsOf (puts.take i) ++ [opOf p] := by
  rw [List.take_add_one, h]
  simp [opsOf]
theorem opsOf_len (puts : List S37) : (opsOf puts).length = puts.length := by simp [opsOf]
def blank : List Int := List.replicate 768 0
end Go.Proofs.YtpaonoaedjkekaaDoor.Dk
