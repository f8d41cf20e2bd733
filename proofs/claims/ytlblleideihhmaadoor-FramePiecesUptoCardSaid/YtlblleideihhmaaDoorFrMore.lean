/- Frames are told apart at their head: no frame begins another. -/
import Derived.Test.YtlblleideihhmaaDoorSealLaw
import Derived.Lib.Bytes
namespace Go.Proofs.YtlblleideihhmaaDoor.FrMore
open Go Go.RowKit Go.Proofs.YtlblleideihhmaaDoor.Crc Go.Proofs.YtlblleideihhmaaDoor.CrcLaw Go.Proofs.YtlblleideihhmaaDoor.SealLaw Go.Proofs.YtlblleideihhmaaDoor.Num
set_option linter.unusedVariables false

theorem bytesOf_inj : ∀ (a b : List Int), IsBytes a → IsBytes b → Lib.bytesOf a = Lib.bytesOf b → a = b := by
  intro a
  induction a with
  | nil => intro b _ _ h; cases b with
    | nil => rfl
    | cons y t => simp [Lib.bytesOf] at h
  | cons x s ih =>
    intro b ha hb h
    cases b with
    | nil => simp [Lib.bytesOf] at h
    | cons y t =>
      have h1 := ha x (List.mem_cons_self ..)
      have h2 := hb y (List.mem_cons_self ..)
      rw [ih t (fun z hz => ha z (List.mem_cons_of_mem _ hz)) (fun z hz => hb z (List.mem_cons_of_mem _ hz)) (List.cons.inj h).2]
      have h3 := congrArg UInt8.toNat (List.cons.inj h).1
      simp only [UInt8.toNat_ofNat'] at h3
      congr 1
      omega
theorem str_eq {a b : List Int} (ha : IsBytes a) (hb : IsBytes b) : ((strOfNums a).toList == (strOfNums b).toList) = decide (a = b) := by
  rw [Lib.strOfNums_toList, Lib.strOfNums_toList]
  by_cases h : a = b
  · subst h; simp
  · rw [decide_eq_false h]
    exact beq_eq_false_iff_ne.2 (fun e => h (bytesOf_inj a b ha hb e))
/-- What is read where a number was written. -/
theorem ug_enc (f : Nat) : ∀ (i m n : Nat) (t : List Int), i + f = 10 → m < 128 ^ f → 0 < f → m * 128 ^ i < 18446744073709551616 → (0 < i → 0 < m) →
    ug i n (enc f m ++ t) = (((n + m * 128 ^ i : Nat) : Int), ((i + (enc f m).length : Nat) : Int), 0) := by
  induction f with
  | zero => intro i m n t _ _ h; omega
  | succ f ih =>
    intro i m n t hi hm _ hb h0
    rw [enc]
    by_cases h : m < 128
    · rw [if_pos h]
      have h9 : ¬ (i = 9 ∧ ((m : Nat) : Int) > 1) := by
        rintro ⟨rfl, h1⟩
        omega
      have hz : ¬ (0 < i ∧ ((m : Nat) : Int) = 0) := fun e => by have := h0 e.1; omega
      simp only [List.cons_append, List.nil_append, List.length_singleton]
      rw [ug, if_neg h9, if_neg hz, if_pos (by omega), show ((m : Nat) : Int).toNat % 128 = m by omega]
    · rw [if_neg h]
      have hf : 0 < f := by
        rcases Nat.eq_zero_or_pos f with h1 | h1
        · subst h1; simp at hm; omega
        · exact h1
      have h2 : m / 128 < 128 ^ f := by rw [Nat.pow_succ] at hm; omega
      simp only [List.cons_append, List.length_cons]
      rw [ug, if_neg (by omega), if_neg (by omega), if_neg (by omega)]
      have e1 : ((m % 128 + 128 : Nat) : Int).toNat % 128 = m % 128 := by omega
      have e2 : m * 128 ^ i = m % 128 * 128 ^ i + m / 128 * 128 ^ (i + 1) := by
        rw [Nat.pow_succ, ← Nat.mul_assoc (m / 128), Nat.mul_right_comm, ← Nat.add_mul]
        congr 1
        omega
      rw [e1, ih (i + 1) (m / 128) _ t (by omega) h2 hf (by omega) (by omega), e2, Nat.add_assoc, Nat.add_assoc, Nat.add_comm 1]
theorem ug_enc0 (m : Nat) (h : m < 18446744073709551616) (t : List Int) : ug 0 0 (enc 10 m ++ t) = ((m : Int), ((enc 10 m).length : Int), 0) := by
  have := ug_enc 10 0 m 0 t rfl (Nat.lt_of_lt_of_le h pow10) (by decide) (by omega) (by omega)
  simpa using this
theorem enc_app {m n : Nat} (hm : m < 18446744073709551616) (hn : n < 18446744073709551616) {s t : List Int} (h : enc 10 m ++ s = enc 10 n ++ t) : m = n ∧ s = t := by
  have h1 := ug_enc0 m hm s
  rw [h, ug_enc0 n hn t] at h1
  have e : m = n := by have := congrArg Prod.fst h1; simp only at this; omega
  subst e
  exact ⟨rfl, List.append_cancel_left h⟩
theorem fr_eq (p : List Int) : fr p = 167 :: (enc 10 p.length ++ (p ++ le 4 (crc (body p)).toNat)) := by simp [fr, body]
theorem fr_app {p q s t : List Int} (hp : p.length < 18446744073709551616) (hq : q.length < 18446744073709551616) (h : fr p ++ s = fr q ++ t) : p = q ∧ s = t := by
  rw [fr_eq, fr_eq, List.cons_append, List.cons_append] at h
  have h := (List.cons.inj h).2
  simp only [List.append_assoc] at h
  obtain ⟨h1, h2⟩ := enc_app hp hq h
  obtain ⟨h3, h4⟩ := List.append_inj h2 h1
  subst h3
  exact ⟨rfl, List.append_cancel_left h4⟩
theorem fr_six (p : List Int) : 6 ≤ (fr p).length := by
  have : 0 < (enc 10 p.length).length := enc_pos 9 p.length
  have h2 : p.length = 0 ∨ 0 < p.length := by omega
  simp only [fr_len, body, List.length_cons, List.length_append]
  omega
end Go.Proofs.YtlblleideihhmaaDoor.FrMore
