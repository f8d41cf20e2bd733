/- The Reader of frames: The Reader of frames as a plain function from state and byte to state; and that it tells what Scan tells. No program in sight. The Reader's small functions, walked: fail, turn, begin, add. The Reader's four steps, walked: first, length, load, end. The Reader's steps, walked: load, end. The Reader's last step, walked: end. -/
import Derived.Test.YtlblleideihhmaaDoorScans
import Derived.Test.YtlblleideihhmaaDoorPBx
import Derived.Test.YtlblleideihhmaaDoorWMore
import Derived.Maps.AppendAt
import Derived.Test.YtlblleideihhmaaDoorNumFrame
import Derived.Deep.QuietTactic
import Derived.Deep.RegionLaw
namespace Go.Proofs.YtlblleideihhmaaDoor.Rd
open Go Go.RowKit Go.Proofs.YtlblleideihhmaaDoor.Each Go.Proofs.YtlblleideihhmaaDoor.UnLaw Go.Proofs.YtlblleideihhmaaDoor.Num Go.Proofs.YtlblleideihhmaaDoor.FrMore Go.Proofs.YtlblleideihhmaaDoor.Crc Go.Proofs.YtlblleideihhmaaDoor.CrcLaw Go.Proofs.YtlblleideihhmaaDoor.SealLaw Go.Proofs.YtlblleideihhmaaDoorW.PrintWords
set_option linter.unusedVariables false
set_option linter.unusedSimpArgs false
structure St where
  ph : Nat
  all : Nat
  frm : Nat
  sum : R
  size : Nat
  count : Nat
  p : List Int
  tail : Nat
  loads : List (List Int)
  err : Int
  place : Int
  done : Bool
def fresh : St := ⟨0, 0, 0, 0#32, 0, 0, [], 0, [], 0, 0, false⟩
def first (s : St) (c : Int) : St := if c = 167 then { s with sum := crcOn s.sum [c], ph := 1, count := 0 } else { s with err := 14, place := s.frm }
def lengthS (s : St) (c : Int) : St :=
  if s.count = 9 ∧ c > 1 then { s with err := 11, place := (s.all : Int) - 1 } else if 0 < s.count ∧ c = 0 then { s with err := 10, place := (s.all : Int) - 1 } else
  if c < 128 then (if s.size + c.toNat % 128 * 128 ^ s.count > 65536 then { s with err := 12, place := (s.frm : Int) + 1 } else
    { s with sum := crcOn s.sum [c], size := s.size + c.toNat % 128 * 128 ^ s.count, ph := if s.size + c.toNat % 128 * 128 ^ s.count = 0 then 3 else 2, count := 0 })
  else { s with sum := crcOn s.sum [c], size := s.size + c.toNat % 128 * 128 ^ s.count, count := s.count + 1 }
def loadS (s : St) (c : Int) : St := { s with sum := crcOn s.sum [c], p := s.p ++ [c], ph := if s.p.length + 1 = s.size then 3 else 2, count := if s.p.length + 1 = s.size then 0 else s.count }
def endS (s : St) (c : Int) : St :=
  if s.count + 1 < 4 then { s with tail := s.tail + c.toNat * 256 ^ s.count, count := s.count + 1 } else
  if ((s.tail + c.toNat * 256 ^ s.count : Nat) : Int) = I s.sum then { s with loads := s.loads ++ [s.p], ph := 0, frm := s.all, sum := 0#32, size := 0, p := [], tail := 0, count := 0 }
  else { s with tail := s.tail + c.toNat * 256 ^ s.count, count := s.count + 1, err := 13, place := (s.all : Int) - 4 }
def next (s : St) (c : Int) : St := if s.ph = 0 then first s c else if s.ph = 1 then lengthS s c else if s.ph = 2 then loadS s c else endS s c
/-- One byte. -/
def step (s : St) (c : Int) : St := if s.err = 0 then next { s with all := s.all + 1 } c else s
def run (s : St) (l : List Int) : St := l.foldl step s
theorem run_nil (s : St) : run s [] = s := rfl
theorem run_cons (s : St) (c : Int) (l : List Int) : run s (c :: l) = run (step s c) l := rfl
theorem run_append (s : St) (a b : List Int) : run s (a ++ b) = run (run s a) b := List.foldl_append
theorem step_stuck {s : St} (h : s.err ≠ 0) (c : Int) : step s c = s := by unfold step; rw [if_neg h]
theorem run_stuck {s : St} (h : s.err ≠ 0) (l : List Int) : run s l = s := by
  induction l with
  | nil => rfl
  | cons c t ih => rw [run_cons, step_stuck h, ih]
/-- What a Reader's faults are. -/
def Fit (s : St) : Prop := s.err = 0 ∧ s.place = 0 ∨ s.err = 10 ∨ s.err = 11 ∨ s.err = 12 ∨ s.err = 13 ∨ s.err = 14
theorem Fit.step {s : St} (h : Fit s) (c : Int) : Fit (step s c) := by
  unfold Rd.step next first lengthS loadS endS
  unfold Fit at h ⊢
  repeat' split
  all_goals simp_all
theorem Fit.run {s : St} (h : Fit s) (l : List Int) : Fit (run s l) := by
  induction l generalizing s with
  | nil => exact h
  | cons c t ih => exact ih (h.step c)
/-- The loads that were there ahead. -/
def St.on (s : St) (x : List (List Int)) : St := { s with loads := x ++ s.loads }
theorem step_on (s : St) (x : List (List Int)) (c : Int) : step (s.on x) c = (step s c).on x := by
  unfold step next first lengthS loadS endS St.on
  repeat' split
  all_goals simp_all
theorem run_on (s : St) (x : List (List Int)) (l : List Int) : run (s.on x) l = (run s l).on x := by
  induction l generalizing s with
  | nil => rfl
  | cons c t ih => rw [run_cons, step_on, ih, ← run_cons]
theorem crcOn_cons (r : R) (c : Int) (l : List Int) : crcOn r (c :: l) = crcOn (crcOn r [c]) l := crcOn_append r [c] l

theorem groups (l : List Int) (hb : IsBytes l) : ∀ s : St, s.err = 0 → s.ph = 1 → s.count ≤ 9 →
    ((ug s.count s.size l).2.2 = 0 → ((ug s.count s.size l).1 > 65536 → (run s l).err = 12 ∧ (run s l).place = (s.frm : Int) + 1 ∧ (run s l).loads = s.loads) ∧
      ((ug s.count s.size l).1 ≤ 65536 → run s (l.take ((ug s.count s.size l).2.1.toNat - s.count)) = { s with all := s.all + ((ug s.count s.size l).2.1.toNat - s.count), sum := crcOn s.sum (l.take ((ug s.count s.size l).2.1.toNat - s.count)), size := (ug s.count s.size l).1.toNat, ph := if (ug s.count s.size l).1.toNat = 0 then 3 else 2, count := 0 })) ∧
    ((ug s.count s.size l).2.2 ≠ 0 → (ug s.count s.size l).2.2 = 3 ∧ (run s l).err = 0 ∧ (run s l).place = s.place ∧ (run s l).loads = s.loads ∧ (run s l).frm = s.frm ∧ (run s l).all = s.all + l.length ∨
      (ug s.count s.size l).2.2 ≠ 3 ∧ (run s l).err = (ug s.count s.size l).2.2 ∧ (run s l).place = (s.all : Int) + ((ug s.count s.size l).2.1 - s.count) ∧ (run s l).loads = s.loads) := by
  induction l with
  | nil =>
    intro s he hp hc
    simp [ug, run_nil, he]
  | cons c t ih =>
    intro s he hp hc
    have hc0 := hb c (List.mem_cons_self ..)
    have ih := ih (fun x hx => hb x (List.mem_cons_of_mem _ hx))
    have hs : step s c = lengthS { s with all := s.all + 1 } c := by unfold step next; simp [he, hp]
    rw [run_cons, hs]
    unfold ug
    by_cases h1 : s.count = 9 ∧ c > 1
    · have h2 : lengthS { s with all := s.all + 1 } c = { s with all := s.all + 1, err := 11, place := (s.all : Int) } := by unfold lengthS; rw [if_pos h1]; simp
      rw [if_pos h1, h2, run_stuck (by simp)]
      simp
    · rw [if_neg h1]
      by_cases h3 : 0 < s.count ∧ c = 0
      · have h2 : lengthS { s with all := s.all + 1 } c = { s with all := s.all + 1, err := 10, place := (s.all : Int) } := by unfold lengthS; rw [if_neg h1, if_pos h3]; simp
        rw [if_pos h3, h2, run_stuck (by simp)]
        simp
      · rw [if_neg h3]
        by_cases h4 : c < 128
        · rw [if_pos h4]
          have ht : (((s.count + 1 : Nat) : Int)).toNat - s.count = 1 := by omega
          refine ⟨fun _ => ⟨fun h5 => ?_, fun h5 => ?_⟩, fun h => absurd rfl h⟩
          · have h2 : lengthS { s with all := s.all + 1 } c = { s with all := s.all + 1, err := 12, place := (s.frm : Int) + 1 } := by
              unfold lengthS; dsimp only; rw [if_neg h1, if_neg h3, if_pos h4, if_pos (by simp only at h5; omega)]
            rw [h2, run_stuck (by simp)]
            simp
          · simp only at h5 ⊢
            rw [ht, List.take_succ_cons, List.take_zero, run_cons, run_nil, hs]
            unfold lengthS
            dsimp only
            rw [if_neg h1, if_neg h3, if_pos h4, if_neg (by omega)]
            simp only [Int.toNat_natCast]
        · rw [if_neg h4]
          have h2 : lengthS { s with all := s.all + 1 } c = { s with all := s.all + 1, sum := crcOn s.sum [c], size := s.size + c.toNat % 128 * 128 ^ s.count, count := s.count + 1 } := by
            unfold lengthS; rw [if_neg h1, if_neg h3, if_neg h4]
          have hg := ug_at t (s.count + 1) (s.size + c.toNat % 128 * 128 ^ s.count)
          have := ih { s with all := s.all + 1, sum := crcOn s.sum [c], size := s.size + c.toNat % 128 * 128 ^ s.count, count := s.count + 1 } he hp (by simp only; omega)
          simp only at this
          rw [h2]
          refine ⟨fun h5 => ⟨fun h6 => (this.1 h5).1 h6, fun h6 => ?_⟩, fun h5 => ?_⟩
          · have h7 := (this.1 h5).2 h6
            have h8 := hg.2.2 h5
            generalize ug (s.count + 1) (s.size + c.toNat % 128 * 128 ^ s.count) t = g at *
            obtain ⟨q, hq⟩ : ∃ q, g.2.1.toNat - s.count = q + 1 := ⟨g.2.1.toNat - s.count - 1, by omega⟩
            have hq2 : g.2.1.toNat - (s.count + 1) = q := by omega
            rw [hq2] at h7
            rw [hq, List.take_succ_cons, run_cons, hs, h2, h7, crcOn_cons s.sum c (t.take q)]
            have e1 : s.all + 1 + q = s.all + (q + 1) := by omega
            rw [e1]
          · rcases this.2 h5 with h | h
            · refine .inl ⟨h.1, h.2.1, h.2.2.1, h.2.2.2.1, h.2.2.2.2.1, ?_⟩
              rw [h.2.2.2.2.2, List.length_cons]; omega
            · refine .inr ⟨h.1, h.2.1, ?_, h.2.2.2⟩
              rw [h.2.2.1]; omega
theorem loads_step (s : St) (he : s.err = 0) (hp : s.ph = 2) (c : Int) : step s c = { s with all := s.all + 1, sum := crcOn s.sum [c], p := s.p ++ [c], ph := if s.p.length + 1 = s.size then 3 else 2, count := if s.p.length + 1 = s.size then 0 else s.count } := by
  unfold step next loadS; simp [he, hp]
theorem loading (l : List Int) : ∀ s : St, s.err = 0 → s.ph = 2 → s.p.length < s.size →
    (l.length < s.size - s.p.length → run s l = { s with all := s.all + l.length, sum := crcOn s.sum l, p := s.p ++ l }) ∧
    (s.size - s.p.length ≤ l.length → run s (l.take (s.size - s.p.length)) = { s with all := s.size - s.p.length + s.all, sum := crcOn s.sum (l.take (s.size - s.p.length)), p := s.p ++ l.take (s.size - s.p.length), ph := 3, count := 0 }) := by
  induction l with
  | nil =>
    intro s he hp hlt
    refine ⟨fun _ => ?_, fun h => by simp at h; omega⟩
    rw [run_nil]
    simp [crcOn, on_nil, ones_ones]
  | cons c t ih =>
    intro s he hp hlt
    have hs := loads_step s he hp c
    have hlc : (c :: t).length = t.length + 1 := List.length_cons
    by_cases h1 : s.p.length + 1 = s.size
    · rw [if_pos h1, if_pos h1] at hs
      refine ⟨fun h => by simp at h; omega, fun _ => ?_⟩
      rw [show s.size - s.p.length = 1 by omega, List.take_succ_cons, List.take_zero, run_cons, run_nil, hs]
      simp only [St.mk.injEq, true_and, and_true]; omega
    · rw [if_neg h1, if_neg h1] at hs
      have := ih { s with all := s.all + 1, sum := crcOn s.sum [c], p := s.p ++ [c] } he hp (by simp; omega)
      simp only [List.length_append, List.length_singleton] at this
      have h2 : s.size - (s.p.length + 1) + 1 = s.size - s.p.length := by omega
      have h3 : step s c = { s with all := s.all + 1, sum := crcOn s.sum [c], p := s.p ++ [c] } := by rw [hs]; simp [hp]
      refine ⟨fun h => ?_, fun h => ?_⟩
      · have h9 := this.1 (by omega)
        rw [run_cons, h3, h9, crcOn_cons s.sum c t, hlc, show s.all + (t.length + 1) = s.all + 1 + t.length by omega, show s.p ++ c :: t = s.p ++ [c] ++ t by simp]
      · have h9 := this.2 (by omega)
        rw [← h2, List.take_succ_cons, run_cons, h3, h9, crcOn_cons s.sum c (t.take _), show s.size - (s.p.length + 1) + 1 + s.all = s.size - (s.p.length + 1) + (s.all + 1) by omega, show s.p ++ c :: (t.take (s.size - (s.p.length + 1))) = s.p ++ [c] ++ t.take (s.size - (s.p.length + 1)) by simp]
theorem ending (l : List Int) (hb : IsBytes l) : ∀ s : St, s.err = 0 → s.ph = 3 → s.count < 4 →
    (l.length < 4 - s.count → (run s l).err = 0 ∧ (run s l).place = s.place ∧ (run s l).loads = s.loads ∧ (run s l).frm = s.frm ∧ (run s l).all = s.all + l.length) ∧
    (4 - s.count ≤ l.length → (((s.tail + leV (l.take (4 - s.count)) * 256 ^ s.count : Nat) : Int) = I s.sum → run s (l.take (4 - s.count)) = { s with all := s.all + (4 - s.count), loads := s.loads ++ [s.p], ph := 0, frm := s.all + (4 - s.count), sum := 0#32, size := 0, p := [], tail := 0, count := 0 }) ∧
      (((s.tail + leV (l.take (4 - s.count)) * 256 ^ s.count : Nat) : Int) ≠ I s.sum → (run s l).err = 13 ∧ (run s l).place = (s.all : Int) - s.count ∧ (run s l).loads = s.loads)) := by
  induction l with
  | nil =>
    intro s he hp hc
    exact ⟨fun _ => by simp [run_nil, he], fun h => by simp at h; omega⟩
  | cons c t ih =>
    intro s he hp hc
    have hc0 := hb c (List.mem_cons_self ..)
    have ih := ih (fun x hx => hb x (List.mem_cons_of_mem _ hx))
    have hs : step s c = endS { s with all := s.all + 1 } c := by unfold step next; simp [he, hp]
    by_cases h1 : s.count + 1 < 4
    · have h2 : endS { s with all := s.all + 1 } c = { s with all := s.all + 1, tail := s.tail + c.toNat * 256 ^ s.count, count := s.count + 1 } := by unfold endS; rw [if_pos h1]
      have := ih { s with all := s.all + 1, tail := s.tail + c.toNat * 256 ^ s.count, count := s.count + 1 } he hp h1
      simp only at this
      obtain ⟨q, hq⟩ : ∃ q, 4 - s.count = q + 1 := ⟨4 - s.count - 1, by omega⟩
      have hq2 : 4 - (s.count + 1) = q := by omega
      rw [hq2] at this
      have hv : s.tail + leV ((c :: t).take (q + 1)) * 256 ^ s.count = s.tail + c.toNat * 256 ^ s.count + leV (t.take q) * 256 ^ (s.count + 1) := by
        rw [List.take_succ_cons, leV, Nat.pow_succ, Nat.add_mul, Nat.mul_comm 256, Nat.mul_assoc, Nat.mul_comm 256 (256 ^ s.count)]
        omega
      rw [hq]
      refine ⟨fun h => ?_, fun h => ⟨fun h5 => ?_, fun h5 => ?_⟩⟩
      · rw [run_cons, hs, h2]
        have h6 := this.1 (by simp at h; omega)
        refine ⟨h6.1, h6.2.1, h6.2.2.1, h6.2.2.2.1, ?_⟩
        rw [h6.2.2.2.2, List.length_cons]; omega
      · rw [hv] at h5
        rw [List.take_succ_cons, run_cons, hs, h2, (this.2 (by simp at h; omega)).1 h5]
        simp only [St.mk.injEq, true_and, and_true]; omega
      · rw [hv] at h5
        rw [run_cons, hs, h2]
        have h6 := (this.2 (by simp at h; omega)).2 h5
        refine ⟨h6.1, ?_, h6.2.2⟩
        rw [h6.2.1]; omega
    · have h3 : s.count = 3 := by omega
      have hv : s.tail + leV ((c :: t).take 1) * 256 ^ s.count = s.tail + c.toNat * 256 ^ s.count := by simp [leV]
      rw [show 4 - s.count = 1 by omega, hv]
      refine ⟨fun h => by simp at h, fun h => ⟨fun h5 => ?_, fun h5 => ?_⟩⟩
      · rw [List.take_succ_cons, List.take_zero, run_cons, run_nil, hs]
        unfold endS
        rw [if_neg h1, if_pos h5]
      · have h2 : endS { s with all := s.all + 1 } c = { s with all := s.all + 1, tail := s.tail + c.toNat * 256 ^ s.count, count := s.count + 1, err := 13, place := ((s.all + 1 : Nat) : Int) - 4 } := by
          unfold endS; rw [if_neg h1, if_neg h5]
        rw [run_cons, hs, h2, run_stuck (by simp)]
        refine ⟨rfl, ?_, rfl⟩
        simp only; omega
theorem ug_short (l : List Int) : ∀ (i n : Nat), (ug i n l).2.2 = 3 → (ug i n l).2.1 = (i : Int) + l.length := by
  induction l with
  | nil => intro i n _; simp [ug]
  | cons c t ih =>
    intro i n h
    unfold ug at h ⊢
    split at h
    · simp at h
    · split at h
      · simp at h
      · split at h
        · simp at h
        · rename_i h1 h2 h3
          rw [if_neg h1, if_neg h2, if_neg h3, ih _ _ h, List.length_cons]
          omega
/-- What stands behind the length: the load, the sum. -/
theorem bodyS (m : Nat) (s : St) (r : List Int) (hb : IsBytes r) (he : s.err = 0) (hp : s.ph = if m = 0 then 3 else 2) (hz : s.size = m) (hq : s.p = []) (ht : s.tail = 0) (hc : s.count = 0) :
    (r.length < m + 4 → (run s r).err = 0 ∧ (run s r).place = s.place ∧ (run s r).loads = s.loads ∧ (run s r).frm = s.frm ∧ (run s r).all = s.all + r.length) ∧
    (m + 4 ≤ r.length → (((leV ((r.drop m).take 4) : Nat) : Int) = I (crcOn s.sum (r.take m)) → run s (r.take (m + 4)) = { s with all := s.all + (m + 4), loads := s.loads ++ [r.take m], ph := 0, frm := s.all + (m + 4), sum := 0#32, size := 0, p := [], tail := 0, count := 0 }) ∧
      (((leV ((r.drop m).take 4) : Nat) : Int) ≠ I (crcOn s.sum (r.take m)) → (run s r).err = 13 ∧ (run s r).place = (s.all : Int) + m ∧ (run s r).loads = s.loads)) := by
  by_cases hm : m = 0
  · subst hm
    rw [if_pos rfl] at hp
    have h := ending r hb s he hp (by omega)
    simp only [hc, ht, Nat.sub_zero, Nat.pow_zero, Nat.mul_one, Nat.zero_add, hq] at h
    have e1 : crcOn s.sum [] = s.sum := by simp [crcOn, on_nil, ones_ones]
    simp only [List.drop_zero, Nat.zero_add, List.take_zero, e1, Int.natCast_zero, Int.add_zero]
    refine ⟨h.1, fun h2 => ⟨fun h3 => ?_, fun h3 => ?_⟩⟩
    · rw [(h.2 h2).1 h3]
    · have := (h.2 h2).2 h3
      refine ⟨this.1, ?_, this.2.2⟩
      rw [this.2.1]; simp
  · rw [if_neg hm] at hp
    have h := loading r s he hp (by rw [hq, hz]; simp; omega)
    simp only [hz, hq, ht, List.length_nil, Nat.sub_zero, List.nil_append] at h
    have hd : (r.drop m).length = r.length - m := List.length_drop
    by_cases hl : r.length < m
    · refine ⟨fun _ => ?_, fun h2 => by omega⟩
      rw [h.1 hl]
      exact ⟨he, rfl, rfl, rfl, rfl⟩
    · have h1 := h.2 (by omega)
      have hr : run s r = run (run s (r.take m)) (r.drop m) := by rw [← run_append, List.take_append_drop]
      have h2 := ending (r.drop m) (hb.drop m) (run s (r.take m)) (by rw [h1]; exact he) (by rw [h1]) (by rw [h1]; simp)
      have h4 : r.take (m + 4) = r.take m ++ (r.drop m).take 4 := by rw [List.take_add]
      rw [hr, h4, run_append]
      rw [h1] at h2 ⊢
      simp only [Nat.sub_zero, ht, Nat.pow_zero, Nat.mul_one, Nat.zero_add] at h2
      refine ⟨fun h5 => ?_, fun h5 => ⟨fun h6 => ?_, fun h6 => ?_⟩⟩
      · have := h2.1 (by omega)
        refine ⟨this.1, this.2.1, this.2.2.1, this.2.2.2.1, ?_⟩
        rw [this.2.2.2.2]; omega
      · rw [(h2.2 (by omega)).1 h6]
        simp only [St.mk.injEq, true_and, and_true]
        omega
      · have := (h2.2 (by omega)).2 h6
        refine ⟨this.1, ?_, this.2.2⟩
        rw [this.2.1]; omega
/-- A Reader that waits for a frame. -/
def Waits (s : St) : Prop := s.ph = 0 ∧ s.all = s.frm ∧ s.sum = 0#32 ∧ s.size = 0 ∧ s.count = 0 ∧ s.p = [] ∧ s.tail = 0 ∧ s.err = 0
theorem one (l : List Int) (hb : IsBytes l) (s : St) (hw : Waits s) (h0 : 0 < l.length) :
    ((un l).2.2.1 = 0 → run s (l.take (un l).2.1.toNat) = { s with all := s.all + (un l).2.1.toNat, frm := s.all + (un l).2.1.toNat, loads := s.loads ++ [(un l).1] }) ∧
    ((un l).2.2.1 ≠ 0 → (un l).2.2.1 = 3 ∧ (un l).2.2.2 = l.length ∧ (run s l).err = 0 ∧ (run s l).place = s.place ∧ (run s l).loads = s.loads ∧ (run s l).frm = s.frm ∧ (run s l).all = s.all + l.length ∨
      (un l).2.2.1 ≠ 3 ∧ (run s l).err = (un l).2.2.1 ∧ (run s l).place = (s.all : Int) + (un l).2.2.2 ∧ (run s l).loads = s.loads) := by
  obtain ⟨w1, w2, w3, w4, w5, w6, w7, w8⟩ := hw
  obtain ⟨c, t, rfl⟩ : ∃ c t, l = c :: t := by
    cases l with
    | nil => simp at h0
    | cons c t => exact ⟨c, t, rfl⟩
  have hbt : IsBytes t := fun x hx => hb x (List.mem_cons_of_mem _ hx)
  have hs : step s c = first { s with all := s.all + 1 } c := by unfold step next; simp [w8, w1]
  unfold un
  rw [if_neg (by simp), List.getD_cons_zero, List.drop_succ_cons, List.drop_zero]
  by_cases hc : c = 167
  case neg =>
    rw [if_neg hc]
    have h2 : first { s with all := s.all + 1 } c = { s with all := s.all + 1, err := 14, place := (s.frm : Int) } := by unfold first; rw [if_neg hc]
    rw [run_cons, hs, h2, run_stuck (s := { s with all := s.all + 1, err := 14, place := (s.frm : Int) }) (show (14 : Int) ≠ 0 by decide) t]
    simp [w2]
  rw [if_pos hc]
  have h2 : step s c = { s with all := s.all + 1, sum := crcOn 0#32 [c], ph := 1, size := 0, count := 0 } := by rw [hs]; unfold first; rw [if_pos hc, w3]; simp [w4]
  have hg := groups t hbt { s with all := s.all + 1, sum := crcOn 0#32 [c], ph := 1, size := 0, count := 0 } w8 rfl (by simp)
  have ha := ug_at t 0 0
  have hn := ug_nn t 0 0
  have hsh := ug_short t 0 0
  have hlt : (c :: t).length = t.length + 1 := List.length_cons
  have hrun : ∀ x, run s (c :: x) = run { s with all := s.all + 1, sum := crcOn 0#32 [c], ph := 1, size := 0, count := 0 } x := fun x => by rw [run_cons, h2]
  simp only [Nat.sub_zero] at hg
  generalize ug 0 0 t = g at *
  obtain ⟨m, a, e⟩ := g
  simp only at hg ha hn hsh ⊢
  by_cases he : e = 0
  case neg =>
    rw [if_neg he]
    refine ⟨fun h => absurd h he, fun _ => ?_⟩
    rw [hrun]
    simp only at *
    rcases hg.2 he with h | h
    · have := hsh h.1
      refine .inl ⟨h.1, by omega, h.2.1, h.2.2.1, h.2.2.2.1, h.2.2.2.2.1, ?_⟩
      rw [h.2.2.2.2.2]; omega
    · refine .inr ⟨h.1, h.2.1, ?_, h.2.2.2⟩
      rw [h.2.2.1]; omega
  rw [if_pos he]
  have hg := hg.1 he
  by_cases hm : m > 65536
  · rw [if_pos hm]
    refine ⟨fun h => by simp at h, fun _ => .inr ⟨by simp, ?_⟩⟩
    have h := hg.1 hm
    rw [hrun]
    refine ⟨h.1, ?_, h.2.2⟩
    rw [h.2.1]; simp only [w2]
  rw [if_neg hm]
  have hg := hg.2 (by omega)
  obtain ⟨mn, rfl⟩ : ∃ mn : Nat, m = mn := ⟨m.toNat, by omega⟩
  obtain ⟨an, rfl⟩ : ∃ an : Nat, a = an := ⟨a.toNat, by omega⟩
  simp only [Int.toNat_natCast] at hg
  have hlen : an ≤ t.length := by omega
  have hB := bodyS mn (run { s with all := s.all + 1, sum := crcOn 0#32 [c], ph := 1, size := 0, count := 0 } (t.take an)) (t.drop an) (hbt.drop an) (by rw [hg]; exact w8) (by rw [hg]) (by rw [hg]) (by rw [hg]; exact w6) (by rw [hg]; exact w7) (by rw [hg])
  have hall : run s (c :: t) = run (run { s with all := s.all + 1, sum := crcOn 0#32 [c], ph := 1, size := 0, count := 0 } (t.take an)) (t.drop an) := by
    rw [hrun, ← run_append, List.take_append_drop]
  have hdl : (t.drop an).length = t.length - an := List.length_drop
  have e1 : (1 + (an : Int) + mn).toNat = an + mn + 1 := by omega
  have e2 : (1 + (an : Int) + mn + 4).toNat = an + (mn + 4) + 1 := by omega
  have e3 : (1 + (an : Int)).toNat = an + 1 := by omega
  have hcr : crcOn (crcOn (crcOn 0#32 [c]) (t.take an)) ((t.drop an).take mn) = crc ((c :: t).take (an + mn + 1)) := by
    rw [← crcOn_append, ← crcOn_append, List.take_succ_cons, List.take_add]
    simp [crc]
  have hcut : ((c :: t).take (an + (mn + 4) + 1)).drop (an + mn + 1) = ((t.drop an).drop mn).take 4 := by
    rw [List.take_succ_cons, List.drop_succ_cons, List.drop_take, List.drop_drop]
    congr 1
    omega
  have hld : ((c :: t).take (an + mn + 1)).drop (an + 1) = (t.drop an).take mn := by
    rw [List.take_succ_cons, List.drop_succ_cons, List.drop_take]
    congr 1
    omega
  rw [e1, e2, e3, hcut, hld, ← hcr]
  by_cases hx : ((c :: t).length : Int) < 1 + (an : Int) + mn + 4
  · rw [if_pos hx]
    refine ⟨fun h => by simp at h, fun _ => .inl ⟨rfl, rfl, ?_⟩⟩
    have h := hB.1 (by omega)
    rw [hall]
    rw [hg] at h ⊢
    refine ⟨h.1, h.2.1, h.2.2.1, h.2.2.2.1, ?_⟩
    rw [h.2.2.2.2]; simp only; omega
  rw [if_neg hx]
  have hB := hB.2 (by omega)
  have hsum : (run { s with all := s.all + 1, sum := crcOn 0#32 [c], ph := 1, size := 0, count := 0 } (t.take an)).sum = crcOn (crcOn 0#32 [c]) (t.take an) := by rw [hg]
  rw [hsum] at hB
  by_cases hy : ((leV (((t.drop an).drop mn).take 4) : Nat) : Int) = I (crcOn (crcOn (crcOn 0#32 [c]) (t.take an)) ((t.drop an).take mn))
  · rw [if_pos hy]
    refine ⟨fun _ => ?_, fun h => absurd rfl h⟩
    have h := hB.1 hy
    simp only [e2]
    rw [List.take_succ_cons, hrun, List.take_add, run_append, h, hg]
    have e5 : s.all + 1 + an + (mn + 4) = s.all + (an + (mn + 4) + 1) := by omega
    simp only [e5, w1, w3, w4, w5, w6, w7]
  · rw [if_neg hy]
    refine ⟨fun h => by simp at h, fun _ => .inr ⟨by simp, ?_⟩⟩
    have h := hB.2 hy
    rw [hall]
    rw [hg] at h ⊢
    refine ⟨h.1, ?_, h.2.2⟩
    rw [h.2.1]; simp only; omega
/-- Bytes from a place on: what the Reader tells of them. -/
theorem told (l : List Int) (hb : IsBytes l) : ∀ (m : Nat) (s : St) (i : Nat), i ≤ l.length → l.length - i ≤ m → Waits s → s.all = i →
    (run s (l.drop i)).loads = s.loads ++ (frames m l i).map (·.2) ∧
    ((ends m l i).1 = 0 ∧ (run s (l.drop i)).err = 0 ∧ (run s (l.drop i)).place = s.place ∧ (run s (l.drop i)).all = l.length ∧ (run s (l.drop i)).frm = l.length ∧ (ends m l i).2 = 0 ∨
     (ends m l i).1 = 3 ∧ (run s (l.drop i)).err = 0 ∧ (run s (l.drop i)).place = s.place ∧ (run s (l.drop i)).all = l.length ∧ (run s (l.drop i)).frm < l.length ∧ (ends m l i).2 = l.length ∨
     (ends m l i).1 ≠ 0 ∧ (ends m l i).1 ≠ 3 ∧ (run s (l.drop i)).err = (ends m l i).1 ∧ (run s (l.drop i)).place = (ends m l i).2)
  | 0, s, i, h0, h1, hw, hi => by
    have : i = l.length := by omega
    subst this
    rw [List.drop_length, run_nil]
    simp [frames, ends, hw.2.2.2.2.2.2.2, hi, ← hw.2.1]
  | m + 1, s, i, h0, h1, hw, hi => by
    by_cases c1 : i < l.length
    · have hd : (l.drop i).length = l.length - i := List.length_drop
      have h := one (l.drop i) (hb.drop i) s hw (by omega)
      have hst := un_step (l.drop i)
      have hc1 : ((i : Int) < (l.length : Int)) = True := eq_true (by omega)
      simp only [frames, ends, hc1, if_true, Int.toNat_natCast]
      generalize un (l.drop i) = u at *
      by_cases c2 : u.2.2.1 = 0
      · have hst := hst c2
        obtain ⟨d, hd2⟩ : ∃ d : Nat, u.2.1 = d := ⟨u.2.1.toNat, by omega⟩
        rw [if_pos c2, if_pos c2]
        have h := h.1 c2
        rw [hd2, Int.toNat_natCast] at h
        rw [hd2] at hst ⊢
        have hT := told l hb m { s with all := s.all + d, frm := s.all + d, loads := s.loads ++ [u.1] } (i + d) (by omega) (by omega)
          ⟨hw.1, rfl, hw.2.2.1, hw.2.2.2.1, hw.2.2.2.2.1, hw.2.2.2.2.2.1, hw.2.2.2.2.2.2.1, hw.2.2.2.2.2.2.2⟩ (by simp only; omega)
        have hr : run s (l.drop i) = run { s with all := s.all + d, frm := s.all + d, loads := s.loads ++ [u.1] } (l.drop (i + d)) := by
          rw [← h, ← run_append, ← List.drop_drop, List.take_append_drop]
        rw [hr, show (i : Int) + (d : Int) = ((i + d : Nat) : Int) by omega]
        refine ⟨?_, hT.2⟩
        rw [hT.1]
        simp
      · rw [if_neg c2, if_neg c2]
        rcases h.2 c2 with h | h
        · refine ⟨by simp [h.2.2.2.2.1], .inr (.inl ⟨h.1, h.2.2.1, h.2.2.2.1, ?_, ?_, ?_⟩)⟩
          · rw [h.2.2.2.2.2.2]; omega
          · rw [h.2.2.2.2.2.1, ← hw.2.1]; omega
          · simp only [h.2.1]; omega
        · refine ⟨by simp [h.2.2.2], .inr (.inr ⟨c2, h.1, h.2.1, ?_⟩)⟩
          rw [h.2.2.1, hi]
    · have : i = l.length := by omega
      subst this
      rw [List.drop_length, run_nil]
      simp [frames, ends, hw.2.2.2.2.2.2.2, hi, ← hw.2.1]
end Go.Proofs.YtlblleideihhmaaDoor.Rd
namespace Go.Proofs.YtlblleideihhmaaDoor.Rd
open Go Go.RowKit Go.Proofs.YtlblleideihhmaaDoor.Each Go.Proofs.YtlblleideihhmaaDoor.UnLaw Go.Proofs.YtlblleideihhmaaDoor.Num Go.Proofs.YtlblleideihhmaaDoor.FrMore Go.Proofs.YtlblleideihhmaaDoor.Crc Go.Proofs.YtlblleideihhmaaDoor.CrcLaw Go.Proofs.YtlblleideihhmaaDoor.SealLaw Go.Proofs.YtlblleideihhmaaDoor.PB Go.Proofs.YtlblleideihhmaaDoor.Mine Go.Proofs.YtlblleideihhmaaDoorW.PrintWords Go.Proofs.YtlblleideihhmaaDoorW.PrintLast Go.Proofs.YtlblleideihhmaaDoorW.PrintMore
set_option linter.unusedVariables false
set_option linter.unusedSimpArgs false
set_option maxHeartbeats 4000000
set_option maxRecDepth 100000
/-- A Reader's block. -/
abbrev Rw (g : Nat) (vs : List Value) (W : World) : Prop := W.heap[g]? = some (.cells vs.toArray 109 (0, 0))
abbrev ptr (g : Nat) : Value := .pointer (some ⟨g, 0, none⟩)
theorem Rw.cell {g : Nat} {vs : List Value} {W : World} (h : Rw g vs W) (k : Nat) (v : Value) (hk : vs[k]? = some v) : W.cell? ⟨g, k, none⟩ = some v := by
  rw [cell_of_row W g k _ _ _ h]
  simpa using hk
theorem Rw.free {g : Nat} {vs : List Value} {W : World} (h : Rw g vs W) (k : Nat) : W.frozen? ⟨g, k, none⟩ = false := by simp [World.frozen?, h]
theorem Rw.set {g : Nat} {vs : List Value} {W : World} (h : Rw g vs W) (k : Nat) (v : Value) : W.setCell ⟨g, k, none⟩ v = W.setRow g (vs.set k v).toArray := by
  unfold World.setCell World.setRow
  congr 1
  apply Array.ext
  · simp
  · intro i h1 h2
    simp only [Array.getElem_modify]
    by_cases e : g = i
    · subst e
      have hlt : g < W.heap.size := by simpa using h1
      have hv : W.heap[g] = .cells vs.toArray 109 (0, 0) := (Array.getElem?_eq_some_iff.1 h).2
      simp [hv]
    · simp [e]
theorem Rw.row {g : Nat} {vs : List Value} {W : World} (h : Rw g vs W) (us : List Value) : Rw g us (W.setRow g us.toArray) := setRow_heap W g _ _ _ _ h
theorem Rw.lt {g : Nat} {vs : List Value} {W : World} (h : Rw g vs W) : g < W.heap.size := (Array.getElem?_eq_some_iff.1 h).1
theorem fail_at (g : Nat) (v0 v1 v2 v3 v4 v5 v6 v7 v8 v9 v10 v11 : Value) (e p : Int) (W : World) (h : Rw g [v0, v1, v2, v3, v4, v5, v6, v7, v8, v9, v10, v11] W) :
    Calls Tryd.prog 95 #[ptr g, .int .i64 e, .int .i64 p] W fun en w' => (∃ v, en = .returned v) ∧ w' = W.setRow g [v0, v1, v2, v3, v4, v5, v6, v7, v8, .int .i64 e, .int .i64 p, v11].toArray := by
  have c9 := h.cell 9 _ rfl
  have c10 := h.cell 10 _ rfl
  have f9 := h.free 9
  have f10 := h.free 10
  have e1 : (W.setCell ⟨g, 9, none⟩ (.int .i64 e)).setCell ⟨g, 10, none⟩ (.int .i64 p) = W.setRow g [v0, v1, v2, v3, v4, v5, v6, v7, v8, .int .i64 e, .int .i64 p, v11].toArray := by
    rw [h.set 9, (h.row _).set 10, setRow_setRow]; rfl
  go_enter Tryd.func95, Tryd.ntmps95
  go_wp2
  go_end0
  exact ⟨⟨_, rfl⟩, rfl⟩
theorem turn_at (g k : Nat) (v0 v1 v2 v3 v4 v5 v6 v7 v8 v9 v10 v11 : Value) (W : World) (h : Rw g [v0, v1, v2, v3, v4, v5, v6, v7, v8, v9, v10, v11] W) :
    Calls Tryd.prog 89 #[ptr g, .func (.func k) #[ptr g] #[]] W fun en w' => (∃ v, en = .returned v) ∧ w' = W.setRow g [.func (.func k) #[ptr g] #[], v1, v2, v3, v4, .int .i64 0, v6, v7, v8, v9, v10, v11].toArray := by
  have hst := fun (W : World) (a : Addr) (f : Fn) (x y : Array Value) => run_store Tryd.prog W a (.func f x y) .plain rfl
  have c0 := h.cell 0 _ rfl
  have c5 := h.cell 5 _ rfl
  have f0 := h.free 0
  have f5 := h.free 5
  have e1 : (W.setCell ⟨g, 0, none⟩ (.func (.func k) #[ptr g] #[])).setCell ⟨g, 5, none⟩ (.int .i64 0) = W.setRow g [.func (.func k) #[ptr g] #[], v1, v2, v3, v4, .int .i64 0, v6, v7, v8, v9, v10, v11].toArray := by
    rw [h.set 0, (h.row _).set 5, setRow_setRow]; rfl
  go_enter Tryd.func89, Tryd.ntmps89
  go_wp2
  go_end0
  exact ⟨⟨_, rfl⟩, rfl⟩
theorem begin_at (g : Nat) (al : Int) (v0 v2 v3 v4 v5 v6 v7 v8 v9 v10 v11 : Value) (W : World) (h : Rw g [v0, .int .i64 al, v2, v3, v4, v5, v6, v7, v8, v9, v10, v11] W) :
    Calls Tryd.prog 75 #[ptr g] W fun en w' => (∃ v, en = .returned v) ∧ w' = W.setRow g [.func (.func 90) #[ptr g] #[], .int .i64 al, .int .i64 al, .int .u32 0, .int .u64 0, .int .i64 0, .slice none 0 0, .int .u32 0, v8, v9, v10, v11].toArray := by
  have c1 := h.cell 1 _ rfl
  have c2 := h.cell 2 _ rfl
  have c3 := h.cell 3 _ rfl
  have c4 := h.cell 4 _ rfl
  have c6 := h.cell 6 _ rfl
  have c7 := h.cell 7 _ rfl
  have f2 := h.free 2
  have f3 := h.free 3
  have f4 := h.free 4
  have f6 := h.free 6
  have f7 := h.free 7
  have e1 : ((((W.setCell ⟨g, 2, none⟩ (.int .i64 al)).setCell ⟨g, 3, none⟩ (.int .u32 0)).setCell ⟨g, 4, none⟩ (.int .u64 0)).setCell ⟨g, 6, none⟩ (.slice none 0 0)).setCell ⟨g, 7, none⟩ (.int .u32 0) = W.setRow g [v0, .int .i64 al, .int .i64 al, .int .u32 0, .int .u64 0, v5, .slice none 0 0, .int .u32 0, v8, v9, v10, v11].toArray := by
    rw [h.set 2, (h.row _).set 3, ((h.row _).row _ : Rw g _ _).set 4, setRow_setRow, setRow_setRow, (h.row _).set 6, setRow_setRow, (h.row _).set 7, setRow_setRow]; rfl
  go_enter Tryd.func75, Tryd.ntmps75
  go_wp2_with fail
  go_at_call 89
  refine (turn_at g 90 _ _ _ _ _ _ _ _ _ _ _ _ _ (h.row [v0, .int .i64 al, .int .i64 al, .int .u32 0, .int .u64 0, v5, .slice none 0 0, .int .u32 0, v8, v9, v10, v11])).mono ?_
  rintro en w' ⟨⟨v, rfl⟩, rfl⟩
  rw [setRow_setRow]
  go_wp2
  go_end0
  exact ⟨⟨_, rfl⟩, rfl⟩
theorem add_at (g : Nat) (c : Int) (hc : 0 ≤ c ∧ c < 256) (s : R) (v0 v1 v2 v4 v5 v6 v7 v8 v9 v10 v11 : Value) (W : World) (h : Rw g [v0, v1, v2, .int .u32 (I s), v4, v5, v6, v7, v8, v9, v10, v11] W) (hT : Kd.C (Kd.int .u32) W (some ⟨0, 0, none⟩) 16 crcTab) :
    Calls Tryd.prog 96 #[ptr g, .int .u8 c] W fun en w' => (∃ v, en = .returned v) ∧ ∃ W1, Below W.heap.size W W1 ∧ w' = W1.setRow g [v0, v1, v2, .int .u32 (I (crcOn s [c])), v4, v5, v6, v7, v8, v9, v10, v11].toArray := by
  have HT := Aside0.mk hT
  have H := Aside0.mk h
  clear hT
  have c3 := h.cell 3 _ rfl
  have f3 := h.free 3
  have hlt := h.lt
  clear h
  have hb1 : IsBytes [c] := fun x hx => by rw [List.mem_singleton.1 hx]; exact hc
  have hC : Kd.C (Kd.int .u8) (W.alloc (.cells #[.int .u8 c] 5)) (some ⟨W.heap.size, 0, none⟩) 1 [c] := by
    refine Kd.C_of_reads (d := (0 : Int)) (h1 := fun _ => rfl) ⟨rfl, by simp, fun _ => ⟨_, rfl, fun j hj => ?_⟩⟩
    obtain rfl : j = 0 := by omega
    simp [Addr.add]
  have HC := Aside0.mk hC
  have HX := Aside0.mk (crcOn_ok 2 [c] hb1 (by simp) (by simp) s)
  clear hC hb1
  go_enter Tryd.func96, Tryd.ntmps96
  go_wp2_with fail
  go_at_call 24
  refine (frame_CrcOn.calls 2 (I s) _ 1 [c] _ _ HC.out (by simp) (Kd.C_alloc HT.out _) HX.out).mono ?_
  rintro en w' ⟨rfl, hd⟩
  obtain ⟨m, rfl⟩ := hd.out
  have hb : Below W.heap.size W ((W.alloc (.cells #[.int .u8 c] 5)).drewN m) := pw_below_drewN (below_alloc (Below.refl _ _) _) m
  generalize (W.alloc (.cells #[.int .u8 c] 5)).drewN m = W1 at *
  have hr : Rw g _ W1 := (hb.block g hlt).trans H.out
  have c3' := hr.cell 3 _ rfl
  have f3' := hr.free 3
  have e1 := hr.set 3 (.int .u32 (I (crcOn s [c])))
  simp only [List.set_cons_succ, List.set_cons_zero] at e1
  clear c3 f3
  go_wp2_with fail
  go_end0
  exact ⟨⟨_, rfl⟩, W1, hb, rfl⟩
end Go.Proofs.YtlblleideihhmaaDoor.Rd
namespace Go.Proofs.YtlblleideihhmaaDoor.Rd
open Go Go.RowKit Go.Proofs.YtlblleideihhmaaDoor.Each Go.Proofs.YtlblleideihhmaaDoor.UnLaw Go.Proofs.YtlblleideihhmaaDoor.Num Go.Proofs.YtlblleideihhmaaDoor.FrMore Go.Proofs.YtlblleideihhmaaDoor.Crc Go.Proofs.YtlblleideihhmaaDoor.CrcLaw Go.Proofs.YtlblleideihhmaaDoor.SealLaw Go.Proofs.YtlblleideihhmaaDoor.PB Go.Proofs.YtlblleideihhmaaDoor.Mine Go.Proofs.YtlblleideihhmaaDoorW.PrintWords Go.Proofs.YtlblleideihhmaaDoorW.PrintLast Go.Proofs.YtlblleideihhmaaDoorW.PrintMore
set_option linter.unusedVariables false
set_option linter.unusedSimpArgs false
set_option maxHeartbeats 4000000
set_option maxRecDepth 100000
theorem below_setRow' {B g : Nat} {w0 w : World} (hb : Below B w0 w) (hBg : B ≤ g) (cs : Array Value) : Below B w0 (w.setRow g cs) :=
  ⟨hb.os, hb.tape, hb.output, by rw [setRow_size]; exact hb.size, fun k hk => (setRow_other w g k cs (by omega)).trans (hb.block k hk)⟩
def fnOf (ph : Nat) : Nat := if ph = 0 then 90 else if ph = 1 then 97 else if ph = 2 then 99 else 98
abbrev cellsOf (g : Nat) (s : St) (vp vl : Value) : List Value :=
  [.func (.func (fnOf s.ph)) #[ptr g] #[], .int .i64 (s.all : Int), .int .i64 (s.frm : Int), .int .u32 (I s.sum), .int .u64 (s.size : Int), .int .i64 (s.count : Int), vp, .int .u32 (s.tail : Int), vl, .int .i64 s.err, .int .i64 s.place, .bool s.done]
/-- A Reader in memory: its block g; its load so far and the loads that nobody was told of lie in blocks of its own, from B on. -/
structure RdAt (g B : Nat) (s : St) (vp vl : Value) (W : World) : Prop where
  row : Rw g (cellsOf g s vp vl) W
  p : (Kd.int .u8).R 5 W B (fun _ => True) vp s.p
  l : (Kd.slice 5 (Kd.int .u8)).R 22 W B (fun k => True ∧ some k ≠ vp.ownBlock) vl s.loads
  base : B ≤ g
/-- What a call of the Reader's leaves alone, and where its memory lies behind it. -/
structure Keep (g B : Nat) (vp vl : Value) (W : World) (vp' vl' : Value) (W' : World) : Prop where
  kept : Kept W W' (fun k => k = g ∨ some k = vp.ownBlock ∨ some k = vl.ownBlock)
  below : Below B W W'
  p : ∀ k, vp'.ownBlock = some k → vp.ownBlock = some k ∨ W.heap.size ≤ k
  l : ∀ k, vl'.ownBlock = some k → vl.ownBlock = some k ∨ W.heap.size ≤ k
theorem Keep.refl (g B : Nat) (vp vl : Value) (W : World) : Keep g B vp vl W vp vl W := ⟨Kept.refl _ _, Below.refl _ _, fun k h => .inl h, fun k h => .inl h⟩
theorem Keep.trans {g B : Nat} {vp vl vp1 vl1 vp2 vl2 : Value} {W W1 W2 : World} (h : Keep g B vp vl W vp1 vl1 W1) (k : Keep g B vp1 vl1 W1 vp2 vl2 W2) : Keep g B vp vl W vp2 vl2 W2 := by
  refine ⟨h.kept.then_ k.kept (fun j hj => ?_), h.below.trans k.below, fun j hj => ?_, fun j hj => ?_⟩
  · rcases hj with hj | hj | hj
    · exact .inl (.inl hj)
    · rcases h.p j hj.symm with e | e
      · exact .inl (.inr (.inl e.symm))
      · exact .inr e
    · rcases h.l j hj.symm with e | e
      · exact .inl (.inr (.inr e.symm))
      · exact .inr e
  · rcases k.p j hj with e | e
    · exact h.p j e
    · exact .inr (Nat.le_trans h.kept.1 e)
  · rcases k.l j hj with e | e
    · exact h.l j e
    · exact .inr (Nat.le_trans h.kept.1 e)
theorem RdAt.size {g B : Nat} {s : St} {vp vl : Value} {W : World} (h : RdAt g B s vp vl W) : B ≤ W.heap.size := Nat.le_of_lt (Nat.lt_of_le_of_lt h.base h.row.lt)
/-- The Reader's numbers turn; its memory stays. -/
theorem RdAt.go {g B : Nat} {s : St} {vp vl : Value} {W W1 : World} (h : RdAt g B s vp vl W) (hb : Below W.heap.size W W1) (s' : St) (hp : s'.p = s.p) (hl : s'.loads = s.loads) :
    RdAt g B s' vp vl (W1.setRow g (cellsOf g s' vp vl).toArray) ∧ Keep g B vp vl W vp vl (W1.setRow g (cellsOf g s' vp vl).toArray) := by
  have hr : Rw g (cellsOf g s vp vl) W1 := (hb.block g h.row.lt).trans h.row
  have hk : ∀ k, k ≠ g → k < W.heap.size → (W1.setRow g (cellsOf g s' vp vl).toArray).heap[k]? = W.heap[k]? := fun k h1 h2 => (setRow_other W1 g k _ h1).trans (hb.block k h2)
  have hB := h.size
  refine ⟨⟨hr.row _, ?_, ?_, h.base⟩, ⟨⟨by rw [setRow_size]; exact hb.size, fun k h1 h2 => hk k (fun e => h2 (.inl e)) h1⟩, below_setRow' (hb.mono hB) h.base _, fun k h => .inl h, fun k h => .inl h⟩⟩
  · rw [hp]
    exact Kd.R_mono (Kd.R_step (Kd.R_types h.p h.row (by intro q hq; simp [Kd.int, Kd.scalar] at hq; omega)) (fun k hk1 hk2 => hk k hk1.2 hk2)) (fun _ _ => trivial)
  · rw [hl]
    exact Kd.R_mono (Kd.R_step (Kd.R_types h.l h.row (by intro q hq; simp [Kd.int, Kd.scalar, Kd.slice] at hq; omega)) (fun k hk1 hk2 => hk k hk1.2 hk2)) (fun _ hk => hk.1)
theorem tab_below {B : Nat} {W W' : World} (h : Kd.C (Kd.int .u32) W (some ⟨0, 0, none⟩) 16 crcTab) (hB : 0 < B) (hb : Below B W W') : Kd.C (Kd.int .u32) W' (some ⟨0, 0, none⟩) 16 crcTab := by
  have hq := Kd.reads_of_C (d := (0 : Int)) (h1 := fun _ => rfl) h
  refine Kd.C_of_reads (d := (0 : Int)) (h1 := fun _ => rfl) ⟨hq.1, hq.2.1, fun hp => ?_⟩
  obtain ⟨ad, e, hc⟩ := hq.2.2 hp
  refine ⟨ad, e, fun j hj => ?_⟩
  have h2 := hc j hj
  obtain rfl := Option.some.inj e
  exact (hb.cell (p := (⟨0, 0, none⟩ : Addr).add j) (by simp only [Addr.add]; split <;> exact hB)).trans h2
theorem setRow_of {g : Nat} {W W1 : World} {vs us us' : List Value} (e : us = us') : W.setRow g us.toArray = W.setRow g us'.toArray := by rw [e]
/-- What a step of the Reader's shows. -/
abbrev Steps (g B : Nat) (vp vl : Value) (W : World) (s' : St) (w' : World) : Prop := ∃ vp' vl', RdAt g B s' vp' vl' w' ∧ Keep g B vp vl W vp' vl' w'
theorem first_at {g B : Nat} {s : St} {vp vl : Value} {W : World} (h : RdAt g B s vp vl W) (hT : Kd.C (Kd.int .u32) W (some ⟨0, 0, none⟩) 16 crcTab) (c : Int) (hc : 0 ≤ c ∧ c < 256) :
    Calls Tryd.prog 90 #[ptr g, .int .u8 c] W fun en w' => (∃ v, en = .returned v) ∧ Steps g B vp vl W (first s c) w' := by
  have H := Aside0.mk h
  have HT := Aside0.mk hT
  have c2 := h.row.cell 2 _ rfl
  have hrow := h.row
  clear h hT
  by_cases hx : c = 167
  · subst hx
    have e1 : first s 167 = { s with sum := crcOn s.sum [167], ph := 1, count := 0 } := by unfold first; rw [if_pos rfl]
    rw [e1]
    clear e1
    go_enter Tryd.func90, Tryd.ntmps90
    go_wp2_with fail
    go_at_call 96
    refine (add_at g 167 (by omega) s.sum _ _ _ _ _ _ _ _ _ _ _ W hrow HT.out).mono ?_
    rintro en w' ⟨⟨v, rfl⟩, W1, hb, rfl⟩
    have hr1 : Rw g _ W1 := (hb.block g hrow.lt).trans hrow
    clear c2 hrow
    go_wp2_with fail
    go_at_call 89
    refine (turn_at g 97 _ _ _ _ _ _ _ _ _ _ _ _ _ (hr1.row _)).mono ?_
    rintro en w' ⟨⟨v, rfl⟩, rfl⟩
    rw [setRow_setRow]
    have hres := H.out.go hb { s with sum := crcOn s.sum [167], ph := 1, count := 0 } rfl rfl
    go_wp2_with fail
    go_end0
    exact ⟨⟨_, rfl⟩, vp, vl, hres⟩
  · have e1 : first s c = { s with err := 14, place := (s.frm : Int) } := by unfold first; rw [if_neg hx]
    rw [e1]
    clear e1
    have hx1 : (c != 167) = true := bne_iff_ne.2 hx
    have hx2 : (c == 167) = false := beq_eq_false_iff_ne.2 hx
    go_enter Tryd.func90, Tryd.ntmps90
    go_wp2_with fail
    go_at_call 95
    refine (fail_at g _ _ _ _ _ _ _ _ _ _ _ _ 14 _ W hrow).mono ?_
    rintro en w' ⟨⟨v, rfl⟩, rfl⟩
    have hres := H.out.go (Below.refl _ _) { s with err := 14, place := (s.frm : Int) } rfl rfl
    clear c2 hrow
    go_wp2_with fail
    refine bodyPost_ret (results_none rfl _ _ _) rfl ?_
    exact ⟨⟨_, rfl⟩, vp, vl, hres⟩
theorem quiet_of {f : FuncId} {args : Array Value} {w : World} {n : Nat} {v : Value} (h : Calls Tryd.prog f args (w.drewN n) fun e w' => e = .returned v ∧ Drawn0 (w.drewN n) w') : Calls Tryd.prog f args (w.drewN n) fun e w'' => e = .returned v ∧ ∃ m, w'' = w.drewN m :=
  h.mono fun _ _ ⟨he, hd⟩ => ⟨he, by obtain ⟨m, rfl⟩ := hd.out; exact ⟨_, World.drewN_drewN ..⟩⟩
/-- The length's fault. -/
theorem length_bad {g B : Nat} {s : St} {vp vl : Value} {W : World} (h : RdAt g B s vp vl W) (c e : Int) (he : e ≠ 0) (ha : s.all < 4611686018427387904) (hg : frame_group.f 1 (s.size : Int) (s.count : Int) c = some (0, false, e)) :
    Calls Tryd.prog 97 #[ptr g, .int .u8 c] W fun en w' => (∃ v, en = .returned v) ∧ Steps g B vp vl W { s with err := e, place := (s.all : Int) - 1 } w' := by
  have H := Aside0.mk h
  have HG := Aside0.mk hg
  have c4 := h.row.cell 4 _ rfl
  have c5 := h.row.cell 5 _ rfl
  have hrow := h.row
  have he1 : (e == 0) = false := beq_eq_false_iff_ne.2 he
  have he2 : (e != 0) = true := bne_iff_ne.2 he
  have hw : wrap64 ((s.all : Int) - 1) = (s.all : Int) - 1 := w64 (by omega) (by omega)
  clear h hg
  go_enter Tryd.func97, Tryd.ntmps97
  go_wp2_with fail
  go_quiet ((go_at_call 73; exact quiet_of (frame_group.calls 1 _ _ _ _ _ _ _ HG.out)))
  have hb : Below W.heap.size W (W.drewN nq) := pw_below_drewN (Below.refl _ _) nq
  generalize W.drewN nq = W1 at *
  have hr1 : Rw g _ W1 := (hb.block g hrow.lt).trans hrow
  have c1' := hr1.cell 1 _ rfl
  clear c4 c5 hrow
  go_wp2_with fail
  go_at_call 95
  refine (fail_at g _ _ _ _ _ _ _ _ _ _ _ _ e _ W1 hr1).mono ?_
  rintro en w' ⟨⟨v, rfl⟩, rfl⟩
  have hres := H.out.go hb { s with err := e, place := (s.all : Int) - 1 } rfl rfl
  clear c1' hr1
  go_wp2_with fail
  refine bodyPost_ret (results_none rfl _ _ _) rfl ?_
  exact ⟨⟨_, rfl⟩, vp, vl, hres⟩
/-- The length goes on, or it is too great. -/
theorem length_at {g B : Nat} {s : St} {vp vl : Value} {W : World} (h : RdAt g B s vp vl W) (hT : Kd.C (Kd.int .u32) W (some ⟨0, 0, none⟩) 16 crcTab) (c : Int) (hc : 0 ≤ c ∧ c < 256) (ha : s.all < 4611686018427387904) (hf : s.frm ≤ s.all) (hn : s.count ≤ 9) (hz : s.size < 128 ^ s.count) :
    Calls Tryd.prog 97 #[ptr g, .int .u8 c] W fun en w' => (∃ v, en = .returned v) ∧ Steps g B vp vl W (lengthS s c) w' := by
  unfold lengthS
  by_cases h1 : s.count = 9 ∧ c > 1
  · rw [if_pos h1]
    exact length_bad h c 11 (by decide) ha (by rw [h1.1]; exact group_wide 1 (by decide) _ c h1.2)
  rw [if_neg h1]
  by_cases h2 : 0 < s.count ∧ c = 0
  · rw [if_pos h2]
    exact length_bad h c 10 (by decide) ha (by rw [h2.2]; exact group_form 1 (by decide) _ s.count h2.1)
  rw [if_neg h2]
  have HG := Aside0.mk (group_ok 1 (by decide) s.count s.size c hn hz hc h1 h2)
  have H := Aside0.mk h
  have HT := Aside0.mk hT
  have c4 := h.row.cell 4 _ rfl
  have c5 := h.row.cell 5 _ rfl
  have hrow := h.row
  clear h hT h1 h2 hz
  generalize hm : s.size + c.toNat % 128 * 128 ^ s.count = m at *
  clear hm
  by_cases h4 : c < 128
  · rw [if_pos h4]
    have h4b : decide (c < 128) = true := decide_eq_true h4
    rw [h4b] at HG
    clear h4 h4b
    by_cases h5 : m > 65536
    · rw [if_pos h5]
      have h5b : decide ((65536 : Int) < (m : Int)) = true := decide_eq_true (by omega)
      have h5c : decide ((m : Int) > 65536) = true := decide_eq_true (by omega)
      have h5d : decide (65536 < m) = true := decide_eq_true h5
      have hw : wrap64 ((s.frm : Int) + 1) = (s.frm : Int) + 1 := w64 (by omega) (by omega)
      clear h5
      go_enter Tryd.func97, Tryd.ntmps97
      go_wp2_with fail
      go_quiet ((go_at_call 73; exact quiet_of (frame_group.calls 1 _ _ _ _ _ _ _ HG.out)))
      have hb : Below W.heap.size W (W.drewN nq) := pw_below_drewN (Below.refl _ _) nq
      generalize W.drewN nq = W1 at *
      have hr1 : Rw g _ W1 := (hb.block g hrow.lt).trans hrow
      have c2' := hr1.cell 2 _ rfl
      clear c4 c5 hrow
      go_wp2_with fail
      go_at_call 95
      refine (fail_at g _ _ _ _ _ _ _ _ _ _ _ _ 12 _ W1 hr1).mono ?_
      rintro en w' ⟨⟨v, rfl⟩, rfl⟩
      have hres := H.out.go hb { s with err := 12, place := (s.frm : Int) + 1 } rfl rfl
      clear c2' hr1
      go_wp2_with fail
      refine bodyPost_ret (results_none rfl _ _ _) rfl ?_
      exact ⟨⟨_, rfl⟩, vp, vl, hres⟩
    · rw [if_neg h5]
      have h5b : decide ((65536 : Int) < (m : Int)) = false := decide_eq_false (by omega)
      have h5c : decide ((m : Int) > 65536) = false := decide_eq_false (by omega)
      have h5d : decide (65536 < m) = false := decide_eq_false h5
      have hw : wrap64 ((s.count : Int) + 1) = (s.count : Int) + 1 := w64 (by omega) (by omega)
      clear h5
      by_cases h6 : m = 0
      · have h6b : ((m : Int) == 0) = true := by rw [h6]; rfl
        have h6c : decide ((m : Int) = 0) = true := decide_eq_true (by omega)
        rw [if_pos h6]
        clear h6
        go_enter Tryd.func97, Tryd.ntmps97
        go_wp2_with fail
        go_quiet ((go_at_call 73; exact quiet_of (frame_group.calls 1 _ _ _ _ _ _ _ HG.out)))
        have hb : Below W.heap.size W (W.drewN nq) := pw_below_drewN (Below.refl _ _) nq
        generalize W.drewN nq = W1 at *
        have hr1 : Rw g _ W1 := (hb.block g hrow.lt).trans hrow
        clear c4 c5 hrow
        go_wp2_with fail
        go_at_call 96
        refine (add_at g c hc s.sum _ _ _ _ _ _ _ _ _ _ _ W1 hr1 (Kd.C_below HT.out hb)).mono ?_
        rintro en w' ⟨⟨v, rfl⟩, W2, hb2, rfl⟩
        have hr2 := Rw.row (g := g) (vs := cellsOf g s vp vl) (W := W2) ((hb2.block g hr1.lt).trans hr1) [.func (.func (fnOf s.ph)) #[ptr g] #[], .int .i64 (s.all : Int), .int .i64 (s.frm : Int), .int .u32 (I (crcOn s.sum [c])), .int .u64 (s.size : Int), .int .i64 (s.count : Int), vp, .int .u32 (s.tail : Int), vl, .int .i64 s.err, .int .i64 s.place, .bool s.done]
        have hb3 := below_then hb hb.size hb2
        have c4 := hr2.cell 4 _ rfl
        have f4 := hr2.free 4
        have e4 := hr2.set 4 (.int .u64 (m : Int))
        rw [setRow_setRow] at e4
        simp only [List.set_cons_succ, List.set_cons_zero] at e4
        have hr3 := hr2.row [.func (.func (fnOf s.ph)) #[ptr g] #[], .int .i64 (s.all : Int), .int .i64 (s.frm : Int), .int .u32 (I (crcOn s.sum [c])), .int .u64 (m : Int), .int .i64 (s.count : Int), vp, .int .u32 (s.tail : Int), vl, .int .i64 s.err, .int .i64 s.place, .bool s.done]
        rw [setRow_setRow] at hr3
        have c5 := hr3.cell 5 _ rfl
        have f5 := hr3.free 5
        have e5 := hr3.set 5 (.int .i64 ((s.count : Int) + 1))
        rw [setRow_setRow] at e5
        simp only [List.set_cons_succ, List.set_cons_zero] at e5
        have hr4 := hr3.row [.func (.func (fnOf s.ph)) #[ptr g] #[], .int .i64 (s.all : Int), .int .i64 (s.frm : Int), .int .u32 (I (crcOn s.sum [c])), .int .u64 (m : Int), .int .i64 ((s.count : Int) + 1), vp, .int .u32 (s.tail : Int), vl, .int .i64 s.err, .int .i64 s.place, .bool s.done]
        rw [setRow_setRow] at hr4
        clear hr1 hr2 hr3 hb hb2
        have hres := H.out.go hb3 { s with sum := crcOn s.sum [c], size := m, ph := 3, count := 0 } rfl rfl
        go_wp2_with fail
        go_at_call 89
        refine (turn_at g 98 _ _ _ _ _ _ _ _ _ _ _ _ _ hr4).mono ?_
        rintro en w' ⟨⟨v, rfl⟩, rfl⟩
        rw [setRow_setRow]
        clear hr4 c4 c5 f4 f5 e4 e5
        go_wp2_with fail
        go_end0
        exact ⟨⟨_, rfl⟩, vp, vl, hres⟩
      · have h6b : ((m : Int) == 0) = false := beq_eq_false_iff_ne.2 (by omega)
        have h6c : decide ((m : Int) = 0) = false := decide_eq_false (by omega)
        rw [if_neg h6]
        clear h6
        go_enter Tryd.func97, Tryd.ntmps97
        go_wp2_with fail
        go_quiet ((go_at_call 73; exact quiet_of (frame_group.calls 1 _ _ _ _ _ _ _ HG.out)))
        have hb : Below W.heap.size W (W.drewN nq) := pw_below_drewN (Below.refl _ _) nq
        generalize W.drewN nq = W1 at *
        have hr1 : Rw g _ W1 := (hb.block g hrow.lt).trans hrow
        clear c4 c5 hrow
        go_wp2_with fail
        go_at_call 96
        refine (add_at g c hc s.sum _ _ _ _ _ _ _ _ _ _ _ W1 hr1 (Kd.C_below HT.out hb)).mono ?_
        rintro en w' ⟨⟨v, rfl⟩, W2, hb2, rfl⟩
        have hr2 := Rw.row (g := g) (vs := cellsOf g s vp vl) (W := W2) ((hb2.block g hr1.lt).trans hr1) [.func (.func (fnOf s.ph)) #[ptr g] #[], .int .i64 (s.all : Int), .int .i64 (s.frm : Int), .int .u32 (I (crcOn s.sum [c])), .int .u64 (s.size : Int), .int .i64 (s.count : Int), vp, .int .u32 (s.tail : Int), vl, .int .i64 s.err, .int .i64 s.place, .bool s.done]
        have hb3 := below_then hb hb.size hb2
        have c4 := hr2.cell 4 _ rfl
        have f4 := hr2.free 4
        have e4 := hr2.set 4 (.int .u64 (m : Int))
        rw [setRow_setRow] at e4
        simp only [List.set_cons_succ, List.set_cons_zero] at e4
        have hr3 := hr2.row [.func (.func (fnOf s.ph)) #[ptr g] #[], .int .i64 (s.all : Int), .int .i64 (s.frm : Int), .int .u32 (I (crcOn s.sum [c])), .int .u64 (m : Int), .int .i64 (s.count : Int), vp, .int .u32 (s.tail : Int), vl, .int .i64 s.err, .int .i64 s.place, .bool s.done]
        rw [setRow_setRow] at hr3
        have c5 := hr3.cell 5 _ rfl
        have f5 := hr3.free 5
        have e5 := hr3.set 5 (.int .i64 ((s.count : Int) + 1))
        rw [setRow_setRow] at e5
        simp only [List.set_cons_succ, List.set_cons_zero] at e5
        have hr4 := hr3.row [.func (.func (fnOf s.ph)) #[ptr g] #[], .int .i64 (s.all : Int), .int .i64 (s.frm : Int), .int .u32 (I (crcOn s.sum [c])), .int .u64 (m : Int), .int .i64 ((s.count : Int) + 1), vp, .int .u32 (s.tail : Int), vl, .int .i64 s.err, .int .i64 s.place, .bool s.done]
        rw [setRow_setRow] at hr4
        clear hr1 hr2 hr3 hb hb2
        have hres := H.out.go hb3 { s with sum := crcOn s.sum [c], size := m, ph := 2, count := 0 } rfl rfl
        go_wp2_with fail
        go_at_call 89
        refine (turn_at g 99 _ _ _ _ _ _ _ _ _ _ _ _ _ hr4).mono ?_
        rintro en w' ⟨⟨v, rfl⟩, rfl⟩
        rw [setRow_setRow]
        clear hr4 c4 c5 f4 f5 e4 e5
        go_wp2_with fail
        go_end0
        exact ⟨⟨_, rfl⟩, vp, vl, hres⟩
  · rw [if_neg h4]
    have h4b : decide (c < 128) = false := decide_eq_false h4
    rw [h4b] at HG
    clear h4 h4b
    have hw : wrap64 ((s.count : Int) + 1) = (s.count : Int) + 1 := w64 (by omega) (by omega)
    go_enter Tryd.func97, Tryd.ntmps97
    go_wp2_with fail
    go_quiet ((go_at_call 73; exact quiet_of (frame_group.calls 1 _ _ _ _ _ _ _ HG.out)))
    have hb : Below W.heap.size W (W.drewN nq) := pw_below_drewN (Below.refl _ _) nq
    generalize W.drewN nq = W1 at *
    have hr1 : Rw g _ W1 := (hb.block g hrow.lt).trans hrow
    clear c4 c5 hrow
    go_wp2_with fail
    go_at_call 96
    refine (add_at g c hc s.sum _ _ _ _ _ _ _ _ _ _ _ W1 hr1 (Kd.C_below HT.out hb)).mono ?_
    rintro en w' ⟨⟨v, rfl⟩, W2, hb2, rfl⟩
    have hr2 := Rw.row (g := g) (vs := cellsOf g s vp vl) (W := W2) ((hb2.block g hr1.lt).trans hr1) [.func (.func (fnOf s.ph)) #[ptr g] #[], .int .i64 (s.all : Int), .int .i64 (s.frm : Int), .int .u32 (I (crcOn s.sum [c])), .int .u64 (s.size : Int), .int .i64 (s.count : Int), vp, .int .u32 (s.tail : Int), vl, .int .i64 s.err, .int .i64 s.place, .bool s.done]
    have hb3 := below_then hb hb.size hb2
    have c4 := hr2.cell 4 _ rfl
    have f4 := hr2.free 4
    have e4 := hr2.set 4 (.int .u64 (m : Int))
    rw [setRow_setRow] at e4
    simp only [List.set_cons_succ, List.set_cons_zero] at e4
    have hr3 := hr2.row [.func (.func (fnOf s.ph)) #[ptr g] #[], .int .i64 (s.all : Int), .int .i64 (s.frm : Int), .int .u32 (I (crcOn s.sum [c])), .int .u64 (m : Int), .int .i64 (s.count : Int), vp, .int .u32 (s.tail : Int), vl, .int .i64 s.err, .int .i64 s.place, .bool s.done]
    rw [setRow_setRow] at hr3
    have c5 := hr3.cell 5 _ rfl
    have f5 := hr3.free 5
    have e5 := hr3.set 5 (.int .i64 ((s.count : Int) + 1))
    rw [setRow_setRow] at e5
    simp only [List.set_cons_succ, List.set_cons_zero] at e5
    have hres := H.out.go hb3 { s with sum := crcOn s.sum [c], size := m, count := s.count + 1 } rfl rfl
    clear hr1 hr2 hr3 hb hb2
    go_wp2_with fail
    go_end0
    exact ⟨⟨_, rfl⟩, vp, vl, hres⟩
end Go.Proofs.YtlblleideihhmaaDoor.Rd
namespace Go.Proofs.YtlblleideihhmaaDoor.Rd
open Go Go.RowKit Go.Proofs.YtlblleideihhmaaDoor.Each Go.Proofs.YtlblleideihhmaaDoor.UnLaw Go.Proofs.YtlblleideihhmaaDoor.Num Go.Proofs.YtlblleideihhmaaDoor.FrMore Go.Proofs.YtlblleideihhmaaDoor.Crc Go.Proofs.YtlblleideihhmaaDoor.CrcLaw Go.Proofs.YtlblleideihhmaaDoor.SealLaw Go.Proofs.YtlblleideihhmaaDoor.PB Go.Proofs.YtlblleideihhmaaDoor.Mine Go.Proofs.YtlblleideihhmaaDoorW.PrintWords Go.Proofs.YtlblleideihhmaaDoorW.PrintLast Go.Proofs.YtlblleideihhmaaDoorW.PrintMore
set_option linter.unusedVariables false
set_option linter.unusedSimpArgs false
set_option maxHeartbeats 4000000
set_option maxRecDepth 100000
/-- The block laid anew over turned memory. -/
theorem RdAt.put {g B : Nat} {vs : List Value} {vp vl : Value} {W : World} (s : St) (hr : Rw g vs W) (hp : (Kd.int .u8).R 5 W B (fun _ => True) vp s.p) (hl : (Kd.slice 5 (Kd.int .u8)).R 22 W B (fun k => True ∧ some k ≠ vp.ownBlock) vl s.loads) (hB : B ≤ g) :
    RdAt g B s vp vl (W.setRow g (cellsOf g s vp vl).toArray) := by
  refine ⟨hr.row _, ?_, ?_, hB⟩
  · exact Kd.R_mono (Kd.R_step (Kd.R_types hp hr (by intro q hq; simp [Kd.int, Kd.scalar] at hq; omega)) (fun k hk1 hk2 => setRow_other W g k _ hk1.2)) (fun _ _ => trivial)
  · exact Kd.R_mono (Kd.R_step (Kd.R_types hl hr (by intro q hq; simp [Kd.int, Kd.scalar, Kd.slice] at hq; omega)) (fun k hk1 hk2 => setRow_other W g k _ hk1.2)) (fun _ hk => hk.1)
theorem RdAt.stay {g B : Nat} {s : St} {vp vl : Value} {W W1 : World} (h : RdAt g B s vp vl W) (hb : Below W.heap.size W W1) : RdAt g B s vp vl W1 ∧ Keep g B vp vl W vp vl W1 :=
  ⟨⟨(hb.block g h.row.lt).trans h.row, Kd.R_below h.p hb, Kd.R_below h.l hb, h.base⟩, ⟨Kept.of_below hb _, hb.mono h.size, fun k e => .inl e, fun k e => .inl e⟩⟩
theorem Keep.laid {g B : Nat} {vp vl v1 : Value} {V w1 : World} (h : Kept V w1 (fun k => k = g ∨ some k = vp.ownBlock ∨ some k = vl.ownBlock) ∧ Below B V w1 ∧ ∀ k, v1.ownBlock = some k → vp.ownBlock = some k ∨ V.heap.size ≤ k) (hB : B ≤ g) (us : List Value) : Keep g B vp vl V v1 vl (w1.setRow g us.toArray) :=
  ⟨h.1.then_ (S2 := fun k => k = g) ⟨by simp, fun k _ hk => setRow_other w1 g k _ hk⟩ (fun k hk => .inl (.inl hk)), below_setRow' h.2.1 hB _, h.2.2, fun k e => .inl e⟩
theorem load_at {g B : Nat} {s : St} {vp vl : Value} {W : World} (h : RdAt g B s vp vl W) (hT : Kd.C (Kd.int .u32) W (some ⟨0, 0, none⟩) 16 crcTab) (c : Int) (hc : 0 ≤ c ∧ c < 256) (hph : s.ph = 2) (hn : s.p.length < 65536) (hz : s.size ≤ 65536) :
    Calls Tryd.prog 99 #[ptr g, .int .u8 c] W fun en w' => (∃ v, en = .returned v) ∧ Steps g B vp vl W (loadS s c) w' := by
  have H := Aside0.mk h
  have HT := Aside0.mk hT
  have hrow := h.row
  have HPH := Aside0.mk hph
  clear h hT hph
  have hw1 : IntKind.u64.wrap ((s.p.length : Int) + 1) = (s.p.length : Int) + 1 := by rw [IntKind.wrap_u64]; omega
  have hw2 : ((s.p.length : Int) + 1) % 18446744073709551616 = (s.p.length : Int) + 1 := by omega
  obtain ⟨b, hbb, hsb⟩ : ∃ b : Bool, ((((s.p.length : Int) + 1) == (s.size : Int)) = b ∧ decide (((s.p.length : Int) + 1) = (s.size : Int)) = b) ∧ loadS s c = { s with sum := crcOn s.sum [c], p := s.p ++ [c], ph := if b then 3 else 2, count := if b then 0 else s.count } := by
    by_cases e : s.p.length + 1 = s.size
    · exact ⟨true, ⟨beq_iff_eq.2 (by omega), decide_eq_true (by omega)⟩, by unfold loadS; rw [if_pos e, if_pos e]; rfl⟩
    · exact ⟨false, ⟨beq_eq_false_iff_ne.2 (by omega), decide_eq_false (by omega)⟩, by unfold loadS; rw [if_neg e, if_neg e]; rfl⟩
  obtain ⟨hb1, hb2⟩ := hbb
  rw [hsb]
  clear hsb
  have hw : ∀ b' : Bool, b' = b → True := fun _ _ => trivial
  cases b
  all_goals
    simp only [Bool.false_eq_true, if_false, if_true]
    go_enter Tryd.func99, Tryd.ntmps99
    go_wp2_with fail
    go_at_call 96
    refine (add_at g c hc s.sum _ _ _ _ _ _ _ _ _ _ _ W hrow HT.out).mono ?_
    rintro en w' ⟨⟨v, rfl⟩, W1, hb, rfl⟩
    have h1 := H.out.go hb { s with sum := crcOn s.sum [c] } rfl rfl
    have H1 := Aside0.mk h1.1
    have K1 := Aside0.mk h1.2
    have hr1 := h1.1.row
    have hB1 := h1.1.size
    clear h1 hrow hb
    generalize W1.setRow g _ = V at *
    have c6 := hr1.cell 6 _ rfl
    go_wp2_with (first | (
      (with_reducible refine gate_builtin (b := .append) (xs := #[.tmp 11, .tmp 13]) rfl ?_)
      at_builtin
      refine Kd.R_append (Kd.int .u8) (w0 := V) B rfl (.tmp 11) (.tmp 13) 22 5 (.int .u8 0) 1 rfl Tryd.underlying22 info5 rfl (by decide) (by omega) vp s.p c [.int .u8 c] (fun _ => True) (fun _ => False) rfl rfl rfl (fun _ hk => hk.elim) (fun _ _ => trivial) H1.out.p (Below.refl _ _) hB1 (by omega) ?_
      intro v1 w1 ho hb hg hat
      have hne : some g ≠ vp.ownBlock := Kd.R_ne H1.out.p hr1 (by decide)
      have hr2 : Rw g _ w1 := (hg.block g hr1.lt hne).trans hr1
      have hl2 := Kd.R_after H1.out.l hg hat
      have HO := Aside0.mk ho
      have HL := Aside0.mk hl2
      have HKP : Aside0 (Kept V w1 (fun k => k = g ∨ some k = vp.ownBlock ∨ some k = vl.ownBlock) ∧ Below B V w1 ∧ ∀ k, v1.ownBlock = some k → vp.ownBlock = some k ∨ V.heap.size ≤ k) := ⟨⟨hg.size, fun k h1 h2 => hg.block k h1 (fun e => h2 (.inr (.inl e)))⟩, hb, fun k e => by
        rcases hat with e2 | ⟨b, e2, e3⟩
        · exact .inl (e2 ▸ e)
        · rw [e2] at e; injection e with e; exact .inr (e ▸ e3)⟩
      obtain ⟨A1, cc1, e⟩ := Kd.R_slice ho
      rw [List.length_append, List.length_singleton] at e
      subst e
      have f6 := hr2.free 6
      have c6' := hr2.cell 6 _ rfl
      have e6 := hr2.set 6 (.slice A1 (s.p.length + 1) cc1)
      simp only [List.set_cons_succ, List.set_cons_zero] at e6
      have hr3 := hr2.row [.func (.func (fnOf s.ph)) #[ptr g] #[], .int .i64 (s.all : Int), .int .i64 (s.frm : Int), .int .u32 (I (crcOn s.sum [c])), .int .u64 (s.size : Int), .int .i64 (s.count : Int), .slice A1 (s.p.length + 1) cc1, .int .u32 (s.tail : Int), vl, .int .i64 s.err, .int .i64 s.place, .bool s.done]
      have c6'' := hr3.cell 6 _ rfl
      have c4 := hr3.cell 4 _ rfl
      clear ho hb hg hat hl2 c6 hr1 hB1 hne))
    go_quiet (fail)
    have RX : RdAt g B { s with sum := crcOn s.sum [c], p := s.p ++ [c] } (.slice A1 (s.p.length + 1) cc1) vl (w1.setRow g [.func (.func (fnOf s.ph)) #[ptr g] #[], .int .i64 (s.all : Int), .int .i64 (s.frm : Int), .int .u32 (I (crcOn s.sum [c])), .int .u64 (s.size : Int), .int .i64 (s.count : Int), .slice A1 (s.p.length + 1) cc1, .int .u32 (s.tail : Int), vl, .int .i64 s.err, .int .i64 s.place, .bool s.done].toArray) := RdAt.put _ hr2 HO.out HL.out H1.out.base
    have KX := Keep.laid HKP.out H1.out.base [.func (.func (fnOf s.ph)) #[ptr g] #[], .int .i64 (s.all : Int), .int .i64 (s.frm : Int), .int .u32 (I (crcOn s.sum [c])), .int .u64 (s.size : Int), .int .i64 (s.count : Int), .slice A1 (s.p.length + 1) cc1, .int .u32 (s.tail : Int), vl, .int .i64 s.err, .int .i64 s.place, .bool s.done]
    have KX := Aside0.mk (K1.out.trans KX)
    have RX := Aside0.mk RX
    clear hr2 hr3 f6 c6' e6 c6'' c4 HO HL HKP H1 K1
    generalize w1.setRow g _ = X at *
    have hb3 : Below X.heap.size X (X.drewN nq) := pw_below_drewN (Below.refl _ _) nq
    generalize X.drewN nq = Y at *
  · have hres := RX.out.stay hb3
    go_wp2_with fail
    go_end0
    rw [← HPH.out]
    exact ⟨⟨_, rfl⟩, _, _, hres.1, KX.out.trans hres.2⟩
  · have hres := RX.out.go hb3 { s with sum := crcOn s.sum [c], p := s.p ++ [c], ph := 3, count := 0 } rfl rfl
    have hr4 := (RX.out.stay hb3).1.row
    go_wp2_with fail
    go_at_call 89
    refine (turn_at g 98 _ _ _ _ _ _ _ _ _ _ _ _ _ hr4).mono ?_
    rintro en w' ⟨⟨v, rfl⟩, rfl⟩
    go_wp2_with fail
    go_end0
    exact ⟨⟨_, rfl⟩, _, _, hres.1, KX.out.trans hres.2⟩
end Go.Proofs.YtlblleideihhmaaDoor.Rd
namespace Go.Proofs.YtlblleideihhmaaDoor.Rd
open Go Go.RowKit Go.Proofs.YtlblleideihhmaaDoor.Each Go.Proofs.YtlblleideihhmaaDoor.UnLaw Go.Proofs.YtlblleideihhmaaDoor.Num Go.Proofs.YtlblleideihhmaaDoor.FrMore Go.Proofs.YtlblleideihhmaaDoor.Crc Go.Proofs.YtlblleideihhmaaDoor.CrcLaw Go.Proofs.YtlblleideihhmaaDoor.SealLaw Go.Proofs.YtlblleideihhmaaDoor.PB Go.Proofs.YtlblleideihhmaaDoor.Mine Go.Proofs.YtlblleideihhmaaDoorW.PrintWords Go.Proofs.YtlblleideihhmaaDoorW.PrintLast Go.Proofs.YtlblleideihhmaaDoorW.PrintMore
set_option linter.unusedVariables false
set_option linter.unusedSimpArgs false
set_option maxHeartbeats 4000000
set_option maxRecDepth 100000
theorem tail_or (t n : Nat) (c : Int) (hc : 0 ≤ c ∧ c < 256) (hn : n < 4) (ht : t < 256 ^ n) : Go.bits .or .u32 (t : Int) (c * 2 ^ (8 * n) % 4294967296) = ((t + c.toNat * 256 ^ n : Nat) : Int) ∧ t + c.toNat * 256 ^ n < 256 ^ (n + 1) := by
  have h7 : 256 ^ n ≤ 16777216 := Nat.le_trans (Nat.pow_le_pow_right (by decide) (show n ≤ 3 by omega)) (by decide)
  have hg : c.toNat * 256 ^ n ≤ 255 * 256 ^ n := Nat.mul_le_mul_right _ (by omega)
  have hp : (2 : Int) ^ (8 * n) = ((256 ^ n : Nat) : Int) := by rw [← pow_256]; exact_mod_cast rfl
  obtain ⟨d, rfl⟩ := Int.eq_ofNat_of_zero_le hc.1
  refine ⟨?_, by rw [Nat.pow_succ]; omega⟩
  rw [hp, ← Int.natCast_mul, Int.emod_eq_of_lt (by omega) (by simp at hg; omega), Int.toNat_natCast, u32_or_nat t _ (by omega) (by simp at hg; omega), Nat.or_comm, nat_join (8 * n) (d * 256 ^ n) t, Nat.add_comm]
  · rw [pow_256, Nat.mul_mod_left]
  · rw [pow_256]; exact ht
theorem end_at {g B : Nat} {s : St} {vp vl : Value} {W : World} (h : RdAt g B s vp vl W) (c : Int) (hc : 0 ≤ c ∧ c < 256) (ha : s.all < 4611686018427387904) (hn : s.count < 4) (ht : s.tail < 256 ^ s.count) (hl : s.loads.length < 4398046511104) :
    Calls Tryd.prog 98 #[ptr g, .int .u8 c] W fun en w' => (∃ v, en = .returned v) ∧ Steps g B vp vl W (endS s c) w' := by
  obtain ⟨ht1, ht2⟩ := tail_or s.tail s.count c hc hn ht
  obtain ⟨Ap, cp, evp⟩ := Kd.R_slice h.p
  subst evp
  have H := Aside0.mk h
  have hrow := h.row
  have hes : endS s c = if s.count + 1 < 4 then { s with tail := s.tail + c.toNat * 256 ^ s.count, count := s.count + 1 } else if ((s.tail + c.toNat * 256 ^ s.count : Nat) : Int) = I s.sum then { s with loads := s.loads ++ [s.p], ph := 0, frm := s.all, sum := 0#32, size := 0, p := [], tail := 0, count := 0 } else { s with tail := s.tail + c.toNat * 256 ^ s.count, count := s.count + 1, err := 13, place := (s.all : Int) - 4 } := rfl
  rw [hes]
  clear h hes
  generalize s.tail + c.toNat * 256 ^ s.count = m at *
  have c7 := hrow.cell 7 _ rfl
  have f7 := hrow.free 7
  have c5 := hrow.cell 5 _ rfl
  have e7 := hrow.set 7 (.int .u32 (m : Int))
  simp only [List.set_cons_succ, List.set_cons_zero] at e7
  have hwc : wrap64 ((s.count : Int) + 1) = (s.count : Int) + 1 := w64 (by omega) (by omega)
  have hwa : wrap64 ((s.all : Int) - 4) = (s.all : Int) - 4 := w64 (by omega) (by omega)
  have h1 := H.out.go (Below.refl _ W) { s with tail := m } rfl rfl
  have h2 := h1.1.stay (below_drew (Below.refl _ _))
  have K2 := Aside0.mk (h1.2.trans h2.2)
  have R2 := Aside0.mk h2.1
  clear h1 h2
  have post : ∀ (X : World) (b : Bool), decide ((s.count : Int) + 1 < 4) = b → True := fun _ _ _ => trivial
  by_cases h4 : s.count + 1 < 4
  · rw [if_pos h4]
    have h4b : decide ((s.count : Int) + 1 < 4) = true := decide_eq_true (by omega)
    have h4c : decide (s.count + 1 < 4) = true := decide_eq_true h4
    clear h4
    go_enter Tryd.func98, Tryd.ntmps98
    go_wp2_with fail
    go_region
    have e0 : (W.setRow g [.func (.func (fnOf s.ph)) #[ptr g] #[], .int .i64 (s.all : Int), .int .i64 (s.frm : Int), .int .u32 (I s.sum), .int .u64 (s.size : Int), .int .i64 (s.count : Int), .slice Ap s.p.length cp, .int .u32 (m : Int), vl, .int .i64 s.err, .int .i64 s.place, .bool s.done].toArray).drew = W.drew.setRow g [.func (.func (fnOf s.ph)) #[ptr g] #[], .int .i64 (s.all : Int), .int .i64 (s.frm : Int), .int .u32 (I s.sum), .int .u64 (s.size : Int), .int .i64 (s.count : Int), .slice Ap s.p.length cp, .int .u32 (m : Int), vl, .int .i64 s.err, .int .i64 s.place, .bool s.done].toArray := rfl
    generalize (W.setRow g [.func (.func (fnOf s.ph)) #[ptr g] #[], .int .i64 (s.all : Int), .int .i64 (s.frm : Int), .int .u32 (I s.sum), .int .u64 (s.size : Int), .int .i64 (s.count : Int), .slice Ap s.p.length cp, .int .u32 (m : Int), vl, .int .i64 s.err, .int .i64 s.place, .bool s.done].toArray).drew = V at *
    have hrV := R2.out.row
    have c5' := hrV.cell 5 _ rfl
    have f5' := hrV.free 5
    have e5 := hrV.set 5 (.int .i64 ((s.count : Int) + 1))
    simp only [List.set_cons_succ, List.set_cons_zero] at e5
    have c5'' := (hrV.row [.func (.func (fnOf s.ph)) #[ptr g] #[], .int .i64 (s.all : Int), .int .i64 (s.frm : Int), .int .u32 (I s.sum), .int .u64 (s.size : Int), .int .i64 ((s.count : Int) + 1), .slice Ap s.p.length cp, .int .u32 (m : Int), vl, .int .i64 s.err, .int .i64 s.place, .bool s.done]).cell 5 _ rfl
    clear c7 f7 c5 e7 hrow e0
    go_wp2_with fail
    have R3 := R2.out.go (Below.refl _ V) { s with tail := m, count := s.count + 1 } rfl rfl
    clear c5' f5' c5'' hrV e5
    go_wp2_with fail
    refine bodyPost_ret (results_none rfl _ _ _) rfl ?_
    exact ⟨⟨_, rfl⟩, _, _, R3.1, K2.out.trans R3.2⟩
  · rw [if_neg h4]
    have h4b : decide ((s.count : Int) + 1 < 4) = false := decide_eq_false (by omega)
    have h4c : decide (s.count + 1 < 4) = false := decide_eq_false h4
    clear h4
    by_cases h5 : (m : Int) = I s.sum
    · rw [if_pos h5]
      have h5b : ((m : Int) != I s.sum) = false := by rw [h5]; simp
      clear h5
      go_enter Tryd.func98, Tryd.ntmps98
      go_wp2_with fail
      go_region
      have e0 : (W.setRow g [.func (.func (fnOf s.ph)) #[ptr g] #[], .int .i64 (s.all : Int), .int .i64 (s.frm : Int), .int .u32 (I s.sum), .int .u64 (s.size : Int), .int .i64 (s.count : Int), .slice Ap s.p.length cp, .int .u32 (m : Int), vl, .int .i64 s.err, .int .i64 s.place, .bool s.done].toArray).drew = W.drew.setRow g [.func (.func (fnOf s.ph)) #[ptr g] #[], .int .i64 (s.all : Int), .int .i64 (s.frm : Int), .int .u32 (I s.sum), .int .u64 (s.size : Int), .int .i64 (s.count : Int), .slice Ap s.p.length cp, .int .u32 (m : Int), vl, .int .i64 s.err, .int .i64 s.place, .bool s.done].toArray := rfl
      generalize (W.setRow g [.func (.func (fnOf s.ph)) #[ptr g] #[], .int .i64 (s.all : Int), .int .i64 (s.frm : Int), .int .u32 (I s.sum), .int .u64 (s.size : Int), .int .i64 (s.count : Int), .slice Ap s.p.length cp, .int .u32 (m : Int), vl, .int .i64 s.err, .int .i64 s.place, .bool s.done].toArray).drew = V at *
      have hrV := R2.out.row
      have c5' := hrV.cell 5 _ rfl
      have f5' := hrV.free 5
      have e5 := hrV.set 5 (.int .i64 ((s.count : Int) + 1))
      simp only [List.set_cons_succ, List.set_cons_zero] at e5
      have c5'' := (hrV.row [.func (.func (fnOf s.ph)) #[ptr g] #[], .int .i64 (s.all : Int), .int .i64 (s.frm : Int), .int .u32 (I s.sum), .int .u64 (s.size : Int), .int .i64 ((s.count : Int) + 1), .slice Ap s.p.length cp, .int .u32 (m : Int), vl, .int .i64 s.err, .int .i64 s.place, .bool s.done]).cell 5 _ rfl
      clear c7 f7 c5 e7 hrow e0
      go_wp2_with fail
      have R3 : RdAt g B { s with tail := m, count := s.count + 1 } (.slice Ap s.p.length cp) vl (V.setRow g [.func (.func (fnOf s.ph)) #[ptr g] #[], .int .i64 (s.all : Int), .int .i64 (s.frm : Int), .int .u32 (I s.sum), .int .u64 (s.size : Int), .int .i64 ((s.count : Int) + 1), .slice Ap s.p.length cp, .int .u32 (m : Int), vl, .int .i64 s.err, .int .i64 s.place, .bool s.done].toArray) ∧ Keep g B (.slice Ap s.p.length cp) vl V (.slice Ap s.p.length cp) vl (V.setRow g [.func (.func (fnOf s.ph)) #[ptr g] #[], .int .i64 (s.all : Int), .int .i64 (s.frm : Int), .int .u32 (I s.sum), .int .u64 (s.size : Int), .int .i64 ((s.count : Int) + 1), .slice Ap s.p.length cp, .int .u32 (m : Int), vl, .int .i64 s.err, .int .i64 s.place, .bool s.done].toArray) := R2.out.go (Below.refl _ V) { s with tail := m, count := s.count + 1 } rfl rfl
      have K3 := Aside0.mk (K2.out.trans R3.2)
      have R3 := Aside0.mk R3.1
      have c7 := R3.out.row.cell 7 _ rfl
      have c3 := R3.out.row.cell 3 _ rfl
      clear c5' f5' c5'' hrV e5
      generalize V.setRow g _ = X at *
      go_quiet (fail)
      have R4 := R3.out.stay (pw_below_drewN (Below.refl _ _) nq)
      have K4 := Aside0.mk (K3.out.trans R4.2)
      have R4 := Aside0.mk R4.1
      clear c7 c3 R3 K3 K2
      generalize X.drewN nq = Y at *
      go_wp2_with fail
      have R5 := R4.out.stay (below_drew (Below.refl _ _))
      have K5 := Aside0.mk (K4.out.trans R5.2)
      have R5 := R5.1
      have c8 := R5.row.cell 8 _ rfl
      have c6 := R5.row.cell 6 _ rfl
      have hB1 := R5.size
      have hr5 := R5.row
      have HPM := Aside0.mk (show (Kd.slice 5 (Kd.int .u8)).M Y.drew B (fun k => some k = (Value.slice Ap s.p.length cp).ownBlock) s.p [.slice Ap s.p.length cp] from ⟨_, rfl, Kd.R_of_own (Kd.own_of_R R5.p) (fun k hk => hk.symm)⟩)
      have HOK := Aside0.mk (show ∀ k, some k = (Value.slice Ap s.p.length cp).ownBlock → True ∧ some k ≠ vl.ownBlock from fun k hk => ⟨trivial, fun e => by
        obtain ⟨_, hh1⟩ := Kd.R_typed R5.p k hk.symm
        obtain ⟨_, hh2⟩ := Kd.R_typed R5.l k e.symm
        rw [hh1] at hh2
        injection hh2 with hh2
        injection hh2 with _ hh2
        exact absurd hh2 (by decide)⟩)
      have HLO := Aside0.mk (show (Kd.slice 5 (Kd.int .u8)).R 22 Y.drew B (fun _ => True) vl s.loads from Kd.R_mono R5.l (fun _ _ => trivial))
      have hlen : (s.loads.length + 1) * 24 ≤ 140737488355328 := by omega
      have hne : some g ≠ vl.ownBlock := Kd.R_ne R5.l hr5 (by decide)
      have c8a : ((Y.alloc (.cells #[.slice Ap s.p.length cp] 22)).drew).cell? ⟨g, 8, none⟩ = some vl := (R5.stay (below_alloc (Below.refl _ _) (.cells #[.slice Ap s.p.length cp] 22))).1.row.cell 8 _ rfl
      have R5 := Aside0.mk R5
      go_region_law (
        refine Kd.R_append_step (Kd.slice 5 (Kd.int .u8)) (w0 := Y.drew) B (by rfl) (.tmp 51) (.tmp 56) 55 22 (.slice none 0 0) 24 rfl Tryd.underlying55 info22 rfl (by decide) (by decide) vl s.loads s.p [.slice Ap s.p.length cp] (fun _ => True) (fun k => some k = (Value.slice Ap s.p.length cp).ownBlock) rfl rfl HPM.out HOK.out (fun _ _ => trivial) HLO.out (Below.refl _ _) hB1 hlen ?_
        intro v1 w1 ho hb hg hat
        have hr6 : Rw g _ w1 := (hg.block g hr5.lt hne).trans hr5
        have HO := Aside0.mk ho
        have HG := Aside0.mk (show Y.drew.grownBy w1 vl.ownBlock ∧ Below B Y.drew w1 ∧ (v1.ownBlock = vl.ownBlock ∨ ∃ b, v1.ownBlock = some b ∧ Y.drew.heap.size ≤ b) from ⟨hg, hb, hat⟩)
        obtain ⟨Al, cl, e⟩ := Kd.R_slice ho
        rw [List.length_append, List.length_singleton] at e
        subst e
        have c8' := hr6.cell 8 _ rfl
        have f8' := hr6.free 8
        clear ho hb hg hat)
      all_goals
        have e8 := hr6.set 8 (.slice Al (s.loads.length + 1) cl)
        simp only [List.set_cons_succ, List.set_cons_zero] at e8
        have hr7 := hr6.row [.func (.func (fnOf s.ph)) #[ptr g] #[], .int .i64 (s.all : Int), .int .i64 (s.frm : Int), .int .u32 (I s.sum), .int .u64 (s.size : Int), .int .i64 ((s.count : Int) + 1), .slice Ap s.p.length cp, .int .u32 (m : Int), .slice Al (s.loads.length + 1) cl, .int .i64 s.err, .int .i64 s.place, .bool s.done]
        have RZ := RdAt.put { s with loads := s.loads ++ [s.p], ph := 0, frm := s.all, sum := 0#32, size := 0, p := [], tail := 0, count := 0 } hr6 (Kd.R_nil _ _ _ _ _) (Kd.R_apart_nil HO.out) R5.out.base
        have KZ : Keep g B (.slice Ap s.p.length cp) vl Y.drew (.slice none 0 0) (.slice Al (s.loads.length + 1) cl) (w1.setRow g (cellsOf g { s with loads := s.loads ++ [s.p], ph := 0, frm := s.all, sum := 0#32, size := 0, p := [], tail := 0, count := 0 } (.slice none 0 0) (.slice Al (s.loads.length + 1) cl)).toArray) := by
          refine ⟨?_, below_setRow' HG.out.2.1 R5.out.base _, fun k e => by simp [Value.ownBlock] at e, fun k e => ?_⟩
          · exact Kept.then_ (S2 := fun k => k = g) ⟨HG.out.1.size, fun k h1 h2 => HG.out.1.block k h1 (fun e => h2 (.inr (.inr e)))⟩ ⟨by simp, fun k _ hk => setRow_other w1 g k _ hk⟩ (fun k hk => .inl (.inl hk))
          · rcases HG.out.2.2 with e2 | ⟨b, e2, e3⟩
            · exact .inl (e2 ▸ e)
            · rw [e2] at e
              injection e with e
              exact .inr (e ▸ e3)
        have HRZ := Aside0.mk (And.intro RZ KZ)
        clear RZ KZ c8' f8' c8 c6 c8a hr5
        rw [e8]
        clear e8
        go_wp2_with fail
        go_at_call 75
        refine (begin_at g (s.all : Int) _ _ _ _ _ _ _ _ _ _ _ _ hr7).mono ?_
        rintro en w' ⟨⟨v, rfl⟩, rfl⟩
        rw [setRow_setRow]
        clear hr7 hr6
        go_wp2_with fail
        go_end0
        exact ⟨⟨_, rfl⟩, _, _, HRZ.out.1, K5.out.trans HRZ.out.2⟩
    · rw [if_neg h5]
      have h5b : ((m : Int) != I s.sum) = true := bne_iff_ne.2 h5
      clear h5
      go_enter Tryd.func98, Tryd.ntmps98
      go_wp2_with fail
      go_region
      have e0 : (W.setRow g [.func (.func (fnOf s.ph)) #[ptr g] #[], .int .i64 (s.all : Int), .int .i64 (s.frm : Int), .int .u32 (I s.sum), .int .u64 (s.size : Int), .int .i64 (s.count : Int), .slice Ap s.p.length cp, .int .u32 (m : Int), vl, .int .i64 s.err, .int .i64 s.place, .bool s.done].toArray).drew = W.drew.setRow g [.func (.func (fnOf s.ph)) #[ptr g] #[], .int .i64 (s.all : Int), .int .i64 (s.frm : Int), .int .u32 (I s.sum), .int .u64 (s.size : Int), .int .i64 (s.count : Int), .slice Ap s.p.length cp, .int .u32 (m : Int), vl, .int .i64 s.err, .int .i64 s.place, .bool s.done].toArray := rfl
      generalize (W.setRow g [.func (.func (fnOf s.ph)) #[ptr g] #[], .int .i64 (s.all : Int), .int .i64 (s.frm : Int), .int .u32 (I s.sum), .int .u64 (s.size : Int), .int .i64 (s.count : Int), .slice Ap s.p.length cp, .int .u32 (m : Int), vl, .int .i64 s.err, .int .i64 s.place, .bool s.done].toArray).drew = V at *
      have hrV := R2.out.row
      have c5' := hrV.cell 5 _ rfl
      have f5' := hrV.free 5
      have e5 := hrV.set 5 (.int .i64 ((s.count : Int) + 1))
      simp only [List.set_cons_succ, List.set_cons_zero] at e5
      have c5'' := (hrV.row [.func (.func (fnOf s.ph)) #[ptr g] #[], .int .i64 (s.all : Int), .int .i64 (s.frm : Int), .int .u32 (I s.sum), .int .u64 (s.size : Int), .int .i64 ((s.count : Int) + 1), .slice Ap s.p.length cp, .int .u32 (m : Int), vl, .int .i64 s.err, .int .i64 s.place, .bool s.done]).cell 5 _ rfl
      clear c7 f7 c5 e7 hrow e0
      go_wp2_with fail
      have R3 : RdAt g B { s with tail := m, count := s.count + 1 } (.slice Ap s.p.length cp) vl (V.setRow g [.func (.func (fnOf s.ph)) #[ptr g] #[], .int .i64 (s.all : Int), .int .i64 (s.frm : Int), .int .u32 (I s.sum), .int .u64 (s.size : Int), .int .i64 ((s.count : Int) + 1), .slice Ap s.p.length cp, .int .u32 (m : Int), vl, .int .i64 s.err, .int .i64 s.place, .bool s.done].toArray) ∧ Keep g B (.slice Ap s.p.length cp) vl V (.slice Ap s.p.length cp) vl (V.setRow g [.func (.func (fnOf s.ph)) #[ptr g] #[], .int .i64 (s.all : Int), .int .i64 (s.frm : Int), .int .u32 (I s.sum), .int .u64 (s.size : Int), .int .i64 ((s.count : Int) + 1), .slice Ap s.p.length cp, .int .u32 (m : Int), vl, .int .i64 s.err, .int .i64 s.place, .bool s.done].toArray) := R2.out.go (Below.refl _ V) { s with tail := m, count := s.count + 1 } rfl rfl
      have K3 := Aside0.mk (K2.out.trans R3.2)
      have R3 := Aside0.mk R3.1
      have c7 := R3.out.row.cell 7 _ rfl
      have c3 := R3.out.row.cell 3 _ rfl
      clear c5' f5' c5'' hrV e5
      generalize V.setRow g _ = X at *
      go_quiet (fail)
      have R4 := R3.out.stay (pw_below_drewN (Below.refl _ _) nq)
      have K4 := Aside0.mk (K3.out.trans R4.2)
      have R4 := Aside0.mk R4.1
      clear c7 c3 R3 K3 K2
      generalize X.drewN nq = Y at *
      have c1 := R4.out.row.cell 1 _ rfl
      go_wp2_with fail
      go_at_call 95
      refine (fail_at g _ _ _ _ _ _ _ _ _ _ _ _ 13 _ Y R4.out.row).mono ?_
      rintro en w' ⟨⟨v, rfl⟩, rfl⟩
      have R5 := R4.out.go (Below.refl _ Y) { s with tail := m, count := s.count + 1, err := 13, place := (s.all : Int) - 4 } rfl rfl
      clear c1
      go_wp2_with fail
      refine bodyPost_ret (results_none rfl _ _ _) rfl ?_
      exact ⟨⟨_, rfl⟩, _, _, R5.1, K4.out.trans R5.2⟩
end Go.Proofs.YtlblleideihhmaaDoor.Rd
