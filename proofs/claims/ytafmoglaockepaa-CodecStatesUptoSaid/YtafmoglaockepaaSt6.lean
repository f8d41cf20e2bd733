/- What the codec writes and reads: texts of this session joined, with what is not needed left out. -/
import Derived.Test.YtafmoglaockepaaSt5
import Derived.Deep.RegionHeld3
import Derived.Deep.RegionLaw
import Derived.Test.YtafmoglaockepaaSt2
import Derived.Test.YtafmoglaockepaaSt4
import Derived.Test.YtafmoglaockepaaSt3
import Derived.Test.YtafmoglaockepaaRows
import Derived.WalkKit
import Derived.ProofKit
import Derived.OpenShut
import Derived.SizedLaws
import Derived.Deep.Slices
import Derived.Deep.Strs
import Derived.ChangeSame
import Derived.Lib.SmallJoins
section
namespace Go.Proofs.Ytafmoglaockepaa.Cd
open Go Go.RowKit Go.Proofs.Ytafmoglaockepaa.Num Go.Proofs.Ytafmoglaockepaa.PG Go.Proofs.YtafmoglaockepaaW.PrintWords Go.Proofs.YtafmoglaockepaaW.PrintLast Go.Proofs.YtafmoglaockepaaW.PrintMore
set_option linter.unusedVariables false
set_option linter.unusedSimpArgs false
set_option maxHeartbeats 4000000
set_option maxRecDepth 100000
variable {g B : Nat} {A : Option Addr} {n c : Nat} {xs : List Int} {most : Nat}
def hdr (key : Int) (most : Nat) (xs : List Int) : Res Unit :=
  if most < xs.length then .fail 1 0 else if xs.length = 0 then .fail 3 0 else if xs.headD 0 ≠ key then .fail 90 0 else .ok () 1
theorem whole_hdr {α : Type} (key : Int) (most : Nat) (xs : List Int) (fields : Nat → Res α) :
    whole key most xs fields = (hdr key most xs).bind fun _ m => (fields m).bind fun x n => if n < xs.length then .fail 4 (n : Int) else .ok x n := by
  unfold whole hdr
  split
  · rfl
  · split
    · rfl
    · split <;> rfl
theorem q_fail_row {s a b : Value} {W : World} (h : Rt 137 g [s, a, b, .int .i64 0, .int .i64 0] W) (e p : Int) :
    Calls Try.prog 120 #[ptr g, .int .i64 e, .int .i64 p] W fun x w' => x = .returned (.tuple #[]) ∧ w' = W.setRow g [s, a, b, .int .i64 e, .int .i64 p].toArray := by
  have HK := Aside0.mk h
  have c3 := h.cell 3 _ rfl
  have f3 := h.free 3
  have f4 := h.free 4
  have c4 := h.cell 4 _ rfl
  clear h
  go_enter Try.func120, Try.ntmps120
  go_upto_region 2 with fail
  have e3 := HK.out.set 3 (.int .i64 e)
  have R3 := HK.out.row [s, a, b, .int .i64 e, .int .i64 0]
  rw [e3, show [s, a, b, .int .i64 0, .int .i64 0].set 3 (.int .i64 e) = [s, a, b, .int .i64 e, .int .i64 0] from rfl]
  clear e3 c3 f3 c4 f4
  have e4 := R3.set 4 (.int .i64 p)
  rw [setRow_again, show [s, a, b, .int .i64 e, .int .i64 0].set 4 (.int .i64 p) = [s, a, b, .int .i64 e, .int .i64 p] from rfl] at e4
  have c4 := R3.cell 4 _ rfl
  have f4 := R3.free 4
  have HE := Aside0.mk e4
  clear e4
  clear R3
  generalize W.setRow g [s, a, b, .int .i64 e, .int .i64 0].toArray = w1 at *
  go_wp2_with fail
  go_end0
  rw [HE.out]
  exact ⟨rfl, rfl⟩
theorem q_fail2_row {s a b q : Value} {e0 : Int} {W : World} (h : Rt 137 g [s, a, b, .int .i64 e0, q] W) (h0 : e0 ≠ 0) (e p : Int) :
    Calls Try.prog 120 #[ptr g, .int .i64 e, .int .i64 p] W fun x w' => x = .returned (.tuple #[]) ∧ w' = W := by
  have c3 := h.cell 3 _ rfl
  have h1 : (e0 == 0) = false := by simpa using h0
  have h2 : decide (e0 = 0) = false := decide_eq_false h0
  clear h
  go_enter Try.func120, Try.ntmps120
  go_wp2_with fail
  go_end0
  exact ⟨rfl, rfl⟩
theorem q_begin (A : Option Addr) (n c : Nat) (xs : List Int) (most : Nat) (key : Int) (W : World) (hC : Kd.C (Kd.int .u8) W A n xs) (hnc : n ≤ c) (hb : IsBytes xs) (hbig : n < 1000000000) (hmb : most < 1000000000) :
    Calls Try.prog 64 #[.slice A n c, .int .u8 key, .int .i64 (most : Int)] W fun e w' => e = .returned (ptr W.heap.size) ∧ Below W.heap.size W w' ∧ QSt W.heap.size W.heap.size A n c xs most (hdr key most xs) w' := by
  have HLEN := Aside0.mk (show xs.length = n from Kd.C_len hC)
  have HMB := Aside0.mk hmb
  obtain ⟨g, hg⟩ : ∃ g, W.heap.size = g := ⟨_, rfl⟩
  have HG := Aside0.mk hg
  have HQ := Aside0.mk (show ∀ (m : Nat) (e p : Int) (w' : World), Below g W w' → Rt 137 g [Value.slice A n c, .int .i64 (m : Int), .int .i64 (most : Int), .int .i64 e, .int .i64 p] w' → (e = 0 → m ≤ n) → QAt g g A n c xs most m e p w' from fun m e p w' hbw hr hle =>
    ⟨hr, fun W' hb' => Kd.C_below hC (by rw [hg]; exact hbw.trans hb'), Nat.le_refl _, hnc, hle, hbig, hmb, hb⟩)
  have HC := Aside0.mk hC
  clear hC hnc hb hbig hmb hg
  go_enter Try.func64, Try.ntmps64
  go_upto_region 2 with fail
  have hb1 : Below W.heap.size W (W.alloc (.cells #[.slice A n c, .int .i64 1, .int .i64 (most : Int), .int .i64 0, .int .i64 0] 137)) := below_alloc (Below.refl _ _) _
  have r1 : Rt 137 W.heap.size [.slice A n c, .int .i64 1, .int .i64 (most : Int), .int .i64 0, .int .i64 0] (W.alloc (.cells #[.slice A n c, .int .i64 1, .int .i64 (most : Int), .int .i64 0, .int .i64 0] 137)) := heap_alloc_new W _
  rw [HG.out] at hb1 r1 ⊢
  have R1 := Aside0.mk r1
  have B1 := Aside0.mk hb1
  clear r1 hb1
  generalize W.alloc (.cells #[.slice A n c, .int .i64 1, .int .i64 (most : Int), .int .i64 0, .int .i64 0] 137) = w1 at *
  have HCELL := Aside0.mk (show ∀ w', Below g W w' → 0 < n → ∃ ad, A = some ad ∧ w'.cell? ad = some (.int .u8 (xs.headD 0)) from fun w' hb hz => by
    have hCx := Kd.C_below HC.out (show Below W.heap.size W w' by rw [HG.out]; exact hb)
    obtain ⟨ad, rfl, hcell⟩ := (Kd.reads_of_C (d := (0 : Int)) (h1 := fun _ => rfl) hCx).2.2 hz
    refine ⟨ad, rfl, ?_⟩
    have k0 := hcell 0 hz
    have e : ad.add 0 = ad := by simp [Addr.add]
    rw [e] at k0
    rw [k0]
    cases xs <;> rfl)
  clear HC
  by_cases hl : most < n
  · have d1 : decide ((most : Int) < (n : Int)) = true := decide_eq_true (by omega)
    have d2 : decide (most < n) = true := decide_eq_true hl
    have HR := Aside0.mk (show hdr key most xs = Res.fail 1 0 by
      unfold hdr
      rw [HLEN.out, if_pos hl])
    have hz : 0 < n := by omega
    clear hl
    go_wp2_with fail
    go_at_call 120
    refine (q_fail_row R1.out 1 0).mono ?_
    rintro e w2 ⟨rfl, rfl⟩
    have R2 := Aside0.mk (R1.out.row [.slice A n c, .int .i64 1, .int .i64 (most : Int), .int .i64 1, .int .i64 0])
    have B2 := Aside0.mk (below_setRow' B1.out (Nat.le_refl g) [Value.slice A n c, .int .i64 1, .int .i64 (most : Int), .int .i64 1, .int .i64 0].toArray)
    generalize w1.setRow g [Value.slice A n c, .int .i64 1, .int .i64 (most : Int), .int .i64 1, .int .i64 0].toArray = w2 at *
    obtain ⟨ad, rfl, k1⟩ := HCELL.out w2 B2.out hz
    have d3 : ((n : Int) == 0) = false := by simp; omega
    have d4 : decide (n = 0) = false := decide_eq_false (by omega)
    have i0 : (0 : Int) < (n : Int) := by omega
    have d8 : decide ((0 : Int) < (n : Int)) = true := decide_eq_true i0
    have d9 : decide (0 < n) = true := decide_eq_true hz
    generalize xs.headD 0 = x at *
    by_cases hk : x = key
    · have d5 : (x != key) = false := by simpa using hk
      have d6 : (x == key) = true := by simpa using hk
      have d7 : decide (x = key) = true := decide_eq_true hk
      clear hk
      go_wp2_with fail
      go_ret
      rw [HR.out, HG.out]
      exact ⟨rfl, B2.out, by decide, 1, HQ.out 1 1 0 _ B2.out R2.out (fun h => absurd h (by decide))⟩
    · have d5 : (x != key) = true := by simpa using hk
      have d6 : (x == key) = false := by simpa using hk
      have d7 : decide (x = key) = false := decide_eq_false hk
      clear hk
      go_wp2_with fail
      go_at_call 120
      refine (q_fail2_row R2.out (by decide) 90 0).mono ?_
      rintro e w3 ⟨rfl, rfl⟩
      go_wp2_with fail
      go_ret
      rw [HR.out, HG.out]
      exact ⟨rfl, B2.out, by decide, 1, HQ.out 1 1 0 _ B2.out R2.out (fun h => absurd h (by decide))⟩
  have d1 : decide ((most : Int) < (n : Int)) = false := decide_eq_false (by omega)
  have d2 : decide (most < n) = false := decide_eq_false hl
  rcases Nat.eq_zero_or_pos n with hz | hz
  · have HR := Aside0.mk (show hdr key most xs = Res.fail 3 0 by
      unfold hdr
      rw [HLEN.out, if_neg hl, if_pos hz])
    have d3 : ((n : Int) == 0) = true := by simpa using hz
    have d4 : decide (n = 0) = true := decide_eq_true hz
    have d5 : (n : Int) = 0 := by omega
    have d8 : decide ((0 : Int) < (n : Int)) = false := decide_eq_false (by omega)
    have d9 : decide (0 < n) = false := decide_eq_false (by omega)
    have d10 : ((0 : Int) < (n : Int)) = False := eq_false (by omega)
    clear hl hz
    go_wp2_with fail
    go_at_call 120
    refine (q_fail_row R1.out 3 0).mono ?_
    rintro e w2 ⟨rfl, rfl⟩
    have R2 := Aside0.mk (R1.out.row [.slice A n c, .int .i64 1, .int .i64 (most : Int), .int .i64 3, .int .i64 0])
    have B2 := Aside0.mk (below_setRow' B1.out (Nat.le_refl g) [Value.slice A n c, .int .i64 1, .int .i64 (most : Int), .int .i64 3, .int .i64 0].toArray)
    generalize w1.setRow g [Value.slice A n c, .int .i64 1, .int .i64 (most : Int), .int .i64 3, .int .i64 0].toArray = w2 at *
    go_wp2_with fail
    go_ret
    rw [HR.out, HG.out]
    exact ⟨rfl, B2.out, by decide, 1, HQ.out 1 3 0 _ B2.out R2.out (fun h => absurd h (by decide))⟩
  obtain ⟨ad, rfl, k1⟩ := HCELL.out w1 B1.out hz
  have HZ := Aside0.mk (And.intro hl hz)
  have d3 : ((n : Int) == 0) = false := by simp; omega
  have d4 : decide (n = 0) = false := decide_eq_false (by omega)
  have i0 : (0 : Int) < (n : Int) := by omega
  have d8 : decide ((0 : Int) < (n : Int)) = true := decide_eq_true i0
  have d9 : decide (0 < n) = true := decide_eq_true hz
  obtain ⟨x, hx⟩ : ∃ x, xs.headD 0 = x := ⟨_, rfl⟩
  rw [hx] at k1
  have HX := Aside0.mk hx
  clear hl hz hx
  by_cases hk : x = key
  · have HR := Aside0.mk (show hdr key most xs = Res.ok () 1 by
      unfold hdr
      rw [HLEN.out, if_neg HZ.out.1, if_neg (by have := HZ.out.2; omega), HX.out, if_neg (by simpa using hk)])
    have d5 : (x != key) = false := by simpa using hk
    have d6 : (x == key) = true := by simpa using hk
    have d7 : decide (x = key) = true := decide_eq_true hk
    clear hk
    go_wp2_with fail
    go_ret
    rw [HR.out, HG.out]
    exact ⟨rfl, B1.out, HQ.out 1 0 0 _ B1.out R1.out (fun _ => HZ.out.2)⟩
  · have HR := Aside0.mk (show hdr key most xs = Res.fail 90 0 by
      unfold hdr
      rw [HLEN.out, if_neg HZ.out.1, if_neg (by have := HZ.out.2; omega), HX.out, if_pos hk])
    have d5 : (x != key) = true := by simpa using hk
    have d6 : (x == key) = false := by simpa using hk
    have d7 : decide (x = key) = false := decide_eq_false hk
    clear hk
    go_wp2_with fail
    go_at_call 120
    refine (q_fail_row R1.out 90 0).mono ?_
    rintro e w2 ⟨rfl, rfl⟩
    have R2 := Aside0.mk (R1.out.row [.slice (some ad) n c, .int .i64 1, .int .i64 (most : Int), .int .i64 90, .int .i64 0])
    have B2 := Aside0.mk (below_setRow' B1.out (Nat.le_refl g) [Value.slice (some ad) n c, .int .i64 1, .int .i64 (most : Int), .int .i64 90, .int .i64 0].toArray)
    generalize w1.setRow g [Value.slice (some ad) n c, .int .i64 1, .int .i64 (most : Int), .int .i64 90, .int .i64 0].toArray = w2 at *
    go_wp2_with fail
    go_ret
    rw [HR.out, HG.out]
    exact ⟨rfl, B2.out, by decide, 1, HQ.out 1 90 0 _ B2.out R2.out (fun h => absurd h (by decide))⟩
def tailOf {α : Type} (xs : List Int) (r : Res α) : Res α := r.bind fun x n => if n < xs.length then .fail 4 (n : Int) else .ok x n
theorem q_end_no {m : Nat} {e0 p0 : Int} {W : World} (k : QAt g B A n c xs most m e0 p0 W) (h0 : e0 ≠ 0) :
    Calls Try.prog 68 #[ptr g] W fun e w' => Below W.heap.size W w' ∧ e = .returned (.tuple #[.int .i64 e0, .int .i64 p0]) := by
  have HK := Aside0.mk k
  have h1 : (e0 == 0) = false := by simpa using h0
  have h2 : decide (e0 = 0) = false := decide_eq_false h0
  clear k
  have MKSHK := Aside0.mk (show ∀ w', Below W.heap.size W w' → (fun w' => w'.cell? ⟨g, 0, none⟩ = some (Value.slice A n c) ∧ w'.cell? ⟨g, 1, none⟩ = some (.int .i64 (m : Int)) ∧ w'.cell? ⟨g, 3, none⟩ = some (.int .i64 e0) ∧ w'.cell? ⟨g, 4, none⟩ = some (.int .i64 p0)) w' from fun w' hb => by
    have r := HK.out.row.below hb
    exact ⟨r.cell 0 _ rfl, r.cell 1 _ rfl, r.cell 3 _ rfl, r.cell 4 _ rfl⟩)
  go_enter Try.func68, Try.ntmps68
  go_upto_region 1 with fail
  refine wp_region_held_drew (S := fun w' => w'.cell? ⟨g, 0, none⟩ = some (Value.slice A n c) ∧ w'.cell? ⟨g, 1, none⟩ = some (.int .i64 (m : Int)) ∧ w'.cell? ⟨g, 3, none⟩ = some (.int .i64 e0) ∧ w'.cell? ⟨g, 4, none⟩ = some (.int .i64 p0)) (by kernel_rfl) (MKSHK.out _ (below_drew (Below.refl _ _))) (fun hHeld => ?_)
  refine tk (i := 0) (oi := { dst := some 4, op := Op.move (Operand.tmp 0), type := 106, pos := "ref.go:218", after := #[], guard := none }) (v := ?_) (.inl ⟨by rfl, ?_⟩) hHeld ?_
  rotate_left
  · intro w' hS; obtain ⟨hS0, hS1, hS2, hS3⟩ := hS; go_simp; all_goals (with_reducible rfl)
  (try simp only [pz])
  refine tk (i := 1) (oi := { dst := some 5, op := Op.nilCheck (Operand.tmp 4), type := 0, pos := "ref.go:218", after := #[(eD 0)], guard := none }) (v := ?_) (.inl ⟨by rfl, ?_⟩) hHeld ?_
  rotate_left
  · intro w' hS; obtain ⟨hS0, hS1, hS2, hS3⟩ := hS; go_simp; all_goals (with_reducible rfl)
  (try simp only [pz])
  refine tk (i := 2) (oi := { dst := some 6, op := Op.fieldAddr 137 (Operand.tmp 5) 3, type := 0, pos := "ref.go:218", after := #[(eD 1)], guard := none }) (v := ?_) (.inl ⟨by rfl, ?_⟩) hHeld ?_
  rotate_left
  · intro w' hS; obtain ⟨hS0, hS1, hS2, hS3⟩ := hS; go_simp; all_goals (with_reducible rfl)
  (try simp only [pz])
  refine tk (i := 3) (oi := { dst := some 7, op := Op.load 22 (Operand.tmp 6), type := 22, pos := "ref.go:218", after := #[(eD 2)], guard := none }) (v := ?_) (.inl ⟨by rfl, ?_⟩) hHeld ?_
  rotate_left
  · intro w' hS; obtain ⟨hS0, hS1, hS2, hS3⟩ := hS; go_simp; all_goals (with_reducible rfl)
  (try simp only [pz])
  refine tk (i := 4) (oi := { dst := some 8, op := Op.binOp BinOp.eql 22 (Operand.tmp 7) (Operand.const (Value.int IntKind.i64 0)) 22, type := 4, pos := "ref.go:218", after := #[(eD 3)], guard := none }) (v := ?_) (.inl ⟨by rfl, ?_⟩) hHeld ?_
  rotate_left
  · intro w' hS; obtain ⟨hS0, hS1, hS2, hS3⟩ := hS; go_simp; all_goals (with_reducible rfl)
  (try simp only [pz])
  refine tk (i := 5) (oi := { dst := some 9, op := Op.move (Operand.tmp 8), type := 4, pos := "ref.go:218", after := #[(eD 4)], guard := none }) (v := ?_) (.inl ⟨by rfl, ?_⟩) hHeld ?_
  rotate_left
  · intro w' hS; obtain ⟨hS0, hS1, hS2, hS3⟩ := hS; go_simp; all_goals (with_reducible rfl)
  (try simp only [pz])
  refine tk (i := 6) (oi := { dst := some 10, op := Op.move (Operand.tmp 0), type := 106, pos := "ref.go:218", after := #[(eG 5)], guard := some (5, true) }) (v := undef) (.inr ⟨by rfl, rfl⟩) hHeld ?_
  (try simp only [pz])
  refine tk (i := 7) (oi := { dst := some 11, op := Op.nilCheck (Operand.tmp 10), type := 0, pos := "ref.go:218", after := #[(eD 6), (eG 5)], guard := some (5, true) }) (v := undef) (.inr ⟨by rfl, rfl⟩) hHeld ?_
  (try simp only [pz])
  refine tk (i := 8) (oi := { dst := some 12, op := Op.fieldAddr 137 (Operand.tmp 11) 1, type := 0, pos := "ref.go:218", after := #[(eD 7), (eG 5)], guard := some (5, true) }) (v := undef) (.inr ⟨by rfl, rfl⟩) hHeld ?_
  (try simp only [pz])
  refine tk (i := 9) (oi := { dst := some 13, op := Op.load 3 (Operand.tmp 12), type := 3, pos := "ref.go:218", after := #[(eD 8), (eG 5)], guard := some (5, true) }) (v := undef) (.inr ⟨by rfl, rfl⟩) hHeld ?_
  (try simp only [pz])
  refine tk (i := 10) (oi := { dst := some 14, op := Op.move (Operand.tmp 0), type := 106, pos := "ref.go:218", after := #[(eG 5)], guard := some (5, true) }) (v := undef) (.inr ⟨by rfl, rfl⟩) hHeld ?_
  (try simp only [pz])
  refine tk (i := 11) (oi := { dst := some 15, op := Op.nilCheck (Operand.tmp 14), type := 0, pos := "ref.go:218", after := #[(eD 10), (eG 5)], guard := some (5, true) }) (v := undef) (.inr ⟨by rfl, rfl⟩) hHeld ?_
  (try simp only [pz])
  refine tk (i := 12) (oi := { dst := some 16, op := Op.fieldAddr 137 (Operand.tmp 15) 0, type := 0, pos := "ref.go:218", after := #[(eD 11), (eG 5)], guard := some (5, true) }) (v := undef) (.inr ⟨by rfl, rfl⟩) hHeld ?_
  (try simp only [pz])
  refine tk (i := 13) (oi := { dst := some 17, op := Op.load 26 (Operand.tmp 16), type := 26, pos := "ref.go:218", after := #[(eD 12), (eG 5)], guard := some (5, true) }) (v := undef) (.inr ⟨by rfl, rfl⟩) hHeld ?_
  (try simp only [pz])
  refine tk (i := 14) (oi := { dst := some 18, op := Op.call { callee := Callee.builtin Builtin.len, args := #[Operand.tmp 17], argTypes := #[26] }, type := 3, pos := "ref.go:218", after := #[(eD 13), (eG 5)], guard := some (5, true) }) (v := undef) (.inr ⟨by rfl, rfl⟩) hHeld ?_
  (try simp only [pz])
  refine tk (i := 15) (oi := { dst := some 19, op := Op.binOp BinOp.lss 3 (Operand.tmp 13) (Operand.tmp 18) 3, type := 4, pos := "ref.go:218", after := #[(eD 9), (eD 14), (eG 5)], guard := some (5, true) }) (v := undef) (.inr ⟨by rfl, rfl⟩) hHeld ?_
  (try simp only [pz])
  refine tk (i := 16) (oi := { dst := some 20, op := Op.pick (Operand.tmp 9) (Operand.tmp 19) (Operand.const (Value.bool false)), type := 4, pos := "ref.go:218", after := #[(eD 5), (eD 15)], guard := none }) (v := ?_) (.inl ⟨by rfl, ?_⟩) hHeld ?_
  rotate_left
  · intro w' hS; obtain ⟨hS0, hS1, hS2, hS3⟩ := hS; go_simp; all_goals (with_reducible rfl)
  (try simp only [pz])
  refine wpAnyH_done (by kernel_rfl) ?_ _
  (try simp only [pz])
  go_upto_region 3 with fail
  refine wp_region_held_drew (S := fun w' => w'.cell? ⟨g, 0, none⟩ = some (Value.slice A n c) ∧ w'.cell? ⟨g, 1, none⟩ = some (.int .i64 (m : Int)) ∧ w'.cell? ⟨g, 3, none⟩ = some (.int .i64 e0) ∧ w'.cell? ⟨g, 4, none⟩ = some (.int .i64 p0)) (by kernel_rfl) (MKSHK.out _ (below_drew (below_drew (Below.refl _ _)))) (fun hHeld => ?_)
  refine tk (i := 0) (oi := { dst := some 27, op := Op.move (Operand.tmp 0), type := 106, pos := "ref.go:221", after := #[], guard := none }) (v := ?_) (.inl ⟨by rfl, ?_⟩) hHeld ?_
  rotate_left
  · intro w' hS; obtain ⟨hS0, hS1, hS2, hS3⟩ := hS; go_simp; all_goals (with_reducible rfl)
  (try simp only [pz])
  refine tk (i := 1) (oi := { dst := some 28, op := Op.nilCheck (Operand.tmp 27), type := 0, pos := "ref.go:221", after := #[(eD 0)], guard := none }) (v := ?_) (.inl ⟨by rfl, ?_⟩) hHeld ?_
  rotate_left
  · intro w' hS; obtain ⟨hS0, hS1, hS2, hS3⟩ := hS; go_simp; all_goals (with_reducible rfl)
  (try simp only [pz])
  refine tk (i := 2) (oi := { dst := some 29, op := Op.fieldAddr 137 (Operand.tmp 28) 3, type := 0, pos := "ref.go:221", after := #[(eD 1)], guard := none }) (v := ?_) (.inl ⟨by rfl, ?_⟩) hHeld ?_
  rotate_left
  · intro w' hS; obtain ⟨hS0, hS1, hS2, hS3⟩ := hS; go_simp; all_goals (with_reducible rfl)
  (try simp only [pz])
  refine tk (i := 3) (oi := { dst := some 30, op := Op.load 22 (Operand.tmp 29), type := 22, pos := "ref.go:221", after := #[(eD 2)], guard := none }) (v := ?_) (.inl ⟨by rfl, ?_⟩) hHeld ?_
  rotate_left
  · intro w' hS; obtain ⟨hS0, hS1, hS2, hS3⟩ := hS; go_simp; all_goals (with_reducible rfl)
  (try simp only [pz])
  refine tk (i := 4) (oi := { dst := some 31, op := Op.move (Operand.tmp 0), type := 106, pos := "ref.go:221", after := #[(eM 8)], guard := none }) (v := ?_) (.inl ⟨by rfl, ?_⟩) hHeld ?_
  rotate_left
  · intro w' hS; obtain ⟨hS0, hS1, hS2, hS3⟩ := hS; go_simp; all_goals (with_reducible rfl)
  (try simp only [pz])
  refine tk (i := 5) (oi := { dst := some 32, op := Op.nilCheck (Operand.tmp 31), type := 0, pos := "ref.go:221", after := #[(eD 4), (eM 8)], guard := none }) (v := ?_) (.inl ⟨by rfl, ?_⟩) hHeld ?_
  rotate_left
  · intro w' hS; obtain ⟨hS0, hS1, hS2, hS3⟩ := hS; go_simp; all_goals (with_reducible rfl)
  (try simp only [pz])
  refine tk (i := 6) (oi := { dst := some 33, op := Op.fieldAddr 137 (Operand.tmp 32) 4, type := 0, pos := "ref.go:221", after := #[(eD 5), (eM 8)], guard := none }) (v := ?_) (.inl ⟨by rfl, ?_⟩) hHeld ?_
  rotate_left
  · intro w' hS; obtain ⟨hS0, hS1, hS2, hS3⟩ := hS; go_simp; all_goals (with_reducible rfl)
  (try simp only [pz])
  refine tk (i := 7) (oi := { dst := some 34, op := Op.load 3 (Operand.tmp 33), type := 3, pos := "ref.go:221", after := #[(eD 6), (eM 8)], guard := none }) (v := ?_) (.inl ⟨by rfl, ?_⟩) hHeld ?_
  rotate_left
  · intro w' hS; obtain ⟨hS0, hS1, hS2, hS3⟩ := hS; go_simp; all_goals (with_reducible rfl)
  (try simp only [pz])
  refine tk (i := 8) (oi := { dst := some 2, op := Op.assign (Operand.tmp 30), type := 22, pos := "ref.go:221", after := #[(eD 3), (eP 0), (eP 1), (eP 2), (eP 3), (eL 4), (eL 5), (eL 6), (eL 7)], guard := none }) (v := ?_) (.inl ⟨by rfl, ?_⟩) hHeld ?_
  rotate_left
  · intro w' hS; obtain ⟨hS0, hS1, hS2, hS3⟩ := hS; go_simp; all_goals (with_reducible rfl)
  (try simp only [pz])
  refine tk (i := 9) (oi := { dst := some 3, op := Op.assign (Operand.tmp 34), type := 3, pos := "ref.go:221", after := #[(eD 7), (eC 8), (eP 0), (eP 1), (eP 2), (eP 3), (eP 4), (eP 5), (eP 6), (eP 7), (eP 8)], guard := none }) (v := ?_) (.inl ⟨by rfl, ?_⟩) hHeld ?_
  rotate_left
  · intro w' hS; obtain ⟨hS0, hS1, hS2, hS3⟩ := hS; go_simp; all_goals (with_reducible rfl)
  (try simp only [pz])
  refine wpAnyH_done (by kernel_rfl) ?_ _
  (try simp only [pz])
  go_wp2_with fail
  refine ⟨rfl, ?_⟩
  simp [results, Try.results68, go_sem]
  exact below_drew (below_drew (Below.refl _ _))
theorem q_end_ok {m : Nat} {W : World} (k : QAt g B A n c xs most m 0 0 W) :
    Calls Try.prog 68 #[ptr g] W fun e w' => Below B W w' ∧ Kept W w' (fun j => j = g) ∧ e = .returned (.tuple #[.int .i64 (endOf (if m < xs.length then (Res.fail 4 (m : Int) : Res Unit) else .ok () m)).1, .int .i64 (endOf (if m < xs.length then (Res.fail 4 (m : Int) : Res Unit) else .ok () m)).2]) := by
  have HK := Aside0.mk k
  rw [k.len]
  clear k
  obtain ⟨E, hE⟩ : ∃ E, endOf (if m < n then (Res.fail 4 (m : Int) : Res Unit) else .ok () m) = E := ⟨_, rfl⟩
  rw [hE]
  have HE := Aside0.mk hE
  clear hE
  have MKSHK := Aside0.mk (show ∀ w', Below W.heap.size W w' → (fun w' => w'.cell? ⟨g, 0, none⟩ = some (Value.slice A n c) ∧ w'.cell? ⟨g, 1, none⟩ = some (.int .i64 (m : Int)) ∧ w'.cell? ⟨g, 3, none⟩ = some (.int .i64 0) ∧ w'.cell? ⟨g, 4, none⟩ = some (.int .i64 0)) w' from fun w' hb => by
    have r := HK.out.row.below hb
    exact ⟨r.cell 0 _ rfl, r.cell 1 _ rfl, r.cell 3 _ rfl, r.cell 4 _ rfl⟩)
  go_enter Try.func68, Try.ntmps68
  go_upto_region 1 with fail
  refine wp_region_held_drew (S := fun w' => w'.cell? ⟨g, 0, none⟩ = some (Value.slice A n c) ∧ w'.cell? ⟨g, 1, none⟩ = some (.int .i64 (m : Int)) ∧ w'.cell? ⟨g, 3, none⟩ = some (.int .i64 0) ∧ w'.cell? ⟨g, 4, none⟩ = some (.int .i64 0)) (by kernel_rfl) (MKSHK.out _ (below_drew (Below.refl _ _))) (fun hHeld => ?_)
  refine tk (i := 0) (oi := { dst := some 4, op := Op.move (Operand.tmp 0), type := 106, pos := "ref.go:218", after := #[], guard := none }) (v := ?_) (.inl ⟨by rfl, ?_⟩) hHeld ?_
  rotate_left
  · intro w' hS; obtain ⟨hS0, hS1, hS2, hS3⟩ := hS; go_simp; all_goals (with_reducible rfl)
  (try simp only [pz])
  refine tk (i := 1) (oi := { dst := some 5, op := Op.nilCheck (Operand.tmp 4), type := 0, pos := "ref.go:218", after := #[(eD 0)], guard := none }) (v := ?_) (.inl ⟨by rfl, ?_⟩) hHeld ?_
  rotate_left
  · intro w' hS; obtain ⟨hS0, hS1, hS2, hS3⟩ := hS; go_simp; all_goals (with_reducible rfl)
  (try simp only [pz])
  refine tk (i := 2) (oi := { dst := some 6, op := Op.fieldAddr 137 (Operand.tmp 5) 3, type := 0, pos := "ref.go:218", after := #[(eD 1)], guard := none }) (v := ?_) (.inl ⟨by rfl, ?_⟩) hHeld ?_
  rotate_left
  · intro w' hS; obtain ⟨hS0, hS1, hS2, hS3⟩ := hS; go_simp; all_goals (with_reducible rfl)
  (try simp only [pz])
  refine tk (i := 3) (oi := { dst := some 7, op := Op.load 22 (Operand.tmp 6), type := 22, pos := "ref.go:218", after := #[(eD 2)], guard := none }) (v := ?_) (.inl ⟨by rfl, ?_⟩) hHeld ?_
  rotate_left
  · intro w' hS; obtain ⟨hS0, hS1, hS2, hS3⟩ := hS; go_simp; all_goals (with_reducible rfl)
  (try simp only [pz])
  refine tk (i := 4) (oi := { dst := some 8, op := Op.binOp BinOp.eql 22 (Operand.tmp 7) (Operand.const (Value.int IntKind.i64 0)) 22, type := 4, pos := "ref.go:218", after := #[(eD 3)], guard := none }) (v := ?_) (.inl ⟨by rfl, ?_⟩) hHeld ?_
  rotate_left
  · intro w' hS; obtain ⟨hS0, hS1, hS2, hS3⟩ := hS; go_simp; all_goals (with_reducible rfl)
  (try simp only [pz])
  refine tk (i := 5) (oi := { dst := some 9, op := Op.move (Operand.tmp 8), type := 4, pos := "ref.go:218", after := #[(eD 4)], guard := none }) (v := ?_) (.inl ⟨by rfl, ?_⟩) hHeld ?_
  rotate_left
  · intro w' hS; obtain ⟨hS0, hS1, hS2, hS3⟩ := hS; go_simp; all_goals (with_reducible rfl)
  (try simp only [pz])
  refine tk (i := 6) (oi := { dst := some 10, op := Op.move (Operand.tmp 0), type := 106, pos := "ref.go:218", after := #[(eG 5)], guard := some (5, true) }) (v := ?_) (.inl ⟨by rfl, ?_⟩) hHeld ?_
  rotate_left
  · intro w' hS; obtain ⟨hS0, hS1, hS2, hS3⟩ := hS; go_simp; all_goals (with_reducible rfl)
  (try simp only [pz])
  refine tk (i := 7) (oi := { dst := some 11, op := Op.nilCheck (Operand.tmp 10), type := 0, pos := "ref.go:218", after := #[(eD 6), (eG 5)], guard := some (5, true) }) (v := ?_) (.inl ⟨by rfl, ?_⟩) hHeld ?_
  rotate_left
  · intro w' hS; obtain ⟨hS0, hS1, hS2, hS3⟩ := hS; go_simp; all_goals (with_reducible rfl)
  (try simp only [pz])
  refine tk (i := 8) (oi := { dst := some 12, op := Op.fieldAddr 137 (Operand.tmp 11) 1, type := 0, pos := "ref.go:218", after := #[(eD 7), (eG 5)], guard := some (5, true) }) (v := ?_) (.inl ⟨by rfl, ?_⟩) hHeld ?_
  rotate_left
  · intro w' hS; obtain ⟨hS0, hS1, hS2, hS3⟩ := hS; go_simp; all_goals (with_reducible rfl)
  (try simp only [pz])
  refine tk (i := 9) (oi := { dst := some 13, op := Op.load 3 (Operand.tmp 12), type := 3, pos := "ref.go:218", after := #[(eD 8), (eG 5)], guard := some (5, true) }) (v := ?_) (.inl ⟨by rfl, ?_⟩) hHeld ?_
  rotate_left
  · intro w' hS; obtain ⟨hS0, hS1, hS2, hS3⟩ := hS; go_simp; all_goals (with_reducible rfl)
  (try simp only [pz])
  refine tk (i := 10) (oi := { dst := some 14, op := Op.move (Operand.tmp 0), type := 106, pos := "ref.go:218", after := #[(eG 5)], guard := some (5, true) }) (v := ?_) (.inl ⟨by rfl, ?_⟩) hHeld ?_
  rotate_left
  · intro w' hS; obtain ⟨hS0, hS1, hS2, hS3⟩ := hS; go_simp; all_goals (with_reducible rfl)
  (try simp only [pz])
  refine tk (i := 11) (oi := { dst := some 15, op := Op.nilCheck (Operand.tmp 14), type := 0, pos := "ref.go:218", after := #[(eD 10), (eG 5)], guard := some (5, true) }) (v := ?_) (.inl ⟨by rfl, ?_⟩) hHeld ?_
  rotate_left
  · intro w' hS; obtain ⟨hS0, hS1, hS2, hS3⟩ := hS; go_simp; all_goals (with_reducible rfl)
  (try simp only [pz])
  refine tk (i := 12) (oi := { dst := some 16, op := Op.fieldAddr 137 (Operand.tmp 15) 0, type := 0, pos := "ref.go:218", after := #[(eD 11), (eG 5)], guard := some (5, true) }) (v := ?_) (.inl ⟨by rfl, ?_⟩) hHeld ?_
  rotate_left
  · intro w' hS; obtain ⟨hS0, hS1, hS2, hS3⟩ := hS; go_simp; all_goals (with_reducible rfl)
  (try simp only [pz])
  refine tk (i := 13) (oi := { dst := some 17, op := Op.load 26 (Operand.tmp 16), type := 26, pos := "ref.go:218", after := #[(eD 12), (eG 5)], guard := some (5, true) }) (v := ?_) (.inl ⟨by rfl, ?_⟩) hHeld ?_
  rotate_left
  · intro w' hS; obtain ⟨hS0, hS1, hS2, hS3⟩ := hS; go_simp; all_goals (with_reducible rfl)
  (try simp only [pz])
  refine tk (i := 14) (oi := { dst := some 18, op := Op.call { callee := Callee.builtin Builtin.len, args := #[Operand.tmp 17], argTypes := #[26] }, type := 3, pos := "ref.go:218", after := #[(eD 13), (eG 5)], guard := some (5, true) }) (v := ?_) (.inl ⟨by rfl, ?_⟩) hHeld ?_
  rotate_left
  · intro w' hS; obtain ⟨hS0, hS1, hS2, hS3⟩ := hS; go_simp; all_goals (with_reducible rfl)
  (try simp only [pz])
  refine tk (i := 15) (oi := { dst := some 19, op := Op.binOp BinOp.lss 3 (Operand.tmp 13) (Operand.tmp 18) 3, type := 4, pos := "ref.go:218", after := #[(eD 9), (eD 14), (eG 5)], guard := some (5, true) }) (v := ?_) (.inl ⟨by rfl, ?_⟩) hHeld ?_
  rotate_left
  · intro w' hS; obtain ⟨hS0, hS1, hS2, hS3⟩ := hS; go_simp; all_goals (with_reducible rfl)
  (try simp only [pz])
  refine tk (i := 16) (oi := { dst := some 20, op := Op.pick (Operand.tmp 9) (Operand.tmp 19) (Operand.const (Value.bool false)), type := 4, pos := "ref.go:218", after := #[(eD 5), (eD 15)], guard := none }) (v := ?_) (.inl ⟨by rfl, ?_⟩) hHeld ?_
  rotate_left
  · intro w' hS; obtain ⟨hS0, hS1, hS2, hS3⟩ := hS; go_simp; all_goals (with_reducible rfl)
  (try simp only [pz])
  refine wpAnyH_done (by kernel_rfl) ?_ _
  (try simp only [pz])
  have B1 := Aside0.mk (show Below W.heap.size W W.drew from below_drew (Below.refl _ _))
  have c1 := (MKSHK.out _ B1.out).2.1
  by_cases hm : m < n
  · have d1 : decide ((m : Int) < (n : Int)) = true := decide_eq_true (by omega)
    have d2 : decide (m < n) = true := decide_eq_true hm
    simp only [d2]
    have HE2 := Aside0.mk (show E = (4, (m : Int)) by rw [← HE.out, if_pos hm]; rfl)
    clear hm
    generalize W.drew = w1 at *
    go_wp2_with fail
    go_at_call 120
    refine (q_fail (HK.out.below B1.out) 4 (m : Int) (by decide)).mono ?_
    rintro e w2 ⟨rfl, hk, hb, hkp⟩
    have K2 := Aside0.mk hk
    have B2 := Aside0.mk ((B1.out.mono HK.out.size).trans hb)
    have P2 := Aside0.mk ((Kept.of_below B1.out (fun j => j = g)).then_ hkp (fun _ h => .inl h))
    clear hk hb hkp c1
    go_upto_region 3 with fail
    have MKSK2 := Aside0.mk (show ∀ w', Below w2.heap.size w2 w' → (fun w' => w'.cell? ⟨g, 0, none⟩ = some (Value.slice A n c) ∧ w'.cell? ⟨g, 1, none⟩ = some (.int .i64 (m : Int)) ∧ w'.cell? ⟨g, 3, none⟩ = some (.int .i64 4) ∧ w'.cell? ⟨g, 4, none⟩ = some (.int .i64 (m : Int))) w' from fun w' hb => by
      have r := K2.out.row.below hb
      exact ⟨r.cell 0 _ rfl, r.cell 1 _ rfl, r.cell 3 _ rfl, r.cell 4 _ rfl⟩)
    refine wp_region_held_drew (S := fun w' => w'.cell? ⟨g, 0, none⟩ = some (Value.slice A n c) ∧ w'.cell? ⟨g, 1, none⟩ = some (.int .i64 (m : Int)) ∧ w'.cell? ⟨g, 3, none⟩ = some (.int .i64 4) ∧ w'.cell? ⟨g, 4, none⟩ = some (.int .i64 (m : Int))) (by kernel_rfl) (MKSK2.out _ (below_drew (Below.refl _ _))) (fun hHeld => ?_)
    refine tk (i := 0) (oi := { dst := some 27, op := Op.move (Operand.tmp 0), type := 106, pos := "ref.go:221", after := #[], guard := none }) (v := ?_) (.inl ⟨by rfl, ?_⟩) hHeld ?_
    rotate_left
    · intro w' hS; obtain ⟨hS0, hS1, hS2, hS3⟩ := hS; go_simp; all_goals (with_reducible rfl)
    (try simp only [pz])
    refine tk (i := 1) (oi := { dst := some 28, op := Op.nilCheck (Operand.tmp 27), type := 0, pos := "ref.go:221", after := #[(eD 0)], guard := none }) (v := ?_) (.inl ⟨by rfl, ?_⟩) hHeld ?_
    rotate_left
    · intro w' hS; obtain ⟨hS0, hS1, hS2, hS3⟩ := hS; go_simp; all_goals (with_reducible rfl)
    (try simp only [pz])
    refine tk (i := 2) (oi := { dst := some 29, op := Op.fieldAddr 137 (Operand.tmp 28) 3, type := 0, pos := "ref.go:221", after := #[(eD 1)], guard := none }) (v := ?_) (.inl ⟨by rfl, ?_⟩) hHeld ?_
    rotate_left
    · intro w' hS; obtain ⟨hS0, hS1, hS2, hS3⟩ := hS; go_simp; all_goals (with_reducible rfl)
    (try simp only [pz])
    refine tk (i := 3) (oi := { dst := some 30, op := Op.load 22 (Operand.tmp 29), type := 22, pos := "ref.go:221", after := #[(eD 2)], guard := none }) (v := ?_) (.inl ⟨by rfl, ?_⟩) hHeld ?_
    rotate_left
    · intro w' hS; obtain ⟨hS0, hS1, hS2, hS3⟩ := hS; go_simp; all_goals (with_reducible rfl)
    (try simp only [pz])
    refine tk (i := 4) (oi := { dst := some 31, op := Op.move (Operand.tmp 0), type := 106, pos := "ref.go:221", after := #[(eM 8)], guard := none }) (v := ?_) (.inl ⟨by rfl, ?_⟩) hHeld ?_
    rotate_left
    · intro w' hS; obtain ⟨hS0, hS1, hS2, hS3⟩ := hS; go_simp; all_goals (with_reducible rfl)
    (try simp only [pz])
    refine tk (i := 5) (oi := { dst := some 32, op := Op.nilCheck (Operand.tmp 31), type := 0, pos := "ref.go:221", after := #[(eD 4), (eM 8)], guard := none }) (v := ?_) (.inl ⟨by rfl, ?_⟩) hHeld ?_
    rotate_left
    · intro w' hS; obtain ⟨hS0, hS1, hS2, hS3⟩ := hS; go_simp; all_goals (with_reducible rfl)
    (try simp only [pz])
    refine tk (i := 6) (oi := { dst := some 33, op := Op.fieldAddr 137 (Operand.tmp 32) 4, type := 0, pos := "ref.go:221", after := #[(eD 5), (eM 8)], guard := none }) (v := ?_) (.inl ⟨by rfl, ?_⟩) hHeld ?_
    rotate_left
    · intro w' hS; obtain ⟨hS0, hS1, hS2, hS3⟩ := hS; go_simp; all_goals (with_reducible rfl)
    (try simp only [pz])
    refine tk (i := 7) (oi := { dst := some 34, op := Op.load 3 (Operand.tmp 33), type := 3, pos := "ref.go:221", after := #[(eD 6), (eM 8)], guard := none }) (v := ?_) (.inl ⟨by rfl, ?_⟩) hHeld ?_
    rotate_left
    · intro w' hS; obtain ⟨hS0, hS1, hS2, hS3⟩ := hS; go_simp; all_goals (with_reducible rfl)
    (try simp only [pz])
    refine tk (i := 8) (oi := { dst := some 2, op := Op.assign (Operand.tmp 30), type := 22, pos := "ref.go:221", after := #[(eD 3), (eP 0), (eP 1), (eP 2), (eP 3), (eL 4), (eL 5), (eL 6), (eL 7)], guard := none }) (v := ?_) (.inl ⟨by rfl, ?_⟩) hHeld ?_
    rotate_left
    · intro w' hS; obtain ⟨hS0, hS1, hS2, hS3⟩ := hS; go_simp; all_goals (with_reducible rfl)
    (try simp only [pz])
    refine tk (i := 9) (oi := { dst := some 3, op := Op.assign (Operand.tmp 34), type := 3, pos := "ref.go:221", after := #[(eD 7), (eC 8), (eP 0), (eP 1), (eP 2), (eP 3), (eP 4), (eP 5), (eP 6), (eP 7), (eP 8)], guard := none }) (v := ?_) (.inl ⟨by rfl, ?_⟩) hHeld ?_
    rotate_left
    · intro w' hS; obtain ⟨hS0, hS1, hS2, hS3⟩ := hS; go_simp; all_goals (with_reducible rfl)
    (try simp only [pz])
    refine wpAnyH_done (by kernel_rfl) ?_ _
    (try simp only [pz])
    go_wp2_with fail
    refine ⟨rfl, ?_⟩
    simp [results, Try.results68, go_sem]
    have hd : Below w2.heap.size w2 w2.drew := below_drew (Below.refl _ _)
    exact ⟨B2.out.trans (hd.mono K2.out.size), P2.out.then_ (Kept.of_below hd (fun j => j = g)) (fun _ h => .inl h), by rw [HE2.out]; exact ⟨rfl, rfl⟩⟩
  · have d1 : decide ((m : Int) < (n : Int)) = false := decide_eq_false (by omega)
    have d2 : decide (m < n) = false := decide_eq_false hm
    simp only [d2]
    have d3 : ((m : Int) < (n : Int)) = False := eq_false (by omega)
    have HE2 := Aside0.mk (show E = (0, 0) by rw [← HE.out, if_neg hm]; rfl)
    clear hm
    go_upto_region 3 with fail
    refine wp_region_held_drew (S := fun w' => w'.cell? ⟨g, 0, none⟩ = some (Value.slice A n c) ∧ w'.cell? ⟨g, 1, none⟩ = some (.int .i64 (m : Int)) ∧ w'.cell? ⟨g, 3, none⟩ = some (.int .i64 0) ∧ w'.cell? ⟨g, 4, none⟩ = some (.int .i64 0)) (by kernel_rfl) (MKSHK.out _ (below_drew B1.out)) (fun hHeld => ?_)
    refine tk (i := 0) (oi := { dst := some 27, op := Op.move (Operand.tmp 0), type := 106, pos := "ref.go:221", after := #[], guard := none }) (v := ?_) (.inl ⟨by rfl, ?_⟩) hHeld ?_
    rotate_left
    · intro w' hS; obtain ⟨hS0, hS1, hS2, hS3⟩ := hS; go_simp; all_goals (with_reducible rfl)
    (try simp only [pz])
    refine tk (i := 1) (oi := { dst := some 28, op := Op.nilCheck (Operand.tmp 27), type := 0, pos := "ref.go:221", after := #[(eD 0)], guard := none }) (v := ?_) (.inl ⟨by rfl, ?_⟩) hHeld ?_
    rotate_left
    · intro w' hS; obtain ⟨hS0, hS1, hS2, hS3⟩ := hS; go_simp; all_goals (with_reducible rfl)
    (try simp only [pz])
    refine tk (i := 2) (oi := { dst := some 29, op := Op.fieldAddr 137 (Operand.tmp 28) 3, type := 0, pos := "ref.go:221", after := #[(eD 1)], guard := none }) (v := ?_) (.inl ⟨by rfl, ?_⟩) hHeld ?_
    rotate_left
    · intro w' hS; obtain ⟨hS0, hS1, hS2, hS3⟩ := hS; go_simp; all_goals (with_reducible rfl)
    (try simp only [pz])
    refine tk (i := 3) (oi := { dst := some 30, op := Op.load 22 (Operand.tmp 29), type := 22, pos := "ref.go:221", after := #[(eD 2)], guard := none }) (v := ?_) (.inl ⟨by rfl, ?_⟩) hHeld ?_
    rotate_left
    · intro w' hS; obtain ⟨hS0, hS1, hS2, hS3⟩ := hS; go_simp; all_goals (with_reducible rfl)
    (try simp only [pz])
    refine tk (i := 4) (oi := { dst := some 31, op := Op.move (Operand.tmp 0), type := 106, pos := "ref.go:221", after := #[(eM 8)], guard := none }) (v := ?_) (.inl ⟨by rfl, ?_⟩) hHeld ?_
    rotate_left
    · intro w' hS; obtain ⟨hS0, hS1, hS2, hS3⟩ := hS; go_simp; all_goals (with_reducible rfl)
    (try simp only [pz])
    refine tk (i := 5) (oi := { dst := some 32, op := Op.nilCheck (Operand.tmp 31), type := 0, pos := "ref.go:221", after := #[(eD 4), (eM 8)], guard := none }) (v := ?_) (.inl ⟨by rfl, ?_⟩) hHeld ?_
    rotate_left
    · intro w' hS; obtain ⟨hS0, hS1, hS2, hS3⟩ := hS; go_simp; all_goals (with_reducible rfl)
    (try simp only [pz])
    refine tk (i := 6) (oi := { dst := some 33, op := Op.fieldAddr 137 (Operand.tmp 32) 4, type := 0, pos := "ref.go:221", after := #[(eD 5), (eM 8)], guard := none }) (v := ?_) (.inl ⟨by rfl, ?_⟩) hHeld ?_
    rotate_left
    · intro w' hS; obtain ⟨hS0, hS1, hS2, hS3⟩ := hS; go_simp; all_goals (with_reducible rfl)
    (try simp only [pz])
    refine tk (i := 7) (oi := { dst := some 34, op := Op.load 3 (Operand.tmp 33), type := 3, pos := "ref.go:221", after := #[(eD 6), (eM 8)], guard := none }) (v := ?_) (.inl ⟨by rfl, ?_⟩) hHeld ?_
    rotate_left
    · intro w' hS; obtain ⟨hS0, hS1, hS2, hS3⟩ := hS; go_simp; all_goals (with_reducible rfl)
    (try simp only [pz])
    refine tk (i := 8) (oi := { dst := some 2, op := Op.assign (Operand.tmp 30), type := 22, pos := "ref.go:221", after := #[(eD 3), (eP 0), (eP 1), (eP 2), (eP 3), (eL 4), (eL 5), (eL 6), (eL 7)], guard := none }) (v := ?_) (.inl ⟨by rfl, ?_⟩) hHeld ?_
    rotate_left
    · intro w' hS; obtain ⟨hS0, hS1, hS2, hS3⟩ := hS; go_simp; all_goals (with_reducible rfl)
    (try simp only [pz])
    refine tk (i := 9) (oi := { dst := some 3, op := Op.assign (Operand.tmp 34), type := 3, pos := "ref.go:221", after := #[(eD 7), (eC 8), (eP 0), (eP 1), (eP 2), (eP 3), (eP 4), (eP 5), (eP 6), (eP 7), (eP 8)], guard := none }) (v := ?_) (.inl ⟨by rfl, ?_⟩) hHeld ?_
    rotate_left
    · intro w' hS; obtain ⟨hS0, hS1, hS2, hS3⟩ := hS; go_simp; all_goals (with_reducible rfl)
    (try simp only [pz])
    refine wpAnyH_done (by kernel_rfl) ?_ _
    (try simp only [pz])
    go_wp2_with fail
    refine ⟨rfl, ?_⟩
    simp [results, Try.results68, go_sem]
    have hd : Below W.heap.size W W.drew.drew := below_drew B1.out
    exact ⟨hd.mono HK.out.size, Kept.of_below hd (fun j => j = g), by rw [HE2.out]; exact ⟨rfl, rfl⟩⟩
theorem tailOf_ok {α : Type} (xs : List Int) (x : α) (m : Nat) : endOf (tailOf xs (.ok x m)) = endOf (if m < xs.length then (Res.fail 4 (m : Int) : Res Unit) else .ok () m) := by
  unfold tailOf
  simp only [Res.bind]
  split <;> rfl
theorem q_end {α : Type} {r : Res α} {W : World} (k : QSt g B A n c xs most r W) :
    Calls Try.prog 68 #[ptr g] W fun e w' => Below B W w' ∧ Kept W w' (fun j => j = g) ∧ e = .returned (.tuple #[.int .i64 (endOf (tailOf xs r)).1, .int .i64 (endOf (tailOf xs r)).2]) := by
  cases r with
  | ok x m =>
    rw [tailOf_ok]
    exact q_end_ok k
  | fail e p =>
    obtain ⟨he, m, hk⟩ := k
    refine (q_end_no hk he).mono ?_
    rintro e' w' ⟨hb, rfl⟩
    exact ⟨hb.mono hk.size, Kept.of_below hb _, rfl⟩
variable {g B : Nat} {A : Option Addr} {n c : Nat} {xs : List Int} {most : Nat}
def oneMoreP {α : Type} (p : Nat → Res α) (m : Nat) (l : List α) : Res (List α) := (p m).bind fun x m => .ok (l ++ [x]) m
theorem oneMoreP_is {α : Type} {p : Nat → Res α} {m u i : Nat} {y : List α} {T : Res (List α)} {x : α} {w : World}
    (k : QSt g B A n c xs most ((Res.ok y m : Res (List α)).bind fun _ m => p m) w) (h : ∀ y' m', ((Res.ok y m : Res (List α)).bind fun _ m => p m) = .ok y' m' → y' = x)
    (hT : (Res.ok y m).bind (fun l m => pN p (u - i) l m) = T) (ci : i < u) :
    QSt g B A n c xs most (oneMoreP p m y) w ∧ (∀ l m2, oneMoreP p m y = .ok l m2 → l = y ++ [x]) ∧ (oneMoreP p m y).bind (fun l m => pN p (u - (i + 1)) l m) = T := by
  rw [show u - i = (u - (i + 1)) + 1 from by omega] at hT
  simp only [Res.bind, pN] at hT
  unfold oneMoreP
  revert k h hT
  simp only [Res.bind]
  cases p m with
  | fail e q => exact fun k _ hT => ⟨k, fun l m2 h => by simp at h, hT⟩
  | ok x' m1 =>
    intro k h hT
    refine ⟨k, fun l m4 h2 => ?_, hT⟩
    injection h2 with h3 h4
    rw [← h3, h _ _ rfl]
theorem fin_is {α : Type} {s0 : Res Unit} {p : Nat → Res α} {x : α} {w : World} (k : QSt g B A n c xs most (s0.bind fun _ m => p m) w) (h : ∀ y m, (s0.bind fun _ m => p m) = .ok y m → y = x) :
    endOf (tailOf xs (s0.bind fun _ m => p m)) = endOf (s0.bind fun _ m => tailOf xs (p m)) ∧ ((∃ m, (s0.bind fun _ m => tailOf xs (p m)) = .ok x m) ∨ ∃ e q, (s0.bind fun _ m => tailOf xs (p m)) = .fail e q ∧ e ≠ 0) := by
  revert k h
  unfold tailOf
  cases s0 with
  | fail e q => exact fun k _ => ⟨by first | rfl | trivial, .inr ⟨e, q, rfl, k.1⟩⟩
  | ok u m0 =>
    simp only [Res.bind]
    cases p m0 with
    | fail e q => exact fun k _ => ⟨by first | rfl | trivial, .inr ⟨e, q, rfl, k.1⟩⟩
    | ok x0 m1 =>
      intro k h
      simp only
      rw [h _ _ rfl]
      split
      · exact ⟨by first | rfl | trivial, .inr ⟨4, _, rfl, by decide⟩⟩
      · exact ⟨by first | rfl | trivial, .inl ⟨_, rfl⟩⟩
theorem line_is {α : Type} {s0 : Res α} {w : World} {t : ByteArray} {a : Int}
    (k : QSt g B A n c xs most ((s0.bind fun _ m => pT xs most m).bind fun _ m => pI xs m) w)
    (e0 : ∀ x m, (s0.bind fun _ m => pT xs most m) = .ok x m → x = t)
    (e1 : ∀ x m, ((s0.bind fun _ m => pT xs most m).bind fun _ m => pI xs m) = .ok x m → x = a) :
    QSt g B A n c xs most (s0.bind fun _ m => pLine xs most m) w ∧ ∀ yy m, (s0.bind fun _ m => pLine xs most m) = .ok yy m → yy = ⟨t, a⟩ := by
  revert k e0 e1
  unfold pLine
  cases s0 with
  | fail e p => exact fun k _ _ => ⟨k, fun yy m h => by simp [Res.bind] at h⟩
  | ok u m0 =>
    simp only [Res.bind]
    cases pT xs most m0 with
    | fail e p => exact fun k _ _ => ⟨k, fun yy m h => by simp [Res.bind] at h⟩
    | ok q0 m1 =>
      simp only
      cases pI xs m1 with
      | fail e p => exact fun k _ _ => ⟨k, fun yy m h => by simp [Res.bind] at h⟩
      | ok q1 m2 =>
        intro k e0 e1
        refine ⟨k, fun yy m h => ?_⟩
        injection h with h1 h2
        rw [← h1, e0 _ _ rfl, e1 _ _ rfl]
theorem q_lines {α : Type} {r : Res α} {W : World} (k : QSt g B A n c xs most r W) (hmb : most < 1000000000) :
    Calls Try.prog 97 #[ptr g] W fun e w' => Below B W w' ∧ Kept W w' (fun j => j = g) ∧ OutQ g B A n c xs most (LN W.heap.size) (r.bind fun _ m => pList xs most (pLine xs most) m) e w' := by
  have HK := Aside0.mk k
  have HMB := Aside0.mk hmb
  have HMY := Aside0.mk (q_many k)
  clear k hmb
  go_enter Try.func97, Try.ntmps97
  go_wp2_with fail
  go_at_call 96
  refine HMY.out.mono ?_
  rintro e w1 ⟨hb, hp, u, v, rfl, rfl, hu, hq⟩
  obtain ⟨S0, hS0⟩ : ∃ S0, W.heap.size = S0 := ⟨_, rfl⟩
  have HS0 := Aside0.mk hS0
  have HLT := Aside0.mk (show g < S0 ∧ B ≤ S0 by have := HK.out.lt; have := HK.out.size; omega)
  obtain ⟨T, hT⟩ : ∃ T, (r.bind fun _ m => pList xs most (pLine xs most) m) = T := ⟨_, rfl⟩
  have HT := Aside0.mk hT
  have B1 := Aside0.mk hb
  have P1 := Aside0.mk hp
  have HI := Aside0.mk (show ∃ st : Res (List S110), QSt g B A n c xs most st w1 ∧ (∀ y m, st = .ok y m → y = [] ∧ u ≤ most) ∧ st.bind (fun l m => pN (pLine xs most) (u - 0) l m) = T from by
    cases r with
    | fail e p =>
      simp only [Res.bind] at hT hq ⊢
      exact ⟨.fail e p, hq, fun y m h => by simp at h, hT⟩
    | ok x m =>
      cases hpu : pU xs most m with
      | fail e p =>
        simp only [Res.bind, hpu] at hq
        refine ⟨.fail e p, hq, fun y m h => by simp at h, ?_⟩
        simp only [Res.bind, pList, hpu] at hT ⊢
        exact hT
      | ok k m2 =>
        simp only [Res.bind, hpu] at hq hu
        obtain rfl := hu k m2 rfl
        refine ⟨.ok [] m2, hq, fun y m h => by cases h; exact ⟨rfl, pU_le hpu⟩, ?_⟩
        simp only [Res.bind, pList, hpu, Nat.sub_zero] at hT ⊢
        exact hT)
  clear hb hp hu hq hT hS0 HMY
  go_wp2_with fail
  go_loopw [3, 5] (fun v p wr => ∃ (i : Nat) (l : List S110) (st : Res (List S110)), p = .int .i64 (i : Int) ∧ Aside0 (l.length = i) ∧ Aside0 (QSt g B A n c xs most st wr) ∧ Aside0 (∀ y m, st = .ok y m → y = l ∧ i ≤ u ∧ u ≤ most) ∧ Aside0 (st.bind (fun l m => pN (pLine xs most) (u - i) l m) = T) ∧ Aside0 (LN S0 l v wr) ∧ Aside0 (Below B W wr) ∧ Aside0 (Kept W wr (fun j => j = g))) (fun _ p _ => u - (intOf p).toNat)
  · obtain ⟨st, h1, h2, h3⟩ := HI.out
    exact ⟨0, [], st, rfl, ⟨rfl⟩, ⟨h1⟩, ⟨fun y m h => ⟨(h2 y m h).1, Nat.zero_le _, (h2 y m h).2⟩⟩, ⟨h3⟩, ⟨Kd.R_nil _ _ _ _ _⟩, B1, P1⟩
  · obtain ⟨i, l, st, rfl, HLN, HQ, HST, HPN, HR, HBr, HPr⟩ := hrel
    by_cases ci : i < u
    rotate_left
    · have ci1 : decide ((i : Int) < (u : Int)) = false := decide_eq_false (by omega)
      have HE := Aside0.mk (show QSt g B A n c xs most T wr ∧ ∀ y m, T = .ok y m → y = l from by
        have h := HPN.out
        rw [show u - i = 0 from by omega] at h
        cases st with
        | fail e p =>
          simp only [Res.bind] at h
          subst h
          exact ⟨HQ.out, fun y m h => by simp at h⟩
        | ok y m =>
          simp only [Res.bind, pN] at h
          subst h
          exact ⟨HQ.out, fun z m2 h => by
            injection h with h1 _
            rw [← h1]
            exact (HST.out y m rfl).1⟩)
      have ci2 : ((i : Int) < (u : Int)) = False := eq_false (by omega)
      have ci3 : decide (i < u) = false := decide_eq_false ci
      have ci4 : (i < u) = False := eq_false ci
      obtain ⟨e, hc3, hcs⟩ := HQ.out.cell3
      clear ci hcs
      go_wp2_with fail
      go_ret
      rw [HT.out, HS0.out]
      exact ⟨HBr.out, HPr.out, l, _, rfl, HR.out, HE.out.2, HE.out.1⟩
    have ci1 : decide ((i : Int) < (u : Int)) = true := decide_eq_true (by omega)
    obtain ⟨e, hc3, hcs⟩ := HQ.out.cell3
    rcases hcs with ⟨⟨y, m, hst⟩, rfl⟩ | ⟨⟨p, hst⟩, he⟩
    rotate_left
    · subst hst
      have h1 : (e == 0) = false := by simpa using he
      have h2 : decide (e = 0) = false := decide_eq_false he
      clear he
      go_wp2_with fail
      go_ret
      rw [HT.out, HS0.out]
      have hT : Res.fail e p = T := HPN.out
      subst hT
      exact ⟨HBr.out, HPr.out, l, _, rfl, HR.out, fun y m h => by simp at h, HQ.out⟩
    subst hst
    obtain ⟨rfl, hiu, hum⟩ := HST.out _ _ rfl
    have HUM := Aside0.mk (And.intro hiu hum)
    have HOU := Aside0.mk (own_under HR.out)
    have hw1 : wrap64 ((i : Int) + 1) = ((i + 1 : Nat) : Int) := by have := HMB.out; unfold wrap64; omega
    clear hiu hum
    go_upto_region 7 with fail
    have hr1 : Rt 110 wr.heap.size [.string ⟨#[]⟩, .int .i64 0] (wr.alloc (.cells #[.string ⟨#[]⟩, .int .i64 0] 110)) := heap_alloc_new wr _
    have hb1 : Below wr.heap.size wr (wr.alloc (.cells #[.string ⟨#[]⟩, .int .i64 0] 110)) := below_alloc (Below.refl _ _) _
    obtain ⟨b, hbe⟩ : ∃ b, wr.heap.size = b := ⟨_, rfl⟩
    have HL0 := HLT.out
    have HLT := Aside0.mk (show g < b ∧ B ≤ b ∧ S0 ≤ b ∧ g < S0 ∧ B ≤ S0 ∧ W.heap.size = S0 by have := HPr.out.1; have := HS0.out; omega)
    clear HL0
    have K1 := Aside0.mk (HQ.out.below hb1)
    have B1 := Aside0.mk (HBr.out.trans (hb1.mono HQ.out.size))
    have P1 := Aside0.mk (HPr.out.then_ (Kept.of_below hb1 (fun j => j = g)) (fun _ h => .inl h))
    have Y1 := Aside0.mk (show k110.R 110 (wr.alloc (.cells #[.string ⟨#[]⟩, .int .i64 0] 110)) S0 (fun j => j ≠ b) u3 y from Kd.R_mono (Kd.R_below (Kd.R_bound HR.out) hb1) (fun j hj e => by have := hj.2.2; omega))
    rw [hbe] at hr1 HOU ⊢
    have R1 := Aside0.mk hr1
    clear hr1 hb1 hbe hc3
    generalize wr.alloc (.cells #[.string ⟨#[]⟩, .int .i64 0] 110) = w1 at *
    have cr0 := R1.out.cell 0 _ rfl
    have fr0 := R1.out.free 0
    go_wp2_with fail
    go_at_call 65
    refine (q_text K1.out).mono ?_
    rintro e w2 ⟨hb, hp, t, v, rfl, rfl, hx, hq⟩
    have Xt := Aside0.mk hx
    have K2 := Aside0.mk hq
    have B2 := Aside0.mk (show Below B W w2 from B1.out.trans (hb.mono (by have := HLT.out; omega)))
    have P2 := Aside0.mk (P1.out.then_ hp (fun _ h => .inl h))
    have R2 := Aside0.mk (show Rt 110 b [Value.string ⟨#[]⟩, .int .i64 0] w2 from (hp.2 b R1.out.lt (by have := HLT.out; show b ≠ g; omega)).trans R1.out)
    have Y2 := Aside0.mk (show k110.R 110 w2 S0 (fun j => j ≠ b) u3 y from Kd.R_mono (Kd.R_kept (Kd.R_bound Y1.out) hp (fun j hj e => by have := hj.2.1; have := HLT.out; omega)) (fun j hj => hj.1))
    clear hb hp hx hq cr0 fr0
    have cr0 := R2.out.cell 0 _ rfl
    have fr0 := R2.out.free 0
    go_upto_region 8 with fail
    have e1 := R2.out.set 0 (.string t)
    rw [e1]
    clear e1 cr0 fr0
    have hl : [Value.string ⟨#[]⟩, .int .i64 0].set 0 (.string t) = [Value.string t, .int .i64 0] := rfl
    rw [hl]
    clear hl
    have K3 := Aside0.mk (K2.out.aside (W' := w2.setRow b [Value.string t, .int .i64 0].toArray) (below_setRow' (Below.refl _ _) (by have := HLT.out; omega) _) (setRow_other _ _ _ _ (by have := HLT.out; omega)))
    have B3 := Aside0.mk (show Below B W (w2.setRow b [Value.string t, .int .i64 0].toArray) from below_setRow' B2.out (by have := HLT.out; omega) _)
    have P3 := Aside0.mk (show Kept W (w2.setRow b [Value.string t, .int .i64 0].toArray) (fun j => j = g) from ⟨by rw [setRow_size]; exact P2.out.1, fun j hj hn => (setRow_other _ _ _ _ (by have := HLT.out; omega)).trans (P2.out.2 j hj hn)⟩)
    have R3 := Aside0.mk (show Rt 110 b [Value.string t, .int .i64 0] (w2.setRow b [Value.string t, .int .i64 0].toArray) from R2.out.row _)
    have Y3 := Aside0.mk (show k110.R 110 (w2.setRow b [Value.string t, .int .i64 0].toArray) S0 (fun j => j ≠ b) u3 y from Kd.R_step Y2.out (fun j hne _ => setRow_other _ _ _ _ hne))
    generalize w2.setRow b [Value.string t, .int .i64 0].toArray = w3 at *
    have cr1 := R3.out.cell 1 _ rfl
    have fr1 := R3.out.free 1
    go_wp2_with fail
    go_at_call 66
    refine (q_int K3.out).mono ?_
    rintro e w4 ⟨hb, hp, a, v, rfl, rfl, hx, hq⟩
    have Xa := Aside0.mk hx
    have K4 := Aside0.mk hq
    have B4 := Aside0.mk (show Below B W w4 from B3.out.trans (hb.mono (by have := HLT.out; omega)))
    have P4 := Aside0.mk (P3.out.then_ hp (fun _ h => .inl h))
    have R4 := Aside0.mk (show Rt 110 b [Value.string t, .int .i64 0] w4 from (hp.2 b R3.out.lt (by have := HLT.out; show b ≠ g; omega)).trans R3.out)
    have Y4 := Aside0.mk (show k110.R 110 w4 S0 (fun j => j ≠ b) u3 y from Kd.R_mono (Kd.R_kept (Kd.R_bound Y3.out) hp (fun j hj e => by have := hj.2.1; have := HLT.out; omega)) (fun j hj => hj.1))
    clear hb hp hx hq cr1 fr1
    have cr1 := R4.out.cell 1 _ rfl
    have fr1 := R4.out.free 1
    go_upto_region 9 with fail
    have e1 := R4.out.set 1 (.int .i64 a)
    rw [e1]
    clear e1 cr1 fr1
    have hl : [Value.string t, .int .i64 0].set 1 (.int .i64 a) = [Value.string t, .int .i64 a] := rfl
    rw [hl]
    clear hl
    have K5 := Aside0.mk (K4.out.aside (W' := w4.setRow b [Value.string t, .int .i64 a].toArray) (below_setRow' (Below.refl _ _) (by have := HLT.out; omega) _) (setRow_other _ _ _ _ (by have := HLT.out; omega)))
    have B5 := Aside0.mk (show Below B W (w4.setRow b [Value.string t, .int .i64 a].toArray) from below_setRow' B4.out (by have := HLT.out; omega) _)
    have P5 := Aside0.mk (show Kept W (w4.setRow b [Value.string t, .int .i64 a].toArray) (fun j => j = g) from ⟨by rw [setRow_size]; exact P4.out.1, fun j hj hn => (setRow_other _ _ _ _ (by have := HLT.out; omega)).trans (P4.out.2 j hj hn)⟩)
    have R5 := Aside0.mk (show Rt 110 b [Value.string t, .int .i64 a] (w4.setRow b [Value.string t, .int .i64 a].toArray) from R4.out.row _)
    have Y5 := Aside0.mk (show k110.R 110 (w4.setRow b [Value.string t, .int .i64 a].toArray) S0 (fun j => j ≠ b) u3 y from Kd.R_step Y4.out (fun j hne _ => setRow_other _ _ _ _ hne))
    generalize w4.setRow b [Value.string t, .int .i64 a].toArray = w5 at *
    have HE := line_is K5.out Xt.out Xa.out
    have HN := Aside0.mk (oneMoreP_is HE.1 HE.2 HPN.out ci)
    clear HE
    have S7 := Aside0.mk (show S0 ≤ w5.heap.size by have := P5.out.1; have := HS0.out; omega)
    have HSZ := Aside0.mk (show (y.length + 1) * 24 ≤ 140737488355328 by have := HLN.out; have := HUM.out; have := HMB.out; omega)
    have x0 := R5.out.cell 0 _ rfl
    have x1 := R5.out.cell 1 _ rfl
    have RX := Aside0.mk (show k110.R 110 w5 S0 (fun _ => True) u3 y from Kd.R_mono Y5.out (fun _ _ => trivial))
    have MX := Aside0.mk (show k110.M w5 S0 (fun j => b + 1 ≤ j) (⟨t, a⟩ : S110) [Value.string t, .int .i64 a] from k110_mkM _ _ _ ⟨t, a⟩)
    go_wp2_with (first | (
      (with_reducible refine gate_builtin (b := .append) (xs := #[.tmp 28, .tmp 30]) rfl ?_)
      at_builtin
      refine Kd.R_append k110 (w0 := w5) S0 rfl (.tmp 28) (.tmp 30) 38 110 (.agg #[.string ⟨#[]⟩, .int .i64 0]) 24 rfl Try.underlying38 info110 rfl (by decide) (by decide) _ y ⟨t, a⟩ [Value.string t, .int .i64 a] (fun _ => True) (fun j => b + 1 ≤ j) rfl rfl MX.out (fun j hj => ⟨trivial, fun e => by have := HOU.out j e.symm; omega⟩) (fun _ _ => trivial) RX.out (Below.refl _ _) S7.out HSZ.out ?_
      intro v1 w8 ho hb hg hat
      have HO8 := Aside0.mk ho
      have K8 := Aside0.mk (HN.out.1.aside (hb.mono (by have := HLT.out; omega)) (hb.block g (by have := HLT.out; omega)))
      have B8 := Aside0.mk (show Below B W w8 from B5.out.trans (hb.mono (by have := HLT.out; omega)))
      have P8 := Aside0.mk (show Kept W w8 (fun j => j = g) from ⟨Nat.le_trans P5.out.1 hb.size, fun j hj hn => (hb.block j (by have := HLT.out; omega)).trans (P5.out.2 j hj hn)⟩)
      clear ho hb hg hat))
    refine ⟨⟨i + 1, y ++ [⟨t, a⟩], oneMoreP (pLine xs most) m y, congrArg (Value.int .i64) (by omega), ⟨by rw [List.length_append, HLN.out]; rfl⟩, K8, ⟨fun l m2 h => ⟨HN.out.2.1 l m2 h, ci, HUM.out.2⟩⟩, ⟨HN.out.2.2⟩, HO8, B8, P8⟩, ?_⟩
    rw [hw1]
    show u - (((i + 1 : Nat) : Int)).toNat < u - ((i : Nat) : Int).toNat
    omega
theorem Rt.full_req {t b : Nat} {z0 z1 z2 z3 z4 z5 : Value} {W : World} (h : Rt t b [z0, z1, z2, z3, z4, z5] W) (a0 a1 a2 a3 a4 a5 : Value) :
    ((((((W.setCell ⟨b, 0, none⟩ a0).setCell ⟨b, 1, none⟩ a1).setCell ⟨b, 2, none⟩ a2).setCell ⟨b, 3, none⟩ a3).setCell ⟨b, 4, none⟩ a4).setCell ⟨b, 5, none⟩ a5) = W.setRow b [a0, a1, a2, a3, a4, a5].toArray := by
  rw [h.set 0 a0]
  have h0 : Rt t b [a0, z1, z2, z3, z4, z5] (W.setRow b ([z0, z1, z2, z3, z4, z5].set 0 a0).toArray) := h.row _
  rw [h0.set 1 a1, setRow_again]
  have h1 : Rt t b [a0, a1, z2, z3, z4, z5] (W.setRow b ([a0, z1, z2, z3, z4, z5].set 1 a1).toArray) := h.row _
  rw [h1.set 2 a2, setRow_again]
  have h2 : Rt t b [a0, a1, a2, z3, z4, z5] (W.setRow b ([a0, a1, z2, z3, z4, z5].set 2 a2).toArray) := h.row _
  rw [h2.set 3 a3, setRow_again]
  have h3 : Rt t b [a0, a1, a2, a3, z4, z5] (W.setRow b ([a0, a1, a2, z3, z4, z5].set 3 a3).toArray) := h.row _
  rw [h3.set 4 a4, setRow_again]
  have h4 : Rt t b [a0, a1, a2, a3, a4, z5] (W.setRow b ([a0, a1, a2, a3, z4, z5].set 4 a4).toArray) := h.row _
  rw [h4.set 5 a5, setRow_again]
  rfl
variable {g B : Nat} {A : Option Addr} {n c : Nat} {xs : List Int} {most : Nat}
theorem req_is {α : Type} {s0 : Res α} {w : World} {t : ByteArray} {a : Int} {l : List S110} {h : ByteArray} {y : Int} {z : Int}
    (k : QSt g B A n c xs most ((((((s0.bind fun _ m => pT xs most m).bind fun _ m => pI xs m).bind fun _ m => pList xs most (pLine xs most) m).bind fun _ m => pT xs most m).bind fun _ m => pI xs m).bind fun _ m => pI xs m) w)
    (e0 : ∀ x m, (s0.bind fun _ m => pT xs most m) = .ok x m → x = t)
    (e1 : ∀ x m, ((s0.bind fun _ m => pT xs most m).bind fun _ m => pI xs m) = .ok x m → x = a)
    (e2 : ∀ x m, (((s0.bind fun _ m => pT xs most m).bind fun _ m => pI xs m).bind fun _ m => pList xs most (pLine xs most) m) = .ok x m → x = l)
    (e3 : ∀ x m, ((((s0.bind fun _ m => pT xs most m).bind fun _ m => pI xs m).bind fun _ m => pList xs most (pLine xs most) m).bind fun _ m => pT xs most m) = .ok x m → x = h)
    (e4 : ∀ x m, (((((s0.bind fun _ m => pT xs most m).bind fun _ m => pI xs m).bind fun _ m => pList xs most (pLine xs most) m).bind fun _ m => pT xs most m).bind fun _ m => pI xs m) = .ok x m → x = y)
    (e5 : ∀ x m, ((((((s0.bind fun _ m => pT xs most m).bind fun _ m => pI xs m).bind fun _ m => pList xs most (pLine xs most) m).bind fun _ m => pT xs most m).bind fun _ m => pI xs m).bind fun _ m => pI xs m) = .ok x m → x = z) :
    QSt g B A n c xs most (s0.bind fun _ m => pReq xs most m) w ∧ ∀ yy m, (s0.bind fun _ m => pReq xs most m) = .ok yy m → yy = ⟨t, a, l, h, y, z⟩ := by
  revert k e0 e1 e2 e3 e4 e5
  unfold pReq
  cases s0 with
  | fail e p => exact fun k _ _ _ _ _ _ => ⟨k, fun yy m h => by simp [Res.bind] at h⟩
  | ok u m0 =>
    simp only [Res.bind]
    cases pT xs most m0 with
    | fail e p => exact fun k _ _ _ _ _ _ => ⟨k, fun yy m h => by simp [Res.bind] at h⟩
    | ok q0 m1 =>
      simp only
      cases pI xs m1 with
      | fail e p => exact fun k _ _ _ _ _ _ => ⟨k, fun yy m h => by simp [Res.bind] at h⟩
      | ok q1 m2 =>
        simp only
        cases pList xs most (pLine xs most) m2 with
        | fail e p => exact fun k _ _ _ _ _ _ => ⟨k, fun yy m h => by simp [Res.bind] at h⟩
        | ok q2 m3 =>
          simp only
          cases pT xs most m3 with
          | fail e p => exact fun k _ _ _ _ _ _ => ⟨k, fun yy m h => by simp [Res.bind] at h⟩
          | ok q3 m4 =>
            simp only
            cases pI xs m4 with
            | fail e p => exact fun k _ _ _ _ _ _ => ⟨k, fun yy m h => by simp [Res.bind] at h⟩
            | ok q4 m5 =>
              simp only
              cases pI xs m5 with
              | fail e p => exact fun k _ _ _ _ _ _ => ⟨k, fun yy m h => by simp [Res.bind] at h⟩
              | ok q5 m6 =>
                intro k e0 e1 e2 e3 e4 e5
                refine ⟨k, fun yy m h => ?_⟩
                injection h with h1 h2
                rw [← h1, e0 _ _ rfl, e1 _ _ rfl, e2 _ _ rfl, e3 _ _ rfl, e4 _ _ rfl, e5 _ _ rfl]
theorem q_request {α : Type} {r : Res α} {W : World} (k : QSt g B A n c xs most r W) (hmb : most < 1000000000) :
    Calls Try.prog 76 #[ptr g] W fun e w' => Below B W w' ∧ Kept W w' (fun j => j = g) ∧ OutQ g B A n c xs most (memReq W.heap.size) (r.bind fun _ m => pReq xs most m) e w' := by
  have HK := Aside0.mk k
  have HMB := Aside0.mk hmb
  clear k hmb
  have hb0 : Below W.heap.size W (W.alloc (.cells #[.string ⟨#[]⟩, .int .i64 0, .slice none 0 0, .string ⟨#[]⟩, .int .i64 0, .int .i64 0] 40)) := below_alloc (Below.refl _ _) _
  have ho0 : Rt 40 W.heap.size [.string ⟨#[]⟩, .int .i64 0, .slice none 0 0, .string ⟨#[]⟩, .int .i64 0, .int .i64 0] (W.alloc (.cells #[.string ⟨#[]⟩, .int .i64 0, .slice none 0 0, .string ⟨#[]⟩, .int .i64 0, .int .i64 0] 40)) := heap_alloc_new W _
  have hs0 : (W.alloc (.cells #[.string ⟨#[]⟩, .int .i64 0, .slice none 0 0, .string ⟨#[]⟩, .int .i64 0, .int .i64 0] 40)).heap.size = W.heap.size + 1 := by simp
  obtain ⟨S0, hS0⟩ : ∃ S0, W.heap.size = S0 := ⟨_, rfl⟩
  have HS0 := Aside0.mk hS0
  have KA := Aside0.mk (HK.out.below hb0)
  have BA := Aside0.mk (hb0.mono HK.out.size)
  have PA := Aside0.mk (Kept.of_below hb0 (fun j => j = g))
  rw [hS0] at ho0 hs0
  have OA := Aside0.mk ho0
  have HSA := Aside0.mk hs0
  clear hb0 ho0 hs0 hS0
  go_enter Try.func76, Try.ntmps76
  go_upto_region 1 with fail
  have hS0 := HS0.out
  rw [hS0]
  clear hS0
  generalize W.alloc (.cells #[.string ⟨#[]⟩, .int .i64 0, .slice none 0 0, .string ⟨#[]⟩, .int .i64 0, .int .i64 0] 40) = wa at *
  go_upto_region 2 with fail
  have hr1 : Rt 40 wa.heap.size [.string ⟨#[]⟩, .int .i64 0, .slice none 0 0, .string ⟨#[]⟩, .int .i64 0, .int .i64 0] (wa.alloc (.cells #[.string ⟨#[]⟩, .int .i64 0, .slice none 0 0, .string ⟨#[]⟩, .int .i64 0, .int .i64 0] 40)) := heap_alloc_new wa _
  have hb1 : Below wa.heap.size wa (wa.alloc (.cells #[.string ⟨#[]⟩, .int .i64 0, .slice none 0 0, .string ⟨#[]⟩, .int .i64 0, .int .i64 0] 40)) := below_alloc (Below.refl _ _) _
  obtain ⟨b, hbe⟩ : ∃ b, wa.heap.size = b := ⟨_, rfl⟩
  have K1 := Aside0.mk (KA.out.below hb1)
  have B1 := Aside0.mk (BA.out.trans (hb1.mono KA.out.size))
  have P1 := Aside0.mk (PA.out.then_ (Kept.of_below hb1 (fun j => j = g)) (fun _ h => .inl h))
  have O1 := Aside0.mk (OA.out.below hb1)
  rw [hbe] at hr1
  have hgb1 : S0 + 1 = b := by have := HSA.out; omega
  have HLT := Aside0.mk (show g < S0 ∧ B ≤ S0 ∧ S0 < b ∧ W.heap.size = S0 by have := HK.out.lt; have := HK.out.size; have := HS0.out; omega)
  (first | rw [hbe] | rw [hgb1])
  have R1 := Aside0.mk hr1
  clear hr1 hb1 hbe hgb1
  generalize wa.alloc (.cells #[.string ⟨#[]⟩, .int .i64 0, .slice none 0 0, .string ⟨#[]⟩, .int .i64 0, .int .i64 0] 40) = w1 at *
  have cr0 := R1.out.cell 0 _ rfl
  have fr0 := R1.out.free 0
  go_wp2_with fail
  go_at_call 65
  refine (q_text K1.out).mono ?_
  rintro e w2 ⟨hb, hp, t, v, rfl, rfl, hx, hq⟩
  have Xt := Aside0.mk hx
  have K2 := Aside0.mk hq
  have B2 := Aside0.mk (show Below B W w2 from B1.out.trans (hb.mono (by have := HLT.out; omega)))
  have P2 := Aside0.mk (P1.out.then_ hp (fun _ h => .inl h))
  have R2 := Aside0.mk (show Rt 40 b [Value.string ⟨#[]⟩, .int .i64 0, .slice none 0 0, .string ⟨#[]⟩, .int .i64 0, .int .i64 0] w2 from (hp.2 b R1.out.lt (by have := HLT.out; show b ≠ g; omega)).trans R1.out)
  have O2 := Aside0.mk (show Rt 40 S0 [Value.string ⟨#[]⟩, .int .i64 0, .slice none 0 0, .string ⟨#[]⟩, .int .i64 0, .int .i64 0] w2 from (hp.2 S0 O1.out.lt (by have := HLT.out; show S0 ≠ g; omega)).trans O1.out)
  clear hb hp hx hq cr0 fr0
  have cr0 := R2.out.cell 0 _ rfl
  have fr0 := R2.out.free 0
  go_upto_region 3 with fail
  have e1 := R2.out.set 0 (.string t)
  rw [e1]
  clear e1 cr0 fr0
  have hl : [Value.string ⟨#[]⟩, .int .i64 0, .slice none 0 0, .string ⟨#[]⟩, .int .i64 0, .int .i64 0].set 0 (.string t) = [Value.string t, .int .i64 0, .slice none 0 0, .string ⟨#[]⟩, .int .i64 0, .int .i64 0] := rfl
  rw [hl]
  clear hl
  have K3 := Aside0.mk (K2.out.aside (W' := w2.setRow b [Value.string t, .int .i64 0, .slice none 0 0, .string ⟨#[]⟩, .int .i64 0, .int .i64 0].toArray) (below_setRow' (Below.refl _ _) (by have := HLT.out; omega) _) (setRow_other _ _ _ _ (by have := HLT.out; omega)))
  have B3 := Aside0.mk (show Below B W (w2.setRow b [Value.string t, .int .i64 0, .slice none 0 0, .string ⟨#[]⟩, .int .i64 0, .int .i64 0].toArray) from below_setRow' B2.out (by have := HLT.out; omega) _)
  have P3 := Aside0.mk (show Kept W (w2.setRow b [Value.string t, .int .i64 0, .slice none 0 0, .string ⟨#[]⟩, .int .i64 0, .int .i64 0].toArray) (fun j => j = g) from ⟨by rw [setRow_size]; exact P2.out.1, fun j hj hn => (setRow_other _ _ _ _ (by have := HLT.out; omega)).trans (P2.out.2 j hj hn)⟩)
  have R3 := Aside0.mk (show Rt 40 b [Value.string t, .int .i64 0, .slice none 0 0, .string ⟨#[]⟩, .int .i64 0, .int .i64 0] (w2.setRow b [Value.string t, .int .i64 0, .slice none 0 0, .string ⟨#[]⟩, .int .i64 0, .int .i64 0].toArray) from R2.out.row _)
  have O3 := Aside0.mk (show Rt 40 S0 [Value.string ⟨#[]⟩, .int .i64 0, .slice none 0 0, .string ⟨#[]⟩, .int .i64 0, .int .i64 0] (w2.setRow b [Value.string t, .int .i64 0, .slice none 0 0, .string ⟨#[]⟩, .int .i64 0, .int .i64 0].toArray) from (setRow_other _ _ _ _ (by have := HLT.out; omega)).trans O2.out)
  generalize w2.setRow b [Value.string t, .int .i64 0, .slice none 0 0, .string ⟨#[]⟩, .int .i64 0, .int .i64 0].toArray = w3 at *
  have cr1 := R3.out.cell 1 _ rfl
  have fr1 := R3.out.free 1
  go_wp2_with fail
  go_at_call 66
  refine (q_int K3.out).mono ?_
  rintro e w4 ⟨hb, hp, a, v, rfl, rfl, hx, hq⟩
  have Xa := Aside0.mk hx
  have K4 := Aside0.mk hq
  have B4 := Aside0.mk (show Below B W w4 from B3.out.trans (hb.mono (by have := HLT.out; omega)))
  have P4 := Aside0.mk (P3.out.then_ hp (fun _ h => .inl h))
  have R4 := Aside0.mk (show Rt 40 b [Value.string t, .int .i64 0, .slice none 0 0, .string ⟨#[]⟩, .int .i64 0, .int .i64 0] w4 from (hp.2 b R3.out.lt (by have := HLT.out; show b ≠ g; omega)).trans R3.out)
  have O4 := Aside0.mk (show Rt 40 S0 [Value.string ⟨#[]⟩, .int .i64 0, .slice none 0 0, .string ⟨#[]⟩, .int .i64 0, .int .i64 0] w4 from (hp.2 S0 O3.out.lt (by have := HLT.out; show S0 ≠ g; omega)).trans O3.out)
  clear hb hp hx hq cr1 fr1
  have cr1 := R4.out.cell 1 _ rfl
  have fr1 := R4.out.free 1
  go_upto_region 4 with fail
  have e1 := R4.out.set 1 (.int .i64 a)
  rw [e1]
  clear e1 cr1 fr1
  have hl : [Value.string t, .int .i64 0, .slice none 0 0, .string ⟨#[]⟩, .int .i64 0, .int .i64 0].set 1 (.int .i64 a) = [Value.string t, .int .i64 a, .slice none 0 0, .string ⟨#[]⟩, .int .i64 0, .int .i64 0] := rfl
  rw [hl]
  clear hl
  have K5 := Aside0.mk (K4.out.aside (W' := w4.setRow b [Value.string t, .int .i64 a, .slice none 0 0, .string ⟨#[]⟩, .int .i64 0, .int .i64 0].toArray) (below_setRow' (Below.refl _ _) (by have := HLT.out; omega) _) (setRow_other _ _ _ _ (by have := HLT.out; omega)))
  have B5 := Aside0.mk (show Below B W (w4.setRow b [Value.string t, .int .i64 a, .slice none 0 0, .string ⟨#[]⟩, .int .i64 0, .int .i64 0].toArray) from below_setRow' B4.out (by have := HLT.out; omega) _)
  have P5 := Aside0.mk (show Kept W (w4.setRow b [Value.string t, .int .i64 a, .slice none 0 0, .string ⟨#[]⟩, .int .i64 0, .int .i64 0].toArray) (fun j => j = g) from ⟨by rw [setRow_size]; exact P4.out.1, fun j hj hn => (setRow_other _ _ _ _ (by have := HLT.out; omega)).trans (P4.out.2 j hj hn)⟩)
  have R5 := Aside0.mk (show Rt 40 b [Value.string t, .int .i64 a, .slice none 0 0, .string ⟨#[]⟩, .int .i64 0, .int .i64 0] (w4.setRow b [Value.string t, .int .i64 a, .slice none 0 0, .string ⟨#[]⟩, .int .i64 0, .int .i64 0].toArray) from R4.out.row _)
  have O5 := Aside0.mk (show Rt 40 S0 [Value.string ⟨#[]⟩, .int .i64 0, .slice none 0 0, .string ⟨#[]⟩, .int .i64 0, .int .i64 0] (w4.setRow b [Value.string t, .int .i64 a, .slice none 0 0, .string ⟨#[]⟩, .int .i64 0, .int .i64 0].toArray) from (setRow_other _ _ _ _ (by have := HLT.out; omega)).trans O4.out)
  generalize w4.setRow b [Value.string t, .int .i64 a, .slice none 0 0, .string ⟨#[]⟩, .int .i64 0, .int .i64 0].toArray = w5 at *
  have cr2 := R5.out.cell 2 _ rfl
  have fr2 := R5.out.free 2
  go_wp2_with fail
  go_at_call 97
  refine (q_lines K5.out HMB.out).mono ?_
  rintro e w6 ⟨hb, hp, l, v, rfl, hE, hx, hq⟩
  obtain ⟨Al, nl, cl, ev⟩ := LN_slice hE
  subst ev
  have Ll_6 := Aside0.mk (show LN (b + 1) l (.slice Al nl cl) w6 from LN_alive.lower hE R5.out.lt)
  clear hE
  have Xl := Aside0.mk hx
  have K6 := Aside0.mk hq
  have B6 := Aside0.mk (show Below B W w6 from B5.out.trans (hb.mono (by have := HLT.out; omega)))
  have P6 := Aside0.mk (P5.out.then_ hp (fun _ h => .inl h))
  have R6 := Aside0.mk (show Rt 40 b [Value.string t, .int .i64 a, .slice none 0 0, .string ⟨#[]⟩, .int .i64 0, .int .i64 0] w6 from (hp.2 b R5.out.lt (by have := HLT.out; show b ≠ g; omega)).trans R5.out)
  have O6 := Aside0.mk (show Rt 40 S0 [Value.string ⟨#[]⟩, .int .i64 0, .slice none 0 0, .string ⟨#[]⟩, .int .i64 0, .int .i64 0] w6 from (hp.2 S0 O5.out.lt (by have := HLT.out; show S0 ≠ g; omega)).trans O5.out)
  clear hb hp hx hq cr2 fr2
  have cr2 := R6.out.cell 2 _ rfl
  have fr2 := R6.out.free 2
  go_upto_region 5 with fail
  have e1 := R6.out.set 2 (.slice Al nl cl)
  rw [e1]
  clear e1 cr2 fr2
  have hl : [Value.string t, .int .i64 a, .slice none 0 0, .string ⟨#[]⟩, .int .i64 0, .int .i64 0].set 2 (.slice Al nl cl) = [Value.string t, .int .i64 a, .slice Al nl cl, .string ⟨#[]⟩, .int .i64 0, .int .i64 0] := rfl
  rw [hl]
  clear hl
  have K7 := Aside0.mk (K6.out.aside (W' := w6.setRow b [Value.string t, .int .i64 a, .slice Al nl cl, .string ⟨#[]⟩, .int .i64 0, .int .i64 0].toArray) (below_setRow' (Below.refl _ _) (by have := HLT.out; omega) _) (setRow_other _ _ _ _ (by have := HLT.out; omega)))
  have B7 := Aside0.mk (show Below B W (w6.setRow b [Value.string t, .int .i64 a, .slice Al nl cl, .string ⟨#[]⟩, .int .i64 0, .int .i64 0].toArray) from below_setRow' B6.out (by have := HLT.out; omega) _)
  have P7 := Aside0.mk (show Kept W (w6.setRow b [Value.string t, .int .i64 a, .slice Al nl cl, .string ⟨#[]⟩, .int .i64 0, .int .i64 0].toArray) (fun j => j = g) from ⟨by rw [setRow_size]; exact P6.out.1, fun j hj hn => (setRow_other _ _ _ _ (by have := HLT.out; omega)).trans (P6.out.2 j hj hn)⟩)
  have R7 := Aside0.mk (show Rt 40 b [Value.string t, .int .i64 a, .slice Al nl cl, .string ⟨#[]⟩, .int .i64 0, .int .i64 0] (w6.setRow b [Value.string t, .int .i64 a, .slice Al nl cl, .string ⟨#[]⟩, .int .i64 0, .int .i64 0].toArray) from R6.out.row _)
  have O7 := Aside0.mk (show Rt 40 S0 [Value.string ⟨#[]⟩, .int .i64 0, .slice none 0 0, .string ⟨#[]⟩, .int .i64 0, .int .i64 0] (w6.setRow b [Value.string t, .int .i64 a, .slice Al nl cl, .string ⟨#[]⟩, .int .i64 0, .int .i64 0].toArray) from (setRow_other _ _ _ _ (by have := HLT.out; omega)).trans O6.out)
  have Ll_7 := Aside0.mk (LN_alive.row (b := b) Ll_6.out (by have := HLT.out; omega) [Value.string t, .int .i64 a, .slice Al nl cl, .string ⟨#[]⟩, .int .i64 0, .int .i64 0].toArray)
  generalize w6.setRow b [Value.string t, .int .i64 a, .slice Al nl cl, .string ⟨#[]⟩, .int .i64 0, .int .i64 0].toArray = w7 at *
  have cr3 := R7.out.cell 3 _ rfl
  have fr3 := R7.out.free 3
  go_wp2_with fail
  go_at_call 65
  refine (q_text K7.out).mono ?_
  rintro e w8 ⟨hb, hp, h, v, rfl, rfl, hx, hq⟩
  have Xh := Aside0.mk hx
  have K8 := Aside0.mk hq
  have B8 := Aside0.mk (show Below B W w8 from B7.out.trans (hb.mono (by have := HLT.out; omega)))
  have P8 := Aside0.mk (P7.out.then_ hp (fun _ h => .inl h))
  have R8 := Aside0.mk (show Rt 40 b [Value.string t, .int .i64 a, .slice Al nl cl, .string ⟨#[]⟩, .int .i64 0, .int .i64 0] w8 from (hp.2 b R7.out.lt (by have := HLT.out; show b ≠ g; omega)).trans R7.out)
  have O8 := Aside0.mk (show Rt 40 S0 [Value.string ⟨#[]⟩, .int .i64 0, .slice none 0 0, .string ⟨#[]⟩, .int .i64 0, .int .i64 0] w8 from (hp.2 S0 O7.out.lt (by have := HLT.out; show S0 ≠ g; omega)).trans O7.out)
  have Ll_8 := Aside0.mk (LN_alive.kept Ll_7.out hp (fun j hj e => by have := HLT.out; omega))
  clear hb hp hx hq cr3 fr3
  have cr3 := R8.out.cell 3 _ rfl
  have fr3 := R8.out.free 3
  go_upto_region 6 with fail
  have e1 := R8.out.set 3 (.string h)
  rw [e1]
  clear e1 cr3 fr3
  have hl : [Value.string t, .int .i64 a, .slice Al nl cl, .string ⟨#[]⟩, .int .i64 0, .int .i64 0].set 3 (.string h) = [Value.string t, .int .i64 a, .slice Al nl cl, .string h, .int .i64 0, .int .i64 0] := rfl
  rw [hl]
  clear hl
  have K9 := Aside0.mk (K8.out.aside (W' := w8.setRow b [Value.string t, .int .i64 a, .slice Al nl cl, .string h, .int .i64 0, .int .i64 0].toArray) (below_setRow' (Below.refl _ _) (by have := HLT.out; omega) _) (setRow_other _ _ _ _ (by have := HLT.out; omega)))
  have B9 := Aside0.mk (show Below B W (w8.setRow b [Value.string t, .int .i64 a, .slice Al nl cl, .string h, .int .i64 0, .int .i64 0].toArray) from below_setRow' B8.out (by have := HLT.out; omega) _)
  have P9 := Aside0.mk (show Kept W (w8.setRow b [Value.string t, .int .i64 a, .slice Al nl cl, .string h, .int .i64 0, .int .i64 0].toArray) (fun j => j = g) from ⟨by rw [setRow_size]; exact P8.out.1, fun j hj hn => (setRow_other _ _ _ _ (by have := HLT.out; omega)).trans (P8.out.2 j hj hn)⟩)
  have R9 := Aside0.mk (show Rt 40 b [Value.string t, .int .i64 a, .slice Al nl cl, .string h, .int .i64 0, .int .i64 0] (w8.setRow b [Value.string t, .int .i64 a, .slice Al nl cl, .string h, .int .i64 0, .int .i64 0].toArray) from R8.out.row _)
  have O9 := Aside0.mk (show Rt 40 S0 [Value.string ⟨#[]⟩, .int .i64 0, .slice none 0 0, .string ⟨#[]⟩, .int .i64 0, .int .i64 0] (w8.setRow b [Value.string t, .int .i64 a, .slice Al nl cl, .string h, .int .i64 0, .int .i64 0].toArray) from (setRow_other _ _ _ _ (by have := HLT.out; omega)).trans O8.out)
  have Ll_9 := Aside0.mk (LN_alive.row (b := b) Ll_8.out (by have := HLT.out; omega) [Value.string t, .int .i64 a, .slice Al nl cl, .string h, .int .i64 0, .int .i64 0].toArray)
  generalize w8.setRow b [Value.string t, .int .i64 a, .slice Al nl cl, .string h, .int .i64 0, .int .i64 0].toArray = w9 at *
  have cr4 := R9.out.cell 4 _ rfl
  have fr4 := R9.out.free 4
  go_wp2_with fail
  go_at_call 66
  refine (q_int K9.out).mono ?_
  rintro e w10 ⟨hb, hp, y, v, rfl, rfl, hx, hq⟩
  have Xy := Aside0.mk hx
  have K10 := Aside0.mk hq
  have B10 := Aside0.mk (show Below B W w10 from B9.out.trans (hb.mono (by have := HLT.out; omega)))
  have P10 := Aside0.mk (P9.out.then_ hp (fun _ h => .inl h))
  have R10 := Aside0.mk (show Rt 40 b [Value.string t, .int .i64 a, .slice Al nl cl, .string h, .int .i64 0, .int .i64 0] w10 from (hp.2 b R9.out.lt (by have := HLT.out; show b ≠ g; omega)).trans R9.out)
  have O10 := Aside0.mk (show Rt 40 S0 [Value.string ⟨#[]⟩, .int .i64 0, .slice none 0 0, .string ⟨#[]⟩, .int .i64 0, .int .i64 0] w10 from (hp.2 S0 O9.out.lt (by have := HLT.out; show S0 ≠ g; omega)).trans O9.out)
  have Ll_10 := Aside0.mk (LN_alive.kept Ll_9.out hp (fun j hj e => by have := HLT.out; omega))
  clear hb hp hx hq cr4 fr4
  have cr4 := R10.out.cell 4 _ rfl
  have fr4 := R10.out.free 4
  go_upto_region 7 with fail
  have e1 := R10.out.set 4 (.int .i64 y)
  rw [e1]
  clear e1 cr4 fr4
  have hl : [Value.string t, .int .i64 a, .slice Al nl cl, .string h, .int .i64 0, .int .i64 0].set 4 (.int .i64 y) = [Value.string t, .int .i64 a, .slice Al nl cl, .string h, .int .i64 y, .int .i64 0] := rfl
  rw [hl]
  clear hl
  have K11 := Aside0.mk (K10.out.aside (W' := w10.setRow b [Value.string t, .int .i64 a, .slice Al nl cl, .string h, .int .i64 y, .int .i64 0].toArray) (below_setRow' (Below.refl _ _) (by have := HLT.out; omega) _) (setRow_other _ _ _ _ (by have := HLT.out; omega)))
  have B11 := Aside0.mk (show Below B W (w10.setRow b [Value.string t, .int .i64 a, .slice Al nl cl, .string h, .int .i64 y, .int .i64 0].toArray) from below_setRow' B10.out (by have := HLT.out; omega) _)
  have P11 := Aside0.mk (show Kept W (w10.setRow b [Value.string t, .int .i64 a, .slice Al nl cl, .string h, .int .i64 y, .int .i64 0].toArray) (fun j => j = g) from ⟨by rw [setRow_size]; exact P10.out.1, fun j hj hn => (setRow_other _ _ _ _ (by have := HLT.out; omega)).trans (P10.out.2 j hj hn)⟩)
  have R11 := Aside0.mk (show Rt 40 b [Value.string t, .int .i64 a, .slice Al nl cl, .string h, .int .i64 y, .int .i64 0] (w10.setRow b [Value.string t, .int .i64 a, .slice Al nl cl, .string h, .int .i64 y, .int .i64 0].toArray) from R10.out.row _)
  have O11 := Aside0.mk (show Rt 40 S0 [Value.string ⟨#[]⟩, .int .i64 0, .slice none 0 0, .string ⟨#[]⟩, .int .i64 0, .int .i64 0] (w10.setRow b [Value.string t, .int .i64 a, .slice Al nl cl, .string h, .int .i64 y, .int .i64 0].toArray) from (setRow_other _ _ _ _ (by have := HLT.out; omega)).trans O10.out)
  have Ll_11 := Aside0.mk (LN_alive.row (b := b) Ll_10.out (by have := HLT.out; omega) [Value.string t, .int .i64 a, .slice Al nl cl, .string h, .int .i64 y, .int .i64 0].toArray)
  generalize w10.setRow b [Value.string t, .int .i64 a, .slice Al nl cl, .string h, .int .i64 y, .int .i64 0].toArray = w11 at *
  have cr5 := R11.out.cell 5 _ rfl
  have fr5 := R11.out.free 5
  go_wp2_with fail
  go_at_call 66
  refine (q_int K11.out).mono ?_
  rintro e w12 ⟨hb, hp, z, v, rfl, rfl, hx, hq⟩
  have Xz := Aside0.mk hx
  have K12 := Aside0.mk hq
  have B12 := Aside0.mk (show Below B W w12 from B11.out.trans (hb.mono (by have := HLT.out; omega)))
  have P12 := Aside0.mk (P11.out.then_ hp (fun _ h => .inl h))
  have R12 := Aside0.mk (show Rt 40 b [Value.string t, .int .i64 a, .slice Al nl cl, .string h, .int .i64 y, .int .i64 0] w12 from (hp.2 b R11.out.lt (by have := HLT.out; show b ≠ g; omega)).trans R11.out)
  have O12 := Aside0.mk (show Rt 40 S0 [Value.string ⟨#[]⟩, .int .i64 0, .slice none 0 0, .string ⟨#[]⟩, .int .i64 0, .int .i64 0] w12 from (hp.2 S0 O11.out.lt (by have := HLT.out; show S0 ≠ g; omega)).trans O11.out)
  have Ll_12 := Aside0.mk (LN_alive.kept Ll_11.out hp (fun j hj e => by have := HLT.out; omega))
  clear hb hp hx hq cr5 fr5
  have cr5 := R12.out.cell 5 _ rfl
  have fr5 := R12.out.free 5
  go_upto_region 8 with fail
  have e1 := R12.out.set 5 (.int .i64 z)
  rw [e1]
  clear e1 cr5 fr5
  have hl : [Value.string t, .int .i64 a, .slice Al nl cl, .string h, .int .i64 y, .int .i64 0].set 5 (.int .i64 z) = [Value.string t, .int .i64 a, .slice Al nl cl, .string h, .int .i64 y, .int .i64 z] := rfl
  rw [hl]
  clear hl
  have K13 := Aside0.mk (K12.out.aside (W' := w12.setRow b [Value.string t, .int .i64 a, .slice Al nl cl, .string h, .int .i64 y, .int .i64 z].toArray) (below_setRow' (Below.refl _ _) (by have := HLT.out; omega) _) (setRow_other _ _ _ _ (by have := HLT.out; omega)))
  have B13 := Aside0.mk (show Below B W (w12.setRow b [Value.string t, .int .i64 a, .slice Al nl cl, .string h, .int .i64 y, .int .i64 z].toArray) from below_setRow' B12.out (by have := HLT.out; omega) _)
  have P13 := Aside0.mk (show Kept W (w12.setRow b [Value.string t, .int .i64 a, .slice Al nl cl, .string h, .int .i64 y, .int .i64 z].toArray) (fun j => j = g) from ⟨by rw [setRow_size]; exact P12.out.1, fun j hj hn => (setRow_other _ _ _ _ (by have := HLT.out; omega)).trans (P12.out.2 j hj hn)⟩)
  have R13 := Aside0.mk (show Rt 40 b [Value.string t, .int .i64 a, .slice Al nl cl, .string h, .int .i64 y, .int .i64 z] (w12.setRow b [Value.string t, .int .i64 a, .slice Al nl cl, .string h, .int .i64 y, .int .i64 z].toArray) from R12.out.row _)
  have O13 := Aside0.mk (show Rt 40 S0 [Value.string ⟨#[]⟩, .int .i64 0, .slice none 0 0, .string ⟨#[]⟩, .int .i64 0, .int .i64 0] (w12.setRow b [Value.string t, .int .i64 a, .slice Al nl cl, .string h, .int .i64 y, .int .i64 z].toArray) from (setRow_other _ _ _ _ (by have := HLT.out; omega)).trans O12.out)
  have Ll_13 := Aside0.mk (LN_alive.row (b := b) Ll_12.out (by have := HLT.out; omega) [Value.string t, .int .i64 a, .slice Al nl cl, .string h, .int .i64 y, .int .i64 z].toArray)
  generalize w12.setRow b [Value.string t, .int .i64 a, .slice Al nl cl, .string h, .int .i64 y, .int .i64 z].toArray = w13 at *
  have HI := Aside0.mk (req_is K13.out Xt.out Xa.out Xl.out Xh.out Xy.out Xz.out)
  have x0 := R13.out.cell 0 _ rfl
  have z0 := O13.out.cell 0 _ rfl
  have f0 := O13.out.free 0
  have x1 := R13.out.cell 1 _ rfl
  have z1 := O13.out.cell 1 _ rfl
  have f1 := O13.out.free 1
  have x2 := R13.out.cell 2 _ rfl
  have z2 := O13.out.cell 2 _ rfl
  have f2 := O13.out.free 2
  have x3 := R13.out.cell 3 _ rfl
  have z3 := O13.out.cell 3 _ rfl
  have f3 := O13.out.free 3
  have x4 := R13.out.cell 4 _ rfl
  have z4 := O13.out.cell 4 _ rfl
  have f4 := O13.out.free 4
  have x5 := R13.out.cell 5 _ rfl
  have z5 := O13.out.cell 5 _ rfl
  have f5 := O13.out.free 5
  go_wp2_with fail
  rw [O13.out.full_req]
  have R3 : Rt 40 S0 [Value.string t, .int .i64 a, .slice Al nl cl, .string h, .int .i64 y, .int .i64 z] (w13.setRow S0 [Value.string t, .int .i64 a, .slice Al nl cl, .string h, .int .i64 y, .int .i64 z].toArray) := O13.out.row _
  refine bodyPost_ret (results_cell_row rfl _ _ S0 40 _ (0, 0) _ rfl R3 Try.underlying40 rfl (by kernel_rfl)) rfl ?_
  refine ⟨below_setRow' B13.out (by have := HLT.out; omega) _, ⟨by rw [setRow_size]; exact P13.out.1, fun j hj hn => (setRow_other _ _ _ _ (by have := HLT.out; omega)).trans (P13.out.2 j hj hn)⟩, ?_⟩
  refine ⟨⟨t, a, l, h, y, z⟩, _, rfl, ⟨Al, nl, cl, rfl, LN_alive.lower (LN_alive.row (b := S0) Ll_13.out (by have := HLT.out; omega) _) (by have := HLT.out; omega)⟩, HI.out.2, HI.out.1.aside (below_setRow' (Below.refl _ _) (by have := HLT.out; omega) _) (setRow_other _ _ _ _ (by have := HLT.out; omega))⟩
end Go.Proofs.Ytafmoglaockepaa.Cd
end
section
namespace Go.Proofs.Ytafmoglaockepaa.PG
open Go.RowKit Go.Proofs.Ytafmoglaockepaa.Mine Go.Proofs.YtafmoglaockepaaW.PrintWords Go.Proofs.YtafmoglaockepaaW.PrintLast Go.Proofs.YtafmoglaockepaaW.PrintMore
attribute [local go_sem] max2_int min2_int max_two min_two max_three min_three max_four min_four   -- for this text's walks alone
set_option linter.unusedVariables false
set_option linter.unusedSimpArgs false
end Go.Proofs.Ytafmoglaockepaa.PG
end
section
namespace Go.Proofs.Ytafmoglaockepaa.Cd
open Go Go.RowKit Go.Proofs.Ytafmoglaockepaa.Mine Go.Proofs.Ytafmoglaockepaa.Num Go.Proofs.Ytafmoglaockepaa.PG Go.Proofs.YtafmoglaockepaaW.PrintWords Go.Proofs.YtafmoglaockepaaW.PrintLast Go.Proofs.YtafmoglaockepaaW.PrintMore
set_option linter.unusedVariables false
set_option linter.unusedSimpArgs false
set_option maxHeartbeats 4000000
set_option maxRecDepth 100000
theorem sameLevels_l0 (l : List S28) (hl : l.length ≤ 9223372036854775807) : ∀ d i : Nat, i + d = l.length → larderref09_SameLevels.l0 (d + 1) l l (i : Int) = some true
  | 0, i, h => by
    unfold larderref09_SameLevels.l0
    rw [if_neg (by omega)]
  | d + 1, i, h => by
    unfold larderref09_SameLevels.l0
    rw [if_pos (by omega), if_pos (by omega), if_pos (by omega), w64n (by omega), sameLevels_l0 l hl d (i + 1) (by omega)]
    simp
theorem sameLevels_ok (l : List S28) (hl : l.length ≤ 9223372036854775807) : larderref09_SameLevels.f (l.length + 1) l l = some true := by
  unfold larderref09_SameLevels.f
  rw [if_pos rfl]
  exact sameLevels_l0 l hl l.length 0 (by omega)
def sumL (l : List S28) : Nat := (l.map fun x => 3 + x.f0.size).sum
theorem sumL_count : ∀ l : List S28, 3 * l.length ≤ sumL l
  | [] => by simp [sumL]
  | x :: l => by
    have := sumL_count l
    simp only [sumL, List.map_cons, List.sum_cons, List.length_cons] at this ⊢
    omega
theorem bulkL_sum : ∀ l : List S28, bulkL l ≤ 10 * sumL l
  | [] => by simp [bulkL, sumL]
  | x :: l => by
    have := bulkL_sum l
    simp only [sumL, bulkL, List.map_cons, List.sum_cons] at this ⊢
    omega
end Go.Proofs.Ytafmoglaockepaa.Cd
end
section
namespace Go.Proofs.Ytafmoglaockepaa.Cd
open Go Go.RowKit Go.Proofs.Ytafmoglaockepaa.Num Go.Proofs.Ytafmoglaockepaa.PG Go.Proofs.YtafmoglaockepaaW.PrintWords Go.Proofs.YtafmoglaockepaaW.PrintLast Go.Proofs.YtafmoglaockepaaW.PrintMore
set_option linter.unusedVariables false
set_option linter.unusedSimpArgs false
set_option maxHeartbeats 4000000
set_option maxRecDepth 100000
theorem sameLines_l0 (l : List S110) (hl : l.length ≤ 9223372036854775807) : ∀ d i k : Nat, d + 1 ≤ k → i + d = l.length → larderref09_SameLines.l0 k l l (i : Int) = some true
  | 0, i, k, hk, h => by
    obtain ⟨k, rfl⟩ : ∃ q, k = q + 1 := ⟨k - 1, by omega⟩
    unfold larderref09_SameLines.l0
    rw [if_neg (by omega)]
  | d + 1, i, k, hk, h => by
    obtain ⟨k, rfl⟩ : ∃ q, k = q + 1 := ⟨k - 1, by omega⟩
    unfold larderref09_SameLines.l0
    rw [if_pos (by omega), if_pos (by omega), if_pos (by omega), w64n (by omega), sameLines_l0 l hl d (i + 1) k (by omega) (by omega)]
    simp
theorem sameLines_ok (l : List S110) (hl : l.length ≤ 9223372036854775807) (k : Nat) (hk : l.length + 1 ≤ k) : larderref09_SameLines.f k l l = some true := by
  unfold larderref09_SameLines.f
  rw [if_pos rfl]
  exact sameLines_l0 l hl l.length 0 k hk (by omega)
theorem sameRequest_ok (q : S40) (hl : q.f2.length ≤ 9223372036854775807) (k : Nat) (hk : q.f2.length + 1 ≤ k) : larderref09_SameRequest.f k q.f0 q.f1 q.f2 q.f3 q.f4 q.f5 q.f0 q.f1 q.f2 q.f3 q.f4 q.f5 = some true := by
  unfold larderref09_SameRequest.f
  rw [if_pos rfl, if_pos rfl, sameLines_ok q.f2 hl k hk, Option.bind_some, if_pos rfl, if_pos rfl, if_pos rfl]
  simp
def sumN (l : List S110) : Nat := (l.map fun x => 2 + x.f0.size).sum
def sumQ (q : S40) : Nat := q.f0.size + q.f3.size + sumN q.f2
theorem sumN_count : ∀ l : List S110, 2 * l.length ≤ sumN l
  | [] => by simp [sumN]
  | x :: l => by
    have := sumN_count l
    simp only [sumN, List.map_cons, List.sum_cons, List.length_cons] at this ⊢
    omega
theorem sumN_cons (x : S110) (l : List S110) : sumN (x :: l) = 2 + x.f0.size + sumN l := by simp [sumN]
theorem bulkN_sum : ∀ l : List S110, bulkN l ≤ 10 * sumN l
  | [] => by simp [bulkN, sumN]
  | x :: l => by
    have := bulkN_sum l
    simp only [sumN, bulkN, List.map_cons, List.sum_cons] at this ⊢
    omega
theorem bulkQ_sum (q : S40) : bulkQ q ≤ 60 + 10 * sumQ q := by
  have := bulkN_sum q.f2
  unfold bulkQ sumQ
  omega
theorem weight_l0 (l : List S110) (z0 : ByteArray) (z1 : Int) (z3 : ByteArray) (z4 z5 : Int) (hll : l.length < 9223372036854775807) : ∀ (d i k s : Nat), d + 1 ≤ k → i + d = l.length → s + sumN (l.drop i) < 9223372036854775807 → larderlaw09_weight.l0 k (s : Int) (i : Int) z0 z1 l z3 z4 z5 = some ((s + sumN (l.drop i) : Nat) : Int)
  | 0, i, k, s, hk, h, hb => by
    obtain ⟨k, rfl⟩ : ∃ q, k = q + 1 := ⟨k - 1, by omega⟩
    unfold larderlaw09_weight.l0
    rw [if_neg (by omega), List.drop_of_length_le (by omega)]
    simp [sumN]
  | d + 1, i, k, s, hk, h, hb => by
    obtain ⟨k, rfl⟩ : ∃ q, k = q + 1 := ⟨k - 1, by omega⟩
    obtain ⟨x, hx⟩ : ∃ x, l[i]? = some x := ⟨_, List.getElem?_eq_getElem (by omega)⟩
    have he := drop_at hx
    rw [he, sumN_cons] at hb
    have ih := weight_l0 l z0 z1 z3 z4 z5 hll d (i + 1) k (s + 2 + x.f0.size) (by omega) (by omega) (by omega)
    have w1 : wrap64 ((s : Int) + 2) = ((s + 2 : Nat) : Int) := by unfold wrap64; omega
    have w2 : wrap64 (((s + 2 : Nat) : Int) + (x.f0.size : Int)) = ((s + 2 + x.f0.size : Nat) : Int) := by unfold wrap64; omega
    unfold larderlaw09_weight.l0
    rw [if_pos (by omega), if_pos (by omega), rd110 hx, w1, w2, w64n (by omega), ih, he, sumN_cons]
    congr 2
    omega
theorem weight_ok (q : S40) (hb : sumQ q < 9223372036854775807) (k : Nat) (hk : q.f2.length + 1 ≤ k) : larderlaw09_weight.f k q.f0 q.f1 q.f2 q.f3 q.f4 q.f5 = some (sumQ q : Int) := by
  have hc := sumN_count q.f2
  have hq : sumQ q = q.f0.size + q.f3.size + sumN q.f2 := rfl
  have := weight_l0 q.f2 q.f0 q.f1 q.f3 q.f4 q.f5 (by omega) q.f2.length 0 k (q.f0.size + q.f3.size) hk (by omega) (by rw [List.drop_zero]; omega)
  rw [List.drop_zero] at this
  have e0 : ((0 : Nat) : Int) = 0 := rfl
  rw [e0] at this
  unfold larderlaw09_weight.f
  rw [show wrap64 ((q.f0.size : Int) + (q.f3.size : Int)) = ((q.f0.size + q.f3.size : Nat) : Int) by unfold wrap64; omega, this, hq]
theorem sameState_at (x : StD) (Aal : Option Addr) (cal : Nat) (Aah : Option Addr) (cah : Nat) (Aad : Option Addr) (cad : Nat) (Abl : Option Addr) (cbl : Nat) (Abh : Option Addr) (cbh : Nat) (Abd : Option Addr) (cbd : Nat) (W : World) (hCal : Kd.C k28 W Aal x.f3.length x.f3) (hcal : x.f3.length ≤ cal) (hCah : Kd.C k121 W Aah x.f4.length x.f4) (hcah : x.f4.length ≤ cah) (hCad : Kd.C k123 W Aad x.f5.length x.f5) (hcad : x.f5.length ≤ cad) (hCbl : Kd.C k28 W Abl x.f3.length x.f3) (hcbl : x.f3.length ≤ cbl) (hCbh : Kd.C k121 W Abh x.f4.length x.f4) (hcbh : x.f4.length ≤ cbh) (hCbd : Kd.C k123 W Abd x.f5.length x.f5) (hcbd : x.f5.length ≤ cbd) :
    Calls Try.prog 36 #[.agg #[.int .i64 x.f0, .int .i64 x.f1, .int .i64 x.f2, .slice Aal x.f3.length cal, .slice Aah x.f4.length cah, .slice Aad x.f5.length cad], .agg #[.int .i64 x.f0, .int .i64 x.f1, .int .i64 x.f2, .slice Abl x.f3.length cbl, .slice Abh x.f4.length cbh, .slice Abd x.f5.length cbd]] W fun e w' => e = .returned (.bool true) ∧ Below W.heap.size W w' := by
  have HCal := Aside0.mk (fun W' (hb : Below W.heap.size W W') => Kd.C_below hCal hb)
  have Hcal := Aside0.mk hcal
  have HCah := Aside0.mk (fun W' (hb : Below W.heap.size W W') => Kd.C_below hCah hb)
  have Hcah := Aside0.mk hcah
  have HCad := Aside0.mk (fun W' (hb : Below W.heap.size W W') => Kd.C_below hCad hb)
  have Hcad := Aside0.mk hcad
  have HCbl := Aside0.mk (fun W' (hb : Below W.heap.size W W') => Kd.C_below hCbl hb)
  have Hcbl := Aside0.mk hcbl
  have HCbh := Aside0.mk (fun W' (hb : Below W.heap.size W W') => Kd.C_below hCbh hb)
  have Hcbh := Aside0.mk hcbh
  have HCbd := Aside0.mk (fun W' (hb : Below W.heap.size W W') => Kd.C_below hCbd hb)
  have Hcbd := Aside0.mk hcbd
  have hb1 : Below W.heap.size W (W.alloc (.cells #[.int .i64 x.f0, .int .i64 x.f1, .int .i64 x.f2, .slice Aal x.f3.length cal, .slice Aah x.f4.length cah, .slice Aad x.f5.length cad] 58)) := below_alloc (Below.refl _ _) _
  have r1 : Rt 58 W.heap.size [.int .i64 x.f0, .int .i64 x.f1, .int .i64 x.f2, .slice Aal x.f3.length cal, .slice Aah x.f4.length cah, .slice Aad x.f5.length cad] (W.alloc (.cells #[.int .i64 x.f0, .int .i64 x.f1, .int .i64 x.f2, .slice Aal x.f3.length cal, .slice Aah x.f4.length cah, .slice Aad x.f5.length cad] 58)) := heap_alloc_new W _
  have s1 : (W.alloc (.cells #[.int .i64 x.f0, .int .i64 x.f1, .int .i64 x.f2, .slice Aal x.f3.length cal, .slice Aah x.f4.length cah, .slice Aad x.f5.length cad] 58)).heap.size = W.heap.size + 1 := by simp
  obtain ⟨b, hbe⟩ : ∃ b, W.heap.size = b := ⟨_, rfl⟩
  have HBE := Aside0.mk hbe
  have BA := Aside0.mk (show Below b W (W.alloc (.cells #[.int .i64 x.f0, .int .i64 x.f1, .int .i64 x.f2, .slice Aal x.f3.length cal, .slice Aah x.f4.length cah, .slice Aad x.f5.length cad] 58)) by rw [← hbe]; exact hb1)
  rw [hbe] at r1 s1
  have RA := Aside0.mk r1
  have SA := Aside0.mk s1
  clear hb1 r1 s1 hbe hCal hcal hCah hcah hCad hcad hCbl hcbl hCbh hcbh hCbd hcbd
  go_enter Try.func36, Try.ntmps36
  go_upto_region 1 with fail
  have hbe := HBE.out
  have hab : (W.alloc (.cells #[.int .i64 x.f0, .int .i64 x.f1, .int .i64 x.f2, .slice Aal x.f3.length cal, .slice Aah x.f4.length cah, .slice Aad x.f5.length cad] 58)).heap.size = b + 1 := SA.out
  try rw [hab]
  try rw [hbe]
  clear hbe hab
  generalize W.alloc (.cells #[.int .i64 x.f0, .int .i64 x.f1, .int .i64 x.f2, .slice Aal x.f3.length cal, .slice Aah x.f4.length cah, .slice Aad x.f5.length cad] 58) = wa at *
  have hb2 : Below wa.heap.size wa (wa.alloc (.cells #[.int .i64 x.f0, .int .i64 x.f1, .int .i64 x.f2, .slice Abl x.f3.length cbl, .slice Abh x.f4.length cbh, .slice Abd x.f5.length cbd] 58)) := below_alloc (Below.refl _ _) _
  have r2 : Rt 58 wa.heap.size [.int .i64 x.f0, .int .i64 x.f1, .int .i64 x.f2, .slice Abl x.f3.length cbl, .slice Abh x.f4.length cbh, .slice Abd x.f5.length cbd] (wa.alloc (.cells #[.int .i64 x.f0, .int .i64 x.f1, .int .i64 x.f2, .slice Abl x.f3.length cbl, .slice Abh x.f4.length cbh, .slice Abd x.f5.length cbd] 58)) := heap_alloc_new wa _
  have R1 := Aside0.mk (RA.out.below hb2)
  have B1 := Aside0.mk (BA.out.trans (hb2.mono (by have := SA.out; omega)))
  have S1 := Aside0.mk (show b + 2 ≤ (wa.alloc (.cells #[.int .i64 x.f0, .int .i64 x.f1, .int .i64 x.f2, .slice Abl x.f3.length cbl, .slice Abh x.f4.length cbh, .slice Abd x.f5.length cbd] 58)).heap.size by have := SA.out; simp; omega)
  rw [SA.out] at r2
  have O1 := Aside0.mk r2
  clear hb2 r2
  try rw [SA.out]
  generalize wa.alloc (.cells #[.int .i64 x.f0, .int .i64 x.f1, .int .i64 x.f2, .slice Abl x.f3.length cbl, .slice Abh x.f4.length cbh, .slice Abd x.f5.length cbd] 58) = w1 at *
  have HSL := Aside0.mk (larderref09_SameLevels.calls _ Aal cal x.f3 Abl cbl x.f3 true w1 (HCal.out w1 (by rw [HBE.out]; exact B1.out)) Hcal.out (HCbl.out w1 (by rw [HBE.out]; exact B1.out)) Hcbl.out (sameLevels_ok x.f3 (HCal.out W (Below.refl _ _)).2.1))
  have HLN := Aside0.mk (And.intro (HCah.out W (Below.refl _ _)).2.1 (HCad.out W (Below.refl _ _)).2.1)
  have c0 := R1.out.cell 0 _ rfl
  have d0 := O1.out.cell 0 _ rfl
  have c1 := R1.out.cell 1 _ rfl
  have d1 := O1.out.cell 1 _ rfl
  have c2 := R1.out.cell 2 _ rfl
  have d2 := O1.out.cell 2 _ rfl
  have c3 := R1.out.cell 3 _ rfl
  have d3 := O1.out.cell 3 _ rfl
  have c4 := R1.out.cell 4 _ rfl
  have d4 := O1.out.cell 4 _ rfl
  have c5 := R1.out.cell 5 _ rfl
  have d5 := O1.out.cell 5 _ rfl
  have u0 : (x.f0 != x.f0) = false := by simp
  have u1 : (x.f1 != x.f1) = false := by simp
  have u2 : (x.f2 != x.f2) = false := by simp
  have u3 : ((x.f4.length : Int) != (x.f4.length : Int)) = false := by simp
  have u4 : ((x.f5.length : Int) != (x.f5.length : Int)) = false := by simp
  go_wp2_with fail
  go_at_call 13
  refine HSL.out.mono ?_
  rintro e w2 ⟨rfl, hd⟩
  have hb : Below w1.heap.size w1 w2 := by
    obtain ⟨md, rfl⟩ := hd
    exact pw_below_drewN (Below.refl _ _) md
  have R2 := Aside0.mk (R1.out.below hb)
  have O2 := Aside0.mk (O1.out.below hb)
  have B2 := Aside0.mk (B1.out.trans (hb.mono (by have := S1.out; omega)))
  clear hd hb HSL c0 d0 c1 d1 c2 d2 c3 d3 c4 d4 c5 d5
  have c3 := R2.out.cell 3 _ rfl
  have d3 := O2.out.cell 3 _ rfl
  have c4 := R2.out.cell 4 _ rfl
  have d4 := O2.out.cell 4 _ rfl
  have c5 := R2.out.cell 5 _ rfl
  have d5 := O2.out.cell 5 _ rfl
  go_wp2_with fail
  clear c3 d3 c4 d4 c5 d5
  go_loopw [5] (fun p wr => ∃ i : Nat, p = .int .i64 (i : Int) ∧ Aside0 (i ≤ x.f4.length) ∧ Aside0 (Below b W wr) ∧ Aside0 (Rt 58 b [.int .i64 x.f0, .int .i64 x.f1, .int .i64 x.f2, .slice Aal x.f3.length cal, .slice Aah x.f4.length cah, .slice Aad x.f5.length cad] wr) ∧ Aside0 (Rt 58 (b + 1) [.int .i64 x.f0, .int .i64 x.f1, .int .i64 x.f2, .slice Abl x.f3.length cbl, .slice Abh x.f4.length cbh, .slice Abd x.f5.length cbd] wr)) (fun p _ => x.f4.length - (intOf p).toNat)
  · exact ⟨0, rfl, ⟨Nat.zero_le _⟩, B2, R2, O2⟩
  · obtain ⟨i, rfl, HI, HBr, HRr, HOr⟩ := hrel
    by_cases ci : i < x.f4.length
    rotate_left
    · have ci1 : decide ((i : Int) < (x.f4.length : Int)) = false := decide_eq_false (by omega)
      have ci3 : decide (i < x.f4.length) = false := decide_eq_false ci
      have c4 := HRr.out.cell 4 _ rfl
      obtain ⟨wq, hwq⟩ : ∃ wq, wq = wr := ⟨_, rfl⟩
      subst hwq
      have R3 := Aside0.mk HRr.out
      have O3 := Aside0.mk HOr.out
      have B3 := Aside0.mk HBr.out
      clear ci HI HRr HOr HBr
      go_wp2_with fail
      clear c4
      go_loopw [6] (fun p wr => ∃ i : Nat, p = .int .i64 (i : Int) ∧ Aside0 (i ≤ x.f5.length) ∧ Aside0 (Below b W wr) ∧ Aside0 (Rt 58 b [.int .i64 x.f0, .int .i64 x.f1, .int .i64 x.f2, .slice Aal x.f3.length cal, .slice Aah x.f4.length cah, .slice Aad x.f5.length cad] wr) ∧ Aside0 (Rt 58 (b + 1) [.int .i64 x.f0, .int .i64 x.f1, .int .i64 x.f2, .slice Abl x.f3.length cbl, .slice Abh x.f4.length cbh, .slice Abd x.f5.length cbd] wr)) (fun p _ => x.f5.length - (intOf p).toNat)
      · exact ⟨0, rfl, ⟨Nat.zero_le _⟩, B3, R3, O3⟩
      · obtain ⟨i, rfl, HI, HBr, HRr, HOr⟩ := hrel
        by_cases ci : i < x.f5.length
        rotate_left
        · have ci1 : decide ((i : Int) < (x.f5.length : Int)) = false := decide_eq_false (by omega)
          have ci3 : decide (i < x.f5.length) = false := decide_eq_false ci
          have c5 := HRr.out.cell 5 _ rfl
          obtain ⟨wq, hwq⟩ : ∃ wq, wq = wr := ⟨_, rfl⟩
          subst hwq
          have R3 := Aside0.mk HRr.out
          have O3 := Aside0.mk HOr.out
          have B3 := Aside0.mk HBr.out
          clear ci HI HRr HOr HBr
          go_wp2_with fail
          go_ret
          rw [HBE.out]
          exact ⟨rfl, B3.out⟩
        have ci1 : decide ((i : Int) < (x.f5.length : Int)) = true := decide_eq_true (by omega)
        have ci2 : (i : Int) < (x.f5.length : Int) := by omega
        have ci3 : (0 : Int) ≤ (i : Int) := by omega
        have hw1 : wrap64 ((i : Int) + 1) = ((i + 1 : Nat) : Int) := by have := HLN.out; unfold wrap64; omega
        obtain ⟨y, hy⟩ : ∃ y, x.f5[i]? = some y := ⟨_, List.getElem?_eq_getElem ci⟩
        have hrd : rd_T123 x.f5 (i : Int) = y := by unfold rd_T123; rw [Int.toNat_natCast, List.getD_eq_getElem?_getD, hy]; rfl
        have hCA := HCad.out wr (by rw [HBE.out]; exact HBr.out)
        have hCB := HCbd.out wr (by rw [HBE.out]; exact HBr.out)
        obtain ⟨ad, A1, c1, e1, d0, d1, d2, d3, d4, d5, d6, hle, hcx⟩ := at_T123 hCA (i : Int) ci3 ci2
        obtain ⟨ad', A1', c1', e1', d0', d1', d2', d3', d4', d5', d6', hle', hcx'⟩ := at_T123 hCB (i : Int) ci3 ci2
        subst e1 e1'
        rw [hrd] at d0 d1 d2 d3 d4 d5 d6 hle hcx d0' d1' d2' d3' d4' d5' d6' hle' hcx'
        rw [Int.toNat_natCast] at d0 d1 d2 d3 d4 d5 d6 d0' d1' d2' d3' d4' d5' d6'
        have HX := Aside0.mk (And.intro hle (And.intro hcx (And.intro hle' hcx')))
        have q5 := HRr.out.cell 5 _ rfl
        have p5 := HOr.out.cell 5 _ rfl
        have HSZ := Aside0.mk (show b + 2 ≤ wr.heap.size by have := HOr.out.lt; omega)
        have MKS := Aside0.mk (show ∀ w', Below wr.heap.size wr w' → (fun w' : World => w'.cell? ⟨b, 5, none⟩ = some (.slice (some ad) x.f5.length cad) ∧ w'.cell? ⟨b + 1, 5, none⟩ = some (.slice (some ad') x.f5.length cbd) ∧ w'.cell? (ad.add (i * 7)) = some (.string y.f0.f0) ∧ w'.cell? ⟨(ad.add (i * 7)).block, (ad.add (i * 7)).off + 1, none⟩ = some (.int .i64 y.f0.f1) ∧ w'.cell? ⟨(ad.add (i * 7)).block, (ad.add (i * 7)).off + 2, none⟩ = some (.slice A1 y.f0.f2.length c1) ∧ w'.cell? ⟨(ad.add (i * 7)).block, (ad.add (i * 7)).off + 3, none⟩ = some (.string y.f0.f3) ∧ w'.cell? ⟨(ad.add (i * 7)).block, (ad.add (i * 7)).off + 4, none⟩ = some (.int .i64 y.f0.f4) ∧ w'.cell? ⟨(ad.add (i * 7)).block, (ad.add (i * 7)).off + 5, none⟩ = some (.int .i64 y.f0.f5) ∧ w'.cell? ⟨(ad.add (i * 7)).block, (ad.add (i * 7)).off + 6, none⟩ = some (.int .i64 y.f1) ∧ w'.cell? (ad'.add (i * 7)) = some (.string y.f0.f0) ∧ w'.cell? ⟨(ad'.add (i * 7)).block, (ad'.add (i * 7)).off + 1, none⟩ = some (.int .i64 y.f0.f1) ∧ w'.cell? ⟨(ad'.add (i * 7)).block, (ad'.add (i * 7)).off + 2, none⟩ = some (.slice A1' y.f0.f2.length c1') ∧ w'.cell? ⟨(ad'.add (i * 7)).block, (ad'.add (i * 7)).off + 3, none⟩ = some (.string y.f0.f3) ∧ w'.cell? ⟨(ad'.add (i * 7)).block, (ad'.add (i * 7)).off + 4, none⟩ = some (.int .i64 y.f0.f4) ∧ w'.cell? ⟨(ad'.add (i * 7)).block, (ad'.add (i * 7)).off + 5, none⟩ = some (.int .i64 y.f0.f5) ∧ w'.cell? ⟨(ad'.add (i * 7)).block, (ad'.add (i * 7)).off + 6, none⟩ = some (.int .i64 y.f1)) w' from fun w' hb => ⟨cell_up hb q5, cell_up hb p5, cell_up hb d0, cell_up hb d1, cell_up hb d2, cell_up hb d3, cell_up hb d4, cell_up hb d5, cell_up hb d6, cell_up hb d0', cell_up hb d1', cell_up hb d2', cell_up hb d3', cell_up hb d4', cell_up hb d5', cell_up hb d6'⟩)
        have HF := Aside0.mk (show ∀ w', Below wr.heap.size wr w' → Calls Try.prog 26 #[.agg #[.string y.f0.f0, .int .i64 y.f0.f1, .slice A1 y.f0.f2.length c1, .string y.f0.f3, .int .i64 y.f0.f4, .int .i64 y.f0.f5], .agg #[.string y.f0.f0, .int .i64 y.f0.f1, .slice A1' y.f0.f2.length c1', .string y.f0.f3, .int .i64 y.f0.f4, .int .i64 y.f0.f5]] w' fun e w2 => e = .returned (.bool true) ∧ Below w'.heap.size w' w2 from fun w' hb => larderref09_SameRequest.calls (y.f0.f2.length + 1) y.f0.f0 y.f0.f1 A1 c1 y.f0.f2 y.f0.f3 y.f0.f4 y.f0.f5 y.f0.f0 y.f0.f1 A1' c1' y.f0.f2 y.f0.f3 y.f0.f4 y.f0.f5 true w' (Kd.C_below HX.out.2.1 hb) HX.out.1 (Kd.C_below HX.out.2.2.2 hb) HX.out.2.2.1 (sameRequest_ok y.f0 HX.out.2.1.2.1 _ (Nat.le_refl _)))
        clear hrd hy hCA hCB hle hcx hle' hcx' q5 p5 d0 d1 d2 d3 d4 d5 d6 d0' d1' d2' d3' d4' d5' d6'
        have q5 := HRr.out.cell 5 _ rfl
        go_upto_region 11 with fail
        clear q5
        refine wp_region_held_drew (S := fun w' : World => w'.cell? ⟨b, 5, none⟩ = some (.slice (some ad) x.f5.length cad) ∧ w'.cell? ⟨b + 1, 5, none⟩ = some (.slice (some ad') x.f5.length cbd) ∧ w'.cell? (ad.add (i * 7)) = some (.string y.f0.f0) ∧ w'.cell? ⟨(ad.add (i * 7)).block, (ad.add (i * 7)).off + 1, none⟩ = some (.int .i64 y.f0.f1) ∧ w'.cell? ⟨(ad.add (i * 7)).block, (ad.add (i * 7)).off + 2, none⟩ = some (.slice A1 y.f0.f2.length c1) ∧ w'.cell? ⟨(ad.add (i * 7)).block, (ad.add (i * 7)).off + 3, none⟩ = some (.string y.f0.f3) ∧ w'.cell? ⟨(ad.add (i * 7)).block, (ad.add (i * 7)).off + 4, none⟩ = some (.int .i64 y.f0.f4) ∧ w'.cell? ⟨(ad.add (i * 7)).block, (ad.add (i * 7)).off + 5, none⟩ = some (.int .i64 y.f0.f5) ∧ w'.cell? ⟨(ad.add (i * 7)).block, (ad.add (i * 7)).off + 6, none⟩ = some (.int .i64 y.f1) ∧ w'.cell? (ad'.add (i * 7)) = some (.string y.f0.f0) ∧ w'.cell? ⟨(ad'.add (i * 7)).block, (ad'.add (i * 7)).off + 1, none⟩ = some (.int .i64 y.f0.f1) ∧ w'.cell? ⟨(ad'.add (i * 7)).block, (ad'.add (i * 7)).off + 2, none⟩ = some (.slice A1' y.f0.f2.length c1') ∧ w'.cell? ⟨(ad'.add (i * 7)).block, (ad'.add (i * 7)).off + 3, none⟩ = some (.string y.f0.f3) ∧ w'.cell? ⟨(ad'.add (i * 7)).block, (ad'.add (i * 7)).off + 4, none⟩ = some (.int .i64 y.f0.f4) ∧ w'.cell? ⟨(ad'.add (i * 7)).block, (ad'.add (i * 7)).off + 5, none⟩ = some (.int .i64 y.f0.f5) ∧ w'.cell? ⟨(ad'.add (i * 7)).block, (ad'.add (i * 7)).off + 6, none⟩ = some (.int .i64 y.f1)) (by kernel_rfl) (MKS.out _ (below_drew (Below.refl _ _))) (fun hHeld => ?_)
        refine tk (i := 0) (oi := { dst := some 110, op := Op.fieldAddr 58 (Operand.tmp 2) 5, type := 0, pos := "same.go:59", after := #[], guard := none }) (v := ?_) (.inl ⟨by rfl, ?_⟩) hHeld ?_
        rotate_left
        · intro w' hS; obtain ⟨hS0, hS1, hS2, hS3, hS4, hS5, hS6, hS7, hS8, hS9, hS10, hS11, hS12, hS13, hS14, hS15⟩ := hS; go_simp; all_goals (with_reducible rfl)
        (try simp only [pz])
        refine tk (i := 1) (oi := { dst := some 111, op := Op.load 56 (Operand.tmp 110), type := 56, pos := "same.go:59", after := #[(eD 0)], guard := none }) (v := ?_) (.inl ⟨by rfl, ?_⟩) hHeld ?_
        rotate_left
        · intro w' hS; obtain ⟨hS0, hS1, hS2, hS3, hS4, hS5, hS6, hS7, hS8, hS9, hS10, hS11, hS12, hS13, hS14, hS15⟩ := hS; go_simp; all_goals (with_reducible rfl)
        (try simp only [pz])
        refine tk (i := 2) (oi := { dst := some 112, op := Op.move (Operand.tmp 6), type := 3, pos := "same.go:59", after := #[], guard := none }) (v := ?_) (.inl ⟨by rfl, ?_⟩) hHeld ?_
        rotate_left
        · intro w' hS; obtain ⟨hS0, hS1, hS2, hS3, hS4, hS5, hS6, hS7, hS8, hS9, hS10, hS11, hS12, hS13, hS14, hS15⟩ := hS; go_simp; all_goals (with_reducible rfl)
        (try simp only [pz])
        refine tk (i := 3) (oi := { dst := some 113, op := Op.indexAddr 56 (Operand.tmp 111) (Operand.tmp 112), type := 0, pos := "same.go:59", after := #[(eD 1), (eD 2)], guard := none }) (v := ?_) (.inl ⟨by rfl, ?_⟩) hHeld ?_
        rotate_left
        · intro w' hS; obtain ⟨hS0, hS1, hS2, hS3, hS4, hS5, hS6, hS7, hS8, hS9, hS10, hS11, hS12, hS13, hS14, hS15⟩ := hS; go_simp; all_goals (with_reducible rfl)
        (try simp only [pz])
        refine tk (i := 4) (oi := { dst := some 114, op := Op.fieldAddr 123 (Operand.tmp 113) 1, type := 0, pos := "same.go:59", after := #[(eD 3)], guard := none }) (v := ?_) (.inl ⟨by rfl, ?_⟩) hHeld ?_
        rotate_left
        · intro w' hS; obtain ⟨hS0, hS1, hS2, hS3, hS4, hS5, hS6, hS7, hS8, hS9, hS10, hS11, hS12, hS13, hS14, hS15⟩ := hS; go_simp; all_goals (with_reducible rfl)
        (try simp only [pz])
        refine tk (i := 5) (oi := { dst := some 115, op := Op.load 3 (Operand.tmp 114), type := 3, pos := "same.go:59", after := #[(eD 4)], guard := none }) (v := ?_) (.inl ⟨by rfl, ?_⟩) hHeld ?_
        rotate_left
        · intro w' hS; obtain ⟨hS0, hS1, hS2, hS3, hS4, hS5, hS6, hS7, hS8, hS9, hS10, hS11, hS12, hS13, hS14, hS15⟩ := hS; go_simp; all_goals (with_reducible rfl)
        (try simp only [pz])
        refine tk (i := 6) (oi := { dst := some 116, op := Op.fieldAddr 58 (Operand.tmp 3) 5, type := 0, pos := "same.go:59", after := #[], guard := none }) (v := ?_) (.inl ⟨by rfl, ?_⟩) hHeld ?_
        rotate_left
        · intro w' hS; obtain ⟨hS0, hS1, hS2, hS3, hS4, hS5, hS6, hS7, hS8, hS9, hS10, hS11, hS12, hS13, hS14, hS15⟩ := hS; go_simp; all_goals (with_reducible rfl)
        (try simp only [pz])
        refine tk (i := 7) (oi := { dst := some 117, op := Op.load 56 (Operand.tmp 116), type := 56, pos := "same.go:59", after := #[(eD 6)], guard := none }) (v := ?_) (.inl ⟨by rfl, ?_⟩) hHeld ?_
        rotate_left
        · intro w' hS; obtain ⟨hS0, hS1, hS2, hS3, hS4, hS5, hS6, hS7, hS8, hS9, hS10, hS11, hS12, hS13, hS14, hS15⟩ := hS; go_simp; all_goals (with_reducible rfl)
        (try simp only [pz])
        refine tk (i := 8) (oi := { dst := some 118, op := Op.move (Operand.tmp 6), type := 3, pos := "same.go:59", after := #[], guard := none }) (v := ?_) (.inl ⟨by rfl, ?_⟩) hHeld ?_
        rotate_left
        · intro w' hS; obtain ⟨hS0, hS1, hS2, hS3, hS4, hS5, hS6, hS7, hS8, hS9, hS10, hS11, hS12, hS13, hS14, hS15⟩ := hS; go_simp; all_goals (with_reducible rfl)
        (try simp only [pz])
        refine tk (i := 9) (oi := { dst := some 119, op := Op.indexAddr 56 (Operand.tmp 117) (Operand.tmp 118), type := 0, pos := "same.go:59", after := #[(eD 7), (eD 8)], guard := none }) (v := ?_) (.inl ⟨by rfl, ?_⟩) hHeld ?_
        rotate_left
        · intro w' hS; obtain ⟨hS0, hS1, hS2, hS3, hS4, hS5, hS6, hS7, hS8, hS9, hS10, hS11, hS12, hS13, hS14, hS15⟩ := hS; go_simp; all_goals (with_reducible rfl)
        (try simp only [pz])
        refine tk (i := 10) (oi := { dst := some 120, op := Op.fieldAddr 123 (Operand.tmp 119) 1, type := 0, pos := "same.go:59", after := #[(eD 9)], guard := none }) (v := ?_) (.inl ⟨by rfl, ?_⟩) hHeld ?_
        rotate_left
        · intro w' hS; obtain ⟨hS0, hS1, hS2, hS3, hS4, hS5, hS6, hS7, hS8, hS9, hS10, hS11, hS12, hS13, hS14, hS15⟩ := hS; go_simp; all_goals (with_reducible rfl)
        (try simp only [pz])
        refine tk (i := 11) (oi := { dst := some 121, op := Op.load 3 (Operand.tmp 120), type := 3, pos := "same.go:59", after := #[(eD 10)], guard := none }) (v := ?_) (.inl ⟨by rfl, ?_⟩) hHeld ?_
        rotate_left
        · intro w' hS; obtain ⟨hS0, hS1, hS2, hS3, hS4, hS5, hS6, hS7, hS8, hS9, hS10, hS11, hS12, hS13, hS14, hS15⟩ := hS; go_simp; all_goals (with_reducible rfl)
        (try simp only [pz])
        refine tk (i := 12) (oi := { dst := some 122, op := Op.binOp BinOp.neq 3 (Operand.tmp 115) (Operand.tmp 121) 3, type := 4, pos := "same.go:59", after := #[(eD 5), (eD 11)], guard := none }) (v := ?_) (.inl ⟨by rfl, ?_⟩) hHeld ?_
        rotate_left
        · intro w' hS; obtain ⟨hS0, hS1, hS2, hS3, hS4, hS5, hS6, hS7, hS8, hS9, hS10, hS11, hS12, hS13, hS14, hS15⟩ := hS; go_simp; all_goals (with_reducible rfl)
        (try simp only [pz])
        refine tk (i := 13) (oi := { dst := some 123, op := Op.move (Operand.tmp 122), type := 4, pos := "same.go:59", after := #[(eD 12)], guard := none }) (v := ?_) (.inl ⟨by rfl, ?_⟩) hHeld ?_
        rotate_left
        · intro w' hS; obtain ⟨hS0, hS1, hS2, hS3, hS4, hS5, hS6, hS7, hS8, hS9, hS10, hS11, hS12, hS13, hS14, hS15⟩ := hS; go_simp; all_goals (with_reducible rfl)
        (try simp only [pz])
        refine tk (i := 14) (oi := { dst := some 124, op := Op.fieldAddr 58 (Operand.tmp 2) 5, type := 0, pos := "same.go:59", after := #[(eG 13)], guard := some (13, false) }) (v := ?_) (.inl ⟨by rfl, ?_⟩) hHeld ?_
        rotate_left
        · intro w' hS; obtain ⟨hS0, hS1, hS2, hS3, hS4, hS5, hS6, hS7, hS8, hS9, hS10, hS11, hS12, hS13, hS14, hS15⟩ := hS; go_simp; all_goals (with_reducible rfl)
        (try simp only [pz])
        refine tk (i := 15) (oi := { dst := some 125, op := Op.load 56 (Operand.tmp 124), type := 56, pos := "same.go:59", after := #[(eD 14), (eG 13)], guard := some (13, false) }) (v := ?_) (.inl ⟨by rfl, ?_⟩) hHeld ?_
        rotate_left
        · intro w' hS; obtain ⟨hS0, hS1, hS2, hS3, hS4, hS5, hS6, hS7, hS8, hS9, hS10, hS11, hS12, hS13, hS14, hS15⟩ := hS; go_simp; all_goals (with_reducible rfl)
        (try simp only [pz])
        refine tk (i := 16) (oi := { dst := some 126, op := Op.move (Operand.tmp 6), type := 3, pos := "same.go:59", after := #[(eG 13)], guard := some (13, false) }) (v := ?_) (.inl ⟨by rfl, ?_⟩) hHeld ?_
        rotate_left
        · intro w' hS; obtain ⟨hS0, hS1, hS2, hS3, hS4, hS5, hS6, hS7, hS8, hS9, hS10, hS11, hS12, hS13, hS14, hS15⟩ := hS; go_simp; all_goals (with_reducible rfl)
        (try simp only [pz])
        refine tk (i := 17) (oi := { dst := some 127, op := Op.indexAddr 56 (Operand.tmp 125) (Operand.tmp 126), type := 0, pos := "same.go:59", after := #[(eD 15), (eD 16), (eG 13)], guard := some (13, false) }) (v := ?_) (.inl ⟨by rfl, ?_⟩) hHeld ?_
        rotate_left
        · intro w' hS; obtain ⟨hS0, hS1, hS2, hS3, hS4, hS5, hS6, hS7, hS8, hS9, hS10, hS11, hS12, hS13, hS14, hS15⟩ := hS; go_simp; all_goals (with_reducible rfl)
        (try simp only [pz])
        refine tk (i := 18) (oi := { dst := some 128, op := Op.fieldAddr 123 (Operand.tmp 127) 0, type := 0, pos := "same.go:59", after := #[(eD 17), (eG 13)], guard := some (13, false) }) (v := ?_) (.inl ⟨by rfl, ?_⟩) hHeld ?_
        rotate_left
        · intro w' hS; obtain ⟨hS0, hS1, hS2, hS3, hS4, hS5, hS6, hS7, hS8, hS9, hS10, hS11, hS12, hS13, hS14, hS15⟩ := hS; go_simp; all_goals (with_reducible rfl)
        (try simp only [pz])
        refine tk (i := 19) (oi := { dst := some 129, op := Op.load 40 (Operand.tmp 128), type := 40, pos := "same.go:59", after := #[(eD 18), (eG 13)], guard := some (13, false) }) (v := ?_) (.inl ⟨by rfl, ?_⟩) hHeld ?_
        rotate_left
        · intro w' hS; obtain ⟨hS0, hS1, hS2, hS3, hS4, hS5, hS6, hS7, hS8, hS9, hS10, hS11, hS12, hS13, hS14, hS15⟩ := hS; go_simp; all_goals (with_reducible rfl)
        (try simp only [pz])
        refine tk (i := 20) (oi := { dst := some 130, op := Op.fieldAddr 58 (Operand.tmp 3) 5, type := 0, pos := "same.go:59", after := #[(eG 13)], guard := some (13, false) }) (v := ?_) (.inl ⟨by rfl, ?_⟩) hHeld ?_
        rotate_left
        · intro w' hS; obtain ⟨hS0, hS1, hS2, hS3, hS4, hS5, hS6, hS7, hS8, hS9, hS10, hS11, hS12, hS13, hS14, hS15⟩ := hS; go_simp; all_goals (with_reducible rfl)
        (try simp only [pz])
        refine tk (i := 21) (oi := { dst := some 131, op := Op.load 56 (Operand.tmp 130), type := 56, pos := "same.go:59", after := #[(eD 20), (eG 13)], guard := some (13, false) }) (v := ?_) (.inl ⟨by rfl, ?_⟩) hHeld ?_
        rotate_left
        · intro w' hS; obtain ⟨hS0, hS1, hS2, hS3, hS4, hS5, hS6, hS7, hS8, hS9, hS10, hS11, hS12, hS13, hS14, hS15⟩ := hS; go_simp; all_goals (with_reducible rfl)
        (try simp only [pz])
        refine tk (i := 22) (oi := { dst := some 132, op := Op.move (Operand.tmp 6), type := 3, pos := "same.go:59", after := #[(eG 13)], guard := some (13, false) }) (v := ?_) (.inl ⟨by rfl, ?_⟩) hHeld ?_
        rotate_left
        · intro w' hS; obtain ⟨hS0, hS1, hS2, hS3, hS4, hS5, hS6, hS7, hS8, hS9, hS10, hS11, hS12, hS13, hS14, hS15⟩ := hS; go_simp; all_goals (with_reducible rfl)
        (try simp only [pz])
        refine tk (i := 23) (oi := { dst := some 133, op := Op.indexAddr 56 (Operand.tmp 131) (Operand.tmp 132), type := 0, pos := "same.go:59", after := #[(eD 21), (eD 22), (eG 13)], guard := some (13, false) }) (v := ?_) (.inl ⟨by rfl, ?_⟩) hHeld ?_
        rotate_left
        · intro w' hS; obtain ⟨hS0, hS1, hS2, hS3, hS4, hS5, hS6, hS7, hS8, hS9, hS10, hS11, hS12, hS13, hS14, hS15⟩ := hS; go_simp; all_goals (with_reducible rfl)
        (try simp only [pz])
        refine tk (i := 24) (oi := { dst := some 134, op := Op.fieldAddr 123 (Operand.tmp 133) 0, type := 0, pos := "same.go:59", after := #[(eD 23), (eG 13)], guard := some (13, false) }) (v := ?_) (.inl ⟨by rfl, ?_⟩) hHeld ?_
        rotate_left
        · intro w' hS; obtain ⟨hS0, hS1, hS2, hS3, hS4, hS5, hS6, hS7, hS8, hS9, hS10, hS11, hS12, hS13, hS14, hS15⟩ := hS; go_simp; all_goals (with_reducible rfl)
        (try simp only [pz])
        refine tk (i := 25) (oi := { dst := some 135, op := Op.load 40 (Operand.tmp 134), type := 40, pos := "same.go:59", after := #[(eD 24), (eG 13)], guard := some (13, false) }) (v := ?_) (.inl ⟨by rfl, ?_⟩) hHeld ?_
        rotate_left
        · intro w' hS; obtain ⟨hS0, hS1, hS2, hS3, hS4, hS5, hS6, hS7, hS8, hS9, hS10, hS11, hS12, hS13, hS14, hS15⟩ := hS; go_simp; all_goals (with_reducible rfl)
        (try simp only [pz])
        refine wpAnyH_ready (rs := [26]) (by kernel_rfl) (by simp) ?_
        refine AllReadyH.cons (o := { dst := some 136, op := Op.call { callee := Callee.value (Operand.func 26), args := #[Operand.tmp 129, Operand.tmp 135], argTypes := #[40, 40] }, type := 4, pos := "same.go:59", after := #[(eD 19), (eD 25), (eC 13), (eG 13)], guard := some (13, false) }) rfl (fun K hK => ?_) AllReadyH.nil
        go_simp
        go_at_call 26
        refine (HF.out _ (below_drew (Below.refl _ _))).mono ?_
        rintro e wz ⟨rfl, hd⟩
        have HBZ := Aside0.mk (show Below wr.heap.size wr wz from (below_drew (Below.refl _ _)).trans (hd.mono (Nat.le_refl _)))
        clear hd
        refine hK.out _ _ (MKS.out _ HBZ.out) (fun hHeld => ?_)
        clear hK K
        (try simp only [pz])
        refine tk (i := 27) (oi := { dst := some 137, op := Op.unOp UnOp.not 4 (Operand.tmp 136), type := 4, pos := "same.go:59", after := #[(eD 26), (eG 13)], guard := some (13, false) }) (v := ?_) (.inl ⟨by rfl, ?_⟩) hHeld ?_
        rotate_left
        · intro w' hS; obtain ⟨hS0, hS1, hS2, hS3, hS4, hS5, hS6, hS7, hS8, hS9, hS10, hS11, hS12, hS13, hS14, hS15⟩ := hS; go_simp; all_goals (with_reducible rfl)
        (try simp only [pz])
        refine tk (i := 28) (oi := { dst := some 138, op := Op.pick (Operand.tmp 123) (Operand.const (Value.bool true)) (Operand.tmp 137), type := 4, pos := "same.go:59", after := #[(eD 13), (eD 27)], guard := none }) (v := ?_) (.inl ⟨by rfl, ?_⟩) hHeld ?_
        rotate_left
        · intro w' hS; obtain ⟨hS0, hS1, hS2, hS3, hS4, hS5, hS6, hS7, hS8, hS9, hS10, hS11, hS12, hS13, hS14, hS15⟩ := hS; go_simp; all_goals (with_reducible rfl)
        (try simp only [pz])
        refine wpAnyH_done (by kernel_rfl) ?_ _
        (try simp only [pz])
        have HB9 := Aside0.mk (show Below b W wz from HBr.out.trans (HBZ.out.mono (by have := HSZ.out; omega)))
        have R9 := Aside0.mk (HRr.out.below HBZ.out)
        have O9 := Aside0.mk (HOr.out.below HBZ.out)
        clear HF MKS HBZ HRr HOr HBr
        go_wp2_with fail
        refine ⟨⟨i + 1, congrArg (Value.int .i64) (by omega), ⟨ci⟩, HB9, R9, O9⟩, ?_⟩
        rw [hw1]
        show x.f5.length - (((i + 1 : Nat) : Int)).toNat < x.f5.length - ((i : Nat) : Int).toNat
        omega
    have ci1 : decide ((i : Int) < (x.f4.length : Int)) = true := decide_eq_true (by omega)
    have ci2 : (i : Int) < (x.f4.length : Int) := by omega
    have ci3 : (0 : Int) ≤ (i : Int) := by omega
    have hw1 : wrap64 ((i : Int) + 1) = ((i + 1 : Nat) : Int) := by have := HLN.out; unfold wrap64; omega
    obtain ⟨y, hy⟩ : ∃ y, x.f4[i]? = some y := ⟨_, List.getElem?_eq_getElem ci⟩
    have hrd : rd_T121 x.f4 (i : Int) = y := by unfold rd_T121; rw [Int.toNat_natCast, List.getD_eq_getElem?_getD, hy]; rfl
    have hCA := HCah.out wr (by rw [HBE.out]; exact HBr.out)
    have hCB := HCbh.out wr (by rw [HBE.out]; exact HBr.out)
    obtain ⟨ad, A1, c1, e1, d0, d1, d2, hle, hcx⟩ := at_T121 hCA (i : Int) ci3 ci2
    obtain ⟨ad', A1', c1', e1', d0', d1', d2', hle', hcx'⟩ := at_T121 hCB (i : Int) ci3 ci2
    subst e1 e1'
    rw [hrd] at d0 d1 d2 hle hcx d0' d1' d2' hle' hcx'
    rw [Int.toNat_natCast] at d0 d1 d2 d0' d1' d2'
    have HX := Aside0.mk (And.intro hle (And.intro hcx (And.intro hle' hcx')))
    have q4 := HRr.out.cell 4 _ rfl
    have p4 := HOr.out.cell 4 _ rfl
    have HSZ := Aside0.mk (show b + 2 ≤ wr.heap.size by have := HOr.out.lt; omega)
    have MKS := Aside0.mk (show ∀ w', Below wr.heap.size wr w' → (fun w' : World => w'.cell? ⟨b, 4, none⟩ = some (.slice (some ad) x.f4.length cah) ∧ w'.cell? ⟨b + 1, 4, none⟩ = some (.slice (some ad') x.f4.length cbh) ∧ w'.cell? (ad.add (i * 3)) = some (.string y.f0) ∧ w'.cell? ⟨(ad.add (i * 3)).block, (ad.add (i * 3)).off + 1, none⟩ = some (.slice A1 y.f1.length c1) ∧ w'.cell? ⟨(ad.add (i * 3)).block, (ad.add (i * 3)).off + 2, none⟩ = some (.int .i64 y.f2) ∧ w'.cell? (ad'.add (i * 3)) = some (.string y.f0) ∧ w'.cell? ⟨(ad'.add (i * 3)).block, (ad'.add (i * 3)).off + 1, none⟩ = some (.slice A1' y.f1.length c1') ∧ w'.cell? ⟨(ad'.add (i * 3)).block, (ad'.add (i * 3)).off + 2, none⟩ = some (.int .i64 y.f2)) w' from fun w' hb => ⟨cell_up hb q4, cell_up hb p4, cell_up hb d0, cell_up hb d1, cell_up hb d2, cell_up hb d0', cell_up hb d1', cell_up hb d2'⟩)
    have HF := Aside0.mk (show ∀ w', Below wr.heap.size wr w' → Calls Try.prog 77 #[.slice A1 y.f1.length c1, .slice A1' y.f1.length c1'] w' fun e w2 => e = .returned (.bool true) ∧ Below w'.heap.size w' w2 from fun w' hb => (larderref09_SameLines.calls (y.f1.length + 1) A1 c1 y.f1 A1' c1' y.f1 true w' (Kd.C_below HX.out.2.1 hb) HX.out.1 (Kd.C_below HX.out.2.2.2 hb) HX.out.2.2.1 (sameLines_ok y.f1 HX.out.2.1.2.1 _ (Nat.le_refl _))).mono (by
      rintro e w2 ⟨rfl, md, rfl⟩
      exact ⟨rfl, pw_below_drewN (Below.refl _ _) md⟩))
    clear hrd hy hCA hCB hle hcx hle' hcx' q4 p4 d0 d1 d2 d0' d1' d2'
    have q4 := HRr.out.cell 4 _ rfl
    go_upto_region 6 with fail
    clear q4
    refine wp_region_held_drew (S := fun w' : World => w'.cell? ⟨b, 4, none⟩ = some (.slice (some ad) x.f4.length cah) ∧ w'.cell? ⟨b + 1, 4, none⟩ = some (.slice (some ad') x.f4.length cbh) ∧ w'.cell? (ad.add (i * 3)) = some (.string y.f0) ∧ w'.cell? ⟨(ad.add (i * 3)).block, (ad.add (i * 3)).off + 1, none⟩ = some (.slice A1 y.f1.length c1) ∧ w'.cell? ⟨(ad.add (i * 3)).block, (ad.add (i * 3)).off + 2, none⟩ = some (.int .i64 y.f2) ∧ w'.cell? (ad'.add (i * 3)) = some (.string y.f0) ∧ w'.cell? ⟨(ad'.add (i * 3)).block, (ad'.add (i * 3)).off + 1, none⟩ = some (.slice A1' y.f1.length c1') ∧ w'.cell? ⟨(ad'.add (i * 3)).block, (ad'.add (i * 3)).off + 2, none⟩ = some (.int .i64 y.f2)) (by kernel_rfl) (MKS.out _ (below_drew (Below.refl _ _))) (fun hHeld => ?_)
    refine tk (i := 0) (oi := { dst := some 59, op := Op.fieldAddr 58 (Operand.tmp 2) 4, type := 0, pos := "same.go:54", after := #[], guard := none }) (v := ?_) (.inl ⟨by rfl, ?_⟩) hHeld ?_
    rotate_left
    · intro w' hS; obtain ⟨hS0, hS1, hS2, hS3, hS4, hS5, hS6, hS7⟩ := hS; go_simp; all_goals (with_reducible rfl)
    (try simp only [pz])
    refine tk (i := 1) (oi := { dst := some 60, op := Op.load 55 (Operand.tmp 59), type := 55, pos := "same.go:54", after := #[(eD 0)], guard := none }) (v := ?_) (.inl ⟨by rfl, ?_⟩) hHeld ?_
    rotate_left
    · intro w' hS; obtain ⟨hS0, hS1, hS2, hS3, hS4, hS5, hS6, hS7⟩ := hS; go_simp; all_goals (with_reducible rfl)
    (try simp only [pz])
    refine tk (i := 2) (oi := { dst := some 61, op := Op.move (Operand.tmp 5), type := 3, pos := "same.go:54", after := #[], guard := none }) (v := ?_) (.inl ⟨by rfl, ?_⟩) hHeld ?_
    rotate_left
    · intro w' hS; obtain ⟨hS0, hS1, hS2, hS3, hS4, hS5, hS6, hS7⟩ := hS; go_simp; all_goals (with_reducible rfl)
    (try simp only [pz])
    refine tk (i := 3) (oi := { dst := some 62, op := Op.indexAddr 55 (Operand.tmp 60) (Operand.tmp 61), type := 0, pos := "same.go:54", after := #[(eD 1), (eD 2)], guard := none }) (v := ?_) (.inl ⟨by rfl, ?_⟩) hHeld ?_
    rotate_left
    · intro w' hS; obtain ⟨hS0, hS1, hS2, hS3, hS4, hS5, hS6, hS7⟩ := hS; go_simp; all_goals (with_reducible rfl)
    (try simp only [pz])
    refine tk (i := 4) (oi := { dst := some 63, op := Op.fieldAddr 121 (Operand.tmp 62) 0, type := 0, pos := "same.go:54", after := #[(eD 3)], guard := none }) (v := ?_) (.inl ⟨by rfl, ?_⟩) hHeld ?_
    rotate_left
    · intro w' hS; obtain ⟨hS0, hS1, hS2, hS3, hS4, hS5, hS6, hS7⟩ := hS; go_simp; all_goals (with_reducible rfl)
    (try simp only [pz])
    refine tk (i := 5) (oi := { dst := some 64, op := Op.load 9 (Operand.tmp 63), type := 9, pos := "same.go:54", after := #[(eD 4)], guard := none }) (v := ?_) (.inl ⟨by rfl, ?_⟩) hHeld ?_
    rotate_left
    · intro w' hS; obtain ⟨hS0, hS1, hS2, hS3, hS4, hS5, hS6, hS7⟩ := hS; go_simp; all_goals (with_reducible rfl)
    (try simp only [pz])
    refine tk (i := 6) (oi := { dst := some 65, op := Op.fieldAddr 58 (Operand.tmp 3) 4, type := 0, pos := "same.go:54", after := #[], guard := none }) (v := ?_) (.inl ⟨by rfl, ?_⟩) hHeld ?_
    rotate_left
    · intro w' hS; obtain ⟨hS0, hS1, hS2, hS3, hS4, hS5, hS6, hS7⟩ := hS; go_simp; all_goals (with_reducible rfl)
    (try simp only [pz])
    refine tk (i := 7) (oi := { dst := some 66, op := Op.load 55 (Operand.tmp 65), type := 55, pos := "same.go:54", after := #[(eD 6)], guard := none }) (v := ?_) (.inl ⟨by rfl, ?_⟩) hHeld ?_
    rotate_left
    · intro w' hS; obtain ⟨hS0, hS1, hS2, hS3, hS4, hS5, hS6, hS7⟩ := hS; go_simp; all_goals (with_reducible rfl)
    (try simp only [pz])
    refine tk (i := 8) (oi := { dst := some 67, op := Op.move (Operand.tmp 5), type := 3, pos := "same.go:54", after := #[], guard := none }) (v := ?_) (.inl ⟨by rfl, ?_⟩) hHeld ?_
    rotate_left
    · intro w' hS; obtain ⟨hS0, hS1, hS2, hS3, hS4, hS5, hS6, hS7⟩ := hS; go_simp; all_goals (with_reducible rfl)
    (try simp only [pz])
    refine tk (i := 9) (oi := { dst := some 68, op := Op.indexAddr 55 (Operand.tmp 66) (Operand.tmp 67), type := 0, pos := "same.go:54", after := #[(eD 7), (eD 8)], guard := none }) (v := ?_) (.inl ⟨by rfl, ?_⟩) hHeld ?_
    rotate_left
    · intro w' hS; obtain ⟨hS0, hS1, hS2, hS3, hS4, hS5, hS6, hS7⟩ := hS; go_simp; all_goals (with_reducible rfl)
    (try simp only [pz])
    refine tk (i := 10) (oi := { dst := some 69, op := Op.fieldAddr 121 (Operand.tmp 68) 0, type := 0, pos := "same.go:54", after := #[(eD 9)], guard := none }) (v := ?_) (.inl ⟨by rfl, ?_⟩) hHeld ?_
    rotate_left
    · intro w' hS; obtain ⟨hS0, hS1, hS2, hS3, hS4, hS5, hS6, hS7⟩ := hS; go_simp; all_goals (with_reducible rfl)
    (try simp only [pz])
    refine tk (i := 11) (oi := { dst := some 70, op := Op.load 9 (Operand.tmp 69), type := 9, pos := "same.go:54", after := #[(eD 10)], guard := none }) (v := ?_) (.inl ⟨by rfl, ?_⟩) hHeld ?_
    rotate_left
    · intro w' hS; obtain ⟨hS0, hS1, hS2, hS3, hS4, hS5, hS6, hS7⟩ := hS; go_simp; all_goals (with_reducible rfl)
    (try simp only [pz])
    refine tk (i := 12) (oi := { dst := some 71, op := Op.binOp BinOp.neq 9 (Operand.tmp 64) (Operand.tmp 70) 9, type := 4, pos := "same.go:54", after := #[(eD 5), (eD 11)], guard := none }) (v := ?_) (.inl ⟨by rfl, ?_⟩) hHeld ?_
    rotate_left
    · intro w' hS; obtain ⟨hS0, hS1, hS2, hS3, hS4, hS5, hS6, hS7⟩ := hS; go_simp; all_goals (with_reducible rfl)
    (try simp only [pz])
    refine tk (i := 13) (oi := { dst := some 72, op := Op.move (Operand.tmp 71), type := 4, pos := "same.go:54", after := #[(eD 12)], guard := none }) (v := ?_) (.inl ⟨by rfl, ?_⟩) hHeld ?_
    rotate_left
    · intro w' hS; obtain ⟨hS0, hS1, hS2, hS3, hS4, hS5, hS6, hS7⟩ := hS; go_simp; all_goals (with_reducible rfl)
    (try simp only [pz])
    refine tk (i := 14) (oi := { dst := some 73, op := Op.fieldAddr 58 (Operand.tmp 2) 4, type := 0, pos := "same.go:54", after := #[(eG 13)], guard := some (13, false) }) (v := ?_) (.inl ⟨by rfl, ?_⟩) hHeld ?_
    rotate_left
    · intro w' hS; obtain ⟨hS0, hS1, hS2, hS3, hS4, hS5, hS6, hS7⟩ := hS; go_simp; all_goals (with_reducible rfl)
    (try simp only [pz])
    refine tk (i := 15) (oi := { dst := some 74, op := Op.load 55 (Operand.tmp 73), type := 55, pos := "same.go:54", after := #[(eD 14), (eG 13)], guard := some (13, false) }) (v := ?_) (.inl ⟨by rfl, ?_⟩) hHeld ?_
    rotate_left
    · intro w' hS; obtain ⟨hS0, hS1, hS2, hS3, hS4, hS5, hS6, hS7⟩ := hS; go_simp; all_goals (with_reducible rfl)
    (try simp only [pz])
    refine tk (i := 16) (oi := { dst := some 75, op := Op.move (Operand.tmp 5), type := 3, pos := "same.go:54", after := #[(eG 13)], guard := some (13, false) }) (v := ?_) (.inl ⟨by rfl, ?_⟩) hHeld ?_
    rotate_left
    · intro w' hS; obtain ⟨hS0, hS1, hS2, hS3, hS4, hS5, hS6, hS7⟩ := hS; go_simp; all_goals (with_reducible rfl)
    (try simp only [pz])
    refine tk (i := 17) (oi := { dst := some 76, op := Op.indexAddr 55 (Operand.tmp 74) (Operand.tmp 75), type := 0, pos := "same.go:54", after := #[(eD 15), (eD 16), (eG 13)], guard := some (13, false) }) (v := ?_) (.inl ⟨by rfl, ?_⟩) hHeld ?_
    rotate_left
    · intro w' hS; obtain ⟨hS0, hS1, hS2, hS3, hS4, hS5, hS6, hS7⟩ := hS; go_simp; all_goals (with_reducible rfl)
    (try simp only [pz])
    refine tk (i := 18) (oi := { dst := some 77, op := Op.fieldAddr 121 (Operand.tmp 76) 2, type := 0, pos := "same.go:54", after := #[(eD 17), (eG 13)], guard := some (13, false) }) (v := ?_) (.inl ⟨by rfl, ?_⟩) hHeld ?_
    rotate_left
    · intro w' hS; obtain ⟨hS0, hS1, hS2, hS3, hS4, hS5, hS6, hS7⟩ := hS; go_simp; all_goals (with_reducible rfl)
    (try simp only [pz])
    refine tk (i := 19) (oi := { dst := some 78, op := Op.load 3 (Operand.tmp 77), type := 3, pos := "same.go:54", after := #[(eD 18), (eG 13)], guard := some (13, false) }) (v := ?_) (.inl ⟨by rfl, ?_⟩) hHeld ?_
    rotate_left
    · intro w' hS; obtain ⟨hS0, hS1, hS2, hS3, hS4, hS5, hS6, hS7⟩ := hS; go_simp; all_goals (with_reducible rfl)
    (try simp only [pz])
    refine tk (i := 20) (oi := { dst := some 79, op := Op.fieldAddr 58 (Operand.tmp 3) 4, type := 0, pos := "same.go:54", after := #[(eG 13)], guard := some (13, false) }) (v := ?_) (.inl ⟨by rfl, ?_⟩) hHeld ?_
    rotate_left
    · intro w' hS; obtain ⟨hS0, hS1, hS2, hS3, hS4, hS5, hS6, hS7⟩ := hS; go_simp; all_goals (with_reducible rfl)
    (try simp only [pz])
    refine tk (i := 21) (oi := { dst := some 80, op := Op.load 55 (Operand.tmp 79), type := 55, pos := "same.go:54", after := #[(eD 20), (eG 13)], guard := some (13, false) }) (v := ?_) (.inl ⟨by rfl, ?_⟩) hHeld ?_
    rotate_left
    · intro w' hS; obtain ⟨hS0, hS1, hS2, hS3, hS4, hS5, hS6, hS7⟩ := hS; go_simp; all_goals (with_reducible rfl)
    (try simp only [pz])
    refine tk (i := 22) (oi := { dst := some 81, op := Op.move (Operand.tmp 5), type := 3, pos := "same.go:54", after := #[(eG 13)], guard := some (13, false) }) (v := ?_) (.inl ⟨by rfl, ?_⟩) hHeld ?_
    rotate_left
    · intro w' hS; obtain ⟨hS0, hS1, hS2, hS3, hS4, hS5, hS6, hS7⟩ := hS; go_simp; all_goals (with_reducible rfl)
    (try simp only [pz])
    refine tk (i := 23) (oi := { dst := some 82, op := Op.indexAddr 55 (Operand.tmp 80) (Operand.tmp 81), type := 0, pos := "same.go:54", after := #[(eD 21), (eD 22), (eG 13)], guard := some (13, false) }) (v := ?_) (.inl ⟨by rfl, ?_⟩) hHeld ?_
    rotate_left
    · intro w' hS; obtain ⟨hS0, hS1, hS2, hS3, hS4, hS5, hS6, hS7⟩ := hS; go_simp; all_goals (with_reducible rfl)
    (try simp only [pz])
    refine tk (i := 24) (oi := { dst := some 83, op := Op.fieldAddr 121 (Operand.tmp 82) 2, type := 0, pos := "same.go:54", after := #[(eD 23), (eG 13)], guard := some (13, false) }) (v := ?_) (.inl ⟨by rfl, ?_⟩) hHeld ?_
    rotate_left
    · intro w' hS; obtain ⟨hS0, hS1, hS2, hS3, hS4, hS5, hS6, hS7⟩ := hS; go_simp; all_goals (with_reducible rfl)
    (try simp only [pz])
    refine tk (i := 25) (oi := { dst := some 84, op := Op.load 3 (Operand.tmp 83), type := 3, pos := "same.go:54", after := #[(eD 24), (eG 13)], guard := some (13, false) }) (v := ?_) (.inl ⟨by rfl, ?_⟩) hHeld ?_
    rotate_left
    · intro w' hS; obtain ⟨hS0, hS1, hS2, hS3, hS4, hS5, hS6, hS7⟩ := hS; go_simp; all_goals (with_reducible rfl)
    (try simp only [pz])
    refine tk (i := 26) (oi := { dst := some 85, op := Op.binOp BinOp.neq 3 (Operand.tmp 78) (Operand.tmp 84) 3, type := 4, pos := "same.go:54", after := #[(eD 19), (eD 25), (eG 13)], guard := some (13, false) }) (v := ?_) (.inl ⟨by rfl, ?_⟩) hHeld ?_
    rotate_left
    · intro w' hS; obtain ⟨hS0, hS1, hS2, hS3, hS4, hS5, hS6, hS7⟩ := hS; go_simp; all_goals (with_reducible rfl)
    (try simp only [pz])
    refine tk (i := 27) (oi := { dst := some 86, op := Op.pick (Operand.tmp 72) (Operand.const (Value.bool true)) (Operand.tmp 85), type := 4, pos := "same.go:54", after := #[(eD 13), (eD 26)], guard := none }) (v := ?_) (.inl ⟨by rfl, ?_⟩) hHeld ?_
    rotate_left
    · intro w' hS; obtain ⟨hS0, hS1, hS2, hS3, hS4, hS5, hS6, hS7⟩ := hS; go_simp; all_goals (with_reducible rfl)
    (try simp only [pz])
    refine tk (i := 28) (oi := { dst := some 87, op := Op.move (Operand.tmp 86), type := 4, pos := "same.go:54", after := #[(eD 27), (eC 13)], guard := none }) (v := ?_) (.inl ⟨by rfl, ?_⟩) hHeld ?_
    rotate_left
    · intro w' hS; obtain ⟨hS0, hS1, hS2, hS3, hS4, hS5, hS6, hS7⟩ := hS; go_simp; all_goals (with_reducible rfl)
    (try simp only [pz])
    refine tk (i := 29) (oi := { dst := some 88, op := Op.fieldAddr 58 (Operand.tmp 2) 4, type := 0, pos := "same.go:54", after := #[(eG 28)], guard := some (28, false) }) (v := ?_) (.inl ⟨by rfl, ?_⟩) hHeld ?_
    rotate_left
    · intro w' hS; obtain ⟨hS0, hS1, hS2, hS3, hS4, hS5, hS6, hS7⟩ := hS; go_simp; all_goals (with_reducible rfl)
    (try simp only [pz])
    refine tk (i := 30) (oi := { dst := some 89, op := Op.load 55 (Operand.tmp 88), type := 55, pos := "same.go:54", after := #[(eD 29), (eG 28)], guard := some (28, false) }) (v := ?_) (.inl ⟨by rfl, ?_⟩) hHeld ?_
    rotate_left
    · intro w' hS; obtain ⟨hS0, hS1, hS2, hS3, hS4, hS5, hS6, hS7⟩ := hS; go_simp; all_goals (with_reducible rfl)
    (try simp only [pz])
    refine tk (i := 31) (oi := { dst := some 90, op := Op.move (Operand.tmp 5), type := 3, pos := "same.go:54", after := #[(eG 28)], guard := some (28, false) }) (v := ?_) (.inl ⟨by rfl, ?_⟩) hHeld ?_
    rotate_left
    · intro w' hS; obtain ⟨hS0, hS1, hS2, hS3, hS4, hS5, hS6, hS7⟩ := hS; go_simp; all_goals (with_reducible rfl)
    (try simp only [pz])
    refine tk (i := 32) (oi := { dst := some 91, op := Op.indexAddr 55 (Operand.tmp 89) (Operand.tmp 90), type := 0, pos := "same.go:54", after := #[(eD 30), (eD 31), (eG 28)], guard := some (28, false) }) (v := ?_) (.inl ⟨by rfl, ?_⟩) hHeld ?_
    rotate_left
    · intro w' hS; obtain ⟨hS0, hS1, hS2, hS3, hS4, hS5, hS6, hS7⟩ := hS; go_simp; all_goals (with_reducible rfl)
    (try simp only [pz])
    refine tk (i := 33) (oi := { dst := some 92, op := Op.fieldAddr 121 (Operand.tmp 91) 1, type := 0, pos := "same.go:54", after := #[(eD 32), (eG 28)], guard := some (28, false) }) (v := ?_) (.inl ⟨by rfl, ?_⟩) hHeld ?_
    rotate_left
    · intro w' hS; obtain ⟨hS0, hS1, hS2, hS3, hS4, hS5, hS6, hS7⟩ := hS; go_simp; all_goals (with_reducible rfl)
    (try simp only [pz])
    refine tk (i := 34) (oi := { dst := some 93, op := Op.load 38 (Operand.tmp 92), type := 38, pos := "same.go:54", after := #[(eD 33), (eG 28)], guard := some (28, false) }) (v := ?_) (.inl ⟨by rfl, ?_⟩) hHeld ?_
    rotate_left
    · intro w' hS; obtain ⟨hS0, hS1, hS2, hS3, hS4, hS5, hS6, hS7⟩ := hS; go_simp; all_goals (with_reducible rfl)
    (try simp only [pz])
    refine tk (i := 35) (oi := { dst := some 94, op := Op.fieldAddr 58 (Operand.tmp 3) 4, type := 0, pos := "same.go:54", after := #[(eG 28)], guard := some (28, false) }) (v := ?_) (.inl ⟨by rfl, ?_⟩) hHeld ?_
    rotate_left
    · intro w' hS; obtain ⟨hS0, hS1, hS2, hS3, hS4, hS5, hS6, hS7⟩ := hS; go_simp; all_goals (with_reducible rfl)
    (try simp only [pz])
    refine tk (i := 36) (oi := { dst := some 95, op := Op.load 55 (Operand.tmp 94), type := 55, pos := "same.go:54", after := #[(eD 35), (eG 28)], guard := some (28, false) }) (v := ?_) (.inl ⟨by rfl, ?_⟩) hHeld ?_
    rotate_left
    · intro w' hS; obtain ⟨hS0, hS1, hS2, hS3, hS4, hS5, hS6, hS7⟩ := hS; go_simp; all_goals (with_reducible rfl)
    (try simp only [pz])
    refine tk (i := 37) (oi := { dst := some 96, op := Op.move (Operand.tmp 5), type := 3, pos := "same.go:54", after := #[(eG 28)], guard := some (28, false) }) (v := ?_) (.inl ⟨by rfl, ?_⟩) hHeld ?_
    rotate_left
    · intro w' hS; obtain ⟨hS0, hS1, hS2, hS3, hS4, hS5, hS6, hS7⟩ := hS; go_simp; all_goals (with_reducible rfl)
    (try simp only [pz])
    refine tk (i := 38) (oi := { dst := some 97, op := Op.indexAddr 55 (Operand.tmp 95) (Operand.tmp 96), type := 0, pos := "same.go:54", after := #[(eD 36), (eD 37), (eG 28)], guard := some (28, false) }) (v := ?_) (.inl ⟨by rfl, ?_⟩) hHeld ?_
    rotate_left
    · intro w' hS; obtain ⟨hS0, hS1, hS2, hS3, hS4, hS5, hS6, hS7⟩ := hS; go_simp; all_goals (with_reducible rfl)
    (try simp only [pz])
    refine tk (i := 39) (oi := { dst := some 98, op := Op.fieldAddr 121 (Operand.tmp 97) 1, type := 0, pos := "same.go:54", after := #[(eD 38), (eG 28)], guard := some (28, false) }) (v := ?_) (.inl ⟨by rfl, ?_⟩) hHeld ?_
    rotate_left
    · intro w' hS; obtain ⟨hS0, hS1, hS2, hS3, hS4, hS5, hS6, hS7⟩ := hS; go_simp; all_goals (with_reducible rfl)
    (try simp only [pz])
    refine tk (i := 40) (oi := { dst := some 99, op := Op.load 38 (Operand.tmp 98), type := 38, pos := "same.go:54", after := #[(eD 39), (eG 28)], guard := some (28, false) }) (v := ?_) (.inl ⟨by rfl, ?_⟩) hHeld ?_
    rotate_left
    · intro w' hS; obtain ⟨hS0, hS1, hS2, hS3, hS4, hS5, hS6, hS7⟩ := hS; go_simp; all_goals (with_reducible rfl)
    (try simp only [pz])
    refine wpAnyH_ready (rs := [41]) (by kernel_rfl) (by simp) ?_
    refine AllReadyH.cons (o := { dst := some 100, op := Op.call { callee := Callee.value (Operand.func 77), args := #[Operand.tmp 93, Operand.tmp 99], argTypes := #[38, 38] }, type := 4, pos := "same.go:54", after := #[(eD 34), (eD 40), (eC 28), (eG 28)], guard := some (28, false) }) rfl (fun K hK => ?_) AllReadyH.nil
    go_simp
    go_at_call 77
    refine (HF.out _ (below_drew (Below.refl _ _))).mono ?_
    rintro e wz ⟨rfl, hd⟩
    have HBZ := Aside0.mk (show Below wr.heap.size wr wz from (below_drew (Below.refl _ _)).trans (hd.mono (Nat.le_refl _)))
    clear hd
    refine hK.out _ _ (MKS.out _ HBZ.out) (fun hHeld => ?_)
    clear hK K
    (try simp only [pz])
    refine tk (i := 42) (oi := { dst := some 101, op := Op.unOp UnOp.not 4 (Operand.tmp 100), type := 4, pos := "same.go:54", after := #[(eD 41), (eG 28)], guard := some (28, false) }) (v := ?_) (.inl ⟨by rfl, ?_⟩) hHeld ?_
    rotate_left
    · intro w' hS; obtain ⟨hS0, hS1, hS2, hS3, hS4, hS5, hS6, hS7⟩ := hS; go_simp; all_goals (with_reducible rfl)
    (try simp only [pz])
    refine tk (i := 43) (oi := { dst := some 102, op := Op.pick (Operand.tmp 87) (Operand.const (Value.bool true)) (Operand.tmp 101), type := 4, pos := "same.go:54", after := #[(eD 28), (eD 42)], guard := none }) (v := ?_) (.inl ⟨by rfl, ?_⟩) hHeld ?_
    rotate_left
    · intro w' hS; obtain ⟨hS0, hS1, hS2, hS3, hS4, hS5, hS6, hS7⟩ := hS; go_simp; all_goals (with_reducible rfl)
    (try simp only [pz])
    refine wpAnyH_done (by kernel_rfl) ?_ _
    (try simp only [pz])
    have HB9 := Aside0.mk (show Below b W wz from HBr.out.trans (HBZ.out.mono (by have := HSZ.out; omega)))
    have R9 := Aside0.mk (HRr.out.below HBZ.out)
    have O9 := Aside0.mk (HOr.out.below HBZ.out)
    clear HF MKS HBZ HRr HOr HBr
    go_wp2_with fail
    refine ⟨⟨i + 1, congrArg (Value.int .i64) (by omega), ⟨ci⟩, HB9, R9, O9⟩, ?_⟩
    rw [hw1]
    show x.f4.length - (((i + 1 : Nat) : Int)).toNat < x.f4.length - ((i : Nat) : Int).toNat
    omega
end Go.Proofs.Ytafmoglaockepaa.Cd
end
section
namespace Go.Proofs.Ytafmoglaockepaa.Bulk
open Go Go.ChangeShapes Go.WideShapes Go.ChangeAt Go.RowKit
theorem one_le {H : Type} (d : DataW H) : 1 ≤ Rows.uptoBulk d := by
  cases d with
  | lit l => cases l <;> simp [Rows.uptoBulk]
  | nil => simp [Rows.uptoBulk]
  | ptr d => simp [Rows.uptoBulk]
  | slice elems spare => simp [Rows.uptoBulk]
  | agg parts => simp [Rows.uptoBulk]
  | iface t d => simp [Rows.uptoBulk]
  | map entries => simp [Rows.uptoBulk]
  | held h => simp [Rows.uptoBulk]
theorem length_le {H : Type} (l : List (DataW H)) : l.length ≤ Rows.uptoBulkAll l := by
  induction l with
  | nil => simp [Rows.uptoBulkAll]
  | cons x r ih => have := one_le x; simp only [Rows.uptoBulkAll, List.length_cons]; omega
theorem bound {H : Type} {l : List (DataW H)} (hk : Rows.uptoSmall H l = true) : Rows.uptoBulkAll l ≤ 1048576 := of_decide_eq_true hk
end Go.Proofs.Ytafmoglaockepaa.Bulk
end
section
namespace Go.Proofs.Ytafmoglaockepaa.Cd
open Go Go.Deep Go.ChangeShapes Go.WideShapes Go.RowKit Go.Proofs.Ytafmoglaockepaa.Num Go.Proofs.Ytafmoglaockepaa.PG Go.Proofs.YtafmoglaockepaaW.PrintWords Go.Proofs.YtafmoglaockepaaW.PrintLast Go.Proofs.YtafmoglaockepaaW.PrintMore
set_option linter.unusedVariables false
set_option maxRecDepth 100000
theorem bytesArg {H : Type} {enc : TypeId × Value → H} {W : World} {base : Nat} {held : Bool} {a : Option Addr} {len cap : Nat} {d : DataW H} {ps : List MemPlace}
    (h : DataW.Trod enc Try.prog W base (fun _ => true) held 26 (.slice a len cap) d ps) : ∃ zs : List Int, Kd.C (Kd.int .u8) W a len zs ∧ len ≤ cap ∧ (∀ v ∈ zs, (Lit.int .u8 v).wf = true) ∧ len + 1 ≤ Rows.uptoBulk d + 0 := by
  obtain ⟨fuel, hf⟩ := h
  rcases open_ints Try.underlying26 Try.underlying5 (by kernel_rfl) hf with ⟨hcs, hx⟩ | ⟨x, l, c, zs, hcs, _, hl, hm, hz, hx, hcell, hwz⟩
  · simp [Value.cells] at hcs
    obtain ⟨rfl, rfl, rfl⟩ := hcs
    obtain ⟨hx, _⟩ := Prod.mk.inj hx
    subst hx
    exact ⟨[], Kd.C_nil _ _, Nat.le_refl _, fun _ hp => (by cases hp), by simp [Rows.uptoBulk]⟩
  · simp [Value.cells] at hcs
    obtain ⟨rfl, rfl, rfl⟩ := hcs
    have hz : zs.length = cap := by simpa using hz
    obtain ⟨hx, _⟩ := Prod.mk.inj hx
    subst hx
    refine ⟨zs.take len, Kd.C_of_reads (d := (0 : Int)) (h1 := fun _ => rfl) ⟨by rw [List.length_take]; omega, by simp only [maxLen] at hm; omega, fun _ => ⟨x, rfl, fun i hi => ?_⟩⟩, hl, fun v hv => hwz v (List.mem_of_mem_take hv), ?_⟩
    · rw [hcell i (by omega)]
      congr 2
      rw [List.getD_eq_getElem?_getD, List.getD_eq_getElem?_getD, List.getElem?_take, if_pos hi]
    · have h1 := Bulk.length_le (lits (H := H) .u8 (zs.take len))
      simp only [Rows.uptoBulk]
      have h2 : (lits (H := H) .u8 (zs.take len)).length = len := by
        simp [lits]
        omega
      omega
theorem isBytes_of {zs : List Int} (h : ∀ v ∈ zs, (Lit.int .u8 v).wf = true) : IsBytes zs := by
  intro v hv
  have := bounds_u8 (h v hv)
  omega
theorem list3 {α : Type} {cs : List α} (h : cs.length = 3) : ∃ c0 c1 c2, cs = [c0, c1, c2] := by
  match cs, h with
  | [c0, c1, c2], _ => exact ⟨c0, c1, c2, rfl⟩
theorem int64_of {a : Int} (h : (Lit.int .i64 a).wf = true) : Int64 a := by
  have := bounds_i64 h
  unfold Int64
  omega
theorem trod_struct6 {H : Type} {enc : TypeId × Value → H} {P : Program} {w : World} {base : Nat} {spare : Nat → Bool} {held : Bool} {t : TypeId} {f0 f1 f2 f3 f4 f5 : Field} {fuel : Nat} {cs : List Value} {x : DataW H × List MemPlace} (ht : P.underlying t = some (.struct #[f0, f1, f2, f3, f4, f5])) (h : DataW.trod enc P w base spare held fuel t cs = some x) :
    ∃ y0 y1 y2 y3 y4 y5 n, x.1 = .agg [y0.1, y1.1, y2.1, y3.1, y4.1, y5.1] ∧ cs.length = P.cellsOf t ∧ DataW.trod enc P w base spare held n f0.type ((cs.drop f0.offset).take (P.cellsOf f0.type)) = some y0 ∧
      DataW.trod enc P w base spare held n f1.type ((cs.drop f1.offset).take (P.cellsOf f1.type)) = some y1 ∧ DataW.trod enc P w base spare held n f2.type ((cs.drop f2.offset).take (P.cellsOf f2.type)) = some y2 ∧
      DataW.trod enc P w base spare held n f3.type ((cs.drop f3.offset).take (P.cellsOf f3.type)) = some y3 ∧ DataW.trod enc P w base spare held n f4.type ((cs.drop f4.offset).take (P.cellsOf f4.type)) = some y4 ∧ DataW.trod enc P w base spare held n f5.type ((cs.drop f5.offset).take (P.cellsOf f5.type)) = some y5 := by
  obtain ⟨xs, n, _, rfl, hl, hlen, hf⟩ := DataW.trod_struct ht h
  match xs, hlen with
  | [y0, y1, y2, y3, y4, y5], _ => exact ⟨y0, y1, y2, y3, y4, y5, n, by simp, hl, by simpa using hf 0 f0 rfl, by simpa using hf 1 f1 rfl, by simpa using hf 2 f2 rfl, by simpa using hf 3 f3 rfl, by simpa using hf 4 f4 rfl, by simpa using hf 5 f5 rfl⟩
theorem sum_bulkP {H α : Type} (wt : α → Nat) (f : Nat → α) (D : Nat → DataW H) : ∀ L : List Nat, (∀ i ∈ L, wt (f i) ≤ Rows.uptoBulk (D i)) → ((L.map f).map wt).sum ≤ Rows.uptoBulkAll (L.map D)
  | [], _ => by simp
  | i :: L, h => by
    have h1 := sum_bulkP wt f D L (fun j hj => h j (List.mem_cons_of_mem _ hj))
    have h2 := h i (List.mem_cons_self ..)
    simp only [Rows.uptoBulkAll, List.map_cons, List.sum_cons] at h1 ⊢
    omega
theorem rowArg {H α : Type} {enc : TypeId × Value → H} {W : World} {base : Nat} {held : Bool} {a : Option Addr} {len cap : Nat} {d : DataW H} {ps : List MemPlace} {sl e : TypeId} (kd : Kd α) (z : α) (Ok : α → Prop) (wt : α → Nat) (hu : Try.prog.underlying sl = some (.slice e)) (hsz : Try.prog.cellsOf e = kd.sz)
    (hel : ∀ (fuel : Nat) (cs : List Value) (x : DataW H × List MemPlace), DataW.trod enc Try.prog W base (fun _ => true) held fuel e cs = some x → ∃ p, kd.K W p cs ∧ Ok p ∧ wt p ≤ Rows.uptoBulk x.1)
    (h : DataW.Trod enc Try.prog W base (fun _ => true) held sl (.slice a len cap) d ps) : ∃ l : List α, Kd.C kd W a len l ∧ len ≤ cap ∧ (∀ p ∈ l, Ok p) ∧ (l.map wt).sum + 1 ≤ Rows.uptoBulk d := by
  obtain ⟨fuel, hf⟩ := h
  rcases open_slice hu hf with ⟨hcs, hx⟩ | ⟨ad, l, c, m, n, D, Pl, hcs, _, hl, hm, hmm, hx, hr⟩
  · simp [Value.cells] at hcs
    obtain ⟨rfl, rfl, rfl⟩ := hcs
    obtain ⟨hx, _⟩ := Prod.mk.inj hx
    subst hx
    exact ⟨[], Kd.C_nil _ _, Nat.le_refl _, fun _ hp => (by cases hp), by simp [Rows.uptoBulk]⟩
  · simp [Value.cells] at hcs
    obtain ⟨rfl, rfl, rfl⟩ := hcs
    rw [if_pos rfl] at hmm
    have hcell : ∀ i, i < len → ∃ p : α, (∃ cs : List Value, cs.length = kd.sz ∧ kd.K W p cs ∧ ∀ j u, cs[j]? = some u → W.cell? (ad.add (i * kd.sz + j)) = some u) ∧ Ok p ∧ wt p ≤ Rows.uptoBulk (D i) := fun i hi => by
      obtain ⟨cs, hc, ht⟩ := hr i (by omega)
      obtain ⟨p, hk, hok, hw⟩ := hel _ _ _ ht
      rw [hsz] at hc
      obtain ⟨_, _, hat⟩ := World.cells?_some hc
      refine ⟨p, ⟨cs, kd.K_len hk, hk, fun j u hj => ?_⟩, hok, hw⟩
      have hjl : j < kd.sz := by
        rw [← kd.K_len hk]
        exact (List.getElem?_eq_some_iff.1 hj).1
      have g := hat (i := j) hjl
      rw [Go.Deep.add_add] at g
      rw [g, ← hj]
    obtain ⟨f, hfun⟩ : ∃ f : Nat → α, ∀ i, i < len → (∃ cs : List Value, cs.length = kd.sz ∧ kd.K W (f i) cs ∧ ∀ j u, cs[j]? = some u → W.cell? (ad.add (i * kd.sz + j)) = some u) ∧ Ok (f i) ∧ wt (f i) ≤ Rows.uptoBulk (D i) :=
      ⟨fun i => if h : i < len then (hcell i h).choose else z, fun i hi => by simp only [dif_pos hi]; exact (hcell i hi).choose_spec⟩
    refine ⟨(List.range len).map f, ⟨by simp, by simp only [maxLen] at hm; omega, fun _ => ⟨ad, rfl, fun j p hj => ?_⟩⟩, hl, fun p hp => ?_, ?_⟩
    · obtain ⟨hj1, hj2⟩ := List.getElem?_eq_some_iff.1 hj
      have hjl : j < len := by simpa using hj1
      simp only [List.getElem_map, List.getElem_range] at hj2
      subst hj2
      exact (hfun j hjl).1
    · obtain ⟨i, hi, rfl⟩ := List.mem_map.1 hp
      exact (hfun i (List.mem_range.1 hi)).2.1
    · have hd : d = .slice ((List.range len).map D) ((List.range (m - len)).map fun j => D (len + j)) := congrArg Prod.fst hx
      rw [hd]
      simp only [Rows.uptoBulk]
      have := sum_bulkP wt f D (List.range len) (fun i hi => (hfun i (List.mem_range.1 hi)).2.2)
      omega
theorem size_bytes (k : ByteArray) : k.data.toList.length = k.size := by rw [Array.length_toList]; rfl
theorem lineCells {H : Type} {enc : TypeId × Value → H} {W : World} {base : Nat} {held : Bool} (fuel : Nat) (cs : List Value) (x : DataW H × List MemPlace) (h : DataW.trod enc Try.prog W base (fun _ => true) held fuel 110 cs = some x) :
    ∃ p : S110, k110.K W p cs ∧ Int64 p.f1 ∧ 2 + p.f0.size ≤ Rows.uptoBulk x.1 := by
  have c3 : Try.prog.cellsOf 3 = 1 := by kernel_rfl
  have c9 : Try.prog.cellsOf 9 = 1 := by kernel_rfl
  have c110 : Try.prog.cellsOf 110 = 2 := by kernel_rfl
  obtain ⟨y0, y1, n', hy, hlen, h0, h1⟩ := trod_struct2 Try.underlying110 h
  rw [c110] at hlen
  obtain ⟨v0, v1, rfl⟩ : ∃ v0 v1, cs = [v0, v1] := by
    match cs, hlen with
    | [v0, v1], _ => exact ⟨v0, v1, rfl⟩
  simp only [c3, c9] at h0 h1
  obtain ⟨k0, e0, x0, w0⟩ := DataW.trod_string Try.underlying9 h0
  obtain ⟨k1, e1, x1, w1⟩ := DataW.trod_int Try.underlying3 h1
  simp at e0 e1
  subst e0
  subst e1
  refine ⟨⟨k0, k1⟩, k110_mk W ⟨k0, k1⟩, int64_of w1, ?_⟩
  rw [hy, x0, x1]
  simp only [Rows.uptoBulk, Rows.uptoBulkAll]
  have := size_bytes k0
  omega
theorem linesArg {H : Type} {enc : TypeId × Value → H} {W : World} {base : Nat} {held : Bool} {a : Option Addr} {len cap : Nat} {d : DataW H} {ps : List MemPlace}
    (h : DataW.Trod enc Try.prog W base (fun _ => true) held 38 (.slice a len cap) d ps) : ∃ l : List S110, Kd.C k110 W a len l ∧ len ≤ cap ∧ LinOk l ∧ sumN l + 1 ≤ Rows.uptoBulk d :=
  rowArg k110 ⟨⟨#[]⟩, 0⟩ (fun p => Int64 p.f1) (fun p => 2 + p.f0.size) Try.underlying38 (by kernel_rfl) lineCells h
theorem slice_of {H : Type} {enc : TypeId × Value → H} {W : World} {base : Nat} {held : Bool} {sl e : TypeId} {fuel : Nat} {v : Value} {x : DataW H × List MemPlace} (hu : Try.prog.underlying sl = some (.slice e)) (h : DataW.trod enc Try.prog W base (fun _ => true) held fuel sl [v] = some x) :
    ∃ a len cap, v = .slice a len cap ∧ DataW.Trod enc Try.prog W base (fun _ => true) held sl (.slice a len cap) x.1 x.2 := by
  obtain ⟨a, len, cap, rfl⟩ : ∃ a len cap, v = .slice a len cap := by
    rcases open_slice hu h with ⟨hcs, _⟩ | ⟨ad, l, c, _, _, _, _, hcs, _⟩
    · simp at hcs; exact ⟨_, _, _, hcs⟩
    · simp at hcs; exact ⟨_, _, _, hcs⟩
  exact ⟨a, len, cap, rfl, fuel, h⟩
theorem reqCells {H : Type} {enc : TypeId × Value → H} {W : World} {base : Nat} {held : Bool} (fuel : Nat) (cs : List Value) (x : DataW H × List MemPlace) (h : DataW.trod enc Try.prog W base (fun _ => true) held fuel 40 cs = some x) :
    ∃ (q : S40) (A : Option Addr) (c : Nat), cs = [.string q.f0, .int .i64 q.f1, .slice A q.f2.length c, .string q.f3, .int .i64 q.f4, .int .i64 q.f5] ∧ q.f2.length ≤ c ∧ Kd.C k110 W A q.f2.length q.f2 ∧ ReqOk q ∧ 7 + sumQ q ≤ Rows.uptoBulk x.1 := by
  have c3 : Try.prog.cellsOf 3 = 1 := by kernel_rfl
  have c9 : Try.prog.cellsOf 9 = 1 := by kernel_rfl
  have c38 : Try.prog.cellsOf 38 = 1 := by kernel_rfl
  have c40 : Try.prog.cellsOf 40 = 6 := by kernel_rfl
  obtain ⟨y0, y1, y2, y3, y4, y5, n, hx, hlen, h0, h1, h2, h3, h4, h5⟩ := trod_struct6 Try.underlying40 h
  rw [c40] at hlen
  obtain ⟨v0, v1, v2, v3, v4, v5, rfl⟩ : ∃ v0 v1 v2 v3 v4 v5, cs = [v0, v1, v2, v3, v4, v5] := by
    match cs, hlen with
    | [v0, v1, v2, v3, v4, v5], _ => exact ⟨v0, v1, v2, v3, v4, v5, rfl⟩
  simp only [c3, c9, c38] at h0 h1 h2 h3 h4 h5
  have h2' : DataW.trod enc Try.prog W base (fun _ => true) held n 38 [v2] = some y2 := h2
  obtain ⟨k0, e0, x0, _⟩ := DataW.trod_string Try.underlying9 h0
  obtain ⟨k1, e1, x1, w1⟩ := DataW.trod_int Try.underlying3 h1
  obtain ⟨k3, e3, x3, _⟩ := DataW.trod_string Try.underlying9 h3
  obtain ⟨k4, e4, x4, w4⟩ := DataW.trod_int Try.underlying3 h4
  obtain ⟨k5, e5, x5, w5⟩ := DataW.trod_int Try.underlying3 h5
  simp at e0 e1 e3 e4 e5
  subst e0 e1 e3 e4 e5
  obtain ⟨a, len, cap, rfl, hT⟩ := slice_of Try.underlying38 h2'
  obtain ⟨l, hC, hl, hlo, hb⟩ := linesArg hT
  obtain rfl : l.length = len := Kd.C_len hC
  refine ⟨⟨k0, k1, l, k3, k4, k5⟩, a, cap, rfl, hl, hC, ⟨int64_of w1, hlo, int64_of w4, int64_of w5⟩, ?_⟩
  rw [hx, x0, x1, x3, x4, x5]
  simp only [Rows.uptoBulk, Rows.uptoBulkAll, sumQ]
  have := size_bytes k0
  have := size_bytes k3
  omega
theorem heldCells {H : Type} {enc : TypeId × Value → H} {W : World} {base : Nat} {held : Bool} (fuel : Nat) (cs : List Value) (x : DataW H × List MemPlace) (h : DataW.trod enc Try.prog W base (fun _ => true) held fuel 121 cs = some x) :
    ∃ p : S121, k121.K W p cs ∧ HeldOk p ∧ 3 + p.f0.size + sumN p.f1 ≤ Rows.uptoBulk x.1 := by
  have c3 : Try.prog.cellsOf 3 = 1 := by kernel_rfl
  have c9 : Try.prog.cellsOf 9 = 1 := by kernel_rfl
  have c38 : Try.prog.cellsOf 38 = 1 := by kernel_rfl
  have c121 : Try.prog.cellsOf 121 = 3 := by kernel_rfl
  obtain ⟨y0, y1, y2, n, hx, hlen, h0, h1, h2⟩ := trod_struct3 Try.underlying121 h
  rw [c121] at hlen
  obtain ⟨v0, v1, v2, rfl⟩ := list3 hlen
  simp only [c3, c9, c38] at h0 h1 h2
  have h1' : DataW.trod enc Try.prog W base (fun _ => true) held n 38 [v1] = some y1 := h1
  obtain ⟨k0, e0, x0, _⟩ := DataW.trod_string Try.underlying9 h0
  obtain ⟨k2, e2, x2, w2⟩ := DataW.trod_int Try.underlying3 h2
  simp at e0 e2
  subst e0 e2
  obtain ⟨a, len, cap, rfl, hT⟩ := slice_of Try.underlying38 h1'
  obtain ⟨l, hC, hl, hlo, hb⟩ := linesArg hT
  obtain rfl : l.length = len := Kd.C_len hC
  refine ⟨⟨k0, l, k2⟩, k121_mk W ⟨k0, l, k2⟩ hl hC, ⟨hlo, int64_of w2⟩, ?_⟩
  rw [hx, x0, x2]
  simp only [Rows.uptoBulk, Rows.uptoBulkAll]
  have := size_bytes k0
  omega
theorem doneCells {H : Type} {enc : TypeId × Value → H} {W : World} {base : Nat} {held : Bool} (fuel : Nat) (cs : List Value) (x : DataW H × List MemPlace) (h : DataW.trod enc Try.prog W base (fun _ => true) held fuel 123 cs = some x) :
    ∃ p : S123, k123.K W p cs ∧ DoneOk p ∧ 7 + sumQ p.f0 ≤ Rows.uptoBulk x.1 := by
  have c3 : Try.prog.cellsOf 3 = 1 := by kernel_rfl
  have c40 : Try.prog.cellsOf 40 = 6 := by kernel_rfl
  have c123 : Try.prog.cellsOf 123 = 7 := by kernel_rfl
  obtain ⟨y0, y1, n, hx, hlen, h0, h1⟩ := trod_struct2 Try.underlying123 h
  rw [c123] at hlen
  obtain ⟨v0, v1, v2, v3, v4, v5, v6, rfl⟩ : ∃ v0 v1 v2 v3 v4 v5 v6, cs = [v0, v1, v2, v3, v4, v5, v6] := by
    match cs, hlen with
    | [v0, v1, v2, v3, v4, v5, v6], _ => exact ⟨v0, v1, v2, v3, v4, v5, v6, rfl⟩
  simp only [c3, c40] at h0 h1
  have h0' : DataW.trod enc Try.prog W base (fun _ => true) held n 40 [v0, v1, v2, v3, v4, v5] = some y0 := h0
  have h1' : DataW.trod enc Try.prog W base (fun _ => true) held n 3 [v6] = some y1 := h1
  obtain ⟨k1, e1, x1, w1⟩ := DataW.trod_int Try.underlying3 h1'
  obtain ⟨q, A, c, hcs, hc, hC, hok, hb⟩ := reqCells _ _ _ h0'
  simp at e1
  subst e1
  simp only [List.cons.injEq, and_true] at hcs
  obtain ⟨rfl, rfl, rfl, rfl, rfl, rfl⟩ := hcs
  refine ⟨⟨q, k1⟩, k123_mk W ⟨q, k1⟩ hc hC, ⟨hok, int64_of w1⟩, ?_⟩
  rw [hx, x1]
  simp only [Rows.uptoBulk, Rows.uptoBulkAll]
  omega
theorem levelCells {H : Type} {enc : TypeId × Value → H} {W : World} {base : Nat} {held : Bool} (fuel : Nat) (cs : List Value) (x : DataW H × List MemPlace) (h : DataW.trod enc Try.prog W base (fun _ => true) held fuel 28 cs = some x) :
    ∃ p : S28, k28.K W p cs ∧ (Int64 p.f1 ∧ Int64 p.f2) ∧ 3 + p.f0.size ≤ Rows.uptoBulk x.1 := by
  have c3 : Try.prog.cellsOf 3 = 1 := by kernel_rfl
  have c9 : Try.prog.cellsOf 9 = 1 := by kernel_rfl
  have c28 : Try.prog.cellsOf 28 = 3 := by kernel_rfl
  obtain ⟨y0, y1, y2, n, hx, hlen, h0, h1, h2⟩ := trod_struct3 Try.underlying28 h
  rw [c28] at hlen
  obtain ⟨v0, v1, v2, rfl⟩ := list3 hlen
  simp only [c3, c9] at h0 h1 h2
  obtain ⟨k0, e0, x0, _⟩ := DataW.trod_string Try.underlying9 h0
  obtain ⟨k1, e1, x1, w1⟩ := DataW.trod_int Try.underlying3 h1
  obtain ⟨k2, e2, x2, w2⟩ := DataW.trod_int Try.underlying3 h2
  simp at e0 e1 e2
  subst e0 e1 e2
  refine ⟨⟨k0, k1, k2⟩, k28_mk W ⟨k0, k1, k2⟩, ⟨int64_of w1, int64_of w2⟩, ?_⟩
  rw [hx, x0, x1, x2]
  simp only [Rows.uptoBulk, Rows.uptoBulkAll]
  have := size_bytes k0
  omega
def sumHs (l : List S121) : Nat := (l.map fun p => 3 + p.f0.size + sumN p.f1).sum
def sumDs (l : List S123) : Nat := (l.map fun p => 7 + sumQ p.f0).sum
def sumS (x : StD) : Nat := sumL x.f3 + sumHs x.f4 + sumDs x.f5
theorem stateArg {H : Type} {enc : TypeId × Value → H} {W : World} {base b0 : Nat} {r : Reach} {held : Bool} {v : Value} {d : DataW H} {ps : List MemPlace} (hv : Value.okWide Try.prog W r b0 58 v)
    (h : DataW.Trod enc Try.prog W base (fun _ => true) held 58 v d ps) : ∃ (x : StD) (Al : Option Addr) (cl : Nat) (Ah : Option Addr) (ch : Nat) (Ad : Option Addr) (cd : Nat), v = .agg #[.int .i64 x.f0, .int .i64 x.f1, .int .i64 x.f2, .slice Al x.f3.length cl, .slice Ah x.f4.length ch, .slice Ad x.f5.length cd] ∧
      (Kd.C k28 W Al x.f3.length x.f3 ∧ x.f3.length ≤ cl) ∧ (Kd.C k121 W Ah x.f4.length x.f4 ∧ x.f4.length ≤ ch) ∧ (Kd.C k123 W Ad x.f5.length x.f5 ∧ x.f5.length ≤ cd) ∧ (Int64 x.f0 ∧ Int64 x.f1 ∧ Int64 x.f2 ∧ LevOk x.f3 ∧ HeldsOk x.f4 ∧ DonesOk x.f5) ∧ 7 + sumS x ≤ Rows.uptoBulk d := by
  have c3 : Try.prog.cellsOf 3 = 1 := by kernel_rfl
  have c23 : Try.prog.cellsOf 23 = 1 := by kernel_rfl
  have c55 : Try.prog.cellsOf 55 = 1 := by kernel_rfl
  have c56 : Try.prog.cellsOf 56 = 1 := by kernel_rfl
  have c58 : Try.prog.cellsOf 58 = 6 := by kernel_rfl
  obtain ⟨cs, rfl, hsz⟩ := okWide_struct Try.underlying58 hv
  obtain ⟨fuel, hf⟩ := h
  obtain ⟨y0, y1, y2, y3, y4, y5, n, hx, hlen, h0, h1, h2, h3, h4, h5⟩ := trod_struct6 Try.underlying58 hf
  obtain ⟨cs⟩ := cs
  have hlen : cs.length = 6 := by rw [← c58]; exact hlen
  obtain ⟨v0, v1, v2, v3, v4, v5, rfl⟩ : ∃ v0 v1 v2 v3 v4 v5, cs = [v0, v1, v2, v3, v4, v5] := by
    match cs, hlen with
    | [v0, v1, v2, v3, v4, v5], _ => exact ⟨v0, v1, v2, v3, v4, v5, rfl⟩
  simp only [c3, c23, c55, c56] at h0 h1 h2 h3 h4 h5
  have h0' : DataW.trod enc Try.prog W base (fun _ => true) held n 3 [v0] = some y0 := h0
  have h1' : DataW.trod enc Try.prog W base (fun _ => true) held n 3 [v1] = some y1 := h1
  have h2' : DataW.trod enc Try.prog W base (fun _ => true) held n 3 [v2] = some y2 := h2
  have h3' : DataW.trod enc Try.prog W base (fun _ => true) held n 23 [v3] = some y3 := h3
  have h4' : DataW.trod enc Try.prog W base (fun _ => true) held n 55 [v4] = some y4 := h4
  have h5' : DataW.trod enc Try.prog W base (fun _ => true) held n 56 [v5] = some y5 := h5
  obtain ⟨k0, e0, x0, w0⟩ := DataW.trod_int Try.underlying3 h0'
  obtain ⟨k1, e1, x1, w1⟩ := DataW.trod_int Try.underlying3 h1'
  obtain ⟨k2, e2, x2, w2⟩ := DataW.trod_int Try.underlying3 h2'
  simp at e0 e1 e2
  subst e0 e1 e2
  obtain ⟨a3, n3, c3', rfl, hT3⟩ := slice_of Try.underlying23 h3'
  obtain ⟨a4, n4, c4', rfl, hT4⟩ := slice_of Try.underlying55 h4'
  obtain ⟨a5, n5, c5', rfl, hT5⟩ := slice_of Try.underlying56 h5'
  obtain ⟨l3, hC3, hl3, ho3, hb3⟩ := rowArg k28 ⟨⟨#[]⟩, 0, 0⟩ (fun p => Int64 p.f1 ∧ Int64 p.f2) (fun p => 3 + p.f0.size) Try.underlying23 (by kernel_rfl) levelCells hT3
  obtain ⟨l4, hC4, hl4, ho4, hb4⟩ := rowArg k121 ⟨⟨#[]⟩, [], 0⟩ HeldOk (fun p => 3 + p.f0.size + sumN p.f1) Try.underlying55 (by kernel_rfl) heldCells hT4
  obtain ⟨l5, hC5, hl5, ho5, hb5⟩ := rowArg k123 ⟨⟨⟨#[]⟩, 0, [], ⟨#[]⟩, 0, 0⟩, 0⟩ DoneOk (fun p => 7 + sumQ p.f0) Try.underlying56 (by kernel_rfl) doneCells hT5
  obtain rfl : l3.length = n3 := Kd.C_len hC3
  obtain rfl : l4.length = n4 := Kd.C_len hC4
  obtain rfl : l5.length = n5 := Kd.C_len hC5
  refine ⟨⟨k0, k1, k2, l3, l4, l5⟩, a3, c3', a4, c4', a5, c5', rfl, ⟨hC3, hl3⟩, ⟨hC4, hl4⟩, ⟨hC5, hl5⟩, ⟨int64_of w0, int64_of w1, int64_of w2, ho3, ho4, ho5⟩, ?_⟩
  have hd : d = .agg [y0.1, y1.1, y2.1, y3.1, y4.1, y5.1] := hx
  rw [hd, x0, x1, x2]
  simp only [Rows.uptoBulk, Rows.uptoBulkAll, sumS, sumL, sumHs, sumDs]
  omega
end Go.Proofs.Ytafmoglaockepaa.Cd
end
section
namespace Go.Proofs.Ytafmoglaockepaa.Cd
open Go Go.RowKit Go.Proofs.Ytafmoglaockepaa.Num Go.Proofs.Ytafmoglaockepaa.PG Go.Proofs.YtafmoglaockepaaW.PrintWords Go.Proofs.YtafmoglaockepaaW.PrintLast Go.Proofs.YtafmoglaockepaaW.PrintMore
set_option linter.unusedVariables false
set_option linter.unusedSimpArgs false
theorem big {a N : Nat} (h : a < N) (hN : N ≤ 1000000000) : a < 9223372036854775807 := by omega
theorem rd121 {l : List S121} {i : Nat} {x : S121} (h : l[i]? = some x) : rd_T121 l (i : Int) = x := by
  unfold rd_T121
  rw [Int.toNat_natCast, List.getD_eq_getElem?_getD, h]
  rfl
theorem rd123 {l : List S123} {i : Nat} {x : S123} (h : l[i]? = some x) : rd_T123 l (i : Int) = x := by
  unfold rd_T123
  rw [Int.toNat_natCast, List.getD_eq_getElem?_getD, h]
  rfl
theorem rd28 {l : List S28} {i : Nat} {x : S28} (h : l[i]? = some x) : rd_T28 l (i : Int) = x := by
  unfold rd_T28
  rw [Int.toNat_natCast, List.getD_eq_getElem?_getD, h]
  rfl
theorem copy_l1 (l5 : List S123) (hl : l5.length < 1000000000) (hM : ∀ x ∈ l5, x.f0.f2.length < 1000000000) (z0 z1 z2 : Int) (z3 : List S28) (z4 : List S121) (y0 y1 y2 : Int) (y3 : List S28) (y4 : List S121) : ∀ d i k : Nat, d + 1 ≤ k → i + d = l5.length →
    larderref09_CopyState.l1 k (i : Int) z0 z1 z2 z3 z4 l5 y0 y1 y2 y3 y4 (l5.take i) = some (y0, y1, y2, y3, y4, l5)
  | 0, i, k, hk, h => by
    obtain ⟨k, rfl⟩ : ∃ q, k = q + 1 := ⟨k - 1, by omega⟩
    unfold larderref09_CopyState.l1
    rw [if_neg (by omega), List.take_of_length_le (by omega)]
  | d + 1, i, k, hk, h => by
    obtain ⟨k, rfl⟩ : ∃ q, k = q + 1 := ⟨k - 1, by omega⟩
    obtain ⟨x, hx⟩ : ∃ x, l5[i]? = some x := ⟨_, List.getElem?_eq_getElem (by omega)⟩
    have hm := hM x (List.mem_of_getElem? hx)
    have ih := copy_l1 l5 hl hM z0 z1 z2 z3 z4 y0 y1 y2 y3 y4 d (i + 1) k (by omega) (by omega)
    unfold larderref09_CopyState.l1
    rw [if_pos (by omega), if_pos (by omega), rd123 hx, if_pos (by simp only [List.length_nil]; omega), if_pos (by rw [List.length_take]; omega), w64n (by omega), List.nil_append]
    rw [take_snoc hx] at ih
    exact ih
theorem copy_l0 (l4 : List S121) (l5 : List S123) (hl4 : l4.length < 1000000000) (hM4 : ∀ x ∈ l4, x.f1.length < 1000000000) (hl : l5.length < 1000000000) (hM : ∀ x ∈ l5, x.f0.f2.length < 1000000000) (z0 z1 z2 : Int) (z3 : List S28) (y0 y1 y2 : Int) (y3 : List S28) : ∀ d i k : Nat, d + l5.length + 2 ≤ k → i + d = l4.length →
    larderref09_CopyState.l0 k (i : Int) z0 z1 z2 z3 l4 l5 y0 y1 y2 y3 (l4.take i) = some (y0, y1, y2, y3, l4, l5)
  | 0, i, k, hk, h => by
    obtain ⟨k, rfl⟩ : ∃ q, k = q + 1 := ⟨k - 1, by omega⟩
    have := copy_l1 l5 hl hM z0 z1 z2 z3 l4 y0 y1 y2 y3 l4 l5.length 0 k (by omega) (by omega)
    rw [List.take_zero] at this
    unfold larderref09_CopyState.l0
    rw [if_neg (by omega), List.take_of_length_le (by omega)]
    exact this
  | d + 1, i, k, hk, h => by
    obtain ⟨k, rfl⟩ : ∃ q, k = q + 1 := ⟨k - 1, by omega⟩
    obtain ⟨x, hx⟩ : ∃ x, l4[i]? = some x := ⟨_, List.getElem?_eq_getElem (by omega)⟩
    have hm := hM4 x (List.mem_of_getElem? hx)
    have ih := copy_l0 l4 l5 hl4 hM4 hl hM z0 z1 z2 z3 y0 y1 y2 y3 d (i + 1) k (by omega) (by omega)
    unfold larderref09_CopyState.l0
    rw [if_pos (by omega), if_pos (by omega), rd121 hx, if_pos (by simp only [List.length_nil]; omega), if_pos (by rw [List.length_take]; omega), w64n (by omega), List.nil_append]
    rw [take_snoc hx] at ih
    exact ih
theorem copy_ok (x : StD) (h3 : x.f3.length < 1000000000) (h4 : x.f4.length < 1000000000) (hM4 : ∀ y ∈ x.f4, y.f1.length < 1000000000) (h5 : x.f5.length < 1000000000) (hM5 : ∀ y ∈ x.f5, y.f0.f2.length < 1000000000) :
    larderref09_CopyState.f (x.f4.length + x.f5.length + 2) x.f0 x.f1 x.f2 x.f3 x.f4 x.f5 = some (x.f0, x.f1, x.f2, x.f3, x.f4, x.f5) := by
  have := copy_l0 x.f4 x.f5 h4 hM4 h5 hM5 x.f0 x.f1 x.f2 x.f3 x.f0 x.f1 x.f2 x.f3 x.f4.length 0 (x.f4.length + x.f5.length + 2) (Nat.le_refl _) (by omega)
  rw [List.take_zero] at this
  unfold larderref09_CopyState.f
  rw [if_pos (by simp only [List.length_nil]; omega), List.nil_append]
  exact this
theorem wadd (a b : Nat) (h : a + b < 9223372036854775807) : wrap64 ((a : Int) + (b : Int)) = ((a + b : Nat) : Int) := by unfold wrap64; omega
theorem wadd7 (a : Nat) (h : a + 7 < 9223372036854775807) : wrap64 ((a : Int) + 7) = ((a + 7 : Nat) : Int) := by unfold wrap64; omega
theorem wadd3 (a : Nat) (h : a + 3 < 9223372036854775807) : wrap64 ((a : Int) + 3) = ((a + 3 : Nat) : Int) := by unfold wrap64; omega
theorem wadd2 (a : Nat) (h : a + 2 < 9223372036854775807) : wrap64 ((a : Int) + 2) = ((a + 2 : Nat) : Int) := by unfold wrap64; omega
theorem sumL_cons (x : S28) (l : List S28) : sumL (x :: l) = 3 + x.f0.size + sumL l := by simp [sumL]
theorem sumHs_cons (x : S121) (l : List S121) : sumHs (x :: l) = 3 + x.f0.size + sumN x.f1 + sumHs l := by simp [sumHs]
theorem sumDs_cons (x : S123) (l : List S123) : sumDs (x :: l) = 7 + sumQ x.f0 + sumDs l := by simp [sumDs]
theorem sumHs_mem : ∀ (l : List S121) (x : S121), x ∈ l → 3 + x.f0.size + sumN x.f1 ≤ sumHs l
  | y :: l, x, h => by
    rw [sumHs_cons]
    rcases List.mem_cons.1 h with rfl | h
    · omega
    · have := sumHs_mem l x h
      omega
theorem sumDs_mem : ∀ (l : List S123) (x : S123), x ∈ l → 7 + sumQ x.f0 ≤ sumDs l
  | y :: l, x, h => by
    rw [sumDs_cons]
    rcases List.mem_cons.1 h with rfl | h
    · omega
    · have := sumDs_mem l x h
      omega
theorem sumHs_count : ∀ l : List S121, 3 * l.length ≤ sumHs l
  | [] => by simp [sumHs]
  | x :: l => by
    have := sumHs_count l
    rw [sumHs_cons, List.length_cons]
    omega
theorem sumDs_count : ∀ l : List S123, 7 * l.length ≤ sumDs l
  | [] => by simp [sumDs]
  | x :: l => by
    have := sumDs_count l
    rw [sumDs_cons, List.length_cons]
    omega
theorem bulk_l3 (N : Nat) (HN : Aside0 (N ≤ 1000000000)) (l5 : List S123) (hl5 : l5.length < N) (z0 z1 z2 : Int) (z3 : List S28) (z4 : List S121) (M : Nat) (hM : ∀ x ∈ l5, x.f0.f2.length ≤ M) : ∀ d i k s : Nat, d + M + 2 ≤ k → i + d = l5.length → s + sumDs (l5.drop i) < N →
    larderlaw09_bulk.l3 k (s : Int) (i : Int) z0 z1 z2 z3 z4 l5 = some ((s + sumDs (l5.drop i) : Nat) : Int)
  | 0, i, k, s, hk, h, hb => by
    obtain ⟨k, rfl⟩ : ∃ q, k = q + 1 := ⟨k - 1, by omega⟩
    unfold larderlaw09_bulk.l3
    rw [if_neg (by omega), List.drop_of_length_le (by omega)]
    simp [sumDs]
  | d + 1, i, k, s, hk, h, hb => by
    obtain ⟨k, rfl⟩ : ∃ q, k = q + 1 := ⟨k - 1, by omega⟩
    obtain ⟨x, hx⟩ : ∃ x, l5[i]? = some x := ⟨_, List.getElem?_eq_getElem (by omega)⟩
    have hm := hM x (List.mem_of_getElem? hx)
    rw [drop_at hx, sumDs_cons] at hb
    have ih0 := fun h => bulk_l3 N HN l5 hl5 z0 z1 z2 z3 z4 M hM d (i + 1) k (s + 7 + sumQ x.f0) (by omega) (by omega) h
    have hw := fun h => weight_ok x.f0 h k (by omega)
    unfold larderlaw09_bulk.l3
    rw [if_pos (by omega), if_pos (by omega), rd123 hx, drop_at hx, sumDs_cons, w64n (big (by omega) HN.out)]
    generalize sumQ x.f0 = q at *
    generalize sumDs (l5.drop (i + 1)) = r at *
    rw [hw (big (by omega) HN.out), Option.bind_some]
    have b1 := big (N := N) (show s + 7 < N by omega) HN.out
    have b2 := big (N := N) (show s + 7 + q < N by omega) HN.out
    have h9 := ih0 (by omega)
    rw [wadd7 s b1, wadd (s + 7) q b2, h9]
    clear b1 b2 h9
    congr 2
    omega
theorem bulk_l12 (N : Nat) (HN : Aside0 (N ≤ 1000000000)) (l4 : List S121) (l5 : List S123) (z0 z1 z2 : Int) (z3 : List S28) (M : Nat) (hM : ∀ x ∈ l5, x.f0.f2.length ≤ M) (hl4 : l4.length < N) (hl5 : l5.length < N) : ∀ d i k s : Nat, sumHs (l4.drop i) + d + l5.length + M + 4 ≤ k → i + d = l4.length → s + sumHs (l4.drop i) + sumDs l5 < N →
    larderlaw09_bulk.l1 k (s : Int) (i : Int) z0 z1 z2 z3 l4 l5 = some ((s + sumHs (l4.drop i) + sumDs l5 : Nat) : Int)
  | 0, i, k, s, hk, h, hb => by
    obtain ⟨k, rfl⟩ : ∃ q, k = q + 1 := ⟨k - 1, by omega⟩
    have hd : l4.drop i = [] := List.drop_of_length_le (by omega)
    rw [hd] at hk hb
    have := bulk_l3 N HN l5 hl5 z0 z1 z2 z3 l4 M hM l5.length 0 k s (by omega) (by omega) (by rw [List.drop_zero]; simp [sumHs] at hb; omega)
    rw [List.drop_zero] at this
    unfold larderlaw09_bulk.l1
    rw [if_neg (by omega), hd]
    have e0 : ((0 : Nat) : Int) = 0 := rfl
    rw [e0] at this
    rw [this]
    simp [sumHs]
  | d + 1, i, k, s, hk, h, hb => by
    obtain ⟨k, rfl⟩ : ∃ q, k = q + 1 := ⟨k - 1, by omega⟩
    obtain ⟨x, hx⟩ : ∃ x, l4[i]? = some x := ⟨_, List.getElem?_eq_getElem (by omega)⟩
    rw [drop_at hx, sumHs_cons] at hb hk
    have hxl : x.f1.length < N := by
      have := sumN_count x.f1
      omega
    have hin : ∀ dj j k' t : Nat, dj + 1 + (sumHs (l4.drop (i + 1)) + d + l5.length + M + 4) ≤ k' → j + dj = x.f1.length → t + sumN (x.f1.drop j) + sumHs (l4.drop (i + 1)) + sumDs l5 < N →
        larderlaw09_bulk.l2 k' (t : Int) (i : Int) (j : Int) z0 z1 z2 z3 l4 l5 = some ((t + sumN (x.f1.drop j) + sumHs (l4.drop (i + 1)) + sumDs l5 : Nat) : Int) := by
      intro dj
      induction dj with
      | zero =>
        intro j k' t hk' hj hb'
        obtain ⟨k', rfl⟩ : ∃ q, k' = q + 1 := ⟨k' - 1, by omega⟩
        have hd : x.f1.drop j = [] := List.drop_of_length_le (by omega)
        rw [hd] at hb'
        have hs0 : sumN ([] : List S110) = 0 := by simp [sumN]
        have ih := bulk_l12 N HN l4 l5 z0 z1 z2 z3 M hM hl4 hl5 d (i + 1) k' t (by omega) (by omega) (by omega)
        unfold larderlaw09_bulk.l2
        rw [if_pos (by omega), if_pos (by omega), rd121 hx, if_neg (by omega), w64n (big (by omega) HN.out), ih, hd, hs0]
        rfl
      | succ dj ihj =>
        intro j k' t hk' hj hb'
        obtain ⟨k', rfl⟩ : ∃ q, k' = q + 1 := ⟨k' - 1, by omega⟩
        obtain ⟨y, hy⟩ : ∃ y, x.f1[j]? = some y := ⟨_, List.getElem?_eq_getElem (by omega)⟩
        rw [drop_at hy, sumN_cons] at hb'
        have ih0 := fun h => ihj (j + 1) k' (t + 2 + y.f0.size) (by omega) (by omega) h
        have hjlt : j < 9223372036854775807 := big (N := N) (by omega) HN.out
        unfold larderlaw09_bulk.l2
        rw [if_pos (by omega), if_pos (by omega), rd121 hx, if_pos (by omega), if_pos (by omega), rd110 hy, w64n hjlt, drop_at hy, sumN_cons]
        generalize y.f0.size = q at *
        generalize sumN (x.f1.drop (j + 1)) = r at *
        generalize sumHs (l4.drop (i + 1)) = S at *
        generalize sumDs l5 = D at *
        have b1 := big (N := N) (show t + 2 < N by omega) HN.out
        have b2 := big (N := N) (show t + 2 + q < N by omega) HN.out
        have h9 := ih0 (by omega)
        rw [wadd2 t b1, wadd (t + 2) q b2, h9]
        clear b1 b2 h9
        congr 2
        omega
    have hcN := sumN_count x.f1
    have h0 := fun h1 h2 => hin x.f1.length 0 k (s + 3 + x.f0.size) h1 (by omega) h2
    clear hin
    rw [List.drop_zero] at h0
    have e0 : ((0 : Nat) : Int) = 0 := rfl
    rw [e0] at h0
    unfold larderlaw09_bulk.l1
    rw [if_pos (by omega), if_pos (by omega), rd121 hx, drop_at hx, sumHs_cons]
    generalize x.f0.size = q at *
    generalize sumN x.f1 = r at *
    generalize sumHs (l4.drop (i + 1)) = S at *
    generalize sumDs l5 = D at *
    have b1 := big (N := N) (show s + 3 < N by omega) HN.out
    have b2 := big (N := N) (show s + 3 + q < N by omega) HN.out
    have h9 := h0 (by omega) (by omega)
    rw [wadd3 s b1, wadd (s + 3) q b2, h9]
    clear b1 b2 h9
    congr 2
    omega
theorem bulk_l0 (N : Nat) (HN : Aside0 (N ≤ 1000000000)) (l3 : List S28) (l4 : List S121) (l5 : List S123) (z0 z1 z2 : Int) (M : Nat) (hM : ∀ x ∈ l5, x.f0.f2.length ≤ M) (hl3 : l3.length < N) (hl4 : l4.length < N) (hl5 : l5.length < N) : ∀ d i k s : Nat, d + 1 + (sumHs l4 + l4.length + l5.length + M + 4) ≤ k → i + d = l3.length → s + sumL (l3.drop i) + sumHs l4 + sumDs l5 < N →
    larderlaw09_bulk.l0 k (s : Int) (i : Int) z0 z1 z2 l3 l4 l5 = some ((s + sumL (l3.drop i) + sumHs l4 + sumDs l5 : Nat) : Int)
  | 0, i, k, s, hk, h, hb => by
    obtain ⟨k, rfl⟩ : ∃ q, k = q + 1 := ⟨k - 1, by omega⟩
    have hd : l3.drop i = [] := List.drop_of_length_le (by omega)
    have hs0 : sumL ([] : List S28) = 0 := by simp [sumL]
    rw [hd, hs0] at hb
    have := bulk_l12 N HN l4 l5 z0 z1 z2 l3 M hM hl4 hl5 l4.length 0 k s (by rw [List.drop_zero]; omega) (by omega) (by rw [List.drop_zero]; omega)
    rw [List.drop_zero] at this
    have e0 : ((0 : Nat) : Int) = 0 := rfl
    rw [e0] at this
    unfold larderlaw09_bulk.l0
    rw [if_neg (by omega), this, hd, hs0, Nat.add_zero]
  | d + 1, i, k, s, hk, h, hb => by
    obtain ⟨k, rfl⟩ : ∃ q, k = q + 1 := ⟨k - 1, by omega⟩
    obtain ⟨x, hx⟩ : ∃ x, l3[i]? = some x := ⟨_, List.getElem?_eq_getElem (by omega)⟩
    rw [drop_at hx, sumL_cons] at hb
    have ih0 := fun h => bulk_l0 N HN l3 l4 l5 z0 z1 z2 M hM hl3 hl4 hl5 d (i + 1) k (s + 3 + x.f0.size) (by omega) (by omega) h
    unfold larderlaw09_bulk.l0
    rw [if_pos (by omega), if_pos (by omega), rd28 hx, w64n (big (by omega) HN.out), drop_at hx, sumL_cons]
    generalize x.f0.size = q at *
    generalize sumL (l3.drop (i + 1)) = r at *
    generalize sumHs l4 = S at *
    generalize sumDs l5 = D at *
    have b1 := big (N := N) (show s + 3 < N by omega) HN.out
    have b2 := big (N := N) (show s + 3 + q < N by omega) HN.out
    have h9 := ih0 (by omega)
    rw [wadd3 s b1, wadd (s + 3) q b2, h9]
    clear b1 b2 h9
    congr 2
    omega
theorem bulk_ok (x : StD) (hs : sumS x < 1000000000) : ∃ k, larderlaw09_bulk.f k x.f0 x.f1 x.f2 x.f3 x.f4 x.f5 = some (sumS x : Int) := by
  have HS := Aside0.mk (show sumS x + 1 ≤ 1000000000 from hs)
  clear hs
  have h3 := sumL_count x.f3
  have h4 := sumHs_count x.f4
  have h5 := sumDs_count x.f5
  have hq : sumS x = sumL x.f3 + sumHs x.f4 + sumDs x.f5 := rfl
  have hM : ∀ y ∈ x.f5, y.f0.f2.length ≤ sumDs x.f5 := fun y hy => by
    have h1 := sumDs_mem _ y hy
    have h2 := sumN_count y.f0.f2
    unfold sumQ at h1
    omega
  have := bulk_l0 (sumS x + 1) HS x.f3 x.f4 x.f5 x.f0 x.f1 x.f2 (sumDs x.f5) hM (by omega) (by omega) (by omega) x.f3.length 0 _ 0 (Nat.le_refl _) (by omega) (by rw [List.drop_zero]; omega)
  rw [List.drop_zero] at this
  have e0 : ((0 : Nat) : Int) = 0 := rfl
  rw [e0] at this
  refine ⟨x.f3.length + 1 + (sumHs x.f4 + x.f4.length + x.f5.length + sumDs x.f5 + 4), ?_⟩
  unfold larderlaw09_bulk.f
  rw [this, hq, Nat.zero_add]
theorem bulkHs_sum : ∀ l : List S121, bulkHs l ≤ 15 * sumHs l
  | [] => by simp [bulkHs, sumHs]
  | x :: l => by
    have := bulkHs_sum l
    have := bulkN_sum x.f1
    rw [bulkHs_cons, sumHs_cons]
    unfold bulkH
    omega
theorem bulkDs_sum : ∀ l : List S123, bulkDs l ≤ 15 * sumDs l
  | [] => by simp [bulkDs, sumDs]
  | x :: l => by
    have := bulkDs_sum l
    have := bulkQ_sum x.f0
    rw [bulkDs_cons, sumDs_cons]
    unfold bulkD
    omega
theorem bulkS_sum (x : StD) : bulkS x ≤ 90 + 15 * sumS x := by
  have := bulkL_sum x.f3
  have := bulkHs_sum x.f4
  have := bulkDs_sum x.f5
  unfold bulkS sumS
  omega
end Go.Proofs.Ytafmoglaockepaa.Cd
end
section
namespace Go.Proofs.Ytafmoglaockepaa.Cd
open Go Go.RowKit Go.Proofs.Ytafmoglaockepaa.Num Go.Proofs.Ytafmoglaockepaa.PG Go.Proofs.YtafmoglaockepaaW.PrintWords Go.Proofs.YtafmoglaockepaaW.PrintLast Go.Proofs.YtafmoglaockepaaW.PrintMore
set_option linter.unusedVariables false
set_option linter.unusedSimpArgs false
set_option maxHeartbeats 4000000
set_option maxRecDepth 100000
abbrev zero_st : List Value := [.int .i64 0, .int .i64 0, .int .i64 0, .slice none 0 0, .slice none 0 0, .slice none 0 0]
theorem catch_st {bo be ba : Nat} {ve va : Value} (er p : Int) (older : List PanicEntry) (w : World) (ho : Rt 58 bo zero_st w) (he : Rt 22 be [ve] w) (ha : Rt 3 ba [va] w) (h1 : bo ≠ be) (h2 : bo ≠ ba) (h3 : be ≠ ba) :
    CallsD Try.prog 128 #[ptr bo, ptr be, ptr ba] (.panicking ({ v := fault er p, recovered := false } :: older)) w fun e u' w' =>
      e = .returned (.tuple #[]) ∧ u' = .panicking ({ v := fault er p, recovered := true } :: older) ∧ Rt 58 bo zero_st w' ∧ Rt 22 be [.int .i64 er] w' ∧ Rt 3 ba [.int .i64 p] w' ∧ Kept w w' (fun j => j = bo ∨ j = be ∨ j = ba) ∧ ∀ B, B ≤ be → B ≤ ba → B ≤ w.heap.size → Below B w w' := by
  have HO := Aside0.mk ho
  have HE := Aside0.mk he
  have HA := Aside0.mk ha
  have hu155 := Try.underlying155
  clear ho he ha
  refine callsD_of_wpS Try.func128 rfl fun c₀ cs hu => ?_
  simp only [Try.ntmps128, List.size_toArray, List.length_cons, List.length_nil, Nat.reduceAdd, Nat.reduceSub, Array.replicate_succ, Array.replicate_zero, List.push_toArray, List.append_toArray, List.nil_append, List.cons_append]
  apply wpS_seq
  refine wpS_recovers (v := fault er p) (cs' := { c₀ with mode := .panicking ({ v := fault er p, recovered := true } :: older) } :: cs) (by rfl) (by simp [go_sem]) (by simp [recoverD, hu]) ?_ ?_
  · rintro ⟨a, w, u', h, _⟩
    cases h
  simp only [Act.put, List.setIfInBounds_toArray, List.set_cons_zero, List.set_cons_succ]
  unfold fault
  have hTA : ∀ v w, (Instr.typeAssert (.iface 155 v) 20 155 true).run Try.prog w = .ok (.tuple #[v, .bool true]) w := fun v w => by
    simp [Instr.typeAssert, run_underlying hu155]
  go_wp2_with fail
  simp only [Exit.thenS]
  refine wpS_of_wp ?_
  have hb1 : Below w.heap.size w (w.alloc (.cells #[.int .i64 er, .int .i64 p] 155)) := below_alloc (Below.refl _ _) _
  have hr3 : Rt 155 w.heap.size [.int .i64 er, .int .i64 p] (w.alloc (.cells #[.int .i64 er, .int .i64 p] 155)) := heap_alloc_new w _
  obtain ⟨b3, hb3⟩ : ∃ b3, w.heap.size = b3 := ⟨_, rfl⟩
  have HB3E := Aside0.mk hb3
  have O1 := Aside0.mk (HO.out.below hb1)
  have E1 := Aside0.mk (HE.out.below hb1)
  have A1 := Aside0.mk (HA.out.below hb1)
  have P1 := Aside0.mk (Kept.of_below hb1 (fun j => j = bo ∨ j = be ∨ j = ba))
  have W1 := Aside0.mk (show Below w.heap.size w (w.alloc (.cells #[.int .i64 er, .int .i64 p] 155)) from hb1)
  rw [hb3] at hr3 ⊢
  have R1 := Aside0.mk hr3
  clear hb1 hr3 hb3 hTA hu155 hu
  generalize w.alloc (.cells #[.int .i64 er, .int .i64 p] 155) = w1 at *
  go_upto_region 3 with fail
  have hb1 : Below w1.heap.size w1 (w1.alloc (.cells #[.int .i64 0, .int .i64 0, .int .i64 0, .slice none 0 0, .slice none 0 0, .slice none 0 0] 58)) := below_alloc (Below.refl _ _) _
  have hr5 : Rt 58 w1.heap.size zero_st (w1.alloc (.cells #[.int .i64 0, .int .i64 0, .int .i64 0, .slice none 0 0, .slice none 0 0, .slice none 0 0] 58)) := heap_alloc_new w1 _
  obtain ⟨b5, hb5⟩ : ∃ b5, w1.heap.size = b5 := ⟨_, rfl⟩
  have O2 := Aside0.mk (O1.out.below hb1)
  have E2 := Aside0.mk (E1.out.below hb1)
  have A2 := Aside0.mk (A1.out.below hb1)
  have R2 := Aside0.mk (R1.out.below hb1)
  have P2 := Aside0.mk (P1.out.below hb1)
  have W2 := Aside0.mk (W1.out.trans (hb1.mono W1.out.size))
  rw [hb5] at hr5 ⊢
  have Z2 := Aside0.mk hr5
  clear hb1 hr5 hb5 O1 E1 A1 R1 P1 W1
  generalize w1.alloc (.cells #[.int .i64 0, .int .i64 0, .int .i64 0, .slice none 0 0, .slice none 0 0, .slice none 0 0] 58) = w2 at *
  have MKS := Aside0.mk (show ∀ w' : World, (∀ j t (u : Array Value), w2.heap[j]? = some (Obj.cells u t (0, 0)) → t ≠ 22 → t ≠ 3 → w'.heap[j]? = w2.heap[j]?) → (fun w' : World => (w'.cell? ⟨b5, 0, none⟩ = some (.int .i64 0) ∧ w'.cell? ⟨b5, 1, none⟩ = some (.int .i64 0) ∧ w'.cell? ⟨b5, 2, none⟩ = some (.int .i64 0) ∧ w'.cell? ⟨b5, 3, none⟩ = some (.slice none 0 0) ∧ w'.cell? ⟨b5, 4, none⟩ = some (.slice none 0 0) ∧ w'.cell? ⟨b5, 5, none⟩ = some (.slice none 0 0)) ∧ w'.cell? ⟨b3, 0, none⟩ = some (.int .i64 er) ∧ w'.cell? ⟨b3, 1, none⟩ = some (.int .i64 p)) w' from fun w' hw => by
    have z : Rt 58 b5 zero_st w' := (hw b5 58 _ Z2.out (by decide) (by decide)).trans Z2.out
    have r : Rt 155 b3 [.int .i64 er, .int .i64 p] w' := (hw b3 155 _ R2.out (by decide) (by decide)).trans R2.out
    exact ⟨⟨z.cell 0 _ rfl, z.cell 1 _ rfl, z.cell 2 _ rfl, z.cell 3 _ rfl, z.cell 4 _ rfl, z.cell 5 _ rfl⟩, r.cell 0 _ rfl, r.cell 1 _ rfl⟩)
  refine wp_region_held_drew (S := fun w' : World => (w'.cell? ⟨b5, 0, none⟩ = some (.int .i64 0) ∧ w'.cell? ⟨b5, 1, none⟩ = some (.int .i64 0) ∧ w'.cell? ⟨b5, 2, none⟩ = some (.int .i64 0) ∧ w'.cell? ⟨b5, 3, none⟩ = some (.slice none 0 0) ∧ w'.cell? ⟨b5, 4, none⟩ = some (.slice none 0 0) ∧ w'.cell? ⟨b5, 5, none⟩ = some (.slice none 0 0)) ∧ w'.cell? ⟨b3, 0, none⟩ = some (.int .i64 er) ∧ w'.cell? ⟨b3, 1, none⟩ = some (.int .i64 p)) (by kernel_rfl) (MKS.out _ (fun _ _ _ _ _ _ => rfl)) (fun hHeld => ?_)
  refine tk (i := 0) (oi := { dst := some 12, op := Op.load 58 (Operand.tmp 5), type := 58, pos := "read.go:88", after := #[], guard := none }) (v := ?_) (.inl ⟨by rfl, ?_⟩) hHeld ?_
  rotate_left
  · intro w' hS; obtain ⟨⟨hS0, hS1, hS2, hS3, hS4, hS5⟩, hS6, hS7⟩ := hS; go_simp; all_goals (with_reducible rfl)
  (try simp only [pz])
  refine tk (i := 1) (oi := { dst := some 13, op := Op.fieldAddr 155 (Operand.tmp 3) 0, type := 0, pos := "read.go:88", after := #[(eM 5)], guard := none }) (v := ?_) (.inl ⟨by rfl, ?_⟩) hHeld ?_
  rotate_left
  · intro w' hS; obtain ⟨⟨hS0, hS1, hS2, hS3, hS4, hS5⟩, hS6, hS7⟩ := hS; go_simp; all_goals (with_reducible rfl)
  (try simp only [pz])
  refine tk (i := 2) (oi := { dst := some 14, op := Op.load 22 (Operand.tmp 13), type := 22, pos := "read.go:88", after := #[(eD 1), (eM 5)], guard := none }) (v := ?_) (.inl ⟨by rfl, ?_⟩) hHeld ?_
  rotate_left
  · intro w' hS; obtain ⟨⟨hS0, hS1, hS2, hS3, hS4, hS5⟩, hS6, hS7⟩ := hS; go_simp; all_goals (with_reducible rfl)
  (try simp only [pz])
  refine tk (i := 3) (oi := { dst := some 15, op := Op.fieldAddr 155 (Operand.tmp 3) 1, type := 0, pos := "read.go:88", after := #[(eM 6)], guard := none }) (v := ?_) (.inl ⟨by rfl, ?_⟩) hHeld ?_
  rotate_left
  · intro w' hS; obtain ⟨⟨hS0, hS1, hS2, hS3, hS4, hS5⟩, hS6, hS7⟩ := hS; go_simp; all_goals (with_reducible rfl)
  (try simp only [pz])
  refine tk (i := 4) (oi := { dst := some 16, op := Op.load 3 (Operand.tmp 15), type := 3, pos := "read.go:88", after := #[(eD 3), (eM 6)], guard := none }) (v := ?_) (.inl ⟨by rfl, ?_⟩) hHeld ?_
  rotate_left
  · intro w' hS; obtain ⟨⟨hS0, hS1, hS2, hS3, hS4, hS5⟩, hS6, hS7⟩ := hS; go_simp; all_goals (with_reducible rfl)
  (try simp only [pz])
  refine wpAnyH_ready (rs := [5]) (by kernel_rfl) (by simp) ?_
  refine AllReadyH.cons (o := { dst := none, op := Op.store 58 (Operand.tmp 0) (Operand.tmp 12), type := 0, pos := "read.go:88", after := #[(eD 0), (eP 0), (eL 1), (eL 2), (eL 3), (eL 4)], guard := none }) rfl (fun K hK => ?_) AllReadyH.nil
  have d0 := O2.out.cell 0 _ rfl
  have d1 := O2.out.cell 1 _ rfl
  have d2 := O2.out.cell 2 _ rfl
  have d3 := O2.out.cell 3 _ rfl
  have d4 := O2.out.cell 4 _ rfl
  have d5 := O2.out.cell 5 _ rfl
  have f0 := O2.out.free 0
  have f1 := O2.out.free 1
  have f2 := O2.out.free 2
  have f3 := O2.out.free 3
  have f4 := O2.out.free 4
  have f5 := O2.out.free 5
  go_simp
  rw [O2.out.same 0 _ rfl, O2.out.same 1 _ rfl, O2.out.same 2 _ rfl, O2.out.same 3 _ rfl, O2.out.same 4 _ rfl, O2.out.same 5 _ rfl]
  clear d0 d1 d2 d3 d4 d5 f0 f1 f2 f3 f4 f5
  refine hK.out _ _ (MKS.out _ (fun _ _ _ _ _ _ => rfl)) (fun hHeld => ?_)
  clear hK K
  (try simp only [pz])
  refine wpAnyH_ready (rs := [6]) (by kernel_rfl) (by simp) ?_
  refine AllReadyH.cons (o := { dst := none, op := Op.store 22 (Operand.tmp 1) (Operand.tmp 14), type := 0, pos := "read.go:88", after := #[(eD 2), (eC 5), (eP 0), (eP 1), (eP 2), (eL 3), (eL 4), (eP 5)], guard := none }) rfl (fun K hK => ?_) AllReadyH.nil
  have d0 := E2.out.cell 0 _ rfl
  have f0 := E2.out.free 0
  go_simp
  rw [E2.out.set 0 (.int .i64 er), show [ve].set 0 (.int .i64 er) = [Value.int .i64 er] from rfl]
  have E6 := Aside0.mk (show Rt 22 be [.int .i64 er] (w2.setRow be [Value.int .i64 er].toArray) from E2.out.row _)
  have A6 := Aside0.mk (show Rt 3 ba [va] (w2.setRow be [Value.int .i64 er].toArray) from (setRow_other _ _ _ _ (Ne.symm h3)).trans A2.out)
  clear d0 f0
  refine hK.out _ _ (MKS.out _ (fun j t u hj h22 h3' => setRow_other _ _ _ _ (fun e => h22 (by rw [e] at hj; exact blk_types hj E2.out)))) (fun hHeld => ?_)
  clear hK K
  (try simp only [pz])
  refine wpAnyH_ready (rs := [7]) (by kernel_rfl) (by simp) ?_
  refine AllReadyH.cons (o := { dst := none, op := Op.store 3 (Operand.tmp 2) (Operand.tmp 16), type := 0, pos := "read.go:88", after := #[(eD 4), (eC 6), (eP 0), (eP 1), (eP 2), (eP 3), (eP 4), (eP 5), (eP 6)], guard := none }) rfl (fun K hK => ?_) AllReadyH.nil
  have d0 := A6.out.cell 0 _ rfl
  have f0 := A6.out.free 0
  go_simp
  rw [A6.out.set 0 (.int .i64 p), show [va].set 0 (.int .i64 p) = [Value.int .i64 p] from rfl]
  have A7 := Aside0.mk (show Rt 3 ba [.int .i64 p] ((w2.setRow be [Value.int .i64 er].toArray).setRow ba [Value.int .i64 p].toArray) from A6.out.row _)
  have E7 := Aside0.mk (show Rt 22 be [.int .i64 er] ((w2.setRow be [Value.int .i64 er].toArray).setRow ba [Value.int .i64 p].toArray) from (setRow_other _ _ _ _ h3).trans E6.out)
  have O7 := Aside0.mk (show Rt 58 bo zero_st ((w2.setRow be [Value.int .i64 er].toArray).setRow ba [Value.int .i64 p].toArray) from (setRow_other _ _ _ _ h2).trans ((setRow_other _ _ _ _ h1).trans O2.out))
  have P7 := Aside0.mk (show Kept w ((w2.setRow be [Value.int .i64 er].toArray).setRow ba [Value.int .i64 p].toArray) (fun j => j = bo ∨ j = be ∨ j = ba) from ⟨by rw [setRow_size, setRow_size]; exact P2.out.1, fun j hj hn => (setRow_other _ _ _ _ (fun e => hn (.inr (.inr e)))).trans ((setRow_other _ _ _ _ (fun e => hn (.inr (.inl e)))).trans (P2.out.2 j hj hn))⟩)
  clear d0 f0
  refine hK.out _ _ (MKS.out _ (fun j t u hj h22 h3' => (setRow_other _ _ _ _ (fun e => h3' (by rw [e] at hj; exact blk_types hj A2.out))).trans (setRow_other _ _ _ _ (fun e => h22 (by rw [e] at hj; exact blk_types hj E2.out))))) (fun hHeld => ?_)
  clear hK K
  (try simp only [pz])
  refine wpAnyH_done (by kernel_rfl) ?_ _
  (try simp only [pz])
  try simp only [Exit.then]
  refine ⟨rfl, _, rfl, ?_⟩
  refine ⟨.tuple #[], by simp [results, Try.f128, Try.results128], rfl, rfl, O7.out, E7.out, A7.out, P7.out, fun B h1 h2 h3 => ?_⟩
  exact below_drew (below_setRow' (below_setRow' (W2.out.mono (by have := HB3E.out; omega)) h1 _) h2 _)
theorem idle_st {bo be ba : Nat} (w : World) :
    CallsD Try.prog 128 #[ptr bo, ptr be, ptr ba] .returning w fun e u' w' => e = .returned (.tuple #[]) ∧ u' = .returning ∧ Below w.heap.size w w' := by
  have hu155 := Try.underlying155
  refine callsD_of_wpS Try.func128 rfl fun c₀ cs hu => ?_
  simp only [Try.ntmps128, List.size_toArray, List.length_cons, List.length_nil, Nat.reduceAdd, Nat.reduceSub, Array.replicate_succ, Array.replicate_zero, List.push_toArray, List.append_toArray, List.nil_append, List.cons_append]
  apply wpS_seq
  refine wpS_recovers_none (by rfl) (by simp [go_sem]) (by simp [recoverD, hu]) ?_ ?_
  · rintro ⟨a, w, u', h, _⟩
    cases h
  simp only [Act.put, List.setIfInBounds_toArray, List.set_cons_zero, List.set_cons_succ]
  obtain ⟨i, hi, hz, _, _⟩ : ∃ i, Try.prog.info? 155 = some i ∧ i.zero = some (.agg #[.int .i64 0, .int .i64 0]) ∧ i.size = 2 ∧ True := by
    have h : (Try.prog.info? 155).map (fun i => (i.zero, i.size)) = some (some (.agg #[.int .i64 0, .int .i64 0]), 2) := by kernel_rfl
    obtain ⟨i, hi, he⟩ := Option.map_eq_some_iff.1 h
    simp only [Prod.mk.injEq] at he
    exact ⟨i, hi, he.1, he.2, trivial⟩
  have hTA : ∀ w, (Instr.typeAssert .nilIface 20 155 true).run Try.prog w = .ok (.tuple #[.agg #[.int .i64 0, .int .i64 0], .bool false]) w := fun w => by
    simp [Instr.typeAssert, run_underlying hu155, zeroValue, typeInfo, hi, hz]
  have hb1 : Below w.heap.size w (w.alloc (.cells #[.int .i64 0, .int .i64 0] 155)) := below_alloc (Below.refl _ _) _
  have HB := Aside0.mk hb1
  clear hb1
  go_wp2_with fail
  simp only [Exit.thenS]
  refine wpS_of_wp ?_
  go_wp2_with fail
  refine ⟨rfl, .returning, ?_, .tuple #[], by simp [results, Try.f128, Try.results128], rfl, rfl, HB.out⟩
  rw [← hu]
theorem read_state (A : Option Addr) (n c : Nat) (xs : List Int) (W : World) (hC : Kd.C (Kd.int .u8) W A n xs) (hnc : n ≤ c) (hb : IsBytes xs) (hbig : n < 1000000000) :
    Calls Try.prog 89 #[.slice A n c, .int .u8 84, .int .i64 131072, .func (.func 90) #[] #[]] W fun e w' => Below W.heap.size W w' ∧ ∃ v, e = .returned (.tuple #[v, .int .i64 (endOf (whole 84 131072 xs (pSt xs 131072))).1, .int .i64 (endOf (whole 84 131072 xs (pSt xs 131072))).2]) ∧ RdOut memSt zero_st W.heap.size (whole 84 131072 xs (pSt xs 131072)) v w' := by
  have HC := Aside0.mk hC
  have HNC := Aside0.mk hnc
  have HBY := Aside0.mk hb
  have HBIG := Aside0.mk hbig
  have HLEN := Aside0.mk (show xs.length = n from Kd.C_len hC)
  have hmf : ∀ (fn : Fn) (first cap : Array Value) (w : World), (Instr.makeFunc fn first cap).run Try.prog w = .ok (.func fn first cap) w := fun _ _ _ _ => rfl
  clear hC hnc hb hbig
  obtain ⟨bo, hbo⟩ : ∃ bo, W.heap.size = bo := ⟨_, rfl⟩
  have HBO := Aside0.mk hbo
  clear hbo
  go_enter_defers Try.func89, Try.ntmps89
  go_upto_region 3 with fail
  have hb1 : Below W.heap.size W (W.alloc (.cells #[.int .i64 0, .int .i64 0, .int .i64 0, .slice none 0 0, .slice none 0 0, .slice none 0 0] 58)) := below_alloc (Below.refl _ _) _
  have o1 : Rt 58 W.heap.size zero_st (W.alloc (.cells #[.int .i64 0, .int .i64 0, .int .i64 0, .slice none 0 0, .slice none 0 0, .slice none 0 0] 58)) := heap_alloc_new W _
  have s1 : (W.alloc (.cells #[.int .i64 0, .int .i64 0, .int .i64 0, .slice none 0 0, .slice none 0 0, .slice none 0 0] 58)).heap.size = W.heap.size + 1 := by simp
  generalize W.alloc (.cells #[.int .i64 0, .int .i64 0, .int .i64 0, .slice none 0 0, .slice none 0 0, .slice none 0 0] 58) = wa at *
  have hb2 : Below wa.heap.size wa (wa.alloc (.cells #[.int .i64 0] 22)) := below_alloc (Below.refl _ _) _
  have e2 : Rt 22 wa.heap.size [.int .i64 0] (wa.alloc (.cells #[.int .i64 0] 22)) := heap_alloc_new wa _
  have o2 := o1.below hb2
  have s2 : (wa.alloc (.cells #[.int .i64 0] 22)).heap.size = wa.heap.size + 1 := by simp
  have hc2 := hb1.trans (hb2.mono hb1.size)
  generalize wa.alloc (.cells #[.int .i64 0] 22) = wb at *
  have hb3 : Below wb.heap.size wb (wb.alloc (.cells #[.int .i64 0] 3)) := below_alloc (Below.refl _ _) _
  have a3 : Rt 3 wb.heap.size [.int .i64 0] (wb.alloc (.cells #[.int .i64 0] 3)) := heap_alloc_new wb _
  have o3 := o2.below hb3
  have e3 := e2.below hb3
  have s3 : (wb.alloc (.cells #[.int .i64 0] 3)).heap.size = wb.heap.size + 1 := by simp
  have hc3 := hc2.trans (hb3.mono hc2.size)
  generalize wb.alloc (.cells #[.int .i64 0] 3) = wc at *
  have hb4 : Below wc.heap.size wc (wc.alloc (.cells #[.slice A n c, .int .i64 0, .int .i64 131072] 158)) := below_alloc (Below.refl _ _) _
  have g4 : Rt 158 wc.heap.size [.slice A n c, .int .i64 0, .int .i64 131072] (wc.alloc (.cells #[.slice A n c, .int .i64 0, .int .i64 131072] 158)) := heap_alloc_new wc _
  have o4 := o3.below hb4
  have e4 := e3.below hb4
  have a4 := a3.below hb4
  have hc4 := hc3.trans (hb4.mono hc3.size)
  have s4 : (wc.alloc (.cells #[.slice A n c, .int .i64 0, .int .i64 131072] 158)).heap.size = wc.heap.size + 1 := by simp
  generalize wc.alloc (.cells #[.slice A n c, .int .i64 0, .int .i64 131072] 158) = w4 at *
  rw [s3, s2, s1] at g4 s4
  rw [s2, s1] at a4
  rw [s1] at e4
  obtain ⟨be, hbe⟩ : ∃ be, W.heap.size + 1 = be := ⟨_, rfl⟩
  rw [hbe] at e4 a4 g4 s4 ⊢
  obtain ⟨ba, hba⟩ : ∃ ba, be + 1 = ba := ⟨_, rfl⟩
  rw [hba] at a4 g4 s4 ⊢
  obtain ⟨g, hg⟩ : ∃ g, ba + 1 = g := ⟨_, rfl⟩
  rw [hg] at g4 s4 ⊢
  rw [HBO.out] at o4 hbe ⊢
  have O4 := Aside0.mk o4
  have E4 := Aside0.mk e4
  have A4 := Aside0.mk a4
  have G4 := Aside0.mk g4
  have B4 := Aside0.mk (show Below bo W w4 by rw [← HBO.out]; exact hc4)
  have HORD := Aside0.mk (show be = bo + 1 ∧ ba = bo + 2 ∧ g = bo + 3 ∧ w4.heap.size = bo + 4 by omega)
  clear hb1 o1 s1 hb2 e2 o2 s2 hc2 hb3 a3 o3 e3 s3 hc3 hb4 o4 e4 a4 hc4 s4 hbe hba hg g4 hmf
  have HFAULT := Aside0.mk (show ∀ (er p : Int) (w : World), Rt 58 bo zero_st w → Rt 22 be [.int .i64 0] w → Rt 3 ba [.int .i64 0] w → Below bo W w → CallsD Try.prog 128 #[ptr bo, ptr be, ptr ba] (.panicking [{ v := fault er p, recovered := false }]) w fun e u' w' =>
      e = .returned (.tuple #[]) ∧ u' = .panicking [{ v := fault er p, recovered := true }] ∧ Rt 58 bo zero_st w' ∧ Rt 22 be [.int .i64 er] w' ∧ Rt 3 ba [.int .i64 p] w' ∧ Below bo W w' from fun er p w ho he ha hb => by
    have := HORD.out
    refine (catch_st er p [] w ho he ha (by omega) (by omega) (by omega)).mono ?_
    rintro e u' w' ⟨h1, h2, h3, h4, h5, _, h6⟩
    exact ⟨h1, h2, h3, h4, h5, hb.trans (h6 bo (by omega) (by omega) (by have := hb.size; have := HBO.out; omega))⟩)
  by_cases hl : 131072 < n
  · have d1 : decide ((131072 : Int) < (n : Int)) = true := decide_eq_true (by omega)
    have d2 : decide (131072 < n) = true := decide_eq_true hl
    have HR := Aside0.mk (show whole 84 131072 xs (pSt xs 131072) = Res.fail 1 0 by
      unfold whole
      rw [HLEN.out, if_pos hl])
    clear hl
    go_wp2_with fail
    refine leaves_cons (f := 128) (args := #[ptr bo, ptr be, ptr ba]) (by simp) (by simp [go_sem]) ?_
    refine (HFAULT.out 1 0 w4 O4.out E4.out A4.out B4.out).mono ?_
    rintro e u' w' ⟨rfl, rfl, ho, he, ha, hb⟩
    have x0 := ho.cell 0 _ rfl
    have x1 := ho.cell 1 _ rfl
    have x2 := ho.cell 2 _ rfl
    have x3 := ho.cell 3 _ rfl
    have x4 := ho.cell 4 _ rfl
    have x5 := ho.cell 5 _ rfl
    have y0 := he.cell 0 _ rfl
    have z0 := ha.cell 0 _ rfl
    rw [HR.out]
    simp [Leaves, settle, results, Try.results89, go_sem, x0, x1, x2, x3, x4, x5, x5, y0, z0]
    exact ⟨by rw [HBO.out]; exact hb, _, ⟨rfl, rfl, rfl⟩, rfl⟩
  have d1 : decide ((131072 : Int) < (n : Int)) = false := decide_eq_false (by omega)
  have d2 : decide (131072 < n) = false := decide_eq_false hl
  have HL := Aside0.mk hl
  clear hl
  rcases Nat.eq_zero_or_pos n with hz | hz
  · have HR := Aside0.mk (show whole 84 131072 xs (pSt xs 131072) = Res.fail 3 0 by
      unfold whole
      rw [HLEN.out, if_neg HL.out, if_pos hz])
    have d3 : ((n : Int) == 0) = true := by simpa using hz
    have d4 : decide (n = 0) = true := decide_eq_true hz
    have d5 : (n : Int) = 0 := by omega
    go_wp2_with fail
    refine leaves_cons (f := 128) (args := #[ptr bo, ptr be, ptr ba]) (by simp) (by simp [go_sem]) ?_
    refine (HFAULT.out 3 0 w4 O4.out E4.out A4.out B4.out).mono ?_
    rintro e u' w' ⟨rfl, rfl, ho, he, ha, hb⟩
    have x0 := ho.cell 0 _ rfl
    have x1 := ho.cell 1 _ rfl
    have x2 := ho.cell 2 _ rfl
    have x3 := ho.cell 3 _ rfl
    have x4 := ho.cell 4 _ rfl
    have x5 := ho.cell 5 _ rfl
    have y0 := he.cell 0 _ rfl
    have z0 := ha.cell 0 _ rfl
    rw [HR.out]
    simp [Leaves, settle, results, Try.results89, go_sem, x0, x1, x2, x3, x4, x5, x5, y0, z0]
    exact ⟨by rw [HBO.out]; exact hb, _, ⟨rfl, rfl, rfl⟩, rfl⟩
  have d3 : ((n : Int) == 0) = false := by simp; omega
  have d4 : decide (n = 0) = false := decide_eq_false (by omega)
  have HZ := Aside0.mk hz
  have i0 : (0 : Int) < (n : Int) := by omega
  have hCx := Kd.C_below HC.out (show Below W.heap.size W w4 by rw [HBO.out]; exact B4.out)
  obtain ⟨ad, rfl, hcell⟩ := (Kd.reads_of_C (d := (0 : Int)) (h1 := fun _ => rfl) hCx).2.2 hz
  have k0 := hcell 0 hz
  obtain ⟨x, hx⟩ : ∃ x, xs.getD 0 0 = x := ⟨_, rfl⟩
  rw [hx] at k0
  have HX := Aside0.mk (show xs.headD 0 = x by rw [← hx]; cases xs <;> rfl)
  have k1 : w4.cell? ad = some (.int .u8 x) := by
    have e : ad.add 0 = ad := by simp [Addr.add]
    rwa [e] at k0
  clear hz hCx hcell hx
  by_cases hk : x = 84
  rotate_left
  · have HR := Aside0.mk (show whole 84 131072 xs (pSt xs 131072) = Res.fail 90 0 by
      unfold whole
      rw [HLEN.out, if_neg HL.out, if_neg (by have := HZ.out; omega), HX.out, if_pos hk])
    have d5 : (x != 84) = true := by simpa using hk
    have d6 : (x == 84) = false := by simpa using hk
    have d7 : decide (x = 84) = false := decide_eq_false hk
    clear hk
    go_wp2_with fail
    refine leaves_cons (f := 128) (args := #[ptr bo, ptr be, ptr ba]) (by simp) (by simp [go_sem]) ?_
    refine (HFAULT.out 90 0 w4 O4.out E4.out A4.out B4.out).mono ?_
    rintro e u' w' ⟨rfl, rfl, ho, he, ha, hb⟩
    have x0 := ho.cell 0 _ rfl
    have x1 := ho.cell 1 _ rfl
    have x2 := ho.cell 2 _ rfl
    have x3 := ho.cell 3 _ rfl
    have x4 := ho.cell 4 _ rfl
    have x5 := ho.cell 5 _ rfl
    have y0 := he.cell 0 _ rfl
    have z0 := ha.cell 0 _ rfl
    rw [HR.out]
    simp [Leaves, settle, results, Try.results89, go_sem, x0, x1, x2, x3, x4, x5, x5, y0, z0]
    exact ⟨by rw [HBO.out]; exact hb, _, ⟨rfl, rfl, rfl⟩, rfl⟩
  subst hk
  have hg1 := G4.out.cell 1 _ rfl
  have fg1 := G4.out.free 1
  go_upto_region 10 with fail
  rw [G4.out.set 1 (.int .i64 1)]
  have hl1 : [Value.slice (some ad) n c, .int .i64 0, .int .i64 131072].set 1 (.int .i64 1) = [Value.slice (some ad) n c, .int .i64 1, .int .i64 131072] := rfl
  rw [hl1]
  have K4 : CrAt g bo (some ad) n c xs 0 131072 w4 := ⟨G4.out, fun W' hb => Kd.C_below HC.out (by rw [HBO.out]; exact B4.out.trans hb), by have := HORD.out; omega, HNC.out, Nat.zero_le _, HBIG.out, by decide, HBY.out⟩
  have hmv := K4.moved (m' := 1) HZ.out
  have e1 : (((1 : Nat) : Int)) = 1 := rfl
  have e2 : (((131072 : Nat) : Int)) = 131072 := rfl
  rw [e1, e2] at hmv
  have K5 := Aside0.mk hmv.1
  have B5 := Aside0.mk (B4.out.trans hmv.2.1)
  have O5 := Aside0.mk (show Rt 58 bo zero_st (w4.setRow g [Value.slice (some ad) n c, .int .i64 1, .int .i64 131072].toArray) from (setRow_other _ _ _ _ (by have := HORD.out; omega)).trans O4.out)
  have E5 := Aside0.mk (show Rt 22 be [.int .i64 0] (w4.setRow g [Value.slice (some ad) n c, .int .i64 1, .int .i64 131072].toArray) from (setRow_other _ _ _ _ (by have := HORD.out; omega)).trans E4.out)
  have A5 := Aside0.mk (show Rt 3 ba [.int .i64 0] (w4.setRow g [Value.slice (some ad) n c, .int .i64 1, .int .i64 131072].toArray) from (setRow_other _ _ _ _ (by have := HORD.out; omega)).trans A4.out)
  have S5 := Aside0.mk (show bo + 4 ≤ (w4.setRow g [Value.slice (some ad) n c, .int .i64 1, .int .i64 131072].toArray).heap.size by rw [setRow_size]; have := HORD.out; omega)
  clear hmv K4 hl1 e1 e2 hg1 fg1 k0 k1 d1 d2 d3 d4 i0
  generalize w4.setRow g [Value.slice (some ad) n c, .int .i64 1, .int .i64 131072].toArray = w5 at *
  have HW := Aside0.mk (show whole 84 131072 xs (pSt xs 131072) = (pSt xs 131072 1).bind fun x n => if n < xs.length then .fail 4 (n : Int) else .ok x n by
    unfold whole
    rw [HLEN.out, if_neg HL.out, if_neg (by have := HZ.out; omega), HX.out, if_neg (by decide)])
  go_wp2_with fail
  go_at_call 90
  refine (r_state K5.out).mono ?_
  rintro e w6 ⟨hb, hp, ho⟩
  have O6 := Aside0.mk (show Rt 58 bo zero_st w6 from (hp.2 bo O5.out.lt (by have := HORD.out; show bo ≠ g; omega)).trans O5.out)
  have E6 := Aside0.mk (show Rt 22 be [.int .i64 0] w6 from (hp.2 be E5.out.lt (by have := HORD.out; show be ≠ g; omega)).trans E5.out)
  have A6 := Aside0.mk (show Rt 3 ba [.int .i64 0] w6 from (hp.2 ba A5.out.lt (by have := HORD.out; show ba ≠ g; omega)).trans A5.out)
  have B6 := Aside0.mk (B5.out.trans hb)
  rcases hq : pSt xs 131072 1 with ⟨x, m2⟩ | ⟨er, p⟩
  rotate_left
  · rw [hq] at ho
    have ho : e = gaveUp er p := ho
    subst ho
    have HR := Aside0.mk (show whole 84 131072 xs (pSt xs 131072) = Res.fail er p by rw [HW.out, hq]; rfl)
    clear hb hp hq
    simp only [gaveUp]
    refine leaves_cons (f := 128) (args := #[ptr bo, ptr be, ptr ba]) (by simp) (by simp [go_sem]) ?_
    refine (HFAULT.out er p w6 O6.out E6.out A6.out B6.out).mono ?_
    rintro e u' w' ⟨rfl, rfl, ho, he, ha, hb⟩
    have x0 := ho.cell 0 _ rfl
    have x1 := ho.cell 1 _ rfl
    have x2 := ho.cell 2 _ rfl
    have x3 := ho.cell 3 _ rfl
    have x4 := ho.cell 4 _ rfl
    have x5 := ho.cell 5 _ rfl
    have y0 := he.cell 0 _ rfl
    have z0 := ha.cell 0 _ rfl
    rw [HR.out]
    simp [Leaves, settle, results, Try.results89, go_sem, x0, x1, x2, x3, x4, x5, x5, y0, z0]
    exact ⟨by rw [HBO.out]; exact hb, _, ⟨rfl, rfl, rfl⟩, rfl⟩
  rw [hq] at ho
  obtain ⟨v, he, ⟨Al, nl, cl, Ah, nh, ch, Ad, nd, cd, hv, hl, hh, hd⟩, hk⟩ : ∃ v, e = .returned v ∧ memSt w5.heap.size x v w6 ∧ CrAt g bo (some ad) n c xs m2 131072 w6 := ho
  subst he hv
  have K6 := Aside0.mk hk
  have Ll_6 := Aside0.mk (LL_alive.lower hl S5.out)
  have Lh_6 := Aside0.mk (LH_alive.lower hh S5.out)
  have Ld_6 := Aside0.mk (LD_alive.lower hd S5.out)
  have HQ := Aside0.mk hq
  clear hb hp hq hl hh hd hk
  try clear ho
  go_upto_region 11 with fail
  have hb7 : Below w6.heap.size w6 (w6.alloc (.cells #[.int .i64 x.f0, .int .i64 x.f1, .int .i64 x.f2, .slice Al nl cl, .slice Ah nh ch, .slice Ad nd cd] 58)) := below_alloc (Below.refl _ _) _
  have r7 : Rt 58 w6.heap.size [.int .i64 x.f0, .int .i64 x.f1, .int .i64 x.f2, .slice Al nl cl, .slice Ah nh ch, .slice Ad nd cd] (w6.alloc (.cells #[.int .i64 x.f0, .int .i64 x.f1, .int .i64 x.f2, .slice Al nl cl, .slice Ah nh ch, .slice Ad nd cd] 58)) := heap_alloc_new w6 _
  obtain ⟨bx, hbx⟩ : ∃ bx, w6.heap.size = bx := ⟨_, rfl⟩
  have O7 := Aside0.mk (O6.out.below hb7)
  have E7 := Aside0.mk (E6.out.below hb7)
  have A7 := Aside0.mk (A6.out.below hb7)
  have K7 := Aside0.mk (K6.out.below hb7)
  have Ll_7 := Aside0.mk (LL_alive.below Ll_6.out hb7)
  have Lh_7 := Aside0.mk (LH_alive.below Lh_6.out hb7)
  have Ld_7 := Aside0.mk (LD_alive.below Ld_6.out hb7)
  have B7 := Aside0.mk (B6.out.trans (hb7.mono (by have := B6.out.size; have := HBO.out; omega)))
  have B7' := B7.out
  rw [hbx] at r7 ⊢
  have R7 := Aside0.mk r7
  clear hb7 r7 hbx B7'
  generalize w6.alloc (.cells #[.int .i64 x.f0, .int .i64 x.f1, .int .i64 x.f2, .slice Al nl cl, .slice Ah nh ch, .slice Ad nd cd] 58) = w7 at *
  have hm7 := K7.out.row.cell 1 _ rfl
  by_cases ht : m2 < n
  · have d1 : decide ((m2 : Int) < (n : Int)) = true := decide_eq_true (by omega)
    have d2 : decide (m2 < n) = true := decide_eq_true ht
    have HR := Aside0.mk (show whole 84 131072 xs (pSt xs 131072) = Res.fail 4 (m2 : Int) by
      rw [HW.out, HQ.out]
      show (if m2 < xs.length then Res.fail 4 (m2 : Int) else Res.ok x m2) = _
      rw [HLEN.out, if_pos ht])
    clear ht
    go_wp2_with fail
    refine leaves_cons (f := 128) (args := #[ptr bo, ptr be, ptr ba]) (by simp) (by simp [go_sem]) ?_
    refine (HFAULT.out 4 (m2 : Int) w7 O7.out E7.out A7.out B7.out).mono ?_
    rintro e u' w' ⟨rfl, rfl, ho, he, ha, hb⟩
    have x0 := ho.cell 0 _ rfl
    have x1 := ho.cell 1 _ rfl
    have x2 := ho.cell 2 _ rfl
    have x3 := ho.cell 3 _ rfl
    have x4 := ho.cell 4 _ rfl
    have x5 := ho.cell 5 _ rfl
    have y0 := he.cell 0 _ rfl
    have z0 := ha.cell 0 _ rfl
    rw [HR.out]
    simp [Leaves, settle, results, Try.results89, go_sem, x0, x1, x2, x3, x4, x5, x5, y0, z0]
    exact ⟨by rw [HBO.out]; exact hb, _, ⟨rfl, rfl, rfl⟩, rfl⟩
  have d1 : decide ((m2 : Int) < (n : Int)) = false := decide_eq_false (by omega)
  have d2 : decide (m2 < n) = false := decide_eq_false ht
  have HR := Aside0.mk (show whole 84 131072 xs (pSt xs 131072) = Res.ok x m2 by
    rw [HW.out, HQ.out]
    show (if m2 < xs.length then Res.fail 4 (m2 : Int) else Res.ok x m2) = _
    rw [HLEN.out, if_neg ht])
  clear ht
  have c0 := R7.out.cell 0 _ rfl
  have c1 := R7.out.cell 1 _ rfl
  have c2 := R7.out.cell 2 _ rfl
  have c3 := R7.out.cell 3 _ rfl
  have c4 := R7.out.cell 4 _ rfl
  have c5 := R7.out.cell 5 _ rfl
  have z0 := O7.out.cell 0 _ rfl
  have z1 := O7.out.cell 1 _ rfl
  have z2 := O7.out.cell 2 _ rfl
  have z3 := O7.out.cell 3 _ rfl
  have z4 := O7.out.cell 4 _ rfl
  have z5 := O7.out.cell 5 _ rfl
  have f0 := O7.out.free 0
  have f1 := O7.out.free 1
  have f2 := O7.out.free 2
  have f3 := O7.out.free 3
  have f4 := O7.out.free 4
  have f5 := O7.out.free 5
  have y0 := E7.out.cell 0 _ rfl
  have y1 := E7.out.free 0
  have a0 := A7.out.cell 0 _ rfl
  have a1 := A7.out.free 0
  have hne1 : be ≠ bo := by have := HORD.out; omega
  have hne2 : ba ≠ bo := by have := HORD.out; omega
  have hne3 : ba ≠ be := by have := HORD.out; omega
  go_wp2_with fail
  clear c0 c1 c2 c3 c4 c5 z0 z1 z2 z3 z4 z5 f0 f1 f2 f3 f4 f5 y0 y1 a0 a1 d1 d2 hm7
  have q := O7.out.set 0 (.int .i64 x.f0)
  rw [show ([Value.int .i64 0, .int .i64 0, .int .i64 0, .slice none 0 0, .slice none 0 0, .slice none 0 0]).set 0 (.int .i64 x.f0) = [Value.int .i64 x.f0, .int .i64 0, .int .i64 0, .slice none 0 0, .slice none 0 0, .slice none 0 0] from rfl] at q
  rw [q]
  have O8 := Aside0.mk (show Rt 58 bo [Value.int .i64 x.f0, .int .i64 0, .int .i64 0, .slice none 0 0, .slice none 0 0, .slice none 0 0] (w7.setRow bo ([Value.int .i64 x.f0, .int .i64 0, .int .i64 0, .slice none 0 0, .slice none 0 0, .slice none 0 0]).toArray) from O7.out.row _)
  have E8 := Aside0.mk (show Rt 22 be [.int .i64 0] (w7.setRow bo ([Value.int .i64 x.f0, .int .i64 0, .int .i64 0, .slice none 0 0, .slice none 0 0, .slice none 0 0]).toArray) from (setRow_other _ _ _ _ hne1).trans E7.out)
  have A8 := Aside0.mk (show Rt 3 ba [.int .i64 0] (w7.setRow bo ([Value.int .i64 x.f0, .int .i64 0, .int .i64 0, .slice none 0 0, .slice none 0 0, .slice none 0 0]).toArray) from (setRow_other _ _ _ _ hne2).trans A7.out)
  have Ll_8 := Aside0.mk (LL_alive.row Ll_7.out (show bo < bo + 4 by omega) ([Value.int .i64 x.f0, .int .i64 0, .int .i64 0, .slice none 0 0, .slice none 0 0, .slice none 0 0]).toArray)
  have Lh_8 := Aside0.mk (LH_alive.row Lh_7.out (show bo < bo + 4 by omega) ([Value.int .i64 x.f0, .int .i64 0, .int .i64 0, .slice none 0 0, .slice none 0 0, .slice none 0 0]).toArray)
  have Ld_8 := Aside0.mk (LD_alive.row Ld_7.out (show bo < bo + 4 by omega) ([Value.int .i64 x.f0, .int .i64 0, .int .i64 0, .slice none 0 0, .slice none 0 0, .slice none 0 0]).toArray)
  have B8 := Aside0.mk (show Below bo W (w7.setRow bo ([Value.int .i64 x.f0, .int .i64 0, .int .i64 0, .slice none 0 0, .slice none 0 0, .slice none 0 0]).toArray) from below_setRow' B7.out (Nat.le_refl _) _)
  clear q
  generalize w7.setRow bo ([Value.int .i64 x.f0, .int .i64 0, .int .i64 0, .slice none 0 0, .slice none 0 0, .slice none 0 0]).toArray = w8 at *
  have q := O8.out.set 1 (.int .i64 x.f1)
  rw [show ([Value.int .i64 x.f0, .int .i64 0, .int .i64 0, .slice none 0 0, .slice none 0 0, .slice none 0 0]).set 1 (.int .i64 x.f1) = [Value.int .i64 x.f0, .int .i64 x.f1, .int .i64 0, .slice none 0 0, .slice none 0 0, .slice none 0 0] from rfl] at q
  rw [q]
  have O9 := Aside0.mk (show Rt 58 bo [Value.int .i64 x.f0, .int .i64 x.f1, .int .i64 0, .slice none 0 0, .slice none 0 0, .slice none 0 0] (w8.setRow bo ([Value.int .i64 x.f0, .int .i64 x.f1, .int .i64 0, .slice none 0 0, .slice none 0 0, .slice none 0 0]).toArray) from O8.out.row _)
  have E9 := Aside0.mk (show Rt 22 be [.int .i64 0] (w8.setRow bo ([Value.int .i64 x.f0, .int .i64 x.f1, .int .i64 0, .slice none 0 0, .slice none 0 0, .slice none 0 0]).toArray) from (setRow_other _ _ _ _ hne1).trans E8.out)
  have A9 := Aside0.mk (show Rt 3 ba [.int .i64 0] (w8.setRow bo ([Value.int .i64 x.f0, .int .i64 x.f1, .int .i64 0, .slice none 0 0, .slice none 0 0, .slice none 0 0]).toArray) from (setRow_other _ _ _ _ hne2).trans A8.out)
  have Ll_9 := Aside0.mk (LL_alive.row Ll_8.out (show bo < bo + 4 by omega) ([Value.int .i64 x.f0, .int .i64 x.f1, .int .i64 0, .slice none 0 0, .slice none 0 0, .slice none 0 0]).toArray)
  have Lh_9 := Aside0.mk (LH_alive.row Lh_8.out (show bo < bo + 4 by omega) ([Value.int .i64 x.f0, .int .i64 x.f1, .int .i64 0, .slice none 0 0, .slice none 0 0, .slice none 0 0]).toArray)
  have Ld_9 := Aside0.mk (LD_alive.row Ld_8.out (show bo < bo + 4 by omega) ([Value.int .i64 x.f0, .int .i64 x.f1, .int .i64 0, .slice none 0 0, .slice none 0 0, .slice none 0 0]).toArray)
  have B9 := Aside0.mk (show Below bo W (w8.setRow bo ([Value.int .i64 x.f0, .int .i64 x.f1, .int .i64 0, .slice none 0 0, .slice none 0 0, .slice none 0 0]).toArray) from below_setRow' B8.out (Nat.le_refl _) _)
  clear q
  generalize w8.setRow bo ([Value.int .i64 x.f0, .int .i64 x.f1, .int .i64 0, .slice none 0 0, .slice none 0 0, .slice none 0 0]).toArray = w9 at *
  have q := O9.out.set 2 (.int .i64 x.f2)
  rw [show ([Value.int .i64 x.f0, .int .i64 x.f1, .int .i64 0, .slice none 0 0, .slice none 0 0, .slice none 0 0]).set 2 (.int .i64 x.f2) = [Value.int .i64 x.f0, .int .i64 x.f1, .int .i64 x.f2, .slice none 0 0, .slice none 0 0, .slice none 0 0] from rfl] at q
  rw [q]
  have O10 := Aside0.mk (show Rt 58 bo [Value.int .i64 x.f0, .int .i64 x.f1, .int .i64 x.f2, .slice none 0 0, .slice none 0 0, .slice none 0 0] (w9.setRow bo ([Value.int .i64 x.f0, .int .i64 x.f1, .int .i64 x.f2, .slice none 0 0, .slice none 0 0, .slice none 0 0]).toArray) from O9.out.row _)
  have E10 := Aside0.mk (show Rt 22 be [.int .i64 0] (w9.setRow bo ([Value.int .i64 x.f0, .int .i64 x.f1, .int .i64 x.f2, .slice none 0 0, .slice none 0 0, .slice none 0 0]).toArray) from (setRow_other _ _ _ _ hne1).trans E9.out)
  have A10 := Aside0.mk (show Rt 3 ba [.int .i64 0] (w9.setRow bo ([Value.int .i64 x.f0, .int .i64 x.f1, .int .i64 x.f2, .slice none 0 0, .slice none 0 0, .slice none 0 0]).toArray) from (setRow_other _ _ _ _ hne2).trans A9.out)
  have Ll_10 := Aside0.mk (LL_alive.row Ll_9.out (show bo < bo + 4 by omega) ([Value.int .i64 x.f0, .int .i64 x.f1, .int .i64 x.f2, .slice none 0 0, .slice none 0 0, .slice none 0 0]).toArray)
  have Lh_10 := Aside0.mk (LH_alive.row Lh_9.out (show bo < bo + 4 by omega) ([Value.int .i64 x.f0, .int .i64 x.f1, .int .i64 x.f2, .slice none 0 0, .slice none 0 0, .slice none 0 0]).toArray)
  have Ld_10 := Aside0.mk (LD_alive.row Ld_9.out (show bo < bo + 4 by omega) ([Value.int .i64 x.f0, .int .i64 x.f1, .int .i64 x.f2, .slice none 0 0, .slice none 0 0, .slice none 0 0]).toArray)
  have B10 := Aside0.mk (show Below bo W (w9.setRow bo ([Value.int .i64 x.f0, .int .i64 x.f1, .int .i64 x.f2, .slice none 0 0, .slice none 0 0, .slice none 0 0]).toArray) from below_setRow' B9.out (Nat.le_refl _) _)
  clear q
  generalize w9.setRow bo ([Value.int .i64 x.f0, .int .i64 x.f1, .int .i64 x.f2, .slice none 0 0, .slice none 0 0, .slice none 0 0]).toArray = w10 at *
  have q := O10.out.set 3 (.slice Al nl cl)
  rw [show ([Value.int .i64 x.f0, .int .i64 x.f1, .int .i64 x.f2, .slice none 0 0, .slice none 0 0, .slice none 0 0]).set 3 (.slice Al nl cl) = [Value.int .i64 x.f0, .int .i64 x.f1, .int .i64 x.f2, .slice Al nl cl, .slice none 0 0, .slice none 0 0] from rfl] at q
  rw [q]
  have O11 := Aside0.mk (show Rt 58 bo [Value.int .i64 x.f0, .int .i64 x.f1, .int .i64 x.f2, .slice Al nl cl, .slice none 0 0, .slice none 0 0] (w10.setRow bo ([Value.int .i64 x.f0, .int .i64 x.f1, .int .i64 x.f2, .slice Al nl cl, .slice none 0 0, .slice none 0 0]).toArray) from O10.out.row _)
  have E11 := Aside0.mk (show Rt 22 be [.int .i64 0] (w10.setRow bo ([Value.int .i64 x.f0, .int .i64 x.f1, .int .i64 x.f2, .slice Al nl cl, .slice none 0 0, .slice none 0 0]).toArray) from (setRow_other _ _ _ _ hne1).trans E10.out)
  have A11 := Aside0.mk (show Rt 3 ba [.int .i64 0] (w10.setRow bo ([Value.int .i64 x.f0, .int .i64 x.f1, .int .i64 x.f2, .slice Al nl cl, .slice none 0 0, .slice none 0 0]).toArray) from (setRow_other _ _ _ _ hne2).trans A10.out)
  have Ll_11 := Aside0.mk (LL_alive.row Ll_10.out (show bo < bo + 4 by omega) ([Value.int .i64 x.f0, .int .i64 x.f1, .int .i64 x.f2, .slice Al nl cl, .slice none 0 0, .slice none 0 0]).toArray)
  have Lh_11 := Aside0.mk (LH_alive.row Lh_10.out (show bo < bo + 4 by omega) ([Value.int .i64 x.f0, .int .i64 x.f1, .int .i64 x.f2, .slice Al nl cl, .slice none 0 0, .slice none 0 0]).toArray)
  have Ld_11 := Aside0.mk (LD_alive.row Ld_10.out (show bo < bo + 4 by omega) ([Value.int .i64 x.f0, .int .i64 x.f1, .int .i64 x.f2, .slice Al nl cl, .slice none 0 0, .slice none 0 0]).toArray)
  have B11 := Aside0.mk (show Below bo W (w10.setRow bo ([Value.int .i64 x.f0, .int .i64 x.f1, .int .i64 x.f2, .slice Al nl cl, .slice none 0 0, .slice none 0 0]).toArray) from below_setRow' B10.out (Nat.le_refl _) _)
  clear q
  generalize w10.setRow bo ([Value.int .i64 x.f0, .int .i64 x.f1, .int .i64 x.f2, .slice Al nl cl, .slice none 0 0, .slice none 0 0]).toArray = w11 at *
  have q := O11.out.set 4 (.slice Ah nh ch)
  rw [show ([Value.int .i64 x.f0, .int .i64 x.f1, .int .i64 x.f2, .slice Al nl cl, .slice none 0 0, .slice none 0 0]).set 4 (.slice Ah nh ch) = [Value.int .i64 x.f0, .int .i64 x.f1, .int .i64 x.f2, .slice Al nl cl, .slice Ah nh ch, .slice none 0 0] from rfl] at q
  rw [q]
  have O12 := Aside0.mk (show Rt 58 bo [Value.int .i64 x.f0, .int .i64 x.f1, .int .i64 x.f2, .slice Al nl cl, .slice Ah nh ch, .slice none 0 0] (w11.setRow bo ([Value.int .i64 x.f0, .int .i64 x.f1, .int .i64 x.f2, .slice Al nl cl, .slice Ah nh ch, .slice none 0 0]).toArray) from O11.out.row _)
  have E12 := Aside0.mk (show Rt 22 be [.int .i64 0] (w11.setRow bo ([Value.int .i64 x.f0, .int .i64 x.f1, .int .i64 x.f2, .slice Al nl cl, .slice Ah nh ch, .slice none 0 0]).toArray) from (setRow_other _ _ _ _ hne1).trans E11.out)
  have A12 := Aside0.mk (show Rt 3 ba [.int .i64 0] (w11.setRow bo ([Value.int .i64 x.f0, .int .i64 x.f1, .int .i64 x.f2, .slice Al nl cl, .slice Ah nh ch, .slice none 0 0]).toArray) from (setRow_other _ _ _ _ hne2).trans A11.out)
  have Ll_12 := Aside0.mk (LL_alive.row Ll_11.out (show bo < bo + 4 by omega) ([Value.int .i64 x.f0, .int .i64 x.f1, .int .i64 x.f2, .slice Al nl cl, .slice Ah nh ch, .slice none 0 0]).toArray)
  have Lh_12 := Aside0.mk (LH_alive.row Lh_11.out (show bo < bo + 4 by omega) ([Value.int .i64 x.f0, .int .i64 x.f1, .int .i64 x.f2, .slice Al nl cl, .slice Ah nh ch, .slice none 0 0]).toArray)
  have Ld_12 := Aside0.mk (LD_alive.row Ld_11.out (show bo < bo + 4 by omega) ([Value.int .i64 x.f0, .int .i64 x.f1, .int .i64 x.f2, .slice Al nl cl, .slice Ah nh ch, .slice none 0 0]).toArray)
  have B12 := Aside0.mk (show Below bo W (w11.setRow bo ([Value.int .i64 x.f0, .int .i64 x.f1, .int .i64 x.f2, .slice Al nl cl, .slice Ah nh ch, .slice none 0 0]).toArray) from below_setRow' B11.out (Nat.le_refl _) _)
  clear q
  generalize w11.setRow bo ([Value.int .i64 x.f0, .int .i64 x.f1, .int .i64 x.f2, .slice Al nl cl, .slice Ah nh ch, .slice none 0 0]).toArray = w12 at *
  have q := O12.out.set 5 (.slice Ad nd cd)
  rw [show ([Value.int .i64 x.f0, .int .i64 x.f1, .int .i64 x.f2, .slice Al nl cl, .slice Ah nh ch, .slice none 0 0]).set 5 (.slice Ad nd cd) = [Value.int .i64 x.f0, .int .i64 x.f1, .int .i64 x.f2, .slice Al nl cl, .slice Ah nh ch, .slice Ad nd cd] from rfl] at q
  rw [q]
  have O13 := Aside0.mk (show Rt 58 bo [Value.int .i64 x.f0, .int .i64 x.f1, .int .i64 x.f2, .slice Al nl cl, .slice Ah nh ch, .slice Ad nd cd] (w12.setRow bo ([Value.int .i64 x.f0, .int .i64 x.f1, .int .i64 x.f2, .slice Al nl cl, .slice Ah nh ch, .slice Ad nd cd]).toArray) from O12.out.row _)
  have E13 := Aside0.mk (show Rt 22 be [.int .i64 0] (w12.setRow bo ([Value.int .i64 x.f0, .int .i64 x.f1, .int .i64 x.f2, .slice Al nl cl, .slice Ah nh ch, .slice Ad nd cd]).toArray) from (setRow_other _ _ _ _ hne1).trans E12.out)
  have A13 := Aside0.mk (show Rt 3 ba [.int .i64 0] (w12.setRow bo ([Value.int .i64 x.f0, .int .i64 x.f1, .int .i64 x.f2, .slice Al nl cl, .slice Ah nh ch, .slice Ad nd cd]).toArray) from (setRow_other _ _ _ _ hne2).trans A12.out)
  have Ll_13 := Aside0.mk (LL_alive.row Ll_12.out (show bo < bo + 4 by omega) ([Value.int .i64 x.f0, .int .i64 x.f1, .int .i64 x.f2, .slice Al nl cl, .slice Ah nh ch, .slice Ad nd cd]).toArray)
  have Lh_13 := Aside0.mk (LH_alive.row Lh_12.out (show bo < bo + 4 by omega) ([Value.int .i64 x.f0, .int .i64 x.f1, .int .i64 x.f2, .slice Al nl cl, .slice Ah nh ch, .slice Ad nd cd]).toArray)
  have Ld_13 := Aside0.mk (LD_alive.row Ld_12.out (show bo < bo + 4 by omega) ([Value.int .i64 x.f0, .int .i64 x.f1, .int .i64 x.f2, .slice Al nl cl, .slice Ah nh ch, .slice Ad nd cd]).toArray)
  have B13 := Aside0.mk (show Below bo W (w12.setRow bo ([Value.int .i64 x.f0, .int .i64 x.f1, .int .i64 x.f2, .slice Al nl cl, .slice Ah nh ch, .slice Ad nd cd]).toArray) from below_setRow' B12.out (Nat.le_refl _) _)
  clear q
  generalize w12.setRow bo ([Value.int .i64 x.f0, .int .i64 x.f1, .int .i64 x.f2, .slice Al nl cl, .slice Ah nh ch, .slice Ad nd cd]).toArray = w13 at *
  rw [E13.out.same 0 _ rfl, A13.out.same 0 _ rfl]
  refine leaves_cons (f := 128) (args := #[ptr bo, ptr be, ptr ba]) (by simp) (by simp [go_sem]) ?_
  refine (idle_st (bo := bo) (be := be) (ba := ba) w13).mono ?_
  rintro e u' w' ⟨rfl, rfl, hb⟩
  have ho := O13.out.below hb
  have he := E13.out.below hb
  have ha := A13.out.below hb
  have hl := LL_alive.below Ll_13.out hb
  have hh := LH_alive.below Lh_13.out hb
  have hd := LD_alive.below Ld_13.out hb
  have x0 := ho.cell 0 _ rfl
  have x1 := ho.cell 1 _ rfl
  have x2 := ho.cell 2 _ rfl
  have x3 := ho.cell 3 _ rfl
  have x4 := ho.cell 4 _ rfl
  have x5 := ho.cell 5 _ rfl
  have y0 := he.cell 0 _ rfl
  have z0 := ha.cell 0 _ rfl
  rw [HR.out]
  simp [Leaves, settle, results, Try.results89, go_sem, x0, x1, x2, x3, x4, x5, y0, z0]
  refine ⟨by rw [HBO.out]; exact B13.out.trans (hb.mono (by have := B13.out.size; have := HBO.out; omega)), _, ⟨rfl, rfl, rfl⟩, Al, nl, cl, Ah, nh, ch, Ad, nd, cd, rfl, LL_alive.lower hl (by have := HBO.out; omega), LH_alive.lower hh (by have := HBO.out; omega), LD_alive.lower hd (by have := HBO.out; omega)⟩
def zeroD_st : StD := ⟨0, 0, 0, [], [], []⟩
theorem enc_out_st {S0 : Nat} {r : Res StD} {v : Value} {w : World} (h : RdOut memSt zero_st S0 r v w) : memSt S0 (outOr zeroD_st r) v w := by
  cases r with
  | ok x n => exact h
  | fail e p =>
    have h : v = .agg zero_st.toArray := h
    subst h
    exact ⟨none, 0, 0, none, 0, 0, none, 0, 0, rfl, Kd.R_nil _ _ _ _ _, Kd.R_nil _ _ _ _ _, Kd.R_nil _ _ _ _ _⟩
theorem Rt.full_st {t b : Nat} {z0 z1 z2 z3 z4 z5 : Value} {W : World} (h : Rt t b [z0, z1, z2, z3, z4, z5] W) (a0 a1 a2 a3 a4 a5 : Value) :
    ((((((W.setCell ⟨b, 0, none⟩ a0).setCell ⟨b, 1, none⟩ a1).setCell ⟨b, 2, none⟩ a2).setCell ⟨b, 3, none⟩ a3).setCell ⟨b, 4, none⟩ a4).setCell ⟨b, 5, none⟩ a5) = W.setRow b [a0, a1, a2, a3, a4, a5].toArray := by
  rw [h.set 0 a0]
  have h0 : Rt t b [a0, z1, z2, z3, z4, z5] (W.setRow b ([z0, z1, z2, z3, z4, z5].set 0 a0).toArray) := h.row _
  rw [h0.set 1 a1, setRow_again]
  have h1 : Rt t b [a0, a1, z2, z3, z4, z5] (W.setRow b ([a0, z1, z2, z3, z4, z5].set 1 a1).toArray) := h.row _
  rw [h1.set 2 a2, setRow_again]
  have h2 : Rt t b [a0, a1, a2, z3, z4, z5] (W.setRow b ([a0, a1, z2, z3, z4, z5].set 2 a2).toArray) := h.row _
  rw [h2.set 3 a3, setRow_again]
  have h3 : Rt t b [a0, a1, a2, a3, z4, z5] (W.setRow b ([a0, a1, a2, z3, z4, z5].set 3 a3).toArray) := h.row _
  rw [h3.set 4 a4, setRow_again]
  have h4 : Rt t b [a0, a1, a2, a3, a4, z5] (W.setRow b ([a0, a1, a2, a3, z4, z5].set 4 a4).toArray) := h.row _
  rw [h4.set 5 a5, setRow_again]
  rfl
theorem State_at (A : Option Addr) (n c : Nat) (xs : List Int) (W : World) (hC : Kd.C (Kd.int .u8) W A n xs) (hnc : n ≤ c) (hb : IsBytes xs) (hbig : n < 1000000000) :
    Calls Try.prog 37 #[.slice A n c] W fun e w' => Below W.heap.size W w' ∧ ∃ v, e = .returned (.tuple #[v, .int .i64 (endOf (whole 84 131072 xs (pSt xs 131072))).1, .int .i64 (endOf (whole 84 131072 xs (pSt xs 131072))).2]) ∧ memSt W.heap.size (outOr zeroD_st (whole 84 131072 xs (pSt xs 131072))) v w' := by
  have hb1 : Below W.heap.size W (W.alloc (.cells #[.int .i64 0, .int .i64 0, .int .i64 0, .slice none 0 0, .slice none 0 0, .slice none 0 0] 58)) := below_alloc (Below.refl _ _) _
  have r1 : Rt 58 W.heap.size zero_st (W.alloc (.cells #[.int .i64 0, .int .i64 0, .int .i64 0, .slice none 0 0, .slice none 0 0, .slice none 0 0] 58)) := heap_alloc_new W _
  have hC1 := Kd.C_below hC hb1
  have HRD := Aside0.mk (read_state A n c xs (W.alloc (.cells #[.int .i64 0, .int .i64 0, .int .i64 0, .slice none 0 0, .slice none 0 0, .slice none 0 0] 58)) hC1 hnc hb hbig)
  generalize whole 84 131072 xs (pSt xs 131072) = rr at *
  have B1 := Aside0.mk hb1
  clear hC hC1 hnc hb hbig
  go_enter Try.func37, Try.ntmps37
  go_upto_region 1 with fail
  obtain ⟨b, hbe⟩ : ∃ b, W.heap.size = b := ⟨_, rfl⟩
  have HBE := Aside0.mk hbe
  rw [hbe] at r1 ⊢
  have R1 := Aside0.mk r1
  clear hb1 r1 hbe
  generalize W.alloc (.cells #[.int .i64 0, .int .i64 0, .int .i64 0, .slice none 0 0, .slice none 0 0, .slice none 0 0] 58) = w1 at *
  go_wp2_with fail
  go_at_call 89
  refine HRD.out.mono ?_
  rintro e w2 ⟨hb, v, rfl, ho⟩
  obtain ⟨Al, nl, cl, Ah, nh, ch, Ad, nd, cd, hv, hl, hh, hd⟩ := enc_out_st ho
  subst hv
  obtain ⟨x, hx⟩ : ∃ x, outOr zeroD_st rr = x := ⟨_, rfl⟩
  obtain ⟨ec, hec⟩ : ∃ ec, (endOf rr).1 = ec := ⟨_, rfl⟩
  obtain ⟨ep, hep⟩ : ∃ ep, (endOf rr).2 = ep := ⟨_, rfl⟩
  rw [hx] at hl hh hd ⊢
  rw [hec, hep]
  have HX := Aside0.mk (And.intro hx (And.intro hec hep))
  have R2 := Aside0.mk (R1.out.below hb)
  have Ll_2 := Aside0.mk (LL_alive.lower hl R1.out.lt)
  have Lh_2 := Aside0.mk (LH_alive.lower hh R1.out.lt)
  have Ld_2 := Aside0.mk (LD_alive.lower hd R1.out.lt)
  have B2 := Aside0.mk (show Below W.heap.size W w2 from B1.out.trans (hb.mono B1.out.size))
  clear hb ho hl hh hd HRD hx hec hep
  have z0 := R2.out.cell 0 _ rfl
  have f0 := R2.out.free 0
  have z1 := R2.out.cell 1 _ rfl
  have f1 := R2.out.free 1
  have z2 := R2.out.cell 2 _ rfl
  have f2 := R2.out.free 2
  have z3 := R2.out.cell 3 _ rfl
  have f3 := R2.out.free 3
  have z4 := R2.out.cell 4 _ rfl
  have f4 := R2.out.free 4
  have z5 := R2.out.cell 5 _ rfl
  have f5 := R2.out.free 5
  go_wp2_with fail
  rw [R2.out.full_st]
  have R3 : Rt 58 b [.int .i64 x.f0, .int .i64 x.f1, .int .i64 x.f2, .slice Al nl cl, .slice Ah nh ch, .slice Ad nd cd] (w2.setRow b [Value.int .i64 x.f0, .int .i64 x.f1, .int .i64 x.f2, .slice Al nl cl, .slice Ah nh ch, .slice Ad nd cd].toArray) := R2.out.row _
  have Ll_3 := LL_alive.row Ll_2.out (Nat.lt_succ_self b) [Value.int .i64 x.f0, .int .i64 x.f1, .int .i64 x.f2, .slice Al nl cl, .slice Ah nh ch, .slice Ad nd cd].toArray
  have Lh_3 := LH_alive.row Lh_2.out (Nat.lt_succ_self b) [Value.int .i64 x.f0, .int .i64 x.f1, .int .i64 x.f2, .slice Al nl cl, .slice Ah nh ch, .slice Ad nd cd].toArray
  have Ld_3 := LD_alive.row Ld_2.out (Nat.lt_succ_self b) [Value.int .i64 x.f0, .int .i64 x.f1, .int .i64 x.f2, .slice Al nl cl, .slice Ah nh ch, .slice Ad nd cd].toArray
  have B3 : Below W.heap.size W (w2.setRow b [Value.int .i64 x.f0, .int .i64 x.f1, .int .i64 x.f2, .slice Al nl cl, .slice Ah nh ch, .slice Ad nd cd].toArray) := below_setRow' B2.out (Nat.le_of_eq HBE.out) _
  clear z0 f0 z1 f1 z2 f2 z3 f3 z4 f4 z5 f5
  generalize w2.setRow b [Value.int .i64 x.f0, .int .i64 x.f1, .int .i64 x.f2, .slice Al nl cl, .slice Ah nh ch, .slice Ad nd cd].toArray = w3 at *
  have x0 := R3.cell 0 _ rfl
  have x1 := R3.cell 1 _ rfl
  have x2 := R3.cell 2 _ rfl
  have x3 := R3.cell 3 _ rfl
  have x4 := R3.cell 4 _ rfl
  have x5 := R3.cell 5 _ rfl
  refine ⟨rfl, ?_⟩
  simp [results, Try.results37, go_sem, x0, x1, x2, x3, x4, x5]
  refine ⟨B3, _, ⟨rfl, HX.out.2.1.symm, HX.out.2.2.symm⟩, ?_⟩
  rw [HX.out.1]
  exact ⟨Al, nl, cl, Ah, nh, ch, Ad, nd, cd, rfl, LL_alive.lower Ll_3 (by have := HBE.out; omega), LH_alive.lower Lh_3 (by have := HBE.out; omega), LD_alive.lower Ld_3 (by have := HBE.out; omega)⟩
end Go.Proofs.Ytafmoglaockepaa.Cd
end
