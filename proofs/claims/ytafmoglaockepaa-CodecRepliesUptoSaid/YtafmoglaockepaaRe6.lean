/- The document's reader: begin, end, walked. -/
import Derived.Test.YtafmoglaockepaaRe5
import Derived.Deep.RegionHeld3
import Derived.Deep.RegionLaw
namespace Go.Proofs.Ytafmoglaockepaa.Cd
open Go Go.RowKit Go.Proofs.Ytafmoglaockepaa.Num Go.Proofs.Ytafmoglaockepaa.PG Go.Proofs.YtafmoglaockepaaW.PrintWords Go.Proofs.YtafmoglaockepaaW.PrintLast Go.Proofs.YtafmoglaockepaaW.PrintMore
set_option linter.unusedVariables false
set_option linter.unusedSimpArgs false
set_option maxHeartbeats 4000000
set_option maxRecDepth 100000
variable {g B : Nat} {A : Option Addr} {n c : Nat} {xs : List Int} {most : Nat}
/-- What stands ahead of the fields. -/
def hdr (key : Int) (most : Nat) (xs : List Int) : Res Unit :=
  if most < xs.length then .fail 1 0 else if xs.length = 0 then .fail 3 0 else if xs.headD 0 ≠ key then .fail 90 0 else .ok () 1
theorem whole_hdr {α : Type} (key : Int) (most : Nat) (xs : List Int) (fields : Nat → Res α) :
    whole key most xs fields = (hdr key most xs).bind fun _ m => (fields m).bind fun x n => if n < xs.length then .fail 4 (n : Int) else .ok x n := by
  unfold whole hdr
  split
  · rfl
  · split
    · rfl
    · split <;> rfl
theorem q_fail_row {s a b : Value} {W : World} (h : Rt 137 g [s, a, b, .int .i64 0, .int .i64 0] W) (e p : Int) :
    Calls Try.prog 120 #[ptr g, .int .i64 e, .int .i64 p] W fun x w' => x = .returned (.tuple #[]) ∧ w' = W.setRow g [s, a, b, .int .i64 e, .int .i64 p].toArray := by
  have HK := Aside0.mk h
  have c3 := h.cell 3 _ rfl
  have f3 := h.free 3
  have f4 := h.free 4
  have c4 := h.cell 4 _ rfl
  clear h
  go_enter Try.func120, Try.ntmps120
  go_upto_region 2 with fail
  have e3 := HK.out.set 3 (.int .i64 e)
  have R3 := HK.out.row [s, a, b, .int .i64 e, .int .i64 0]
  rw [e3, show [s, a, b, .int .i64 0, .int .i64 0].set 3 (.int .i64 e) = [s, a, b, .int .i64 e, .int .i64 0] from rfl]
  clear e3 c3 f3 c4 f4
  have e4 := R3.set 4 (.int .i64 p)
  rw [setRow_again, show [s, a, b, .int .i64 e, .int .i64 0].set 4 (.int .i64 p) = [s, a, b, .int .i64 e, .int .i64 p] from rfl] at e4
  have c4 := R3.cell 4 _ rfl
  have f4 := R3.free 4
  have HE := Aside0.mk e4
  clear e4
  clear R3
  generalize W.setRow g [s, a, b, .int .i64 e, .int .i64 0].toArray = w1 at *
  go_wp2_with fail
  go_end0
  rw [HE.out]
  exact ⟨rfl, rfl⟩
theorem q_fail2_row {s a b q : Value} {e0 : Int} {W : World} (h : Rt 137 g [s, a, b, .int .i64 e0, q] W) (h0 : e0 ≠ 0) (e p : Int) :
    Calls Try.prog 120 #[ptr g, .int .i64 e, .int .i64 p] W fun x w' => x = .returned (.tuple #[]) ∧ w' = W := by
  have c3 := h.cell 3 _ rfl
  have h1 : (e0 == 0) = false := by simpa using h0
  have h2 : decide (e0 = 0) = false := decide_eq_false h0
  clear h
  go_enter Try.func120, Try.ntmps120
  go_wp2_with fail
  go_end0
  exact ⟨rfl, rfl⟩
theorem q_begin (A : Option Addr) (n c : Nat) (xs : List Int) (most : Nat) (key : Int) (W : World) (hC : Kd.C (Kd.int .u8) W A n xs) (hnc : n ≤ c) (hb : IsBytes xs) (hbig : n < 1000000000) (hmb : most < 1000000000) :
    Calls Try.prog 64 #[.slice A n c, .int .u8 key, .int .i64 (most : Int)] W fun e w' => e = .returned (ptr W.heap.size) ∧ Below W.heap.size W w' ∧ QSt W.heap.size W.heap.size A n c xs most (hdr key most xs) w' := by
  have HLEN := Aside0.mk (show xs.length = n from Kd.C_len hC)
  have HMB := Aside0.mk hmb
  obtain ⟨g, hg⟩ : ∃ g, W.heap.size = g := ⟨_, rfl⟩
  have HG := Aside0.mk hg
  have HQ := Aside0.mk (show ∀ (m : Nat) (e p : Int) (w' : World), Below g W w' → Rt 137 g [Value.slice A n c, .int .i64 (m : Int), .int .i64 (most : Int), .int .i64 e, .int .i64 p] w' → (e = 0 → m ≤ n) → QAt g g A n c xs most m e p w' from fun m e p w' hbw hr hle =>
    ⟨hr, fun W' hb' => Kd.C_below hC (by rw [hg]; exact hbw.trans hb'), Nat.le_refl _, hnc, hle, hbig, hmb, hb⟩)
  have HC := Aside0.mk hC
  clear hC hnc hb hbig hmb hg
  go_enter Try.func64, Try.ntmps64
  go_upto_region 2 with fail
  have hb1 : Below W.heap.size W (W.alloc (.cells #[.slice A n c, .int .i64 1, .int .i64 (most : Int), .int .i64 0, .int .i64 0] 137)) := below_alloc (Below.refl _ _) _
  have r1 : Rt 137 W.heap.size [.slice A n c, .int .i64 1, .int .i64 (most : Int), .int .i64 0, .int .i64 0] (W.alloc (.cells #[.slice A n c, .int .i64 1, .int .i64 (most : Int), .int .i64 0, .int .i64 0] 137)) := heap_alloc_new W _
  rw [HG.out] at hb1 r1 ⊢
  have R1 := Aside0.mk r1
  have B1 := Aside0.mk hb1
  clear r1 hb1
  generalize W.alloc (.cells #[.slice A n c, .int .i64 1, .int .i64 (most : Int), .int .i64 0, .int .i64 0] 137) = w1 at *
  have HCELL := Aside0.mk (show ∀ w', Below g W w' → 0 < n → ∃ ad, A = some ad ∧ w'.cell? ad = some (.int .u8 (xs.headD 0)) from fun w' hb hz => by
    have hCx := Kd.C_below HC.out (show Below W.heap.size W w' by rw [HG.out]; exact hb)
    obtain ⟨ad, rfl, hcell⟩ := (Kd.reads_of_C (d := (0 : Int)) (h1 := fun _ => rfl) hCx).2.2 hz
    refine ⟨ad, rfl, ?_⟩
    have k0 := hcell 0 hz
    have e : ad.add 0 = ad := by simp [Addr.add]
    rw [e] at k0
    rw [k0]
    cases xs <;> rfl)
  clear HC
  by_cases hl : most < n
  · have d1 : decide ((most : Int) < (n : Int)) = true := decide_eq_true (by omega)
    have d2 : decide (most < n) = true := decide_eq_true hl
    have HR := Aside0.mk (show hdr key most xs = Res.fail 1 0 by
      unfold hdr
      rw [HLEN.out, if_pos hl])
    have hz : 0 < n := by omega
    clear hl
    go_wp2_with fail
    go_at_call 120
    refine (q_fail_row R1.out 1 0).mono ?_
    rintro e w2 ⟨rfl, rfl⟩
    have R2 := Aside0.mk (R1.out.row [.slice A n c, .int .i64 1, .int .i64 (most : Int), .int .i64 1, .int .i64 0])
    have B2 := Aside0.mk (below_setRow' B1.out (Nat.le_refl g) [Value.slice A n c, .int .i64 1, .int .i64 (most : Int), .int .i64 1, .int .i64 0].toArray)
    generalize w1.setRow g [Value.slice A n c, .int .i64 1, .int .i64 (most : Int), .int .i64 1, .int .i64 0].toArray = w2 at *
    obtain ⟨ad, rfl, k1⟩ := HCELL.out w2 B2.out hz
    have d3 : ((n : Int) == 0) = false := by simp; omega
    have d4 : decide (n = 0) = false := decide_eq_false (by omega)
    have i0 : (0 : Int) < (n : Int) := by omega
    have d8 : decide ((0 : Int) < (n : Int)) = true := decide_eq_true i0
    have d9 : decide (0 < n) = true := decide_eq_true hz
    generalize xs.headD 0 = x at *
    by_cases hk : x = key
    · have d5 : (x != key) = false := by simpa using hk
      have d6 : (x == key) = true := by simpa using hk
      have d7 : decide (x = key) = true := decide_eq_true hk
      clear hk
      go_wp2_with fail
      go_ret
      rw [HR.out, HG.out]
      exact ⟨rfl, B2.out, by decide, 1, HQ.out 1 1 0 _ B2.out R2.out (fun h => absurd h (by decide))⟩
    · have d5 : (x != key) = true := by simpa using hk
      have d6 : (x == key) = false := by simpa using hk
      have d7 : decide (x = key) = false := decide_eq_false hk
      clear hk
      go_wp2_with fail
      go_at_call 120
      refine (q_fail2_row R2.out (by decide) 90 0).mono ?_
      rintro e w3 ⟨rfl, rfl⟩
      go_wp2_with fail
      go_ret
      rw [HR.out, HG.out]
      exact ⟨rfl, B2.out, by decide, 1, HQ.out 1 1 0 _ B2.out R2.out (fun h => absurd h (by decide))⟩
  have d1 : decide ((most : Int) < (n : Int)) = false := decide_eq_false (by omega)
  have d2 : decide (most < n) = false := decide_eq_false hl
  rcases Nat.eq_zero_or_pos n with hz | hz
  · have HR := Aside0.mk (show hdr key most xs = Res.fail 3 0 by
      unfold hdr
      rw [HLEN.out, if_neg hl, if_pos hz])
    have d3 : ((n : Int) == 0) = true := by simpa using hz
    have d4 : decide (n = 0) = true := decide_eq_true hz
    have d5 : (n : Int) = 0 := by omega
    have d8 : decide ((0 : Int) < (n : Int)) = false := decide_eq_false (by omega)
    have d9 : decide (0 < n) = false := decide_eq_false (by omega)
    have d10 : ((0 : Int) < (n : Int)) = False := eq_false (by omega)
    clear hl hz
    go_wp2_with fail
    go_at_call 120
    refine (q_fail_row R1.out 3 0).mono ?_
    rintro e w2 ⟨rfl, rfl⟩
    have R2 := Aside0.mk (R1.out.row [.slice A n c, .int .i64 1, .int .i64 (most : Int), .int .i64 3, .int .i64 0])
    have B2 := Aside0.mk (below_setRow' B1.out (Nat.le_refl g) [Value.slice A n c, .int .i64 1, .int .i64 (most : Int), .int .i64 3, .int .i64 0].toArray)
    generalize w1.setRow g [Value.slice A n c, .int .i64 1, .int .i64 (most : Int), .int .i64 3, .int .i64 0].toArray = w2 at *
    go_wp2_with fail
    go_ret
    rw [HR.out, HG.out]
    exact ⟨rfl, B2.out, by decide, 1, HQ.out 1 3 0 _ B2.out R2.out (fun h => absurd h (by decide))⟩
  obtain ⟨ad, rfl, k1⟩ := HCELL.out w1 B1.out hz
  have HZ := Aside0.mk (And.intro hl hz)
  have d3 : ((n : Int) == 0) = false := by simp; omega
  have d4 : decide (n = 0) = false := decide_eq_false (by omega)
  have i0 : (0 : Int) < (n : Int) := by omega
  have d8 : decide ((0 : Int) < (n : Int)) = true := decide_eq_true i0
  have d9 : decide (0 < n) = true := decide_eq_true hz
  obtain ⟨x, hx⟩ : ∃ x, xs.headD 0 = x := ⟨_, rfl⟩
  rw [hx] at k1
  have HX := Aside0.mk hx
  clear hl hz hx
  by_cases hk : x = key
  · have HR := Aside0.mk (show hdr key most xs = Res.ok () 1 by
      unfold hdr
      rw [HLEN.out, if_neg HZ.out.1, if_neg (by have := HZ.out.2; omega), HX.out, if_neg (by simpa using hk)])
    have d5 : (x != key) = false := by simpa using hk
    have d6 : (x == key) = true := by simpa using hk
    have d7 : decide (x = key) = true := decide_eq_true hk
    clear hk
    go_wp2_with fail
    go_ret
    rw [HR.out, HG.out]
    exact ⟨rfl, B1.out, HQ.out 1 0 0 _ B1.out R1.out (fun _ => HZ.out.2)⟩
  · have HR := Aside0.mk (show hdr key most xs = Res.fail 90 0 by
      unfold hdr
      rw [HLEN.out, if_neg HZ.out.1, if_neg (by have := HZ.out.2; omega), HX.out, if_pos hk])
    have d5 : (x != key) = true := by simpa using hk
    have d6 : (x == key) = false := by simpa using hk
    have d7 : decide (x = key) = false := decide_eq_false hk
    clear hk
    go_wp2_with fail
    go_at_call 120
    refine (q_fail_row R1.out 90 0).mono ?_
    rintro e w2 ⟨rfl, rfl⟩
    have R2 := Aside0.mk (R1.out.row [.slice (some ad) n c, .int .i64 1, .int .i64 (most : Int), .int .i64 90, .int .i64 0])
    have B2 := Aside0.mk (below_setRow' B1.out (Nat.le_refl g) [Value.slice (some ad) n c, .int .i64 1, .int .i64 (most : Int), .int .i64 90, .int .i64 0].toArray)
    generalize w1.setRow g [Value.slice (some ad) n c, .int .i64 1, .int .i64 (most : Int), .int .i64 90, .int .i64 0].toArray = w2 at *
    go_wp2_with fail
    go_ret
    rw [HR.out, HG.out]
    exact ⟨rfl, B2.out, by decide, 1, HQ.out 1 90 0 _ B2.out R2.out (fun h => absurd h (by decide))⟩
/-- What stands behind the fields. -/
def tailOf {α : Type} (xs : List Int) (r : Res α) : Res α := r.bind fun x n => if n < xs.length then .fail 4 (n : Int) else .ok x n
theorem q_end_no {m : Nat} {e0 p0 : Int} {W : World} (k : QAt g B A n c xs most m e0 p0 W) (h0 : e0 ≠ 0) :
    Calls Try.prog 68 #[ptr g] W fun e w' => Below W.heap.size W w' ∧ e = .returned (.tuple #[.int .i64 e0, .int .i64 p0]) := by
  have HK := Aside0.mk k
  have h1 : (e0 == 0) = false := by simpa using h0
  have h2 : decide (e0 = 0) = false := decide_eq_false h0
  clear k
  have MKSHK := Aside0.mk (show ∀ w', Below W.heap.size W w' → (fun w' => w'.cell? ⟨g, 0, none⟩ = some (Value.slice A n c) ∧ w'.cell? ⟨g, 1, none⟩ = some (.int .i64 (m : Int)) ∧ w'.cell? ⟨g, 3, none⟩ = some (.int .i64 e0) ∧ w'.cell? ⟨g, 4, none⟩ = some (.int .i64 p0)) w' from fun w' hb => by
    have r := HK.out.row.below hb
    exact ⟨r.cell 0 _ rfl, r.cell 1 _ rfl, r.cell 3 _ rfl, r.cell 4 _ rfl⟩)
  go_enter Try.func68, Try.ntmps68
  go_upto_region 1 with fail
  refine wp_region_held_drew (S := fun w' => w'.cell? ⟨g, 0, none⟩ = some (Value.slice A n c) ∧ w'.cell? ⟨g, 1, none⟩ = some (.int .i64 (m : Int)) ∧ w'.cell? ⟨g, 3, none⟩ = some (.int .i64 e0) ∧ w'.cell? ⟨g, 4, none⟩ = some (.int .i64 p0)) (by kernel_rfl) (MKSHK.out _ (below_drew (Below.refl _ _))) (fun hHeld => ?_)
  refine wpAnyH_take (i := 0) (oi := { dst := some 4, op := Op.move (Operand.tmp 0), type := 106, pos := "ref.go:218", after := #[], guard := none }) (v := ?_) rfl (by kernel_rfl) (by kernel_rfl) (by kernel_rfl) (fun _ _ _ h => h) (Or.inl ⟨by rfl, ?_⟩) hHeld ?_
  rotate_left
  · intro w' hS; obtain ⟨hS0, hS1, hS2, hS3⟩ := hS; go_simp; all_goals (with_reducible rfl)
  (try simp only [Act.put, List.setIfInBounds_toArray, List.set_cons_zero, List.set_cons_succ])
  refine wpAnyH_take (i := 1) (oi := { dst := some 5, op := Op.nilCheck (Operand.tmp 4), type := 0, pos := "ref.go:218", after := #[{ on := 0, ground := Ground.data }], guard := none }) (v := ?_) rfl (by kernel_rfl) (by kernel_rfl) (by kernel_rfl) (fun _ _ _ h => h) (Or.inl ⟨by rfl, ?_⟩) hHeld ?_
  rotate_left
  · intro w' hS; obtain ⟨hS0, hS1, hS2, hS3⟩ := hS; go_simp; all_goals (with_reducible rfl)
  (try simp only [Act.put, List.setIfInBounds_toArray, List.set_cons_zero, List.set_cons_succ])
  refine wpAnyH_take (i := 2) (oi := { dst := some 6, op := Op.fieldAddr 137 (Operand.tmp 5) 3, type := 0, pos := "ref.go:218", after := #[{ on := 1, ground := Ground.data }], guard := none }) (v := ?_) rfl (by kernel_rfl) (by kernel_rfl) (by kernel_rfl) (fun _ _ _ h => h) (Or.inl ⟨by rfl, ?_⟩) hHeld ?_
  rotate_left
  · intro w' hS; obtain ⟨hS0, hS1, hS2, hS3⟩ := hS; go_simp; all_goals (with_reducible rfl)
  (try simp only [Act.put, List.setIfInBounds_toArray, List.set_cons_zero, List.set_cons_succ])
  refine wpAnyH_take (i := 3) (oi := { dst := some 7, op := Op.load 22 (Operand.tmp 6), type := 22, pos := "ref.go:218", after := #[{ on := 2, ground := Ground.data }], guard := none }) (v := ?_) rfl (by kernel_rfl) (by kernel_rfl) (by kernel_rfl) (fun _ _ _ h => h) (Or.inl ⟨by rfl, ?_⟩) hHeld ?_
  rotate_left
  · intro w' hS; obtain ⟨hS0, hS1, hS2, hS3⟩ := hS; go_simp; all_goals (with_reducible rfl)
  (try simp only [Act.put, List.setIfInBounds_toArray, List.set_cons_zero, List.set_cons_succ])
  refine wpAnyH_take (i := 4) (oi := { dst := some 8, op := Op.binOp BinOp.eql 22 (Operand.tmp 7) (Operand.const (Value.int IntKind.i64 0)) 22, type := 4, pos := "ref.go:218", after := #[{ on := 3, ground := Ground.data }], guard := none }) (v := ?_) rfl (by kernel_rfl) (by kernel_rfl) (by kernel_rfl) (fun _ _ _ h => h) (Or.inl ⟨by rfl, ?_⟩) hHeld ?_
  rotate_left
  · intro w' hS; obtain ⟨hS0, hS1, hS2, hS3⟩ := hS; go_simp; all_goals (with_reducible rfl)
  (try simp only [Act.put, List.setIfInBounds_toArray, List.set_cons_zero, List.set_cons_succ])
  refine wpAnyH_take (i := 5) (oi := { dst := some 9, op := Op.move (Operand.tmp 8), type := 4, pos := "ref.go:218", after := #[{ on := 4, ground := Ground.data }], guard := none }) (v := ?_) rfl (by kernel_rfl) (by kernel_rfl) (by kernel_rfl) (fun _ _ _ h => h) (Or.inl ⟨by rfl, ?_⟩) hHeld ?_
  rotate_left
  · intro w' hS; obtain ⟨hS0, hS1, hS2, hS3⟩ := hS; go_simp; all_goals (with_reducible rfl)
  (try simp only [Act.put, List.setIfInBounds_toArray, List.set_cons_zero, List.set_cons_succ])
  refine wpAnyH_take (i := 6) (oi := { dst := some 10, op := Op.move (Operand.tmp 0), type := 106, pos := "ref.go:218", after := #[{ on := 5, ground := Ground.guard }], guard := some (5, true) }) (v := undef) rfl (by kernel_rfl) (by kernel_rfl) (by kernel_rfl) (fun _ _ _ h => h) (Or.inr ⟨by rfl, rfl⟩) hHeld ?_
  (try simp only [Act.put, List.setIfInBounds_toArray, List.set_cons_zero, List.set_cons_succ])
  refine wpAnyH_take (i := 7) (oi := { dst := some 11, op := Op.nilCheck (Operand.tmp 10), type := 0, pos := "ref.go:218", after := #[{ on := 6, ground := Ground.data }, { on := 5, ground := Ground.guard }], guard := some (5, true) }) (v := undef) rfl (by kernel_rfl) (by kernel_rfl) (by kernel_rfl) (fun _ _ _ h => h) (Or.inr ⟨by rfl, rfl⟩) hHeld ?_
  (try simp only [Act.put, List.setIfInBounds_toArray, List.set_cons_zero, List.set_cons_succ])
  refine wpAnyH_take (i := 8) (oi := { dst := some 12, op := Op.fieldAddr 137 (Operand.tmp 11) 1, type := 0, pos := "ref.go:218", after := #[{ on := 7, ground := Ground.data }, { on := 5, ground := Ground.guard }], guard := some (5, true) }) (v := undef) rfl (by kernel_rfl) (by kernel_rfl) (by kernel_rfl) (fun _ _ _ h => h) (Or.inr ⟨by rfl, rfl⟩) hHeld ?_
  (try simp only [Act.put, List.setIfInBounds_toArray, List.set_cons_zero, List.set_cons_succ])
  refine wpAnyH_take (i := 9) (oi := { dst := some 13, op := Op.load 3 (Operand.tmp 12), type := 3, pos := "ref.go:218", after := #[{ on := 8, ground := Ground.data }, { on := 5, ground := Ground.guard }], guard := some (5, true) }) (v := undef) rfl (by kernel_rfl) (by kernel_rfl) (by kernel_rfl) (fun _ _ _ h => h) (Or.inr ⟨by rfl, rfl⟩) hHeld ?_
  (try simp only [Act.put, List.setIfInBounds_toArray, List.set_cons_zero, List.set_cons_succ])
  refine wpAnyH_take (i := 10) (oi := { dst := some 14, op := Op.move (Operand.tmp 0), type := 106, pos := "ref.go:218", after := #[{ on := 5, ground := Ground.guard }], guard := some (5, true) }) (v := undef) rfl (by kernel_rfl) (by kernel_rfl) (by kernel_rfl) (fun _ _ _ h => h) (Or.inr ⟨by rfl, rfl⟩) hHeld ?_
  (try simp only [Act.put, List.setIfInBounds_toArray, List.set_cons_zero, List.set_cons_succ])
  refine wpAnyH_take (i := 11) (oi := { dst := some 15, op := Op.nilCheck (Operand.tmp 14), type := 0, pos := "ref.go:218", after := #[{ on := 10, ground := Ground.data }, { on := 5, ground := Ground.guard }], guard := some (5, true) }) (v := undef) rfl (by kernel_rfl) (by kernel_rfl) (by kernel_rfl) (fun _ _ _ h => h) (Or.inr ⟨by rfl, rfl⟩) hHeld ?_
  (try simp only [Act.put, List.setIfInBounds_toArray, List.set_cons_zero, List.set_cons_succ])
  refine wpAnyH_take (i := 12) (oi := { dst := some 16, op := Op.fieldAddr 137 (Operand.tmp 15) 0, type := 0, pos := "ref.go:218", after := #[{ on := 11, ground := Ground.data }, { on := 5, ground := Ground.guard }], guard := some (5, true) }) (v := undef) rfl (by kernel_rfl) (by kernel_rfl) (by kernel_rfl) (fun _ _ _ h => h) (Or.inr ⟨by rfl, rfl⟩) hHeld ?_
  (try simp only [Act.put, List.setIfInBounds_toArray, List.set_cons_zero, List.set_cons_succ])
  refine wpAnyH_take (i := 13) (oi := { dst := some 17, op := Op.load 26 (Operand.tmp 16), type := 26, pos := "ref.go:218", after := #[{ on := 12, ground := Ground.data }, { on := 5, ground := Ground.guard }], guard := some (5, true) }) (v := undef) rfl (by kernel_rfl) (by kernel_rfl) (by kernel_rfl) (fun _ _ _ h => h) (Or.inr ⟨by rfl, rfl⟩) hHeld ?_
  (try simp only [Act.put, List.setIfInBounds_toArray, List.set_cons_zero, List.set_cons_succ])
  refine wpAnyH_take (i := 14) (oi := { dst := some 18, op := Op.call { callee := Callee.builtin Builtin.len, args := #[Operand.tmp 17], argTypes := #[26] }, type := 3, pos := "ref.go:218", after := #[{ on := 13, ground := Ground.data }, { on := 5, ground := Ground.guard }], guard := some (5, true) }) (v := undef) rfl (by kernel_rfl) (by kernel_rfl) (by kernel_rfl) (fun _ _ _ h => h) (Or.inr ⟨by rfl, rfl⟩) hHeld ?_
  (try simp only [Act.put, List.setIfInBounds_toArray, List.set_cons_zero, List.set_cons_succ])
  refine wpAnyH_take (i := 15) (oi := { dst := some 19, op := Op.binOp BinOp.lss 3 (Operand.tmp 13) (Operand.tmp 18) 3, type := 4, pos := "ref.go:218", after := #[{ on := 9, ground := Ground.data }, { on := 14, ground := Ground.data }, { on := 5, ground := Ground.guard }], guard := some (5, true) }) (v := undef) rfl (by kernel_rfl) (by kernel_rfl) (by kernel_rfl) (fun _ _ _ h => h) (Or.inr ⟨by rfl, rfl⟩) hHeld ?_
  (try simp only [Act.put, List.setIfInBounds_toArray, List.set_cons_zero, List.set_cons_succ])
  refine wpAnyH_take (i := 16) (oi := { dst := some 20, op := Op.pick (Operand.tmp 9) (Operand.tmp 19) (Operand.const (Value.bool false)), type := 4, pos := "ref.go:218", after := #[{ on := 5, ground := Ground.data }, { on := 15, ground := Ground.data }], guard := none }) (v := ?_) rfl (by kernel_rfl) (by kernel_rfl) (by kernel_rfl) (fun _ _ _ h => h) (Or.inl ⟨by rfl, ?_⟩) hHeld ?_
  rotate_left
  · intro w' hS; obtain ⟨hS0, hS1, hS2, hS3⟩ := hS; go_simp; all_goals (with_reducible rfl)
  (try simp only [Act.put, List.setIfInBounds_toArray, List.set_cons_zero, List.set_cons_succ])
  refine wpAnyH_done (by kernel_rfl) ?_ _
  (try simp only [Act.put, List.setIfInBounds_toArray, List.set_cons_zero, List.set_cons_succ])
  go_upto_region 3 with fail
  refine wp_region_held_drew (S := fun w' => w'.cell? ⟨g, 0, none⟩ = some (Value.slice A n c) ∧ w'.cell? ⟨g, 1, none⟩ = some (.int .i64 (m : Int)) ∧ w'.cell? ⟨g, 3, none⟩ = some (.int .i64 e0) ∧ w'.cell? ⟨g, 4, none⟩ = some (.int .i64 p0)) (by kernel_rfl) (MKSHK.out _ (below_drew (below_drew (Below.refl _ _)))) (fun hHeld => ?_)
  refine wpAnyH_take (i := 0) (oi := { dst := some 27, op := Op.move (Operand.tmp 0), type := 106, pos := "ref.go:221", after := #[], guard := none }) (v := ?_) rfl (by kernel_rfl) (by kernel_rfl) (by kernel_rfl) (fun _ _ _ h => h) (Or.inl ⟨by rfl, ?_⟩) hHeld ?_
  rotate_left
  · intro w' hS; obtain ⟨hS0, hS1, hS2, hS3⟩ := hS; go_simp; all_goals (with_reducible rfl)
  (try simp only [Act.put, List.setIfInBounds_toArray, List.set_cons_zero, List.set_cons_succ])
  refine wpAnyH_take (i := 1) (oi := { dst := some 28, op := Op.nilCheck (Operand.tmp 27), type := 0, pos := "ref.go:221", after := #[{ on := 0, ground := Ground.data }], guard := none }) (v := ?_) rfl (by kernel_rfl) (by kernel_rfl) (by kernel_rfl) (fun _ _ _ h => h) (Or.inl ⟨by rfl, ?_⟩) hHeld ?_
  rotate_left
  · intro w' hS; obtain ⟨hS0, hS1, hS2, hS3⟩ := hS; go_simp; all_goals (with_reducible rfl)
  (try simp only [Act.put, List.setIfInBounds_toArray, List.set_cons_zero, List.set_cons_succ])
  refine wpAnyH_take (i := 2) (oi := { dst := some 29, op := Op.fieldAddr 137 (Operand.tmp 28) 3, type := 0, pos := "ref.go:221", after := #[{ on := 1, ground := Ground.data }], guard := none }) (v := ?_) rfl (by kernel_rfl) (by kernel_rfl) (by kernel_rfl) (fun _ _ _ h => h) (Or.inl ⟨by rfl, ?_⟩) hHeld ?_
  rotate_left
  · intro w' hS; obtain ⟨hS0, hS1, hS2, hS3⟩ := hS; go_simp; all_goals (with_reducible rfl)
  (try simp only [Act.put, List.setIfInBounds_toArray, List.set_cons_zero, List.set_cons_succ])
  refine wpAnyH_take (i := 3) (oi := { dst := some 30, op := Op.load 22 (Operand.tmp 29), type := 22, pos := "ref.go:221", after := #[{ on := 2, ground := Ground.data }], guard := none }) (v := ?_) rfl (by kernel_rfl) (by kernel_rfl) (by kernel_rfl) (fun _ _ _ h => h) (Or.inl ⟨by rfl, ?_⟩) hHeld ?_
  rotate_left
  · intro w' hS; obtain ⟨hS0, hS1, hS2, hS3⟩ := hS; go_simp; all_goals (with_reducible rfl)
  (try simp only [Act.put, List.setIfInBounds_toArray, List.set_cons_zero, List.set_cons_succ])
  refine wpAnyH_take (i := 4) (oi := { dst := some 31, op := Op.move (Operand.tmp 0), type := 106, pos := "ref.go:221", after := #[{ on := 8, ground := Ground.gcOnly Departure.lateStores }], guard := none }) (v := ?_) rfl (by kernel_rfl) (by kernel_rfl) (by kernel_rfl) (fun _ _ _ h => h) (Or.inl ⟨by rfl, ?_⟩) hHeld ?_
  rotate_left
  · intro w' hS; obtain ⟨hS0, hS1, hS2, hS3⟩ := hS; go_simp; all_goals (with_reducible rfl)
  (try simp only [Act.put, List.setIfInBounds_toArray, List.set_cons_zero, List.set_cons_succ])
  refine wpAnyH_take (i := 5) (oi := { dst := some 32, op := Op.nilCheck (Operand.tmp 31), type := 0, pos := "ref.go:221", after := #[{ on := 4, ground := Ground.data }, { on := 8, ground := Ground.gcOnly Departure.lateStores }], guard := none }) (v := ?_) rfl (by kernel_rfl) (by kernel_rfl) (by kernel_rfl) (fun _ _ _ h => h) (Or.inl ⟨by rfl, ?_⟩) hHeld ?_
  rotate_left
  · intro w' hS; obtain ⟨hS0, hS1, hS2, hS3⟩ := hS; go_simp; all_goals (with_reducible rfl)
  (try simp only [Act.put, List.setIfInBounds_toArray, List.set_cons_zero, List.set_cons_succ])
  refine wpAnyH_take (i := 6) (oi := { dst := some 33, op := Op.fieldAddr 137 (Operand.tmp 32) 4, type := 0, pos := "ref.go:221", after := #[{ on := 5, ground := Ground.data }, { on := 8, ground := Ground.gcOnly Departure.lateStores }], guard := none }) (v := ?_) rfl (by kernel_rfl) (by kernel_rfl) (by kernel_rfl) (fun _ _ _ h => h) (Or.inl ⟨by rfl, ?_⟩) hHeld ?_
  rotate_left
  · intro w' hS; obtain ⟨hS0, hS1, hS2, hS3⟩ := hS; go_simp; all_goals (with_reducible rfl)
  (try simp only [Act.put, List.setIfInBounds_toArray, List.set_cons_zero, List.set_cons_succ])
  refine wpAnyH_take (i := 7) (oi := { dst := some 34, op := Op.load 3 (Operand.tmp 33), type := 3, pos := "ref.go:221", after := #[{ on := 6, ground := Ground.data }, { on := 8, ground := Ground.gcOnly Departure.lateStores }], guard := none }) (v := ?_) rfl (by kernel_rfl) (by kernel_rfl) (by kernel_rfl) (fun _ _ _ h => h) (Or.inl ⟨by rfl, ?_⟩) hHeld ?_
  rotate_left
  · intro w' hS; obtain ⟨hS0, hS1, hS2, hS3⟩ := hS; go_simp; all_goals (with_reducible rfl)
  (try simp only [Act.put, List.setIfInBounds_toArray, List.set_cons_zero, List.set_cons_succ])
  refine wpAnyH_take (i := 8) (oi := { dst := some 2, op := Op.assign (Operand.tmp 30), type := 22, pos := "ref.go:221", after := #[{ on := 3, ground := Ground.data }, { on := 0, ground := Ground.phase }, { on := 1, ground := Ground.phase }, { on := 2, ground := Ground.phase }, { on := 3, ground := Ground.phase }, { on := 4, ground := Ground.textOnly Departure.lateStores }, { on := 5, ground := Ground.textOnly Departure.lateStores }, { on := 6, ground := Ground.textOnly Departure.lateStores }, { on := 7, ground := Ground.textOnly Departure.lateStores }], guard := none }) (v := ?_) rfl (by kernel_rfl) (by kernel_rfl) (by kernel_rfl) (fun _ _ _ h => h) (Or.inl ⟨by rfl, ?_⟩) hHeld ?_
  rotate_left
  · intro w' hS; obtain ⟨hS0, hS1, hS2, hS3⟩ := hS; go_simp; all_goals (with_reducible rfl)
  (try simp only [Act.put, List.setIfInBounds_toArray, List.set_cons_zero, List.set_cons_succ])
  refine wpAnyH_take (i := 9) (oi := { dst := some 3, op := Op.assign (Operand.tmp 34), type := 3, pos := "ref.go:221", after := #[{ on := 7, ground := Ground.data }, { on := 8, ground := Ground.chain }, { on := 0, ground := Ground.phase }, { on := 1, ground := Ground.phase }, { on := 2, ground := Ground.phase }, { on := 3, ground := Ground.phase }, { on := 4, ground := Ground.phase }, { on := 5, ground := Ground.phase }, { on := 6, ground := Ground.phase }, { on := 7, ground := Ground.phase }, { on := 8, ground := Ground.phase }], guard := none }) (v := ?_) rfl (by kernel_rfl) (by kernel_rfl) (by kernel_rfl) (fun _ _ _ h => h) (Or.inl ⟨by rfl, ?_⟩) hHeld ?_
  rotate_left
  · intro w' hS; obtain ⟨hS0, hS1, hS2, hS3⟩ := hS; go_simp; all_goals (with_reducible rfl)
  (try simp only [Act.put, List.setIfInBounds_toArray, List.set_cons_zero, List.set_cons_succ])
  refine wpAnyH_done (by kernel_rfl) ?_ _
  (try simp only [Act.put, List.setIfInBounds_toArray, List.set_cons_zero, List.set_cons_succ])
  go_wp2_with fail
  refine ⟨rfl, ?_⟩
  simp [results, Try.results68, go_sem]
  exact below_drew (below_drew (Below.refl _ _))
theorem q_end_ok {m : Nat} {W : World} (k : QAt g B A n c xs most m 0 0 W) :
    Calls Try.prog 68 #[ptr g] W fun e w' => Below B W w' ∧ Kept W w' (fun j => j = g) ∧ e = .returned (.tuple #[.int .i64 (endOf (if m < xs.length then (Res.fail 4 (m : Int) : Res Unit) else .ok () m)).1, .int .i64 (endOf (if m < xs.length then (Res.fail 4 (m : Int) : Res Unit) else .ok () m)).2]) := by
  have HK := Aside0.mk k
  rw [k.len]
  clear k
  obtain ⟨E, hE⟩ : ∃ E, endOf (if m < n then (Res.fail 4 (m : Int) : Res Unit) else .ok () m) = E := ⟨_, rfl⟩
  rw [hE]
  have HE := Aside0.mk hE
  clear hE
  have MKSHK := Aside0.mk (show ∀ w', Below W.heap.size W w' → (fun w' => w'.cell? ⟨g, 0, none⟩ = some (Value.slice A n c) ∧ w'.cell? ⟨g, 1, none⟩ = some (.int .i64 (m : Int)) ∧ w'.cell? ⟨g, 3, none⟩ = some (.int .i64 0) ∧ w'.cell? ⟨g, 4, none⟩ = some (.int .i64 0)) w' from fun w' hb => by
    have r := HK.out.row.below hb
    exact ⟨r.cell 0 _ rfl, r.cell 1 _ rfl, r.cell 3 _ rfl, r.cell 4 _ rfl⟩)
  go_enter Try.func68, Try.ntmps68
  go_upto_region 1 with fail
  refine wp_region_held_drew (S := fun w' => w'.cell? ⟨g, 0, none⟩ = some (Value.slice A n c) ∧ w'.cell? ⟨g, 1, none⟩ = some (.int .i64 (m : Int)) ∧ w'.cell? ⟨g, 3, none⟩ = some (.int .i64 0) ∧ w'.cell? ⟨g, 4, none⟩ = some (.int .i64 0)) (by kernel_rfl) (MKSHK.out _ (below_drew (Below.refl _ _))) (fun hHeld => ?_)
  refine wpAnyH_take (i := 0) (oi := { dst := some 4, op := Op.move (Operand.tmp 0), type := 106, pos := "ref.go:218", after := #[], guard := none }) (v := ?_) rfl (by kernel_rfl) (by kernel_rfl) (by kernel_rfl) (fun _ _ _ h => h) (Or.inl ⟨by rfl, ?_⟩) hHeld ?_
  rotate_left
  · intro w' hS; obtain ⟨hS0, hS1, hS2, hS3⟩ := hS; go_simp; all_goals (with_reducible rfl)
  (try simp only [Act.put, List.setIfInBounds_toArray, List.set_cons_zero, List.set_cons_succ])
  refine wpAnyH_take (i := 1) (oi := { dst := some 5, op := Op.nilCheck (Operand.tmp 4), type := 0, pos := "ref.go:218", after := #[{ on := 0, ground := Ground.data }], guard := none }) (v := ?_) rfl (by kernel_rfl) (by kernel_rfl) (by kernel_rfl) (fun _ _ _ h => h) (Or.inl ⟨by rfl, ?_⟩) hHeld ?_
  rotate_left
  · intro w' hS; obtain ⟨hS0, hS1, hS2, hS3⟩ := hS; go_simp; all_goals (with_reducible rfl)
  (try simp only [Act.put, List.setIfInBounds_toArray, List.set_cons_zero, List.set_cons_succ])
  refine wpAnyH_take (i := 2) (oi := { dst := some 6, op := Op.fieldAddr 137 (Operand.tmp 5) 3, type := 0, pos := "ref.go:218", after := #[{ on := 1, ground := Ground.data }], guard := none }) (v := ?_) rfl (by kernel_rfl) (by kernel_rfl) (by kernel_rfl) (fun _ _ _ h => h) (Or.inl ⟨by rfl, ?_⟩) hHeld ?_
  rotate_left
  · intro w' hS; obtain ⟨hS0, hS1, hS2, hS3⟩ := hS; go_simp; all_goals (with_reducible rfl)
  (try simp only [Act.put, List.setIfInBounds_toArray, List.set_cons_zero, List.set_cons_succ])
  refine wpAnyH_take (i := 3) (oi := { dst := some 7, op := Op.load 22 (Operand.tmp 6), type := 22, pos := "ref.go:218", after := #[{ on := 2, ground := Ground.data }], guard := none }) (v := ?_) rfl (by kernel_rfl) (by kernel_rfl) (by kernel_rfl) (fun _ _ _ h => h) (Or.inl ⟨by rfl, ?_⟩) hHeld ?_
  rotate_left
  · intro w' hS; obtain ⟨hS0, hS1, hS2, hS3⟩ := hS; go_simp; all_goals (with_reducible rfl)
  (try simp only [Act.put, List.setIfInBounds_toArray, List.set_cons_zero, List.set_cons_succ])
  refine wpAnyH_take (i := 4) (oi := { dst := some 8, op := Op.binOp BinOp.eql 22 (Operand.tmp 7) (Operand.const (Value.int IntKind.i64 0)) 22, type := 4, pos := "ref.go:218", after := #[{ on := 3, ground := Ground.data }], guard := none }) (v := ?_) rfl (by kernel_rfl) (by kernel_rfl) (by kernel_rfl) (fun _ _ _ h => h) (Or.inl ⟨by rfl, ?_⟩) hHeld ?_
  rotate_left
  · intro w' hS; obtain ⟨hS0, hS1, hS2, hS3⟩ := hS; go_simp; all_goals (with_reducible rfl)
  (try simp only [Act.put, List.setIfInBounds_toArray, List.set_cons_zero, List.set_cons_succ])
  refine wpAnyH_take (i := 5) (oi := { dst := some 9, op := Op.move (Operand.tmp 8), type := 4, pos := "ref.go:218", after := #[{ on := 4, ground := Ground.data }], guard := none }) (v := ?_) rfl (by kernel_rfl) (by kernel_rfl) (by kernel_rfl) (fun _ _ _ h => h) (Or.inl ⟨by rfl, ?_⟩) hHeld ?_
  rotate_left
  · intro w' hS; obtain ⟨hS0, hS1, hS2, hS3⟩ := hS; go_simp; all_goals (with_reducible rfl)
  (try simp only [Act.put, List.setIfInBounds_toArray, List.set_cons_zero, List.set_cons_succ])
  refine wpAnyH_take (i := 6) (oi := { dst := some 10, op := Op.move (Operand.tmp 0), type := 106, pos := "ref.go:218", after := #[{ on := 5, ground := Ground.guard }], guard := some (5, true) }) (v := ?_) rfl (by kernel_rfl) (by kernel_rfl) (by kernel_rfl) (fun _ _ _ h => h) (Or.inl ⟨by rfl, ?_⟩) hHeld ?_
  rotate_left
  · intro w' hS; obtain ⟨hS0, hS1, hS2, hS3⟩ := hS; go_simp; all_goals (with_reducible rfl)
  (try simp only [Act.put, List.setIfInBounds_toArray, List.set_cons_zero, List.set_cons_succ])
  refine wpAnyH_take (i := 7) (oi := { dst := some 11, op := Op.nilCheck (Operand.tmp 10), type := 0, pos := "ref.go:218", after := #[{ on := 6, ground := Ground.data }, { on := 5, ground := Ground.guard }], guard := some (5, true) }) (v := ?_) rfl (by kernel_rfl) (by kernel_rfl) (by kernel_rfl) (fun _ _ _ h => h) (Or.inl ⟨by rfl, ?_⟩) hHeld ?_
  rotate_left
  · intro w' hS; obtain ⟨hS0, hS1, hS2, hS3⟩ := hS; go_simp; all_goals (with_reducible rfl)
  (try simp only [Act.put, List.setIfInBounds_toArray, List.set_cons_zero, List.set_cons_succ])
  refine wpAnyH_take (i := 8) (oi := { dst := some 12, op := Op.fieldAddr 137 (Operand.tmp 11) 1, type := 0, pos := "ref.go:218", after := #[{ on := 7, ground := Ground.data }, { on := 5, ground := Ground.guard }], guard := some (5, true) }) (v := ?_) rfl (by kernel_rfl) (by kernel_rfl) (by kernel_rfl) (fun _ _ _ h => h) (Or.inl ⟨by rfl, ?_⟩) hHeld ?_
  rotate_left
  · intro w' hS; obtain ⟨hS0, hS1, hS2, hS3⟩ := hS; go_simp; all_goals (with_reducible rfl)
  (try simp only [Act.put, List.setIfInBounds_toArray, List.set_cons_zero, List.set_cons_succ])
  refine wpAnyH_take (i := 9) (oi := { dst := some 13, op := Op.load 3 (Operand.tmp 12), type := 3, pos := "ref.go:218", after := #[{ on := 8, ground := Ground.data }, { on := 5, ground := Ground.guard }], guard := some (5, true) }) (v := ?_) rfl (by kernel_rfl) (by kernel_rfl) (by kernel_rfl) (fun _ _ _ h => h) (Or.inl ⟨by rfl, ?_⟩) hHeld ?_
  rotate_left
  · intro w' hS; obtain ⟨hS0, hS1, hS2, hS3⟩ := hS; go_simp; all_goals (with_reducible rfl)
  (try simp only [Act.put, List.setIfInBounds_toArray, List.set_cons_zero, List.set_cons_succ])
  refine wpAnyH_take (i := 10) (oi := { dst := some 14, op := Op.move (Operand.tmp 0), type := 106, pos := "ref.go:218", after := #[{ on := 5, ground := Ground.guard }], guard := some (5, true) }) (v := ?_) rfl (by kernel_rfl) (by kernel_rfl) (by kernel_rfl) (fun _ _ _ h => h) (Or.inl ⟨by rfl, ?_⟩) hHeld ?_
  rotate_left
  · intro w' hS; obtain ⟨hS0, hS1, hS2, hS3⟩ := hS; go_simp; all_goals (with_reducible rfl)
  (try simp only [Act.put, List.setIfInBounds_toArray, List.set_cons_zero, List.set_cons_succ])
  refine wpAnyH_take (i := 11) (oi := { dst := some 15, op := Op.nilCheck (Operand.tmp 14), type := 0, pos := "ref.go:218", after := #[{ on := 10, ground := Ground.data }, { on := 5, ground := Ground.guard }], guard := some (5, true) }) (v := ?_) rfl (by kernel_rfl) (by kernel_rfl) (by kernel_rfl) (fun _ _ _ h => h) (Or.inl ⟨by rfl, ?_⟩) hHeld ?_
  rotate_left
  · intro w' hS; obtain ⟨hS0, hS1, hS2, hS3⟩ := hS; go_simp; all_goals (with_reducible rfl)
  (try simp only [Act.put, List.setIfInBounds_toArray, List.set_cons_zero, List.set_cons_succ])
  refine wpAnyH_take (i := 12) (oi := { dst := some 16, op := Op.fieldAddr 137 (Operand.tmp 15) 0, type := 0, pos := "ref.go:218", after := #[{ on := 11, ground := Ground.data }, { on := 5, ground := Ground.guard }], guard := some (5, true) }) (v := ?_) rfl (by kernel_rfl) (by kernel_rfl) (by kernel_rfl) (fun _ _ _ h => h) (Or.inl ⟨by rfl, ?_⟩) hHeld ?_
  rotate_left
  · intro w' hS; obtain ⟨hS0, hS1, hS2, hS3⟩ := hS; go_simp; all_goals (with_reducible rfl)
  (try simp only [Act.put, List.setIfInBounds_toArray, List.set_cons_zero, List.set_cons_succ])
  refine wpAnyH_take (i := 13) (oi := { dst := some 17, op := Op.load 26 (Operand.tmp 16), type := 26, pos := "ref.go:218", after := #[{ on := 12, ground := Ground.data }, { on := 5, ground := Ground.guard }], guard := some (5, true) }) (v := ?_) rfl (by kernel_rfl) (by kernel_rfl) (by kernel_rfl) (fun _ _ _ h => h) (Or.inl ⟨by rfl, ?_⟩) hHeld ?_
  rotate_left
  · intro w' hS; obtain ⟨hS0, hS1, hS2, hS3⟩ := hS; go_simp; all_goals (with_reducible rfl)
  (try simp only [Act.put, List.setIfInBounds_toArray, List.set_cons_zero, List.set_cons_succ])
  refine wpAnyH_take (i := 14) (oi := { dst := some 18, op := Op.call { callee := Callee.builtin Builtin.len, args := #[Operand.tmp 17], argTypes := #[26] }, type := 3, pos := "ref.go:218", after := #[{ on := 13, ground := Ground.data }, { on := 5, ground := Ground.guard }], guard := some (5, true) }) (v := ?_) rfl (by kernel_rfl) (by kernel_rfl) (by kernel_rfl) (fun _ _ _ h => h) (Or.inl ⟨by rfl, ?_⟩) hHeld ?_
  rotate_left
  · intro w' hS; obtain ⟨hS0, hS1, hS2, hS3⟩ := hS; go_simp; all_goals (with_reducible rfl)
  (try simp only [Act.put, List.setIfInBounds_toArray, List.set_cons_zero, List.set_cons_succ])
  refine wpAnyH_take (i := 15) (oi := { dst := some 19, op := Op.binOp BinOp.lss 3 (Operand.tmp 13) (Operand.tmp 18) 3, type := 4, pos := "ref.go:218", after := #[{ on := 9, ground := Ground.data }, { on := 14, ground := Ground.data }, { on := 5, ground := Ground.guard }], guard := some (5, true) }) (v := ?_) rfl (by kernel_rfl) (by kernel_rfl) (by kernel_rfl) (fun _ _ _ h => h) (Or.inl ⟨by rfl, ?_⟩) hHeld ?_
  rotate_left
  · intro w' hS; obtain ⟨hS0, hS1, hS2, hS3⟩ := hS; go_simp; all_goals (with_reducible rfl)
  (try simp only [Act.put, List.setIfInBounds_toArray, List.set_cons_zero, List.set_cons_succ])
  refine wpAnyH_take (i := 16) (oi := { dst := some 20, op := Op.pick (Operand.tmp 9) (Operand.tmp 19) (Operand.const (Value.bool false)), type := 4, pos := "ref.go:218", after := #[{ on := 5, ground := Ground.data }, { on := 15, ground := Ground.data }], guard := none }) (v := ?_) rfl (by kernel_rfl) (by kernel_rfl) (by kernel_rfl) (fun _ _ _ h => h) (Or.inl ⟨by rfl, ?_⟩) hHeld ?_
  rotate_left
  · intro w' hS; obtain ⟨hS0, hS1, hS2, hS3⟩ := hS; go_simp; all_goals (with_reducible rfl)
  (try simp only [Act.put, List.setIfInBounds_toArray, List.set_cons_zero, List.set_cons_succ])
  refine wpAnyH_done (by kernel_rfl) ?_ _
  (try simp only [Act.put, List.setIfInBounds_toArray, List.set_cons_zero, List.set_cons_succ])
  have B1 := Aside0.mk (show Below W.heap.size W W.drew from below_drew (Below.refl _ _))
  have c1 := (MKSHK.out _ B1.out).2.1
  by_cases hm : m < n
  · have d1 : decide ((m : Int) < (n : Int)) = true := decide_eq_true (by omega)
    have d2 : decide (m < n) = true := decide_eq_true hm
    simp only [d2]
    have HE2 := Aside0.mk (show E = (4, (m : Int)) by rw [← HE.out, if_pos hm]; rfl)
    clear hm
    generalize W.drew = w1 at *
    go_wp2_with fail
    go_at_call 120
    refine (q_fail (HK.out.below B1.out) 4 (m : Int) (by decide)).mono ?_
    rintro e w2 ⟨rfl, hk, hb, hkp⟩
    have K2 := Aside0.mk hk
    have B2 := Aside0.mk ((B1.out.mono HK.out.size).trans hb)
    have P2 := Aside0.mk ((Kept.of_below B1.out (fun j => j = g)).then_ hkp (fun _ h => .inl h))
    clear hk hb hkp c1
    go_upto_region 3 with fail
    have MKSK2 := Aside0.mk (show ∀ w', Below w2.heap.size w2 w' → (fun w' => w'.cell? ⟨g, 0, none⟩ = some (Value.slice A n c) ∧ w'.cell? ⟨g, 1, none⟩ = some (.int .i64 (m : Int)) ∧ w'.cell? ⟨g, 3, none⟩ = some (.int .i64 4) ∧ w'.cell? ⟨g, 4, none⟩ = some (.int .i64 (m : Int))) w' from fun w' hb => by
      have r := K2.out.row.below hb
      exact ⟨r.cell 0 _ rfl, r.cell 1 _ rfl, r.cell 3 _ rfl, r.cell 4 _ rfl⟩)
    refine wp_region_held_drew (S := fun w' => w'.cell? ⟨g, 0, none⟩ = some (Value.slice A n c) ∧ w'.cell? ⟨g, 1, none⟩ = some (.int .i64 (m : Int)) ∧ w'.cell? ⟨g, 3, none⟩ = some (.int .i64 4) ∧ w'.cell? ⟨g, 4, none⟩ = some (.int .i64 (m : Int))) (by kernel_rfl) (MKSK2.out _ (below_drew (Below.refl _ _))) (fun hHeld => ?_)
    refine wpAnyH_take (i := 0) (oi := { dst := some 27, op := Op.move (Operand.tmp 0), type := 106, pos := "ref.go:221", after := #[], guard := none }) (v := ?_) rfl (by kernel_rfl) (by kernel_rfl) (by kernel_rfl) (fun _ _ _ h => h) (Or.inl ⟨by rfl, ?_⟩) hHeld ?_
    rotate_left
    · intro w' hS; obtain ⟨hS0, hS1, hS2, hS3⟩ := hS; go_simp; all_goals (with_reducible rfl)
    (try simp only [Act.put, List.setIfInBounds_toArray, List.set_cons_zero, List.set_cons_succ])
    refine wpAnyH_take (i := 1) (oi := { dst := some 28, op := Op.nilCheck (Operand.tmp 27), type := 0, pos := "ref.go:221", after := #[{ on := 0, ground := Ground.data }], guard := none }) (v := ?_) rfl (by kernel_rfl) (by kernel_rfl) (by kernel_rfl) (fun _ _ _ h => h) (Or.inl ⟨by rfl, ?_⟩) hHeld ?_
    rotate_left
    · intro w' hS; obtain ⟨hS0, hS1, hS2, hS3⟩ := hS; go_simp; all_goals (with_reducible rfl)
    (try simp only [Act.put, List.setIfInBounds_toArray, List.set_cons_zero, List.set_cons_succ])
    refine wpAnyH_take (i := 2) (oi := { dst := some 29, op := Op.fieldAddr 137 (Operand.tmp 28) 3, type := 0, pos := "ref.go:221", after := #[{ on := 1, ground := Ground.data }], guard := none }) (v := ?_) rfl (by kernel_rfl) (by kernel_rfl) (by kernel_rfl) (fun _ _ _ h => h) (Or.inl ⟨by rfl, ?_⟩) hHeld ?_
    rotate_left
    · intro w' hS; obtain ⟨hS0, hS1, hS2, hS3⟩ := hS; go_simp; all_goals (with_reducible rfl)
    (try simp only [Act.put, List.setIfInBounds_toArray, List.set_cons_zero, List.set_cons_succ])
    refine wpAnyH_take (i := 3) (oi := { dst := some 30, op := Op.load 22 (Operand.tmp 29), type := 22, pos := "ref.go:221", after := #[{ on := 2, ground := Ground.data }], guard := none }) (v := ?_) rfl (by kernel_rfl) (by kernel_rfl) (by kernel_rfl) (fun _ _ _ h => h) (Or.inl ⟨by rfl, ?_⟩) hHeld ?_
    rotate_left
    · intro w' hS; obtain ⟨hS0, hS1, hS2, hS3⟩ := hS; go_simp; all_goals (with_reducible rfl)
    (try simp only [Act.put, List.setIfInBounds_toArray, List.set_cons_zero, List.set_cons_succ])
    refine wpAnyH_take (i := 4) (oi := { dst := some 31, op := Op.move (Operand.tmp 0), type := 106, pos := "ref.go:221", after := #[{ on := 8, ground := Ground.gcOnly Departure.lateStores }], guard := none }) (v := ?_) rfl (by kernel_rfl) (by kernel_rfl) (by kernel_rfl) (fun _ _ _ h => h) (Or.inl ⟨by rfl, ?_⟩) hHeld ?_
    rotate_left
    · intro w' hS; obtain ⟨hS0, hS1, hS2, hS3⟩ := hS; go_simp; all_goals (with_reducible rfl)
    (try simp only [Act.put, List.setIfInBounds_toArray, List.set_cons_zero, List.set_cons_succ])
    refine wpAnyH_take (i := 5) (oi := { dst := some 32, op := Op.nilCheck (Operand.tmp 31), type := 0, pos := "ref.go:221", after := #[{ on := 4, ground := Ground.data }, { on := 8, ground := Ground.gcOnly Departure.lateStores }], guard := none }) (v := ?_) rfl (by kernel_rfl) (by kernel_rfl) (by kernel_rfl) (fun _ _ _ h => h) (Or.inl ⟨by rfl, ?_⟩) hHeld ?_
    rotate_left
    · intro w' hS; obtain ⟨hS0, hS1, hS2, hS3⟩ := hS; go_simp; all_goals (with_reducible rfl)
    (try simp only [Act.put, List.setIfInBounds_toArray, List.set_cons_zero, List.set_cons_succ])
    refine wpAnyH_take (i := 6) (oi := { dst := some 33, op := Op.fieldAddr 137 (Operand.tmp 32) 4, type := 0, pos := "ref.go:221", after := #[{ on := 5, ground := Ground.data }, { on := 8, ground := Ground.gcOnly Departure.lateStores }], guard := none }) (v := ?_) rfl (by kernel_rfl) (by kernel_rfl) (by kernel_rfl) (fun _ _ _ h => h) (Or.inl ⟨by rfl, ?_⟩) hHeld ?_
    rotate_left
    · intro w' hS; obtain ⟨hS0, hS1, hS2, hS3⟩ := hS; go_simp; all_goals (with_reducible rfl)
    (try simp only [Act.put, List.setIfInBounds_toArray, List.set_cons_zero, List.set_cons_succ])
    refine wpAnyH_take (i := 7) (oi := { dst := some 34, op := Op.load 3 (Operand.tmp 33), type := 3, pos := "ref.go:221", after := #[{ on := 6, ground := Ground.data }, { on := 8, ground := Ground.gcOnly Departure.lateStores }], guard := none }) (v := ?_) rfl (by kernel_rfl) (by kernel_rfl) (by kernel_rfl) (fun _ _ _ h => h) (Or.inl ⟨by rfl, ?_⟩) hHeld ?_
    rotate_left
    · intro w' hS; obtain ⟨hS0, hS1, hS2, hS3⟩ := hS; go_simp; all_goals (with_reducible rfl)
    (try simp only [Act.put, List.setIfInBounds_toArray, List.set_cons_zero, List.set_cons_succ])
    refine wpAnyH_take (i := 8) (oi := { dst := some 2, op := Op.assign (Operand.tmp 30), type := 22, pos := "ref.go:221", after := #[{ on := 3, ground := Ground.data }, { on := 0, ground := Ground.phase }, { on := 1, ground := Ground.phase }, { on := 2, ground := Ground.phase }, { on := 3, ground := Ground.phase }, { on := 4, ground := Ground.textOnly Departure.lateStores }, { on := 5, ground := Ground.textOnly Departure.lateStores }, { on := 6, ground := Ground.textOnly Departure.lateStores }, { on := 7, ground := Ground.textOnly Departure.lateStores }], guard := none }) (v := ?_) rfl (by kernel_rfl) (by kernel_rfl) (by kernel_rfl) (fun _ _ _ h => h) (Or.inl ⟨by rfl, ?_⟩) hHeld ?_
    rotate_left
    · intro w' hS; obtain ⟨hS0, hS1, hS2, hS3⟩ := hS; go_simp; all_goals (with_reducible rfl)
    (try simp only [Act.put, List.setIfInBounds_toArray, List.set_cons_zero, List.set_cons_succ])
    refine wpAnyH_take (i := 9) (oi := { dst := some 3, op := Op.assign (Operand.tmp 34), type := 3, pos := "ref.go:221", after := #[{ on := 7, ground := Ground.data }, { on := 8, ground := Ground.chain }, { on := 0, ground := Ground.phase }, { on := 1, ground := Ground.phase }, { on := 2, ground := Ground.phase }, { on := 3, ground := Ground.phase }, { on := 4, ground := Ground.phase }, { on := 5, ground := Ground.phase }, { on := 6, ground := Ground.phase }, { on := 7, ground := Ground.phase }, { on := 8, ground := Ground.phase }], guard := none }) (v := ?_) rfl (by kernel_rfl) (by kernel_rfl) (by kernel_rfl) (fun _ _ _ h => h) (Or.inl ⟨by rfl, ?_⟩) hHeld ?_
    rotate_left
    · intro w' hS; obtain ⟨hS0, hS1, hS2, hS3⟩ := hS; go_simp; all_goals (with_reducible rfl)
    (try simp only [Act.put, List.setIfInBounds_toArray, List.set_cons_zero, List.set_cons_succ])
    refine wpAnyH_done (by kernel_rfl) ?_ _
    (try simp only [Act.put, List.setIfInBounds_toArray, List.set_cons_zero, List.set_cons_succ])
    go_wp2_with fail
    refine ⟨rfl, ?_⟩
    simp [results, Try.results68, go_sem]
    have hd : Below w2.heap.size w2 w2.drew := below_drew (Below.refl _ _)
    exact ⟨B2.out.trans (hd.mono K2.out.size), P2.out.then_ (Kept.of_below hd (fun j => j = g)) (fun _ h => .inl h), by rw [HE2.out]; exact ⟨rfl, rfl⟩⟩
  · have d1 : decide ((m : Int) < (n : Int)) = false := decide_eq_false (by omega)
    have d2 : decide (m < n) = false := decide_eq_false hm
    simp only [d2]
    have d3 : ((m : Int) < (n : Int)) = False := eq_false (by omega)
    have HE2 := Aside0.mk (show E = (0, 0) by rw [← HE.out, if_neg hm]; rfl)
    clear hm
    go_upto_region 3 with fail
    refine wp_region_held_drew (S := fun w' => w'.cell? ⟨g, 0, none⟩ = some (Value.slice A n c) ∧ w'.cell? ⟨g, 1, none⟩ = some (.int .i64 (m : Int)) ∧ w'.cell? ⟨g, 3, none⟩ = some (.int .i64 0) ∧ w'.cell? ⟨g, 4, none⟩ = some (.int .i64 0)) (by kernel_rfl) (MKSHK.out _ (below_drew B1.out)) (fun hHeld => ?_)
    refine wpAnyH_take (i := 0) (oi := { dst := some 27, op := Op.move (Operand.tmp 0), type := 106, pos := "ref.go:221", after := #[], guard := none }) (v := ?_) rfl (by kernel_rfl) (by kernel_rfl) (by kernel_rfl) (fun _ _ _ h => h) (Or.inl ⟨by rfl, ?_⟩) hHeld ?_
    rotate_left
    · intro w' hS; obtain ⟨hS0, hS1, hS2, hS3⟩ := hS; go_simp; all_goals (with_reducible rfl)
    (try simp only [Act.put, List.setIfInBounds_toArray, List.set_cons_zero, List.set_cons_succ])
    refine wpAnyH_take (i := 1) (oi := { dst := some 28, op := Op.nilCheck (Operand.tmp 27), type := 0, pos := "ref.go:221", after := #[{ on := 0, ground := Ground.data }], guard := none }) (v := ?_) rfl (by kernel_rfl) (by kernel_rfl) (by kernel_rfl) (fun _ _ _ h => h) (Or.inl ⟨by rfl, ?_⟩) hHeld ?_
    rotate_left
    · intro w' hS; obtain ⟨hS0, hS1, hS2, hS3⟩ := hS; go_simp; all_goals (with_reducible rfl)
    (try simp only [Act.put, List.setIfInBounds_toArray, List.set_cons_zero, List.set_cons_succ])
    refine wpAnyH_take (i := 2) (oi := { dst := some 29, op := Op.fieldAddr 137 (Operand.tmp 28) 3, type := 0, pos := "ref.go:221", after := #[{ on := 1, ground := Ground.data }], guard := none }) (v := ?_) rfl (by kernel_rfl) (by kernel_rfl) (by kernel_rfl) (fun _ _ _ h => h) (Or.inl ⟨by rfl, ?_⟩) hHeld ?_
    rotate_left
    · intro w' hS; obtain ⟨hS0, hS1, hS2, hS3⟩ := hS; go_simp; all_goals (with_reducible rfl)
    (try simp only [Act.put, List.setIfInBounds_toArray, List.set_cons_zero, List.set_cons_succ])
    refine wpAnyH_take (i := 3) (oi := { dst := some 30, op := Op.load 22 (Operand.tmp 29), type := 22, pos := "ref.go:221", after := #[{ on := 2, ground := Ground.data }], guard := none }) (v := ?_) rfl (by kernel_rfl) (by kernel_rfl) (by kernel_rfl) (fun _ _ _ h => h) (Or.inl ⟨by rfl, ?_⟩) hHeld ?_
    rotate_left
    · intro w' hS; obtain ⟨hS0, hS1, hS2, hS3⟩ := hS; go_simp; all_goals (with_reducible rfl)
    (try simp only [Act.put, List.setIfInBounds_toArray, List.set_cons_zero, List.set_cons_succ])
    refine wpAnyH_take (i := 4) (oi := { dst := some 31, op := Op.move (Operand.tmp 0), type := 106, pos := "ref.go:221", after := #[{ on := 8, ground := Ground.gcOnly Departure.lateStores }], guard := none }) (v := ?_) rfl (by kernel_rfl) (by kernel_rfl) (by kernel_rfl) (fun _ _ _ h => h) (Or.inl ⟨by rfl, ?_⟩) hHeld ?_
    rotate_left
    · intro w' hS; obtain ⟨hS0, hS1, hS2, hS3⟩ := hS; go_simp; all_goals (with_reducible rfl)
    (try simp only [Act.put, List.setIfInBounds_toArray, List.set_cons_zero, List.set_cons_succ])
    refine wpAnyH_take (i := 5) (oi := { dst := some 32, op := Op.nilCheck (Operand.tmp 31), type := 0, pos := "ref.go:221", after := #[{ on := 4, ground := Ground.data }, { on := 8, ground := Ground.gcOnly Departure.lateStores }], guard := none }) (v := ?_) rfl (by kernel_rfl) (by kernel_rfl) (by kernel_rfl) (fun _ _ _ h => h) (Or.inl ⟨by rfl, ?_⟩) hHeld ?_
    rotate_left
    · intro w' hS; obtain ⟨hS0, hS1, hS2, hS3⟩ := hS; go_simp; all_goals (with_reducible rfl)
    (try simp only [Act.put, List.setIfInBounds_toArray, List.set_cons_zero, List.set_cons_succ])
    refine wpAnyH_take (i := 6) (oi := { dst := some 33, op := Op.fieldAddr 137 (Operand.tmp 32) 4, type := 0, pos := "ref.go:221", after := #[{ on := 5, ground := Ground.data }, { on := 8, ground := Ground.gcOnly Departure.lateStores }], guard := none }) (v := ?_) rfl (by kernel_rfl) (by kernel_rfl) (by kernel_rfl) (fun _ _ _ h => h) (Or.inl ⟨by rfl, ?_⟩) hHeld ?_
    rotate_left
    · intro w' hS; obtain ⟨hS0, hS1, hS2, hS3⟩ := hS; go_simp; all_goals (with_reducible rfl)
    (try simp only [Act.put, List.setIfInBounds_toArray, List.set_cons_zero, List.set_cons_succ])
    refine wpAnyH_take (i := 7) (oi := { dst := some 34, op := Op.load 3 (Operand.tmp 33), type := 3, pos := "ref.go:221", after := #[{ on := 6, ground := Ground.data }, { on := 8, ground := Ground.gcOnly Departure.lateStores }], guard := none }) (v := ?_) rfl (by kernel_rfl) (by kernel_rfl) (by kernel_rfl) (fun _ _ _ h => h) (Or.inl ⟨by rfl, ?_⟩) hHeld ?_
    rotate_left
    · intro w' hS; obtain ⟨hS0, hS1, hS2, hS3⟩ := hS; go_simp; all_goals (with_reducible rfl)
    (try simp only [Act.put, List.setIfInBounds_toArray, List.set_cons_zero, List.set_cons_succ])
    refine wpAnyH_take (i := 8) (oi := { dst := some 2, op := Op.assign (Operand.tmp 30), type := 22, pos := "ref.go:221", after := #[{ on := 3, ground := Ground.data }, { on := 0, ground := Ground.phase }, { on := 1, ground := Ground.phase }, { on := 2, ground := Ground.phase }, { on := 3, ground := Ground.phase }, { on := 4, ground := Ground.textOnly Departure.lateStores }, { on := 5, ground := Ground.textOnly Departure.lateStores }, { on := 6, ground := Ground.textOnly Departure.lateStores }, { on := 7, ground := Ground.textOnly Departure.lateStores }], guard := none }) (v := ?_) rfl (by kernel_rfl) (by kernel_rfl) (by kernel_rfl) (fun _ _ _ h => h) (Or.inl ⟨by rfl, ?_⟩) hHeld ?_
    rotate_left
    · intro w' hS; obtain ⟨hS0, hS1, hS2, hS3⟩ := hS; go_simp; all_goals (with_reducible rfl)
    (try simp only [Act.put, List.setIfInBounds_toArray, List.set_cons_zero, List.set_cons_succ])
    refine wpAnyH_take (i := 9) (oi := { dst := some 3, op := Op.assign (Operand.tmp 34), type := 3, pos := "ref.go:221", after := #[{ on := 7, ground := Ground.data }, { on := 8, ground := Ground.chain }, { on := 0, ground := Ground.phase }, { on := 1, ground := Ground.phase }, { on := 2, ground := Ground.phase }, { on := 3, ground := Ground.phase }, { on := 4, ground := Ground.phase }, { on := 5, ground := Ground.phase }, { on := 6, ground := Ground.phase }, { on := 7, ground := Ground.phase }, { on := 8, ground := Ground.phase }], guard := none }) (v := ?_) rfl (by kernel_rfl) (by kernel_rfl) (by kernel_rfl) (fun _ _ _ h => h) (Or.inl ⟨by rfl, ?_⟩) hHeld ?_
    rotate_left
    · intro w' hS; obtain ⟨hS0, hS1, hS2, hS3⟩ := hS; go_simp; all_goals (with_reducible rfl)
    (try simp only [Act.put, List.setIfInBounds_toArray, List.set_cons_zero, List.set_cons_succ])
    refine wpAnyH_done (by kernel_rfl) ?_ _
    (try simp only [Act.put, List.setIfInBounds_toArray, List.set_cons_zero, List.set_cons_succ])
    go_wp2_with fail
    refine ⟨rfl, ?_⟩
    simp [results, Try.results68, go_sem]
    have hd : Below W.heap.size W W.drew.drew := below_drew B1.out
    exact ⟨hd.mono HK.out.size, Kept.of_below hd (fun j => j = g), by rw [HE2.out]; exact ⟨rfl, rfl⟩⟩
theorem tailOf_ok {α : Type} (xs : List Int) (x : α) (m : Nat) : endOf (tailOf xs (.ok x m)) = endOf (if m < xs.length then (Res.fail 4 (m : Int) : Res Unit) else .ok () m) := by
  unfold tailOf
  simp only [Res.bind]
  split <;> rfl
theorem q_end {α : Type} {r : Res α} {W : World} (k : QSt g B A n c xs most r W) :
    Calls Try.prog 68 #[ptr g] W fun e w' => Below B W w' ∧ Kept W w' (fun j => j = g) ∧ e = .returned (.tuple #[.int .i64 (endOf (tailOf xs r)).1, .int .i64 (endOf (tailOf xs r)).2]) := by
  cases r with
  | ok x m =>
    rw [tailOf_ok]
    exact q_end_ok k
  | fail e p =>
    obtain ⟨he, m, hk⟩ := k
    refine (q_end_no hk he).mono ?_
    rintro e' w' ⟨hb, rfl⟩
    exact ⟨hb.mono hk.size, Kept.of_below hb _, rfl⟩
end Go.Proofs.Ytafmoglaockepaa.Cd
