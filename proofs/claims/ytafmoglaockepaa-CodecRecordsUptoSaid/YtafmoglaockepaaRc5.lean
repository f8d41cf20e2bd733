/- What the codec writes and reads: texts of this session joined, with what is not needed left out. -/
import Derived.Test.YtafmoglaockepaaRc2
import Derived.Test.YtafmoglaockepaaRc3
import Derived.Test.YtafmoglaockepaaRc4
import Derived.Deep.RegionHeld3
import Derived.Deep.RegionLaw
section
namespace Go.Proofs.Ytafmoglaockepaa.Cd
open Go Go.RowKit Go.Proofs.Ytafmoglaockepaa.Num Go.Proofs.Ytafmoglaockepaa.PG Go.Proofs.YtafmoglaockepaaW.PrintWords Go.Proofs.YtafmoglaockepaaW.PrintLast Go.Proofs.YtafmoglaockepaaW.PrintMore
set_option linter.unusedVariables false
set_option linter.unusedSimpArgs false
set_option maxHeartbeats 4000000
set_option maxRecDepth 100000
structure QAt (g B : Nat) (A : Option Addr) (n c : Nat) (xs : List Int) (most m : Nat) (e p : Int) (W : World) : Prop where
  row : Rt 137 g [Value.slice A n c, .int .i64 (m : Int), .int .i64 (most : Int), .int .i64 e, .int .i64 p] W
  foot : ∀ W', Below B W W' → Kd.C (Kd.int .u8) W' A n xs
  b : B ≤ g
  nc : n ≤ c
  le : e = 0 → m ≤ n
  big : n < 1000000000
  mb : most < 1000000000
  by_ : IsBytes xs
def QSt {α : Type} (g B : Nat) (A : Option Addr) (n c : Nat) (xs : List Int) (most : Nat) (r : Res α) (W : World) : Prop :=
  match r with
  | .ok _ m => QAt g B A n c xs most m 0 0 W
  | .fail e p => e ≠ 0 ∧ ∃ m, QAt g B A n c xs most m e p W
def OutQ {α : Type} (g B : Nat) (A : Option Addr) (n c : Nat) (xs : List Int) (most : Nat) (enc : α → Value → World → Prop) (r : Res α) (e : Ending) (w' : World) : Prop :=
  ∃ x v, e = .returned v ∧ enc x v w' ∧ (∀ y m, r = .ok y m → y = x) ∧ QSt g B A n c xs most r w'
variable {g B : Nat} {A : Option Addr} {n c : Nat} {xs : List Int} {most : Nat}
theorem QAt.len {m : Nat} {e p : Int} {W : World} (k : QAt g B A n c xs most m e p W) : xs.length = n := Kd.C_len (k.foot W (Below.refl _ _))
theorem QAt.size {m : Nat} {e p : Int} {W : World} (k : QAt g B A n c xs most m e p W) : B ≤ W.heap.size := Nat.le_of_lt (Nat.lt_of_le_of_lt k.b k.row.lt)
theorem QAt.aside {m : Nat} {e p : Int} {W W' : World} (k : QAt g B A n c xs most m e p W) (hb : Below B W W') (hg : W'.heap[g]? = W.heap[g]?) : QAt g B A n c xs most m e p W' :=
  { k with row := hg.trans k.row, foot := fun W2 hb2 => k.foot W2 (hb.trans hb2) }
theorem QAt.below {m : Nat} {e p : Int} {W W' : World} (k : QAt g B A n c xs most m e p W) (hb : Below W.heap.size W W') : QAt g B A n c xs most m e p W' := k.aside (hb.mono k.size) (hb.block g k.row.lt)
theorem QAt.put {m : Nat} {e p : Int} {W : World} (k : QAt g B A n c xs most m e p W) (m' : Nat) (e' p' : Int) (h : e' = 0 → m' ≤ n) :
    QAt g B A n c xs most m' e' p' (W.setRow g [Value.slice A n c, .int .i64 (m' : Int), .int .i64 (most : Int), .int .i64 e', .int .i64 p'].toArray) ∧ Below B W (W.setRow g [Value.slice A n c, .int .i64 (m' : Int), .int .i64 (most : Int), .int .i64 e', .int .i64 p'].toArray) ∧ Kept W (W.setRow g [Value.slice A n c, .int .i64 (m' : Int), .int .i64 (most : Int), .int .i64 e', .int .i64 p'].toArray) (fun j => j = g) := by
  have hb : Below B W (W.setRow g [Value.slice A n c, .int .i64 (m' : Int), .int .i64 (most : Int), .int .i64 e', .int .i64 p'].toArray) := below_setRow' (Below.refl _ _) k.b _
  refine ⟨{ k with row := k.row.row _, foot := fun W2 hb2 => k.foot W2 (hb.trans hb2), le := h }, hb, ?_⟩
  exact ⟨by rw [setRow_size]; exact Nat.le_refl _, fun j hj hn => setRow_other _ _ _ _ hn⟩
theorem QAt.rest {m : Nat} {W : World} {p : Int} (k : QAt g B A n c xs most m 0 p W) {W' : World} (hb : Below B W W') : Kd.C (Kd.int .u8) W' (if c = m then A else A.map (·.add m)) (xs.drop m).length (xs.drop m) := by
  have hl := k.len
  have hC := k.foot W' hb
  rw [← hl] at hC
  have h1 := k.le rfl
  have h2 := k.nc
  have := Kd.C_drop (m := m) (c := c) hC (by omega) (by omega)
  rwa [show m * (Kd.int .u8).sz = m from Nat.mul_one m] at this
theorem QAt.dl {m : Nat} {e p : Int} {W : World} (k : QAt g B A n c xs most m e p W) : (xs.drop m).length = n - m := by rw [List.length_drop, k.len]
theorem QSt.aside {α : Type} {r : Res α} {W W' : World} (k : QSt g B A n c xs most r W) (hb : Below B W W') (hg : W'.heap[g]? = W.heap[g]?) : QSt g B A n c xs most r W' := by
  cases r with
  | ok x m => exact QAt.aside k hb hg
  | fail e p => exact ⟨k.1, k.2.choose, k.2.choose_spec.aside hb hg⟩
theorem QSt.lt {α : Type} {r : Res α} {W : World} (k : QSt g B A n c xs most r W) : g < W.heap.size := by
  cases r with
  | ok x m => exact (QAt.row k).lt
  | fail e p => exact k.2.choose_spec.row.lt
theorem QSt.b {α : Type} {r : Res α} {W : World} (k : QSt g B A n c xs most r W) : B ≤ g := by
  cases r with
  | ok x m => exact (QAt.b k)
  | fail e p => exact k.2.choose_spec.b
theorem QSt.size {α : Type} {r : Res α} {W : World} (k : QSt g B A n c xs most r W) : B ≤ W.heap.size := Nat.le_of_lt (Nat.lt_of_le_of_lt k.b k.lt)
theorem QSt.below {α : Type} {r : Res α} {W W' : World} (k : QSt g B A n c xs most r W) (hb : Below W.heap.size W W') : QSt g B A n c xs most r W' := k.aside (hb.mono k.size) (hb.block g k.lt)
theorem q_fail {m : Nat} {W : World} (k : QAt g B A n c xs most m 0 0 W) (e p : Int) (he : e ≠ 0) :
    Calls Try.prog 120 #[ptr g, .int .i64 e, .int .i64 p] W fun x w' => x = .returned (.tuple #[]) ∧ QAt g B A n c xs most m e p w' ∧ Below B W w' ∧ Kept W w' (fun j => j = g) := by
  have HK := Aside0.mk k
  have HM := Aside0.mk (k.put m e p (fun h => absurd h he))
  have c3 := k.row.cell 3 _ rfl
  have f3 := k.row.free 3
  have f4 := k.row.free 4
  have c4 := k.row.cell 4 _ rfl
  clear k he
  go_enter Try.func120, Try.ntmps120
  go_upto_region 2 with fail
  have e3 := HK.out.row.set 3 (.int .i64 e)
  have R3 := HK.out.row.row [Value.slice A n c, .int .i64 (m : Int), .int .i64 (most : Int), .int .i64 e, .int .i64 0]
  rw [e3, show [Value.slice A n c, .int .i64 (m : Int), .int .i64 (most : Int), .int .i64 0, .int .i64 0].set 3 (.int .i64 e) = [Value.slice A n c, .int .i64 (m : Int), .int .i64 (most : Int), .int .i64 e, .int .i64 0] from rfl]
  clear e3 c3 f3 c4 f4
  have e4 := R3.set 4 (.int .i64 p)
  rw [setRow_again, show [Value.slice A n c, .int .i64 (m : Int), .int .i64 (most : Int), .int .i64 e, .int .i64 0].set 4 (.int .i64 p) = [Value.slice A n c, .int .i64 (m : Int), .int .i64 (most : Int), .int .i64 e, .int .i64 p] from rfl] at e4
  have c4 := R3.cell 4 _ rfl
  have f4 := R3.free 4
  have HE := Aside0.mk e4
  clear e4
  clear R3
  generalize W.setRow g [Value.slice A n c, .int .i64 (m : Int), .int .i64 (most : Int), .int .i64 e, .int .i64 0].toArray = w1 at *
  go_wp2_with fail
  go_end0
  rw [HE.out]
  exact ⟨rfl, HM.out⟩
theorem q_int_no {m : Nat} {W : World} {e0 p0 : Int} (k : QAt g B A n c xs most m e0 p0 W) (h0 : e0 ≠ 0) :
    Calls Try.prog 66 #[ptr g] W fun e w' => e = .returned (.int .i64 0) ∧ w' = W := by
  have c3 := k.row.cell 3 _ rfl
  have h1 : (e0 == 0) = false := by simpa using h0
  have h2 : decide (e0 = 0) = false := decide_eq_false h0
  have h3 : (e0 != 0) = true := by simpa using h0
  have h4 : decide (e0 ≠ 0) = true := decide_eq_true h0
  clear k
  go_enter Try.func66, Try.ntmps66
  go_wp2_with fail
  go_ret
  exact ⟨rfl, rfl⟩
theorem q_int_ok {m : Nat} {W : World} (k : QAt g B A n c xs most m 0 0 W) :
    Calls Try.prog 66 #[ptr g] W fun e w' => Below B W w' ∧ Kept W w' (fun j => j = g) ∧ OutQ g B A n c xs most (fun x v _ => v = .int .i64 x) (pI xs m) e w' := by
  have HK := Aside0.mk k
  have c1 : (m : Int) ≤ (n : Int) := by have := k.le rfl; omega
  have c2 : (n : Int) ≤ (c : Int) := by have := k.nc; omega
  have c3 : (0 : Int) ≤ (m : Int) := by omega
  have MKS := Aside0.mk (show ∀ w', Below W.heap.size W w' → (fun w' => w'.cell? ⟨g, 0, none⟩ = some (Value.slice A n c) ∧ w'.cell? ⟨g, 1, none⟩ = some (.int .i64 (m : Int)) ∧ w'.cell? ⟨g, 2, none⟩ = some (.int .i64 (most : Int))) w' from fun w' hb => by
    have r := HK.out.row.below hb
    exact ⟨r.cell 0 _ rfl, r.cell 1 _ rfl, r.cell 2 _ rfl⟩)
  have ce := k.row.cell 3 _ rfl
  clear k
  have hdl := HK.out.dl
  obtain ⟨q, hq⟩ : ∃ q, ig (ug 0 0 (xs.drop m)) = q := ⟨_, rfl⟩
  have HQ := Aside0.mk hq
  have hpl := (show 0 ≤ (ig (ug 0 0 (xs.drop m))).2.1 ∧ (ig (ug 0 0 (xs.drop m))).2.1 ≤ ((n - m : Nat) : Int) from ug_place xs m n HK.out.len (HK.out.le rfl))
  have HF := Aside0.mk (show ∀ w', Below W.heap.size W w' → Calls Try.prog 122 #[.slice (if c = m then A else A.map (·.add m)) (n - m) (c - m)] w' fun e w2 => e = .returned (.tuple #[.int .i64 q.1, .int .i64 q.2.1, .int .i64 q.2.2]) ∧ Drawn0 w' w2 from fun w' hb => by
    have := larderref01_Int.calls (3 * (xs.drop m).length + 30) (if c = m then A else A.map (·.add m)) (c - m) (xs.drop m) q.1 q.2.1 q.2.2 w' (HK.out.rest (hb.mono HK.out.size)) (by rw [hdl]; have := HK.out.nc; omega) (by rw [ref_int _ (HK.out.by_.drop m) (by rw [hdl]; have := HK.out.big; omega) _ (by omega), hq])
    rwa [hdl] at this)
  rw [hq] at hpl
  obtain ⟨v, d, er⟩ := q
  obtain ⟨dn, hdn⟩ : ∃ dn : Nat, d = (dn : Int) := ⟨d.toNat, by have h1 : 0 ≤ d := hpl.1; omega⟩
  subst hdn
  have HPL := Aside0.mk (show m + dn ≤ n by have h1 : (dn : Int) ≤ ((n - m : Nat) : Int) := hpl.2; have := HK.out.le rfl; omega)
  have hw : wrap64 ((m : Int) + (dn : Int)) = ((m + dn : Nat) : Int) := by have := HK.out.big; have := HPL.out; unfold wrap64; omega
  clear hdl hq hpl
  go_enter Try.func66, Try.ntmps66
  go_upto_region 3 with fail
  refine wp_region_held_drew (S := fun w' => w'.cell? ⟨g, 0, none⟩ = some (Value.slice A n c) ∧ w'.cell? ⟨g, 1, none⟩ = some (.int .i64 (m : Int)) ∧ w'.cell? ⟨g, 2, none⟩ = some (.int .i64 (most : Int))) (by kernel_rfl) (MKS.out _ (below_drew (Below.refl _ _))) (fun hHeld => ?_)
  refine wpAnyH_take (i := 0) (oi := { dst := some 12, op := Op.move (Operand.tmp 0), type := 106, pos := "ref.go:121", after := #[], guard := none }) (v := ?_) rfl (by kernel_rfl) (by kernel_rfl) (by kernel_rfl) (fun _ _ _ h => h) (Or.inl ⟨by rfl, ?_⟩) hHeld ?_
  rotate_left
  · intro w' hS; obtain ⟨hS0, hS1, hS2⟩ := hS; go_simp; all_goals (with_reducible rfl)
  (try simp only [Act.put, List.setIfInBounds_toArray, List.set_cons_zero, List.set_cons_succ])
  refine wpAnyH_take (i := 1) (oi := { dst := some 13, op := Op.nilCheck (Operand.tmp 12), type := 0, pos := "ref.go:121", after := #[{ on := 0, ground := Ground.data }], guard := none }) (v := ?_) rfl (by kernel_rfl) (by kernel_rfl) (by kernel_rfl) (fun _ _ _ h => h) (Or.inl ⟨by rfl, ?_⟩) hHeld ?_
  rotate_left
  · intro w' hS; obtain ⟨hS0, hS1, hS2⟩ := hS; go_simp; all_goals (with_reducible rfl)
  (try simp only [Act.put, List.setIfInBounds_toArray, List.set_cons_zero, List.set_cons_succ])
  refine wpAnyH_take (i := 2) (oi := { dst := some 14, op := Op.fieldAddr 137 (Operand.tmp 13) 0, type := 0, pos := "ref.go:121", after := #[{ on := 1, ground := Ground.data }], guard := none }) (v := ?_) rfl (by kernel_rfl) (by kernel_rfl) (by kernel_rfl) (fun _ _ _ h => h) (Or.inl ⟨by rfl, ?_⟩) hHeld ?_
  rotate_left
  · intro w' hS; obtain ⟨hS0, hS1, hS2⟩ := hS; go_simp; all_goals (with_reducible rfl)
  (try simp only [Act.put, List.setIfInBounds_toArray, List.set_cons_zero, List.set_cons_succ])
  refine wpAnyH_take (i := 3) (oi := { dst := some 15, op := Op.load 26 (Operand.tmp 14), type := 26, pos := "ref.go:121", after := #[{ on := 2, ground := Ground.data }], guard := none }) (v := ?_) rfl (by kernel_rfl) (by kernel_rfl) (by kernel_rfl) (fun _ _ _ h => h) (Or.inl ⟨by rfl, ?_⟩) hHeld ?_
  rotate_left
  · intro w' hS; obtain ⟨hS0, hS1, hS2⟩ := hS; go_simp; all_goals (with_reducible rfl)
  (try simp only [Act.put, List.setIfInBounds_toArray, List.set_cons_zero, List.set_cons_succ])
  refine wpAnyH_take (i := 4) (oi := { dst := some 16, op := Op.move (Operand.tmp 0), type := 106, pos := "ref.go:121", after := #[], guard := none }) (v := ?_) rfl (by kernel_rfl) (by kernel_rfl) (by kernel_rfl) (fun _ _ _ h => h) (Or.inl ⟨by rfl, ?_⟩) hHeld ?_
  rotate_left
  · intro w' hS; obtain ⟨hS0, hS1, hS2⟩ := hS; go_simp; all_goals (with_reducible rfl)
  (try simp only [Act.put, List.setIfInBounds_toArray, List.set_cons_zero, List.set_cons_succ])
  refine wpAnyH_take (i := 5) (oi := { dst := some 17, op := Op.nilCheck (Operand.tmp 16), type := 0, pos := "ref.go:121", after := #[{ on := 4, ground := Ground.data }], guard := none }) (v := ?_) rfl (by kernel_rfl) (by kernel_rfl) (by kernel_rfl) (fun _ _ _ h => h) (Or.inl ⟨by rfl, ?_⟩) hHeld ?_
  rotate_left
  · intro w' hS; obtain ⟨hS0, hS1, hS2⟩ := hS; go_simp; all_goals (with_reducible rfl)
  (try simp only [Act.put, List.setIfInBounds_toArray, List.set_cons_zero, List.set_cons_succ])
  refine wpAnyH_take (i := 6) (oi := { dst := some 18, op := Op.fieldAddr 137 (Operand.tmp 17) 1, type := 0, pos := "ref.go:121", after := #[{ on := 5, ground := Ground.data }], guard := none }) (v := ?_) rfl (by kernel_rfl) (by kernel_rfl) (by kernel_rfl) (fun _ _ _ h => h) (Or.inl ⟨by rfl, ?_⟩) hHeld ?_
  rotate_left
  · intro w' hS; obtain ⟨hS0, hS1, hS2⟩ := hS; go_simp; all_goals (with_reducible rfl)
  (try simp only [Act.put, List.setIfInBounds_toArray, List.set_cons_zero, List.set_cons_succ])
  refine wpAnyH_take (i := 7) (oi := { dst := some 19, op := Op.load 3 (Operand.tmp 18), type := 3, pos := "ref.go:121", after := #[{ on := 6, ground := Ground.data }], guard := none }) (v := ?_) rfl (by kernel_rfl) (by kernel_rfl) (by kernel_rfl) (fun _ _ _ h => h) (Or.inl ⟨by rfl, ?_⟩) hHeld ?_
  rotate_left
  · intro w' hS; obtain ⟨hS0, hS1, hS2⟩ := hS; go_simp; all_goals (with_reducible rfl)
  (try simp only [Act.put, List.setIfInBounds_toArray, List.set_cons_zero, List.set_cons_succ])
  refine wpAnyH_take (i := 8) (oi := { dst := some 20, op := Op.slice 26 (Operand.tmp 15) (some (Operand.tmp 19)) none none, type := 26, pos := "ref.go:121", after := #[{ on := 3, ground := Ground.data }, { on := 7, ground := Ground.data }], guard := none }) (v := ?_) rfl (by kernel_rfl) (by kernel_rfl) (by kernel_rfl) (fun _ _ _ h => h) (Or.inl ⟨by rfl, ?_⟩) hHeld ?_
  rotate_left
  · intro w' hS; obtain ⟨hS0, hS1, hS2⟩ := hS; go_simp; all_goals (with_reducible rfl)
  (try simp only [Act.put, List.setIfInBounds_toArray, List.set_cons_zero, List.set_cons_succ])
  refine wpAnyH_ready (rs := [9]) (by kernel_rfl) (by simp) ?_
  refine AllReadyH.cons (o := { dst := some 21, op := Op.call { callee := Callee.value (Operand.func 122), args := #[Operand.tmp 20], argTypes := #[26] }, type := 162, pos := "ref.go:121", after := #[{ on := 8, ground := Ground.data }], guard := none }) rfl (fun K hK => ?_) AllReadyH.nil
  go_simp
  go_at_call 122
  refine (HF.out _ (below_drew (Below.refl _ _))).mono ?_
  rintro e wa ⟨rfl, hd⟩
  have HB1 := Aside0.mk (show Below W.heap.size W wa from by
    obtain ⟨md, rfl⟩ := hd
    exact pw_below_drewN (below_drew (Below.refl _ _)) md)
  clear hd
  refine hK.out _ _ (MKS.out _ HB1.out) (fun hHeld => ?_)
  clear hK K
  (try simp only [Act.put, List.setIfInBounds_toArray, List.set_cons_zero, List.set_cons_succ])
  refine wpAnyH_take (i := 10) (oi := { dst := some 11, op := Op.move (Operand.tmp 21), type := 162, pos := "ref.go:121", after := #[{ on := 9, ground := Ground.data }], guard := none }) (v := ?_) rfl (by kernel_rfl) (by kernel_rfl) (by kernel_rfl) (fun _ _ _ h => h) (Or.inl ⟨by rfl, ?_⟩) hHeld ?_
  rotate_left
  · intro w' hS; obtain ⟨hS0, hS1, hS2⟩ := hS; go_simp; all_goals (with_reducible rfl)
  (try simp only [Act.put, List.setIfInBounds_toArray, List.set_cons_zero, List.set_cons_succ])
  refine wpAnyH_take (i := 11) (oi := { dst := some 22, op := Op.extract (Operand.tmp 11) 0, type := 3, pos := "ref.go:121", after := #[{ on := 10, ground := Ground.data }], guard := none }) (v := ?_) rfl (by kernel_rfl) (by kernel_rfl) (by kernel_rfl) (fun _ _ _ h => h) (Or.inl ⟨by rfl, ?_⟩) hHeld ?_
  rotate_left
  · intro w' hS; obtain ⟨hS0, hS1, hS2⟩ := hS; go_simp; all_goals (with_reducible rfl)
  (try simp only [Act.put, List.setIfInBounds_toArray, List.set_cons_zero, List.set_cons_succ])
  refine wpAnyH_take (i := 12) (oi := { dst := some 23, op := Op.extract (Operand.tmp 11) 1, type := 3, pos := "ref.go:121", after := #[{ on := 10, ground := Ground.data }, { on := 14, ground := Ground.gcOnly Departure.lateStores }], guard := none }) (v := ?_) rfl (by kernel_rfl) (by kernel_rfl) (by kernel_rfl) (fun _ _ _ h => h) (Or.inl ⟨by rfl, ?_⟩) hHeld ?_
  rotate_left
  · intro w' hS; obtain ⟨hS0, hS1, hS2⟩ := hS; go_simp; all_goals (with_reducible rfl)
  (try simp only [Act.put, List.setIfInBounds_toArray, List.set_cons_zero, List.set_cons_succ])
  refine wpAnyH_take (i := 13) (oi := { dst := some 24, op := Op.extract (Operand.tmp 11) 2, type := 22, pos := "ref.go:121", after := #[{ on := 10, ground := Ground.data }, { on := 15, ground := Ground.gcOnly Departure.lateStores }], guard := none }) (v := ?_) rfl (by kernel_rfl) (by kernel_rfl) (by kernel_rfl) (fun _ _ _ h => h) (Or.inl ⟨by rfl, ?_⟩) hHeld ?_
  rotate_left
  · intro w' hS; obtain ⟨hS0, hS1, hS2⟩ := hS; go_simp; all_goals (with_reducible rfl)
  (try simp only [Act.put, List.setIfInBounds_toArray, List.set_cons_zero, List.set_cons_succ])
  refine wpAnyH_take (i := 14) (oi := { dst := some 3, op := Op.assign (Operand.tmp 22), type := 3, pos := "ref.go:121", after := #[{ on := 11, ground := Ground.data }, { on := 9, ground := Ground.chain }, { on := 0, ground := Ground.phase }, { on := 1, ground := Ground.phase }, { on := 2, ground := Ground.phase }, { on := 3, ground := Ground.phase }, { on := 4, ground := Ground.phase }, { on := 5, ground := Ground.phase }, { on := 6, ground := Ground.phase }, { on := 7, ground := Ground.phase }, { on := 8, ground := Ground.phase }, { on := 9, ground := Ground.phase }, { on := 10, ground := Ground.phase }, { on := 11, ground := Ground.phase }, { on := 12, ground := Ground.textOnly Departure.lateStores }, { on := 13, ground := Ground.textOnly Departure.lateStores }], guard := none }) (v := ?_) rfl (by kernel_rfl) (by kernel_rfl) (by kernel_rfl) (fun _ _ _ h => h) (Or.inl ⟨by rfl, ?_⟩) hHeld ?_
  rotate_left
  · intro w' hS; obtain ⟨hS0, hS1, hS2⟩ := hS; go_simp; all_goals (with_reducible rfl)
  (try simp only [Act.put, List.setIfInBounds_toArray, List.set_cons_zero, List.set_cons_succ])
  refine wpAnyH_take (i := 15) (oi := { dst := some 4, op := Op.assign (Operand.tmp 23), type := 3, pos := "ref.go:121", after := #[{ on := 12, ground := Ground.data }, { on := 14, ground := Ground.chain }, { on := 0, ground := Ground.phase }, { on := 1, ground := Ground.phase }, { on := 2, ground := Ground.phase }, { on := 3, ground := Ground.phase }, { on := 4, ground := Ground.phase }, { on := 5, ground := Ground.phase }, { on := 6, ground := Ground.phase }, { on := 7, ground := Ground.phase }, { on := 8, ground := Ground.phase }, { on := 9, ground := Ground.phase }, { on := 10, ground := Ground.phase }, { on := 11, ground := Ground.phase }, { on := 12, ground := Ground.phase }, { on := 13, ground := Ground.textOnly Departure.lateStores }, { on := 14, ground := Ground.phase }], guard := none }) (v := ?_) rfl (by kernel_rfl) (by kernel_rfl) (by kernel_rfl) (fun _ _ _ h => h) (Or.inl ⟨by rfl, ?_⟩) hHeld ?_
  rotate_left
  · intro w' hS; obtain ⟨hS0, hS1, hS2⟩ := hS; go_simp; all_goals (with_reducible rfl)
  (try simp only [Act.put, List.setIfInBounds_toArray, List.set_cons_zero, List.set_cons_succ])
  refine wpAnyH_take (i := 16) (oi := { dst := some 5, op := Op.assign (Operand.tmp 24), type := 22, pos := "ref.go:121", after := #[{ on := 13, ground := Ground.data }, { on := 15, ground := Ground.chain }, { on := 0, ground := Ground.phase }, { on := 1, ground := Ground.phase }, { on := 2, ground := Ground.phase }, { on := 3, ground := Ground.phase }, { on := 4, ground := Ground.phase }, { on := 5, ground := Ground.phase }, { on := 6, ground := Ground.phase }, { on := 7, ground := Ground.phase }, { on := 8, ground := Ground.phase }, { on := 9, ground := Ground.phase }, { on := 10, ground := Ground.phase }, { on := 11, ground := Ground.phase }, { on := 12, ground := Ground.phase }, { on := 13, ground := Ground.phase }, { on := 14, ground := Ground.phase }, { on := 15, ground := Ground.phase }], guard := none }) (v := ?_) rfl (by kernel_rfl) (by kernel_rfl) (by kernel_rfl) (fun _ _ _ h => h) (Or.inl ⟨by rfl, ?_⟩) hHeld ?_
  rotate_left
  · intro w' hS; obtain ⟨hS0, hS1, hS2⟩ := hS; go_simp; all_goals (with_reducible rfl)
  (try simp only [Act.put, List.setIfInBounds_toArray, List.set_cons_zero, List.set_cons_succ])
  refine wpAnyH_done (by kernel_rfl) ?_ _
  (try simp only [Act.put, List.setIfInBounds_toArray, List.set_cons_zero, List.set_cons_succ])
  clear HF
  generalize (if c = m then A else Option.map (fun x => x.add m) A) = Am at *
  have K1 := Aside0.mk (HK.out.below HB1.out)
  have B1 := Aside0.mk (HB1.out.mono HK.out.size)
  have P1 := Aside0.mk (Kept.of_below HB1.out (fun j => j = g))
  have c1 := K1.out.row.cell 1 _ rfl
  have f1 := K1.out.row.free 1
  by_cases he : er = 0
  rotate_left
  · have HP := Aside0.mk (show pI xs m = Res.fail er ((m : Int) + (dn : Int)) from by
      unfold pI took
      rw [HQ.out, if_neg he])
    have HE := Aside0.mk he
    have h1 : (er == 0) = false := by simpa using he
    have h2 : decide (er = 0) = false := decide_eq_false he
    clear he
    go_wp2_with fail
    go_at_call 120
    refine (q_fail K1.out er _ HE.out).mono ?_
    rintro e w2 ⟨rfl, hk, hb, hkp⟩
    have K2 := Aside0.mk hk
    have B2 := Aside0.mk (B1.out.trans hb)
    have P2 := Aside0.mk (P1.out.then_ hkp (fun _ h => .inl h))
    clear hk hb hkp
    go_wp2_with fail
    go_ret
    refine ⟨B2.out, P2.out, ?_⟩
    rw [HP.out]
    exact ⟨0, _, rfl, rfl, fun y m h => by simp at h, HE.out, m, K2.out⟩
  subst he
  have HP := Aside0.mk (show pI xs m = Res.ok v (m + dn) from by unfold pI took; rw [HQ.out, if_pos rfl]; rfl)
  have HM := Aside0.mk (K1.out.put (m + dn) 0 0 (fun _ => HPL.out))
  go_wp2_with fail
  go_ret
  have e1 := K1.out.row.set 1 (.int .i64 ((m + dn : Nat) : Int))
  rw [show [Value.slice A n c, .int .i64 (m : Int), .int .i64 (most : Int), .int .i64 0, .int .i64 0].set 1 (.int .i64 ((m + dn : Nat) : Int)) = [Value.slice A n c, .int .i64 ((m + dn : Nat) : Int), .int .i64 (most : Int), .int .i64 0, .int .i64 0] from rfl] at e1
  rw [show (m : Int) + (dn : Int) = ((m + dn : Nat) : Int) from by omega, e1]
  refine ⟨B1.out.trans HM.out.2.1, P1.out.then_ HM.out.2.2 (fun _ h => .inl h), ?_⟩
  rw [HP.out]
  exact ⟨v, _, rfl, rfl, fun y m h => by cases h; rfl, HM.out.1⟩
theorem q_int {α : Type} {r : Res α} {W : World} (k : QSt g B A n c xs most r W) :
    Calls Try.prog 66 #[ptr g] W fun e w' => Below B W w' ∧ Kept W w' (fun j => j = g) ∧ OutQ g B A n c xs most (fun x v _ => v = .int .i64 x) (r.bind fun _ m => pI xs m) e w' := by
  cases r with
  | ok x m => exact q_int_ok k
  | fail e p =>
    obtain ⟨he, m, hk⟩ := k
    refine (q_int_no hk he).mono ?_
    rintro e' w' ⟨rfl, rfl⟩
    exact ⟨Below.refl _ _, ⟨Nat.le_refl _, fun _ _ _ => rfl⟩, 0, _, rfl, rfl, (fun y m h => by cases h), he, m, hk⟩
theorem q_text_no {m : Nat} {W : World} {e0 p0 : Int} (k : QAt g B A n c xs most m e0 p0 W) (h0 : e0 ≠ 0) :
    Calls Try.prog 65 #[ptr g] W fun e w' => e = .returned (.string ⟨#[]⟩) ∧ w' = W := by
  have c3 := k.row.cell 3 _ rfl
  have h1 : (e0 == 0) = false := by simpa using h0
  have h2 : decide (e0 = 0) = false := decide_eq_false h0
  have h3 : (e0 != 0) = true := by simpa using h0
  have h4 : decide (e0 ≠ 0) = true := decide_eq_true h0
  clear k
  go_enter Try.func65, Try.ntmps65
  go_wp2_with fail
  go_ret
  exact ⟨rfl, rfl⟩
theorem q_text_ok {m : Nat} {W : World} (k : QAt g B A n c xs most m 0 0 W) :
    Calls Try.prog 65 #[ptr g] W fun e w' => Below B W w' ∧ Kept W w' (fun j => j = g) ∧ OutQ g B A n c xs most (fun x v _ => v = .string x) (pT xs most m) e w' := by
  have HK := Aside0.mk k
  have c1 : (m : Int) ≤ (n : Int) := by have := k.le rfl; omega
  have c2 : (n : Int) ≤ (c : Int) := by have := k.nc; omega
  have c3 : (0 : Int) ≤ (m : Int) := by omega
  have MKS := Aside0.mk (show ∀ w', Below W.heap.size W w' → (fun w' => w'.cell? ⟨g, 0, none⟩ = some (Value.slice A n c) ∧ w'.cell? ⟨g, 1, none⟩ = some (.int .i64 (m : Int)) ∧ w'.cell? ⟨g, 2, none⟩ = some (.int .i64 (most : Int))) w' from fun w' hb => by
    have r := HK.out.row.below hb
    exact ⟨r.cell 0 _ rfl, r.cell 1 _ rfl, r.cell 2 _ rfl⟩)
  have ce := k.row.cell 3 _ rfl
  clear k
  have hdl := HK.out.dl
  obtain ⟨q, hq⟩ : ∃ q, tx (most : Int) (xs.drop m) = q := ⟨_, rfl⟩
  have HQ := Aside0.mk hq
  have hpl := (show 0 ≤ (tx (most : Int) (xs.drop m)).2.1 ∧ (tx (most : Int) (xs.drop m)).2.1 ≤ ((n - m : Nat) : Int) from by have := tx_place (most : Int) (xs.drop m) (HK.out.by_.drop m); rwa [hdl] at this)
  have HF := Aside0.mk (show ∀ w', Below W.heap.size W w' → Calls Try.prog 121 #[.slice (if c = m then A else A.map (·.add m)) (n - m) (c - m), .int .i64 (most : Int)] w' fun e w2 => e = .returned (.tuple #[.string q.1, .int .i64 q.2.1, .int .i64 q.2.2]) ∧ Drawn0 w' w2 from fun w' hb => by
    have := larderref01_Text.calls (3 * (xs.drop m).length + 30) (if c = m then A else A.map (·.add m)) (c - m) (xs.drop m) (most : Int) q.1 q.2.1 q.2.2 w' (HK.out.rest (hb.mono HK.out.size)) (by rw [hdl]; have := HK.out.nc; omega) (by rw [(text_ok (3 * (xs.drop m).length + 30) _ most (HK.out.by_.drop m) (by rw [hdl]; have := HK.out.big; omega) (by omega) (by have := HK.out.mb; omega)).2, hq])
    rwa [hdl] at this)
  rw [hq] at hpl
  obtain ⟨v, d, er⟩ := q
  obtain ⟨dn, hdn⟩ : ∃ dn : Nat, d = (dn : Int) := ⟨d.toNat, by have h1 : 0 ≤ d := hpl.1; omega⟩
  subst hdn
  have HPL := Aside0.mk (show m + dn ≤ n by have h1 : (dn : Int) ≤ ((n - m : Nat) : Int) := hpl.2; have := HK.out.le rfl; omega)
  have hw : wrap64 ((m : Int) + (dn : Int)) = ((m + dn : Nat) : Int) := by have := HK.out.big; have := HPL.out; unfold wrap64; omega
  clear hdl hq hpl
  go_enter Try.func65, Try.ntmps65
  go_upto_region 3 with fail
  refine wp_region_held_drew (S := fun w' => w'.cell? ⟨g, 0, none⟩ = some (Value.slice A n c) ∧ w'.cell? ⟨g, 1, none⟩ = some (.int .i64 (m : Int)) ∧ w'.cell? ⟨g, 2, none⟩ = some (.int .i64 (most : Int))) (by kernel_rfl) (MKS.out _ (below_drew (Below.refl _ _))) (fun hHeld => ?_)
  refine wpAnyH_take (i := 0) (oi := { dst := some 12, op := Op.move (Operand.tmp 0), type := 106, pos := "ref.go:135", after := #[], guard := none }) (v := ?_) rfl (by kernel_rfl) (by kernel_rfl) (by kernel_rfl) (fun _ _ _ h => h) (Or.inl ⟨by rfl, ?_⟩) hHeld ?_
  rotate_left
  · intro w' hS; obtain ⟨hS0, hS1, hS2⟩ := hS; go_simp; all_goals (with_reducible rfl)
  (try simp only [Act.put, List.setIfInBounds_toArray, List.set_cons_zero, List.set_cons_succ])
  refine wpAnyH_take (i := 1) (oi := { dst := some 13, op := Op.nilCheck (Operand.tmp 12), type := 0, pos := "ref.go:135", after := #[{ on := 0, ground := Ground.data }], guard := none }) (v := ?_) rfl (by kernel_rfl) (by kernel_rfl) (by kernel_rfl) (fun _ _ _ h => h) (Or.inl ⟨by rfl, ?_⟩) hHeld ?_
  rotate_left
  · intro w' hS; obtain ⟨hS0, hS1, hS2⟩ := hS; go_simp; all_goals (with_reducible rfl)
  (try simp only [Act.put, List.setIfInBounds_toArray, List.set_cons_zero, List.set_cons_succ])
  refine wpAnyH_take (i := 2) (oi := { dst := some 14, op := Op.fieldAddr 137 (Operand.tmp 13) 0, type := 0, pos := "ref.go:135", after := #[{ on := 1, ground := Ground.data }], guard := none }) (v := ?_) rfl (by kernel_rfl) (by kernel_rfl) (by kernel_rfl) (fun _ _ _ h => h) (Or.inl ⟨by rfl, ?_⟩) hHeld ?_
  rotate_left
  · intro w' hS; obtain ⟨hS0, hS1, hS2⟩ := hS; go_simp; all_goals (with_reducible rfl)
  (try simp only [Act.put, List.setIfInBounds_toArray, List.set_cons_zero, List.set_cons_succ])
  refine wpAnyH_take (i := 3) (oi := { dst := some 15, op := Op.load 26 (Operand.tmp 14), type := 26, pos := "ref.go:135", after := #[{ on := 2, ground := Ground.data }], guard := none }) (v := ?_) rfl (by kernel_rfl) (by kernel_rfl) (by kernel_rfl) (fun _ _ _ h => h) (Or.inl ⟨by rfl, ?_⟩) hHeld ?_
  rotate_left
  · intro w' hS; obtain ⟨hS0, hS1, hS2⟩ := hS; go_simp; all_goals (with_reducible rfl)
  (try simp only [Act.put, List.setIfInBounds_toArray, List.set_cons_zero, List.set_cons_succ])
  refine wpAnyH_take (i := 4) (oi := { dst := some 16, op := Op.move (Operand.tmp 0), type := 106, pos := "ref.go:135", after := #[], guard := none }) (v := ?_) rfl (by kernel_rfl) (by kernel_rfl) (by kernel_rfl) (fun _ _ _ h => h) (Or.inl ⟨by rfl, ?_⟩) hHeld ?_
  rotate_left
  · intro w' hS; obtain ⟨hS0, hS1, hS2⟩ := hS; go_simp; all_goals (with_reducible rfl)
  (try simp only [Act.put, List.setIfInBounds_toArray, List.set_cons_zero, List.set_cons_succ])
  refine wpAnyH_take (i := 5) (oi := { dst := some 17, op := Op.nilCheck (Operand.tmp 16), type := 0, pos := "ref.go:135", after := #[{ on := 4, ground := Ground.data }], guard := none }) (v := ?_) rfl (by kernel_rfl) (by kernel_rfl) (by kernel_rfl) (fun _ _ _ h => h) (Or.inl ⟨by rfl, ?_⟩) hHeld ?_
  rotate_left
  · intro w' hS; obtain ⟨hS0, hS1, hS2⟩ := hS; go_simp; all_goals (with_reducible rfl)
  (try simp only [Act.put, List.setIfInBounds_toArray, List.set_cons_zero, List.set_cons_succ])
  refine wpAnyH_take (i := 6) (oi := { dst := some 18, op := Op.fieldAddr 137 (Operand.tmp 17) 1, type := 0, pos := "ref.go:135", after := #[{ on := 5, ground := Ground.data }], guard := none }) (v := ?_) rfl (by kernel_rfl) (by kernel_rfl) (by kernel_rfl) (fun _ _ _ h => h) (Or.inl ⟨by rfl, ?_⟩) hHeld ?_
  rotate_left
  · intro w' hS; obtain ⟨hS0, hS1, hS2⟩ := hS; go_simp; all_goals (with_reducible rfl)
  (try simp only [Act.put, List.setIfInBounds_toArray, List.set_cons_zero, List.set_cons_succ])
  refine wpAnyH_take (i := 7) (oi := { dst := some 19, op := Op.load 3 (Operand.tmp 18), type := 3, pos := "ref.go:135", after := #[{ on := 6, ground := Ground.data }], guard := none }) (v := ?_) rfl (by kernel_rfl) (by kernel_rfl) (by kernel_rfl) (fun _ _ _ h => h) (Or.inl ⟨by rfl, ?_⟩) hHeld ?_
  rotate_left
  · intro w' hS; obtain ⟨hS0, hS1, hS2⟩ := hS; go_simp; all_goals (with_reducible rfl)
  (try simp only [Act.put, List.setIfInBounds_toArray, List.set_cons_zero, List.set_cons_succ])
  refine wpAnyH_take (i := 8) (oi := { dst := some 20, op := Op.slice 26 (Operand.tmp 15) (some (Operand.tmp 19)) none none, type := 26, pos := "ref.go:135", after := #[{ on := 3, ground := Ground.data }, { on := 7, ground := Ground.data }], guard := none }) (v := ?_) rfl (by kernel_rfl) (by kernel_rfl) (by kernel_rfl) (fun _ _ _ h => h) (Or.inl ⟨by rfl, ?_⟩) hHeld ?_
  rotate_left
  · intro w' hS; obtain ⟨hS0, hS1, hS2⟩ := hS; go_simp; all_goals (with_reducible rfl)
  (try simp only [Act.put, List.setIfInBounds_toArray, List.set_cons_zero, List.set_cons_succ])
  refine wpAnyH_take (i := 9) (oi := { dst := some 21, op := Op.move (Operand.tmp 0), type := 106, pos := "ref.go:135", after := #[], guard := none }) (v := ?_) rfl (by kernel_rfl) (by kernel_rfl) (by kernel_rfl) (fun _ _ _ h => h) (Or.inl ⟨by rfl, ?_⟩) hHeld ?_
  rotate_left
  · intro w' hS; obtain ⟨hS0, hS1, hS2⟩ := hS; go_simp; all_goals (with_reducible rfl)
  (try simp only [Act.put, List.setIfInBounds_toArray, List.set_cons_zero, List.set_cons_succ])
  refine wpAnyH_take (i := 10) (oi := { dst := some 22, op := Op.nilCheck (Operand.tmp 21), type := 0, pos := "ref.go:135", after := #[{ on := 9, ground := Ground.data }], guard := none }) (v := ?_) rfl (by kernel_rfl) (by kernel_rfl) (by kernel_rfl) (fun _ _ _ h => h) (Or.inl ⟨by rfl, ?_⟩) hHeld ?_
  rotate_left
  · intro w' hS; obtain ⟨hS0, hS1, hS2⟩ := hS; go_simp; all_goals (with_reducible rfl)
  (try simp only [Act.put, List.setIfInBounds_toArray, List.set_cons_zero, List.set_cons_succ])
  refine wpAnyH_take (i := 11) (oi := { dst := some 23, op := Op.fieldAddr 137 (Operand.tmp 22) 2, type := 0, pos := "ref.go:135", after := #[{ on := 10, ground := Ground.data }], guard := none }) (v := ?_) rfl (by kernel_rfl) (by kernel_rfl) (by kernel_rfl) (fun _ _ _ h => h) (Or.inl ⟨by rfl, ?_⟩) hHeld ?_
  rotate_left
  · intro w' hS; obtain ⟨hS0, hS1, hS2⟩ := hS; go_simp; all_goals (with_reducible rfl)
  (try simp only [Act.put, List.setIfInBounds_toArray, List.set_cons_zero, List.set_cons_succ])
  refine wpAnyH_take (i := 12) (oi := { dst := some 24, op := Op.load 3 (Operand.tmp 23), type := 3, pos := "ref.go:135", after := #[{ on := 11, ground := Ground.data }], guard := none }) (v := ?_) rfl (by kernel_rfl) (by kernel_rfl) (by kernel_rfl) (fun _ _ _ h => h) (Or.inl ⟨by rfl, ?_⟩) hHeld ?_
  rotate_left
  · intro w' hS; obtain ⟨hS0, hS1, hS2⟩ := hS; go_simp; all_goals (with_reducible rfl)
  (try simp only [Act.put, List.setIfInBounds_toArray, List.set_cons_zero, List.set_cons_succ])
  refine wpAnyH_ready (rs := [13]) (by kernel_rfl) (by simp) ?_
  refine AllReadyH.cons (o := { dst := some 25, op := Op.call { callee := Callee.value (Operand.func 121), args := #[Operand.tmp 20, Operand.tmp 24], argTypes := #[26, 3] }, type := 159, pos := "ref.go:135", after := #[{ on := 8, ground := Ground.data }, { on := 12, ground := Ground.data }], guard := none }) rfl (fun K hK => ?_) AllReadyH.nil
  go_simp
  go_at_call 121
  refine (HF.out _ (below_drew (Below.refl _ _))).mono ?_
  rintro e wa ⟨rfl, hd⟩
  have HB1 := Aside0.mk (show Below W.heap.size W wa from by
    obtain ⟨md, rfl⟩ := hd
    exact pw_below_drewN (below_drew (Below.refl _ _)) md)
  clear hd
  refine hK.out _ _ (MKS.out _ HB1.out) (fun hHeld => ?_)
  clear hK K
  (try simp only [Act.put, List.setIfInBounds_toArray, List.set_cons_zero, List.set_cons_succ])
  refine wpAnyH_take (i := 14) (oi := { dst := some 11, op := Op.move (Operand.tmp 25), type := 159, pos := "ref.go:135", after := #[{ on := 13, ground := Ground.data }], guard := none }) (v := ?_) rfl (by kernel_rfl) (by kernel_rfl) (by kernel_rfl) (fun _ _ _ h => h) (Or.inl ⟨by rfl, ?_⟩) hHeld ?_
  rotate_left
  · intro w' hS; obtain ⟨hS0, hS1, hS2⟩ := hS; go_simp; all_goals (with_reducible rfl)
  (try simp only [Act.put, List.setIfInBounds_toArray, List.set_cons_zero, List.set_cons_succ])
  refine wpAnyH_take (i := 15) (oi := { dst := some 26, op := Op.extract (Operand.tmp 11) 0, type := 9, pos := "ref.go:135", after := #[{ on := 14, ground := Ground.data }], guard := none }) (v := ?_) rfl (by kernel_rfl) (by kernel_rfl) (by kernel_rfl) (fun _ _ _ h => h) (Or.inl ⟨by rfl, ?_⟩) hHeld ?_
  rotate_left
  · intro w' hS; obtain ⟨hS0, hS1, hS2⟩ := hS; go_simp; all_goals (with_reducible rfl)
  (try simp only [Act.put, List.setIfInBounds_toArray, List.set_cons_zero, List.set_cons_succ])
  refine wpAnyH_take (i := 16) (oi := { dst := some 27, op := Op.extract (Operand.tmp 11) 1, type := 3, pos := "ref.go:135", after := #[{ on := 14, ground := Ground.data }, { on := 18, ground := Ground.gcOnly Departure.lateStores }], guard := none }) (v := ?_) rfl (by kernel_rfl) (by kernel_rfl) (by kernel_rfl) (fun _ _ _ h => h) (Or.inl ⟨by rfl, ?_⟩) hHeld ?_
  rotate_left
  · intro w' hS; obtain ⟨hS0, hS1, hS2⟩ := hS; go_simp; all_goals (with_reducible rfl)
  (try simp only [Act.put, List.setIfInBounds_toArray, List.set_cons_zero, List.set_cons_succ])
  refine wpAnyH_take (i := 17) (oi := { dst := some 28, op := Op.extract (Operand.tmp 11) 2, type := 22, pos := "ref.go:135", after := #[{ on := 14, ground := Ground.data }, { on := 19, ground := Ground.gcOnly Departure.lateStores }], guard := none }) (v := ?_) rfl (by kernel_rfl) (by kernel_rfl) (by kernel_rfl) (fun _ _ _ h => h) (Or.inl ⟨by rfl, ?_⟩) hHeld ?_
  rotate_left
  · intro w' hS; obtain ⟨hS0, hS1, hS2⟩ := hS; go_simp; all_goals (with_reducible rfl)
  (try simp only [Act.put, List.setIfInBounds_toArray, List.set_cons_zero, List.set_cons_succ])
  refine wpAnyH_take (i := 18) (oi := { dst := some 3, op := Op.assign (Operand.tmp 26), type := 9, pos := "ref.go:135", after := #[{ on := 15, ground := Ground.data }, { on := 13, ground := Ground.chain }, { on := 0, ground := Ground.phase }, { on := 1, ground := Ground.phase }, { on := 2, ground := Ground.phase }, { on := 3, ground := Ground.phase }, { on := 4, ground := Ground.phase }, { on := 5, ground := Ground.phase }, { on := 6, ground := Ground.phase }, { on := 7, ground := Ground.phase }, { on := 8, ground := Ground.phase }, { on := 9, ground := Ground.phase }, { on := 10, ground := Ground.phase }, { on := 11, ground := Ground.phase }, { on := 12, ground := Ground.phase }, { on := 13, ground := Ground.phase }, { on := 14, ground := Ground.phase }, { on := 15, ground := Ground.phase }, { on := 16, ground := Ground.textOnly Departure.lateStores }, { on := 17, ground := Ground.textOnly Departure.lateStores }], guard := none }) (v := ?_) rfl (by kernel_rfl) (by kernel_rfl) (by kernel_rfl) (fun _ _ _ h => h) (Or.inl ⟨by rfl, ?_⟩) hHeld ?_
  rotate_left
  · intro w' hS; obtain ⟨hS0, hS1, hS2⟩ := hS; go_simp; all_goals (with_reducible rfl)
  (try simp only [Act.put, List.setIfInBounds_toArray, List.set_cons_zero, List.set_cons_succ])
  refine wpAnyH_take (i := 19) (oi := { dst := some 4, op := Op.assign (Operand.tmp 27), type := 3, pos := "ref.go:135", after := #[{ on := 16, ground := Ground.data }, { on := 18, ground := Ground.chain }, { on := 0, ground := Ground.phase }, { on := 1, ground := Ground.phase }, { on := 2, ground := Ground.phase }, { on := 3, ground := Ground.phase }, { on := 4, ground := Ground.phase }, { on := 5, ground := Ground.phase }, { on := 6, ground := Ground.phase }, { on := 7, ground := Ground.phase }, { on := 8, ground := Ground.phase }, { on := 9, ground := Ground.phase }, { on := 10, ground := Ground.phase }, { on := 11, ground := Ground.phase }, { on := 12, ground := Ground.phase }, { on := 13, ground := Ground.phase }, { on := 14, ground := Ground.phase }, { on := 15, ground := Ground.phase }, { on := 16, ground := Ground.phase }, { on := 17, ground := Ground.textOnly Departure.lateStores }, { on := 18, ground := Ground.phase }], guard := none }) (v := ?_) rfl (by kernel_rfl) (by kernel_rfl) (by kernel_rfl) (fun _ _ _ h => h) (Or.inl ⟨by rfl, ?_⟩) hHeld ?_
  rotate_left
  · intro w' hS; obtain ⟨hS0, hS1, hS2⟩ := hS; go_simp; all_goals (with_reducible rfl)
  (try simp only [Act.put, List.setIfInBounds_toArray, List.set_cons_zero, List.set_cons_succ])
  refine wpAnyH_take (i := 20) (oi := { dst := some 5, op := Op.assign (Operand.tmp 28), type := 22, pos := "ref.go:135", after := #[{ on := 17, ground := Ground.data }, { on := 19, ground := Ground.chain }, { on := 0, ground := Ground.phase }, { on := 1, ground := Ground.phase }, { on := 2, ground := Ground.phase }, { on := 3, ground := Ground.phase }, { on := 4, ground := Ground.phase }, { on := 5, ground := Ground.phase }, { on := 6, ground := Ground.phase }, { on := 7, ground := Ground.phase }, { on := 8, ground := Ground.phase }, { on := 9, ground := Ground.phase }, { on := 10, ground := Ground.phase }, { on := 11, ground := Ground.phase }, { on := 12, ground := Ground.phase }, { on := 13, ground := Ground.phase }, { on := 14, ground := Ground.phase }, { on := 15, ground := Ground.phase }, { on := 16, ground := Ground.phase }, { on := 17, ground := Ground.phase }, { on := 18, ground := Ground.phase }, { on := 19, ground := Ground.phase }], guard := none }) (v := ?_) rfl (by kernel_rfl) (by kernel_rfl) (by kernel_rfl) (fun _ _ _ h => h) (Or.inl ⟨by rfl, ?_⟩) hHeld ?_
  rotate_left
  · intro w' hS; obtain ⟨hS0, hS1, hS2⟩ := hS; go_simp; all_goals (with_reducible rfl)
  (try simp only [Act.put, List.setIfInBounds_toArray, List.set_cons_zero, List.set_cons_succ])
  refine wpAnyH_done (by kernel_rfl) ?_ _
  (try simp only [Act.put, List.setIfInBounds_toArray, List.set_cons_zero, List.set_cons_succ])
  clear HF
  generalize (if c = m then A else Option.map (fun x => x.add m) A) = Am at *
  have K1 := Aside0.mk (HK.out.below HB1.out)
  have B1 := Aside0.mk (HB1.out.mono HK.out.size)
  have P1 := Aside0.mk (Kept.of_below HB1.out (fun j => j = g))
  have c1 := K1.out.row.cell 1 _ rfl
  have f1 := K1.out.row.free 1
  by_cases he : er = 0
  rotate_left
  · have HP := Aside0.mk (show pT xs most m = Res.fail er ((m : Int) + (dn : Int)) from by
      unfold pT took
      rw [HQ.out, if_neg he])
    have HE := Aside0.mk he
    have h1 : (er == 0) = false := by simpa using he
    have h2 : decide (er = 0) = false := decide_eq_false he
    clear he
    go_wp2_with fail
    go_at_call 120
    refine (q_fail K1.out er _ HE.out).mono ?_
    rintro e w2 ⟨rfl, hk, hb, hkp⟩
    have K2 := Aside0.mk hk
    have B2 := Aside0.mk (B1.out.trans hb)
    have P2 := Aside0.mk (P1.out.then_ hkp (fun _ h => .inl h))
    clear hk hb hkp
    go_wp2_with fail
    go_ret
    refine ⟨B2.out, P2.out, ?_⟩
    rw [HP.out]
    exact ⟨⟨#[]⟩, _, rfl, rfl, fun y m h => by simp at h, HE.out, m, K2.out⟩
  subst he
  have HP := Aside0.mk (show pT xs most m = Res.ok v (m + dn) from by unfold pT took; rw [HQ.out, if_pos rfl]; rfl)
  have HM := Aside0.mk (K1.out.put (m + dn) 0 0 (fun _ => HPL.out))
  go_wp2_with fail
  go_ret
  have e1 := K1.out.row.set 1 (.int .i64 ((m + dn : Nat) : Int))
  rw [show [Value.slice A n c, .int .i64 (m : Int), .int .i64 (most : Int), .int .i64 0, .int .i64 0].set 1 (.int .i64 ((m + dn : Nat) : Int)) = [Value.slice A n c, .int .i64 ((m + dn : Nat) : Int), .int .i64 (most : Int), .int .i64 0, .int .i64 0] from rfl] at e1
  rw [show (m : Int) + (dn : Int) = ((m + dn : Nat) : Int) from by omega, e1]
  refine ⟨B1.out.trans HM.out.2.1, P1.out.then_ HM.out.2.2 (fun _ h => .inl h), ?_⟩
  rw [HP.out]
  exact ⟨v, _, rfl, rfl, fun y m h => by cases h; rfl, HM.out.1⟩
theorem q_text {α : Type} {r : Res α} {W : World} (k : QSt g B A n c xs most r W) :
    Calls Try.prog 65 #[ptr g] W fun e w' => Below B W w' ∧ Kept W w' (fun j => j = g) ∧ OutQ g B A n c xs most (fun x v _ => v = .string x) (r.bind fun _ m => pT xs most m) e w' := by
  cases r with
  | ok x m => exact q_text_ok k
  | fail e p =>
    obtain ⟨he, m, hk⟩ := k
    refine (q_text_no hk he).mono ?_
    rintro e' w' ⟨rfl, rfl⟩
    exact ⟨Below.refl _ _, ⟨Nat.le_refl _, fun _ _ _ => rfl⟩, ⟨#[]⟩, _, rfl, rfl, (fun y m h => by cases h), he, m, hk⟩
theorem q_many_no {m : Nat} {W : World} {e0 p0 : Int} (k : QAt g B A n c xs most m e0 p0 W) (h0 : e0 ≠ 0) :
    Calls Try.prog 96 #[ptr g] W fun e w' => e = .returned (.int .i64 0) ∧ w' = W := by
  have c3 := k.row.cell 3 _ rfl
  have h1 : (e0 == 0) = false := by simpa using h0
  have h2 : decide (e0 = 0) = false := decide_eq_false h0
  have h3 : (e0 != 0) = true := by simpa using h0
  have h4 : decide (e0 ≠ 0) = true := decide_eq_true h0
  clear k
  go_enter Try.func96, Try.ntmps96
  go_wp2_with fail
  go_ret
  exact ⟨rfl, rfl⟩
theorem q_many_ok {m : Nat} {W : World} (k : QAt g B A n c xs most m 0 0 W) :
    Calls Try.prog 96 #[ptr g] W fun e w' => Below B W w' ∧ Kept W w' (fun j => j = g) ∧ OutQ g B A n c xs most (fun x v _ => v = .int .i64 ((x : Nat) : Int)) (pU xs most m) e w' := by
  have HK := Aside0.mk k
  have c1 : (m : Int) ≤ (n : Int) := by have := k.le rfl; omega
  have c2 : (n : Int) ≤ (c : Int) := by have := k.nc; omega
  have c3 : (0 : Int) ≤ (m : Int) := by omega
  have MKS := Aside0.mk (show ∀ w', Below W.heap.size W w' → (fun w' => w'.cell? ⟨g, 0, none⟩ = some (Value.slice A n c) ∧ w'.cell? ⟨g, 1, none⟩ = some (.int .i64 (m : Int)) ∧ w'.cell? ⟨g, 2, none⟩ = some (.int .i64 (most : Int))) w' from fun w' hb => by
    have r := HK.out.row.below hb
    exact ⟨r.cell 0 _ rfl, r.cell 1 _ rfl, r.cell 2 _ rfl⟩)
  have ce := k.row.cell 3 _ rfl
  clear k
  have hdl := HK.out.dl
  obtain ⟨q, hq⟩ : ∃ q, ug 0 0 (xs.drop m) = q := ⟨_, rfl⟩
  have HQ := Aside0.mk hq
  have hpl := ug_place xs m n HK.out.len (HK.out.le rfl)
  have hul := ug_lt (xs.drop m) 0 0 (by omega) (by decide) (HK.out.by_.drop m)
  have HF := Aside0.mk (show ∀ w', Below W.heap.size W w' → Calls Try.prog 132 #[.slice (if c = m then A else A.map (·.add m)) (n - m) (c - m)] w' fun e w2 => e = .returned (.tuple #[.int .u64 q.1, .int .i64 q.2.1, .int .i64 q.2.2]) ∧ Drawn0 w' w2 from fun w' hb => by
    have := larderref01_Uint.calls (3 * (xs.drop m).length + 30) (if c = m then A else A.map (·.add m)) (c - m) (xs.drop m) q.1 q.2.1 q.2.2 w' (HK.out.rest (hb.mono HK.out.size)) (by rw [hdl]; have := HK.out.nc; omega) (by rw [ref_uint _ (HK.out.by_.drop m) (by rw [hdl]; have := HK.out.big; omega) _ (by omega), hq])
    rwa [hdl] at this)
  rw [hq] at hpl hul
  obtain ⟨v, d, er⟩ := q
  obtain ⟨dn, hdn⟩ : ∃ dn : Nat, d = (dn : Int) := ⟨d.toNat, by have h1 : 0 ≤ d := hpl.1; omega⟩
  subst hdn
  obtain ⟨u, hu⟩ : ∃ u : Nat, v = (u : Int) := ⟨v.toNat, by have h1 : 0 ≤ v := hul.1; omega⟩
  subst hu
  have HUL := Aside0.mk (show u < 18446744073709551616 by have h1 : (u : Int) < 18446744073709551616 := hul.2; omega)
  clear hul
  have HPL := Aside0.mk (show m + dn ≤ n by have h1 : (dn : Int) ≤ ((n - m : Nat) : Int) := hpl.2; have := HK.out.le rfl; omega)
  have hw : wrap64 ((m : Int) + (dn : Int)) = ((m + dn : Nat) : Int) := by have := HK.out.big; have := HPL.out; unfold wrap64; omega
  clear hdl hq hpl
  go_enter Try.func96, Try.ntmps96
  go_upto_region 3 with fail
  refine wp_region_held_drew (S := fun w' => w'.cell? ⟨g, 0, none⟩ = some (Value.slice A n c) ∧ w'.cell? ⟨g, 1, none⟩ = some (.int .i64 (m : Int)) ∧ w'.cell? ⟨g, 2, none⟩ = some (.int .i64 (most : Int))) (by kernel_rfl) (MKS.out _ (below_drew (Below.refl _ _))) (fun hHeld => ?_)
  refine wpAnyH_take (i := 0) (oi := { dst := some 12, op := Op.move (Operand.tmp 0), type := 106, pos := "ref.go:149", after := #[], guard := none }) (v := ?_) rfl (by kernel_rfl) (by kernel_rfl) (by kernel_rfl) (fun _ _ _ h => h) (Or.inl ⟨by rfl, ?_⟩) hHeld ?_
  rotate_left
  · intro w' hS; obtain ⟨hS0, hS1, hS2⟩ := hS; go_simp; all_goals (with_reducible rfl)
  (try simp only [Act.put, List.setIfInBounds_toArray, List.set_cons_zero, List.set_cons_succ])
  refine wpAnyH_take (i := 1) (oi := { dst := some 13, op := Op.nilCheck (Operand.tmp 12), type := 0, pos := "ref.go:149", after := #[{ on := 0, ground := Ground.data }], guard := none }) (v := ?_) rfl (by kernel_rfl) (by kernel_rfl) (by kernel_rfl) (fun _ _ _ h => h) (Or.inl ⟨by rfl, ?_⟩) hHeld ?_
  rotate_left
  · intro w' hS; obtain ⟨hS0, hS1, hS2⟩ := hS; go_simp; all_goals (with_reducible rfl)
  (try simp only [Act.put, List.setIfInBounds_toArray, List.set_cons_zero, List.set_cons_succ])
  refine wpAnyH_take (i := 2) (oi := { dst := some 14, op := Op.fieldAddr 137 (Operand.tmp 13) 0, type := 0, pos := "ref.go:149", after := #[{ on := 1, ground := Ground.data }], guard := none }) (v := ?_) rfl (by kernel_rfl) (by kernel_rfl) (by kernel_rfl) (fun _ _ _ h => h) (Or.inl ⟨by rfl, ?_⟩) hHeld ?_
  rotate_left
  · intro w' hS; obtain ⟨hS0, hS1, hS2⟩ := hS; go_simp; all_goals (with_reducible rfl)
  (try simp only [Act.put, List.setIfInBounds_toArray, List.set_cons_zero, List.set_cons_succ])
  refine wpAnyH_take (i := 3) (oi := { dst := some 15, op := Op.load 26 (Operand.tmp 14), type := 26, pos := "ref.go:149", after := #[{ on := 2, ground := Ground.data }], guard := none }) (v := ?_) rfl (by kernel_rfl) (by kernel_rfl) (by kernel_rfl) (fun _ _ _ h => h) (Or.inl ⟨by rfl, ?_⟩) hHeld ?_
  rotate_left
  · intro w' hS; obtain ⟨hS0, hS1, hS2⟩ := hS; go_simp; all_goals (with_reducible rfl)
  (try simp only [Act.put, List.setIfInBounds_toArray, List.set_cons_zero, List.set_cons_succ])
  refine wpAnyH_take (i := 4) (oi := { dst := some 16, op := Op.move (Operand.tmp 0), type := 106, pos := "ref.go:149", after := #[], guard := none }) (v := ?_) rfl (by kernel_rfl) (by kernel_rfl) (by kernel_rfl) (fun _ _ _ h => h) (Or.inl ⟨by rfl, ?_⟩) hHeld ?_
  rotate_left
  · intro w' hS; obtain ⟨hS0, hS1, hS2⟩ := hS; go_simp; all_goals (with_reducible rfl)
  (try simp only [Act.put, List.setIfInBounds_toArray, List.set_cons_zero, List.set_cons_succ])
  refine wpAnyH_take (i := 5) (oi := { dst := some 17, op := Op.nilCheck (Operand.tmp 16), type := 0, pos := "ref.go:149", after := #[{ on := 4, ground := Ground.data }], guard := none }) (v := ?_) rfl (by kernel_rfl) (by kernel_rfl) (by kernel_rfl) (fun _ _ _ h => h) (Or.inl ⟨by rfl, ?_⟩) hHeld ?_
  rotate_left
  · intro w' hS; obtain ⟨hS0, hS1, hS2⟩ := hS; go_simp; all_goals (with_reducible rfl)
  (try simp only [Act.put, List.setIfInBounds_toArray, List.set_cons_zero, List.set_cons_succ])
  refine wpAnyH_take (i := 6) (oi := { dst := some 18, op := Op.fieldAddr 137 (Operand.tmp 17) 1, type := 0, pos := "ref.go:149", after := #[{ on := 5, ground := Ground.data }], guard := none }) (v := ?_) rfl (by kernel_rfl) (by kernel_rfl) (by kernel_rfl) (fun _ _ _ h => h) (Or.inl ⟨by rfl, ?_⟩) hHeld ?_
  rotate_left
  · intro w' hS; obtain ⟨hS0, hS1, hS2⟩ := hS; go_simp; all_goals (with_reducible rfl)
  (try simp only [Act.put, List.setIfInBounds_toArray, List.set_cons_zero, List.set_cons_succ])
  refine wpAnyH_take (i := 7) (oi := { dst := some 19, op := Op.load 3 (Operand.tmp 18), type := 3, pos := "ref.go:149", after := #[{ on := 6, ground := Ground.data }], guard := none }) (v := ?_) rfl (by kernel_rfl) (by kernel_rfl) (by kernel_rfl) (fun _ _ _ h => h) (Or.inl ⟨by rfl, ?_⟩) hHeld ?_
  rotate_left
  · intro w' hS; obtain ⟨hS0, hS1, hS2⟩ := hS; go_simp; all_goals (with_reducible rfl)
  (try simp only [Act.put, List.setIfInBounds_toArray, List.set_cons_zero, List.set_cons_succ])
  refine wpAnyH_take (i := 8) (oi := { dst := some 20, op := Op.slice 26 (Operand.tmp 15) (some (Operand.tmp 19)) none none, type := 26, pos := "ref.go:149", after := #[{ on := 3, ground := Ground.data }, { on := 7, ground := Ground.data }], guard := none }) (v := ?_) rfl (by kernel_rfl) (by kernel_rfl) (by kernel_rfl) (fun _ _ _ h => h) (Or.inl ⟨by rfl, ?_⟩) hHeld ?_
  rotate_left
  · intro w' hS; obtain ⟨hS0, hS1, hS2⟩ := hS; go_simp; all_goals (with_reducible rfl)
  (try simp only [Act.put, List.setIfInBounds_toArray, List.set_cons_zero, List.set_cons_succ])
  refine wpAnyH_ready (rs := [9]) (by kernel_rfl) (by simp) ?_
  refine AllReadyH.cons (o := { dst := some 21, op := Op.call { callee := Callee.value (Operand.func 132), args := #[Operand.tmp 20], argTypes := #[26] }, type := 169, pos := "ref.go:149", after := #[{ on := 8, ground := Ground.data }], guard := none }) rfl (fun K hK => ?_) AllReadyH.nil
  go_simp
  go_at_call 132
  refine (HF.out _ (below_drew (Below.refl _ _))).mono ?_
  rintro e wa ⟨rfl, hd⟩
  have HB1 := Aside0.mk (show Below W.heap.size W wa from by
    obtain ⟨md, rfl⟩ := hd
    exact pw_below_drewN (below_drew (Below.refl _ _)) md)
  clear hd
  refine hK.out _ _ (MKS.out _ HB1.out) (fun hHeld => ?_)
  clear hK K
  (try simp only [Act.put, List.setIfInBounds_toArray, List.set_cons_zero, List.set_cons_succ])
  refine wpAnyH_take (i := 10) (oi := { dst := some 11, op := Op.move (Operand.tmp 21), type := 169, pos := "ref.go:149", after := #[{ on := 9, ground := Ground.data }], guard := none }) (v := ?_) rfl (by kernel_rfl) (by kernel_rfl) (by kernel_rfl) (fun _ _ _ h => h) (Or.inl ⟨by rfl, ?_⟩) hHeld ?_
  rotate_left
  · intro w' hS; obtain ⟨hS0, hS1, hS2⟩ := hS; go_simp; all_goals (with_reducible rfl)
  (try simp only [Act.put, List.setIfInBounds_toArray, List.set_cons_zero, List.set_cons_succ])
  refine wpAnyH_take (i := 11) (oi := { dst := some 22, op := Op.extract (Operand.tmp 11) 0, type := 151, pos := "ref.go:149", after := #[{ on := 10, ground := Ground.data }], guard := none }) (v := ?_) rfl (by kernel_rfl) (by kernel_rfl) (by kernel_rfl) (fun _ _ _ h => h) (Or.inl ⟨by rfl, ?_⟩) hHeld ?_
  rotate_left
  · intro w' hS; obtain ⟨hS0, hS1, hS2⟩ := hS; go_simp; all_goals (with_reducible rfl)
  (try simp only [Act.put, List.setIfInBounds_toArray, List.set_cons_zero, List.set_cons_succ])
  refine wpAnyH_take (i := 12) (oi := { dst := some 23, op := Op.extract (Operand.tmp 11) 1, type := 3, pos := "ref.go:149", after := #[{ on := 10, ground := Ground.data }, { on := 14, ground := Ground.gcOnly Departure.lateStores }], guard := none }) (v := ?_) rfl (by kernel_rfl) (by kernel_rfl) (by kernel_rfl) (fun _ _ _ h => h) (Or.inl ⟨by rfl, ?_⟩) hHeld ?_
  rotate_left
  · intro w' hS; obtain ⟨hS0, hS1, hS2⟩ := hS; go_simp; all_goals (with_reducible rfl)
  (try simp only [Act.put, List.setIfInBounds_toArray, List.set_cons_zero, List.set_cons_succ])
  refine wpAnyH_take (i := 13) (oi := { dst := some 24, op := Op.extract (Operand.tmp 11) 2, type := 22, pos := "ref.go:149", after := #[{ on := 10, ground := Ground.data }, { on := 15, ground := Ground.gcOnly Departure.lateStores }], guard := none }) (v := ?_) rfl (by kernel_rfl) (by kernel_rfl) (by kernel_rfl) (fun _ _ _ h => h) (Or.inl ⟨by rfl, ?_⟩) hHeld ?_
  rotate_left
  · intro w' hS; obtain ⟨hS0, hS1, hS2⟩ := hS; go_simp; all_goals (with_reducible rfl)
  (try simp only [Act.put, List.setIfInBounds_toArray, List.set_cons_zero, List.set_cons_succ])
  refine wpAnyH_take (i := 14) (oi := { dst := some 3, op := Op.assign (Operand.tmp 22), type := 151, pos := "ref.go:149", after := #[{ on := 11, ground := Ground.data }, { on := 9, ground := Ground.chain }, { on := 0, ground := Ground.phase }, { on := 1, ground := Ground.phase }, { on := 2, ground := Ground.phase }, { on := 3, ground := Ground.phase }, { on := 4, ground := Ground.phase }, { on := 5, ground := Ground.phase }, { on := 6, ground := Ground.phase }, { on := 7, ground := Ground.phase }, { on := 8, ground := Ground.phase }, { on := 9, ground := Ground.phase }, { on := 10, ground := Ground.phase }, { on := 11, ground := Ground.phase }, { on := 12, ground := Ground.textOnly Departure.lateStores }, { on := 13, ground := Ground.textOnly Departure.lateStores }], guard := none }) (v := ?_) rfl (by kernel_rfl) (by kernel_rfl) (by kernel_rfl) (fun _ _ _ h => h) (Or.inl ⟨by rfl, ?_⟩) hHeld ?_
  rotate_left
  · intro w' hS; obtain ⟨hS0, hS1, hS2⟩ := hS; go_simp; all_goals (with_reducible rfl)
  (try simp only [Act.put, List.setIfInBounds_toArray, List.set_cons_zero, List.set_cons_succ])
  refine wpAnyH_take (i := 15) (oi := { dst := some 4, op := Op.assign (Operand.tmp 23), type := 3, pos := "ref.go:149", after := #[{ on := 12, ground := Ground.data }, { on := 14, ground := Ground.chain }, { on := 0, ground := Ground.phase }, { on := 1, ground := Ground.phase }, { on := 2, ground := Ground.phase }, { on := 3, ground := Ground.phase }, { on := 4, ground := Ground.phase }, { on := 5, ground := Ground.phase }, { on := 6, ground := Ground.phase }, { on := 7, ground := Ground.phase }, { on := 8, ground := Ground.phase }, { on := 9, ground := Ground.phase }, { on := 10, ground := Ground.phase }, { on := 11, ground := Ground.phase }, { on := 12, ground := Ground.phase }, { on := 13, ground := Ground.textOnly Departure.lateStores }, { on := 14, ground := Ground.phase }], guard := none }) (v := ?_) rfl (by kernel_rfl) (by kernel_rfl) (by kernel_rfl) (fun _ _ _ h => h) (Or.inl ⟨by rfl, ?_⟩) hHeld ?_
  rotate_left
  · intro w' hS; obtain ⟨hS0, hS1, hS2⟩ := hS; go_simp; all_goals (with_reducible rfl)
  (try simp only [Act.put, List.setIfInBounds_toArray, List.set_cons_zero, List.set_cons_succ])
  refine wpAnyH_take (i := 16) (oi := { dst := some 5, op := Op.assign (Operand.tmp 24), type := 22, pos := "ref.go:149", after := #[{ on := 13, ground := Ground.data }, { on := 15, ground := Ground.chain }, { on := 0, ground := Ground.phase }, { on := 1, ground := Ground.phase }, { on := 2, ground := Ground.phase }, { on := 3, ground := Ground.phase }, { on := 4, ground := Ground.phase }, { on := 5, ground := Ground.phase }, { on := 6, ground := Ground.phase }, { on := 7, ground := Ground.phase }, { on := 8, ground := Ground.phase }, { on := 9, ground := Ground.phase }, { on := 10, ground := Ground.phase }, { on := 11, ground := Ground.phase }, { on := 12, ground := Ground.phase }, { on := 13, ground := Ground.phase }, { on := 14, ground := Ground.phase }, { on := 15, ground := Ground.phase }], guard := none }) (v := ?_) rfl (by kernel_rfl) (by kernel_rfl) (by kernel_rfl) (fun _ _ _ h => h) (Or.inl ⟨by rfl, ?_⟩) hHeld ?_
  rotate_left
  · intro w' hS; obtain ⟨hS0, hS1, hS2⟩ := hS; go_simp; all_goals (with_reducible rfl)
  (try simp only [Act.put, List.setIfInBounds_toArray, List.set_cons_zero, List.set_cons_succ])
  refine wpAnyH_done (by kernel_rfl) ?_ _
  (try simp only [Act.put, List.setIfInBounds_toArray, List.set_cons_zero, List.set_cons_succ])
  clear HF
  generalize (if c = m then A else Option.map (fun x => x.add m) A) = Am at *
  have K1 := Aside0.mk (HK.out.below HB1.out)
  have B1 := Aside0.mk (HB1.out.mono HK.out.size)
  have P1 := Aside0.mk (Kept.of_below HB1.out (fun j => j = g))
  have c1 := K1.out.row.cell 1 _ rfl
  have f1 := K1.out.row.free 1
  by_cases he : er = 0
  rotate_left
  · have HP := Aside0.mk (show pU xs most m = Res.fail er ((m : Int) + (dn : Int)) from by
      unfold pU took
      rw [HQ.out, if_neg he]
      rfl)
    have HE := Aside0.mk he
    have h1 : (er == 0) = false := by simpa using he
    have h2 : decide (er = 0) = false := decide_eq_false he
    clear he
    go_wp2_with fail
    go_at_call 120
    refine (q_fail K1.out er _ HE.out).mono ?_
    rintro e w2 ⟨rfl, hk, hb, hkp⟩
    have K2 := Aside0.mk hk
    have B2 := Aside0.mk (B1.out.trans hb)
    have P2 := Aside0.mk (P1.out.then_ hkp (fun _ h => .inl h))
    clear hk hb hkp
    go_wp2_with fail
    go_ret
    refine ⟨B2.out, P2.out, ?_⟩
    rw [HP.out]
    exact ⟨0, _, rfl, rfl, fun y m h => by simp at h, HE.out, m, K2.out⟩
  subst he
  have hm2 := K1.out.row.cell 2 _ rfl
  have hw64 : IntKind.u64.wrap (most : Int) = (most : Int) := by have := HK.out.mb; rw [IntKind.wrap_u64]; omega
  by_cases hu : most < u
  · have HP := Aside0.mk (show pU xs most m = Res.fail 91 (m : Int) from by
      unfold pU took
      rw [HQ.out, if_pos rfl]
      simp only [Res.bind]
      rw [if_pos (by omega)])
    have d1 : decide ((most : Int) < (u : Int)) = true := decide_eq_true (by omega)
    have d2 : decide (most < u) = true := decide_eq_true hu
    clear hu
    go_wp2_with fail
    go_at_call 120
    refine (q_fail K1.out 91 _ (by decide)).mono ?_
    rintro e w2 ⟨rfl, hk, hb, hkp⟩
    have K2 := Aside0.mk hk
    have B2 := Aside0.mk (B1.out.trans hb)
    have P2 := Aside0.mk (P1.out.then_ hkp (fun _ h => .inl h))
    clear hk hb hkp
    go_wp2_with fail
    go_ret
    refine ⟨B2.out, P2.out, ?_⟩
    rw [HP.out]
    exact ⟨0, _, rfl, rfl, fun y m h => by simp at h, by decide, m, K2.out⟩
  have HP := Aside0.mk (show pU xs most m = Res.ok u (m + dn) from by
    unfold pU took
    rw [HQ.out, if_pos rfl]
    simp only [Res.bind]
    rw [if_neg (by omega), Int.toNat_natCast, Int.toNat_natCast])
  have d1 : decide ((most : Int) < (u : Int)) = false := decide_eq_false (by omega)
  have d2 : decide (most < u) = false := decide_eq_false hu
  have hwu : wrap64 (u : Int) = (u : Int) := by have := HK.out.mb; unfold wrap64; omega
  clear hu
  have HM := Aside0.mk (K1.out.put (m + dn) 0 0 (fun _ => HPL.out))
  go_wp2_with fail
  go_ret
  have e1 := K1.out.row.set 1 (.int .i64 ((m + dn : Nat) : Int))
  rw [show [Value.slice A n c, .int .i64 (m : Int), .int .i64 (most : Int), .int .i64 0, .int .i64 0].set 1 (.int .i64 ((m + dn : Nat) : Int)) = [Value.slice A n c, .int .i64 ((m + dn : Nat) : Int), .int .i64 (most : Int), .int .i64 0, .int .i64 0] from rfl] at e1
  rw [show (m : Int) + (dn : Int) = ((m + dn : Nat) : Int) from by omega, e1]
  refine ⟨B1.out.trans HM.out.2.1, P1.out.then_ HM.out.2.2 (fun _ h => .inl h), ?_⟩
  rw [HP.out]
  exact ⟨u, _, rfl, rfl, fun y m h => by cases h; rfl, HM.out.1⟩
theorem q_many {α : Type} {r : Res α} {W : World} (k : QSt g B A n c xs most r W) :
    Calls Try.prog 96 #[ptr g] W fun e w' => Below B W w' ∧ Kept W w' (fun j => j = g) ∧ OutQ g B A n c xs most (fun x v _ => v = .int .i64 ((x : Nat) : Int)) (r.bind fun _ m => pU xs most m) e w' := by
  cases r with
  | ok x m => exact q_many_ok k
  | fail e p =>
    obtain ⟨he, m, hk⟩ := k
    refine (q_many_no hk he).mono ?_
    rintro e' w' ⟨rfl, rfl⟩
    exact ⟨Below.refl _ _, ⟨Nat.le_refl _, fun _ _ _ => rfl⟩, 0, _, rfl, rfl, (fun y m h => by cases h), he, m, hk⟩
end Go.Proofs.Ytafmoglaockepaa.Cd
end
section
namespace Go.Proofs.Ytafmoglaockepaa.Cd
open Go Go.RowKit Go.Proofs.Ytafmoglaockepaa.Num Go.Proofs.Ytafmoglaockepaa.PG Go.Proofs.YtafmoglaockepaaW.PrintWords Go.Proofs.YtafmoglaockepaaW.PrintLast Go.Proofs.YtafmoglaockepaaW.PrintMore
set_option linter.unusedVariables false
set_option linter.unusedSimpArgs false
set_option maxHeartbeats 4000000
set_option maxRecDepth 100000
variable {g B : Nat} {A : Option Addr} {n c : Nat} {xs : List Int} {most : Nat}
def Res.shape {α : Type} : Res α → Res Unit
  | .ok _ m => .ok () m
  | .fail e p => .fail e p
theorem QSt.cell3 {α : Type} {r : Res α} {W : World} (k : QSt g B A n c xs most r W) : ∃ e, W.cell? ⟨g, 3, none⟩ = some (.int .i64 e) ∧ ((∃ x m, r = .ok x m) ∧ e = 0 ∨ (∃ p, r = .fail e p) ∧ e ≠ 0) := by
  cases r with
  | ok x m => exact ⟨0, (QAt.row k).cell 3 _ rfl, .inl ⟨⟨x, m, rfl⟩, rfl⟩⟩
  | fail e p => exact ⟨e, k.2.choose_spec.row.cell 3 _ rfl, .inr ⟨⟨p, rfl⟩, k.1⟩⟩
theorem pU_le {m k m' : Nat} (h : pU xs most m = .ok k m') : k ≤ most := by
  unfold pU at h
  cases hr : took m (ug 0 0 (xs.drop m)) with
  | fail e p => rw [hr] at h; simp [Res.bind] at h
  | ok u m2 =>
    rw [hr] at h
    simp only [Res.bind] at h
    split at h
    · simp at h
    · injection h with h1 h2
      omega
end Go.Proofs.Ytafmoglaockepaa.Cd
end
section
namespace Go.Proofs.Ytafmoglaockepaa.Cd
open Go Go.RowKit Go.Proofs.Ytafmoglaockepaa.Num Go.Proofs.Ytafmoglaockepaa.PG Go.Proofs.YtafmoglaockepaaW.PrintWords Go.Proofs.YtafmoglaockepaaW.PrintLast Go.Proofs.YtafmoglaockepaaW.PrintMore
set_option linter.unusedVariables false
set_option linter.unusedSimpArgs false
set_option maxHeartbeats 4000000
set_option maxRecDepth 100000
variable {g B : Nat} {A : Option Addr} {n c : Nat} {xs : List Int} {most : Nat}
def hdr (key : Int) (most : Nat) (xs : List Int) : Res Unit :=
  if most < xs.length then .fail 1 0 else if xs.length = 0 then .fail 3 0 else if xs.headD 0 ≠ key then .fail 90 0 else .ok () 1
theorem whole_hdr {α : Type} (key : Int) (most : Nat) (xs : List Int) (fields : Nat → Res α) :
    whole key most xs fields = (hdr key most xs).bind fun _ m => (fields m).bind fun x n => if n < xs.length then .fail 4 (n : Int) else .ok x n := by
  unfold whole hdr
  split
  · rfl
  · split
    · rfl
    · split <;> rfl
theorem q_fail_row {s a b : Value} {W : World} (h : Rt 137 g [s, a, b, .int .i64 0, .int .i64 0] W) (e p : Int) :
    Calls Try.prog 120 #[ptr g, .int .i64 e, .int .i64 p] W fun x w' => x = .returned (.tuple #[]) ∧ w' = W.setRow g [s, a, b, .int .i64 e, .int .i64 p].toArray := by
  have HK := Aside0.mk h
  have c3 := h.cell 3 _ rfl
  have f3 := h.free 3
  have f4 := h.free 4
  have c4 := h.cell 4 _ rfl
  clear h
  go_enter Try.func120, Try.ntmps120
  go_upto_region 2 with fail
  have e3 := HK.out.set 3 (.int .i64 e)
  have R3 := HK.out.row [s, a, b, .int .i64 e, .int .i64 0]
  rw [e3, show [s, a, b, .int .i64 0, .int .i64 0].set 3 (.int .i64 e) = [s, a, b, .int .i64 e, .int .i64 0] from rfl]
  clear e3 c3 f3 c4 f4
  have e4 := R3.set 4 (.int .i64 p)
  rw [setRow_again, show [s, a, b, .int .i64 e, .int .i64 0].set 4 (.int .i64 p) = [s, a, b, .int .i64 e, .int .i64 p] from rfl] at e4
  have c4 := R3.cell 4 _ rfl
  have f4 := R3.free 4
  have HE := Aside0.mk e4
  clear e4
  clear R3
  generalize W.setRow g [s, a, b, .int .i64 e, .int .i64 0].toArray = w1 at *
  go_wp2_with fail
  go_end0
  rw [HE.out]
  exact ⟨rfl, rfl⟩
theorem q_fail2_row {s a b q : Value} {e0 : Int} {W : World} (h : Rt 137 g [s, a, b, .int .i64 e0, q] W) (h0 : e0 ≠ 0) (e p : Int) :
    Calls Try.prog 120 #[ptr g, .int .i64 e, .int .i64 p] W fun x w' => x = .returned (.tuple #[]) ∧ w' = W := by
  have c3 := h.cell 3 _ rfl
  have h1 : (e0 == 0) = false := by simpa using h0
  have h2 : decide (e0 = 0) = false := decide_eq_false h0
  clear h
  go_enter Try.func120, Try.ntmps120
  go_wp2_with fail
  go_end0
  exact ⟨rfl, rfl⟩
theorem q_begin (A : Option Addr) (n c : Nat) (xs : List Int) (most : Nat) (key : Int) (W : World) (hC : Kd.C (Kd.int .u8) W A n xs) (hnc : n ≤ c) (hb : IsBytes xs) (hbig : n < 1000000000) (hmb : most < 1000000000) :
    Calls Try.prog 64 #[.slice A n c, .int .u8 key, .int .i64 (most : Int)] W fun e w' => e = .returned (ptr W.heap.size) ∧ Below W.heap.size W w' ∧ QSt W.heap.size W.heap.size A n c xs most (hdr key most xs) w' := by
  have HLEN := Aside0.mk (show xs.length = n from Kd.C_len hC)
  have HMB := Aside0.mk hmb
  obtain ⟨g, hg⟩ : ∃ g, W.heap.size = g := ⟨_, rfl⟩
  have HG := Aside0.mk hg
  have HQ := Aside0.mk (show ∀ (m : Nat) (e p : Int) (w' : World), Below g W w' → Rt 137 g [Value.slice A n c, .int .i64 (m : Int), .int .i64 (most : Int), .int .i64 e, .int .i64 p] w' → (e = 0 → m ≤ n) → QAt g g A n c xs most m e p w' from fun m e p w' hbw hr hle =>
    ⟨hr, fun W' hb' => Kd.C_below hC (by rw [hg]; exact hbw.trans hb'), Nat.le_refl _, hnc, hle, hbig, hmb, hb⟩)
  have HC := Aside0.mk hC
  clear hC hnc hb hbig hmb hg
  go_enter Try.func64, Try.ntmps64
  go_upto_region 2 with fail
  have hb1 : Below W.heap.size W (W.alloc (.cells #[.slice A n c, .int .i64 1, .int .i64 (most : Int), .int .i64 0, .int .i64 0] 137)) := below_alloc (Below.refl _ _) _
  have r1 : Rt 137 W.heap.size [.slice A n c, .int .i64 1, .int .i64 (most : Int), .int .i64 0, .int .i64 0] (W.alloc (.cells #[.slice A n c, .int .i64 1, .int .i64 (most : Int), .int .i64 0, .int .i64 0] 137)) := heap_alloc_new W _
  rw [HG.out] at hb1 r1 ⊢
  have R1 := Aside0.mk r1
  have B1 := Aside0.mk hb1
  clear r1 hb1
  generalize W.alloc (.cells #[.slice A n c, .int .i64 1, .int .i64 (most : Int), .int .i64 0, .int .i64 0] 137) = w1 at *
  have HCELL := Aside0.mk (show ∀ w', Below g W w' → 0 < n → ∃ ad, A = some ad ∧ w'.cell? ad = some (.int .u8 (xs.headD 0)) from fun w' hb hz => by
    have hCx := Kd.C_below HC.out (show Below W.heap.size W w' by rw [HG.out]; exact hb)
    obtain ⟨ad, rfl, hcell⟩ := (Kd.reads_of_C (d := (0 : Int)) (h1 := fun _ => rfl) hCx).2.2 hz
    refine ⟨ad, rfl, ?_⟩
    have k0 := hcell 0 hz
    have e : ad.add 0 = ad := by simp [Addr.add]
    rw [e] at k0
    rw [k0]
    cases xs <;> rfl)
  clear HC
  by_cases hl : most < n
  · have d1 : decide ((most : Int) < (n : Int)) = true := decide_eq_true (by omega)
    have d2 : decide (most < n) = true := decide_eq_true hl
    have HR := Aside0.mk (show hdr key most xs = Res.fail 1 0 by
      unfold hdr
      rw [HLEN.out, if_pos hl])
    have hz : 0 < n := by omega
    clear hl
    go_wp2_with fail
    go_at_call 120
    refine (q_fail_row R1.out 1 0).mono ?_
    rintro e w2 ⟨rfl, rfl⟩
    have R2 := Aside0.mk (R1.out.row [.slice A n c, .int .i64 1, .int .i64 (most : Int), .int .i64 1, .int .i64 0])
    have B2 := Aside0.mk (below_setRow' B1.out (Nat.le_refl g) [Value.slice A n c, .int .i64 1, .int .i64 (most : Int), .int .i64 1, .int .i64 0].toArray)
    generalize w1.setRow g [Value.slice A n c, .int .i64 1, .int .i64 (most : Int), .int .i64 1, .int .i64 0].toArray = w2 at *
    obtain ⟨ad, rfl, k1⟩ := HCELL.out w2 B2.out hz
    have d3 : ((n : Int) == 0) = false := by simp; omega
    have d4 : decide (n = 0) = false := decide_eq_false (by omega)
    have i0 : (0 : Int) < (n : Int) := by omega
    have d8 : decide ((0 : Int) < (n : Int)) = true := decide_eq_true i0
    have d9 : decide (0 < n) = true := decide_eq_true hz
    generalize xs.headD 0 = x at *
    by_cases hk : x = key
    · have d5 : (x != key) = false := by simpa using hk
      have d6 : (x == key) = true := by simpa using hk
      have d7 : decide (x = key) = true := decide_eq_true hk
      clear hk
      go_wp2_with fail
      go_ret
      rw [HR.out, HG.out]
      exact ⟨rfl, B2.out, by decide, 1, HQ.out 1 1 0 _ B2.out R2.out (fun h => absurd h (by decide))⟩
    · have d5 : (x != key) = true := by simpa using hk
      have d6 : (x == key) = false := by simpa using hk
      have d7 : decide (x = key) = false := decide_eq_false hk
      clear hk
      go_wp2_with fail
      go_at_call 120
      refine (q_fail2_row R2.out (by decide) 90 0).mono ?_
      rintro e w3 ⟨rfl, rfl⟩
      go_wp2_with fail
      go_ret
      rw [HR.out, HG.out]
      exact ⟨rfl, B2.out, by decide, 1, HQ.out 1 1 0 _ B2.out R2.out (fun h => absurd h (by decide))⟩
  have d1 : decide ((most : Int) < (n : Int)) = false := decide_eq_false (by omega)
  have d2 : decide (most < n) = false := decide_eq_false hl
  rcases Nat.eq_zero_or_pos n with hz | hz
  · have HR := Aside0.mk (show hdr key most xs = Res.fail 3 0 by
      unfold hdr
      rw [HLEN.out, if_neg hl, if_pos hz])
    have d3 : ((n : Int) == 0) = true := by simpa using hz
    have d4 : decide (n = 0) = true := decide_eq_true hz
    have d5 : (n : Int) = 0 := by omega
    have d8 : decide ((0 : Int) < (n : Int)) = false := decide_eq_false (by omega)
    have d9 : decide (0 < n) = false := decide_eq_false (by omega)
    have d10 : ((0 : Int) < (n : Int)) = False := eq_false (by omega)
    clear hl hz
    go_wp2_with fail
    go_at_call 120
    refine (q_fail_row R1.out 3 0).mono ?_
    rintro e w2 ⟨rfl, rfl⟩
    have R2 := Aside0.mk (R1.out.row [.slice A n c, .int .i64 1, .int .i64 (most : Int), .int .i64 3, .int .i64 0])
    have B2 := Aside0.mk (below_setRow' B1.out (Nat.le_refl g) [Value.slice A n c, .int .i64 1, .int .i64 (most : Int), .int .i64 3, .int .i64 0].toArray)
    generalize w1.setRow g [Value.slice A n c, .int .i64 1, .int .i64 (most : Int), .int .i64 3, .int .i64 0].toArray = w2 at *
    go_wp2_with fail
    go_ret
    rw [HR.out, HG.out]
    exact ⟨rfl, B2.out, by decide, 1, HQ.out 1 3 0 _ B2.out R2.out (fun h => absurd h (by decide))⟩
  obtain ⟨ad, rfl, k1⟩ := HCELL.out w1 B1.out hz
  have HZ := Aside0.mk (And.intro hl hz)
  have d3 : ((n : Int) == 0) = false := by simp; omega
  have d4 : decide (n = 0) = false := decide_eq_false (by omega)
  have i0 : (0 : Int) < (n : Int) := by omega
  have d8 : decide ((0 : Int) < (n : Int)) = true := decide_eq_true i0
  have d9 : decide (0 < n) = true := decide_eq_true hz
  obtain ⟨x, hx⟩ : ∃ x, xs.headD 0 = x := ⟨_, rfl⟩
  rw [hx] at k1
  have HX := Aside0.mk hx
  clear hl hz hx
  by_cases hk : x = key
  · have HR := Aside0.mk (show hdr key most xs = Res.ok () 1 by
      unfold hdr
      rw [HLEN.out, if_neg HZ.out.1, if_neg (by have := HZ.out.2; omega), HX.out, if_neg (by simpa using hk)])
    have d5 : (x != key) = false := by simpa using hk
    have d6 : (x == key) = true := by simpa using hk
    have d7 : decide (x = key) = true := decide_eq_true hk
    clear hk
    go_wp2_with fail
    go_ret
    rw [HR.out, HG.out]
    exact ⟨rfl, B1.out, HQ.out 1 0 0 _ B1.out R1.out (fun _ => HZ.out.2)⟩
  · have HR := Aside0.mk (show hdr key most xs = Res.fail 90 0 by
      unfold hdr
      rw [HLEN.out, if_neg HZ.out.1, if_neg (by have := HZ.out.2; omega), HX.out, if_pos hk])
    have d5 : (x != key) = true := by simpa using hk
    have d6 : (x == key) = false := by simpa using hk
    have d7 : decide (x = key) = false := decide_eq_false hk
    clear hk
    go_wp2_with fail
    go_at_call 120
    refine (q_fail_row R1.out 90 0).mono ?_
    rintro e w2 ⟨rfl, rfl⟩
    have R2 := Aside0.mk (R1.out.row [.slice (some ad) n c, .int .i64 1, .int .i64 (most : Int), .int .i64 90, .int .i64 0])
    have B2 := Aside0.mk (below_setRow' B1.out (Nat.le_refl g) [Value.slice (some ad) n c, .int .i64 1, .int .i64 (most : Int), .int .i64 90, .int .i64 0].toArray)
    generalize w1.setRow g [Value.slice (some ad) n c, .int .i64 1, .int .i64 (most : Int), .int .i64 90, .int .i64 0].toArray = w2 at *
    go_wp2_with fail
    go_ret
    rw [HR.out, HG.out]
    exact ⟨rfl, B2.out, by decide, 1, HQ.out 1 90 0 _ B2.out R2.out (fun h => absurd h (by decide))⟩
def tailOf {α : Type} (xs : List Int) (r : Res α) : Res α := r.bind fun x n => if n < xs.length then .fail 4 (n : Int) else .ok x n
theorem q_end_no {m : Nat} {e0 p0 : Int} {W : World} (k : QAt g B A n c xs most m e0 p0 W) (h0 : e0 ≠ 0) :
    Calls Try.prog 68 #[ptr g] W fun e w' => Below W.heap.size W w' ∧ e = .returned (.tuple #[.int .i64 e0, .int .i64 p0]) := by
  have HK := Aside0.mk k
  have h1 : (e0 == 0) = false := by simpa using h0
  have h2 : decide (e0 = 0) = false := decide_eq_false h0
  clear k
  have MKSHK := Aside0.mk (show ∀ w', Below W.heap.size W w' → (fun w' => w'.cell? ⟨g, 0, none⟩ = some (Value.slice A n c) ∧ w'.cell? ⟨g, 1, none⟩ = some (.int .i64 (m : Int)) ∧ w'.cell? ⟨g, 3, none⟩ = some (.int .i64 e0) ∧ w'.cell? ⟨g, 4, none⟩ = some (.int .i64 p0)) w' from fun w' hb => by
    have r := HK.out.row.below hb
    exact ⟨r.cell 0 _ rfl, r.cell 1 _ rfl, r.cell 3 _ rfl, r.cell 4 _ rfl⟩)
  go_enter Try.func68, Try.ntmps68
  go_upto_region 1 with fail
  refine wp_region_held_drew (S := fun w' => w'.cell? ⟨g, 0, none⟩ = some (Value.slice A n c) ∧ w'.cell? ⟨g, 1, none⟩ = some (.int .i64 (m : Int)) ∧ w'.cell? ⟨g, 3, none⟩ = some (.int .i64 e0) ∧ w'.cell? ⟨g, 4, none⟩ = some (.int .i64 p0)) (by kernel_rfl) (MKSHK.out _ (below_drew (Below.refl _ _))) (fun hHeld => ?_)
  refine wpAnyH_take (i := 0) (oi := { dst := some 4, op := Op.move (Operand.tmp 0), type := 106, pos := "ref.go:218", after := #[], guard := none }) (v := ?_) rfl (by kernel_rfl) (by kernel_rfl) (by kernel_rfl) (fun _ _ _ h => h) (Or.inl ⟨by rfl, ?_⟩) hHeld ?_
  rotate_left
  · intro w' hS; obtain ⟨hS0, hS1, hS2, hS3⟩ := hS; go_simp; all_goals (with_reducible rfl)
  (try simp only [Act.put, List.setIfInBounds_toArray, List.set_cons_zero, List.set_cons_succ])
  refine wpAnyH_take (i := 1) (oi := { dst := some 5, op := Op.nilCheck (Operand.tmp 4), type := 0, pos := "ref.go:218", after := #[{ on := 0, ground := Ground.data }], guard := none }) (v := ?_) rfl (by kernel_rfl) (by kernel_rfl) (by kernel_rfl) (fun _ _ _ h => h) (Or.inl ⟨by rfl, ?_⟩) hHeld ?_
  rotate_left
  · intro w' hS; obtain ⟨hS0, hS1, hS2, hS3⟩ := hS; go_simp; all_goals (with_reducible rfl)
  (try simp only [Act.put, List.setIfInBounds_toArray, List.set_cons_zero, List.set_cons_succ])
  refine wpAnyH_take (i := 2) (oi := { dst := some 6, op := Op.fieldAddr 137 (Operand.tmp 5) 3, type := 0, pos := "ref.go:218", after := #[{ on := 1, ground := Ground.data }], guard := none }) (v := ?_) rfl (by kernel_rfl) (by kernel_rfl) (by kernel_rfl) (fun _ _ _ h => h) (Or.inl ⟨by rfl, ?_⟩) hHeld ?_
  rotate_left
  · intro w' hS; obtain ⟨hS0, hS1, hS2, hS3⟩ := hS; go_simp; all_goals (with_reducible rfl)
  (try simp only [Act.put, List.setIfInBounds_toArray, List.set_cons_zero, List.set_cons_succ])
  refine wpAnyH_take (i := 3) (oi := { dst := some 7, op := Op.load 22 (Operand.tmp 6), type := 22, pos := "ref.go:218", after := #[{ on := 2, ground := Ground.data }], guard := none }) (v := ?_) rfl (by kernel_rfl) (by kernel_rfl) (by kernel_rfl) (fun _ _ _ h => h) (Or.inl ⟨by rfl, ?_⟩) hHeld ?_
  rotate_left
  · intro w' hS; obtain ⟨hS0, hS1, hS2, hS3⟩ := hS; go_simp; all_goals (with_reducible rfl)
  (try simp only [Act.put, List.setIfInBounds_toArray, List.set_cons_zero, List.set_cons_succ])
  refine wpAnyH_take (i := 4) (oi := { dst := some 8, op := Op.binOp BinOp.eql 22 (Operand.tmp 7) (Operand.const (Value.int IntKind.i64 0)) 22, type := 4, pos := "ref.go:218", after := #[{ on := 3, ground := Ground.data }], guard := none }) (v := ?_) rfl (by kernel_rfl) (by kernel_rfl) (by kernel_rfl) (fun _ _ _ h => h) (Or.inl ⟨by rfl, ?_⟩) hHeld ?_
  rotate_left
  · intro w' hS; obtain ⟨hS0, hS1, hS2, hS3⟩ := hS; go_simp; all_goals (with_reducible rfl)
  (try simp only [Act.put, List.setIfInBounds_toArray, List.set_cons_zero, List.set_cons_succ])
  refine wpAnyH_take (i := 5) (oi := { dst := some 9, op := Op.move (Operand.tmp 8), type := 4, pos := "ref.go:218", after := #[{ on := 4, ground := Ground.data }], guard := none }) (v := ?_) rfl (by kernel_rfl) (by kernel_rfl) (by kernel_rfl) (fun _ _ _ h => h) (Or.inl ⟨by rfl, ?_⟩) hHeld ?_
  rotate_left
  · intro w' hS; obtain ⟨hS0, hS1, hS2, hS3⟩ := hS; go_simp; all_goals (with_reducible rfl)
  (try simp only [Act.put, List.setIfInBounds_toArray, List.set_cons_zero, List.set_cons_succ])
  refine wpAnyH_take (i := 6) (oi := { dst := some 10, op := Op.move (Operand.tmp 0), type := 106, pos := "ref.go:218", after := #[{ on := 5, ground := Ground.guard }], guard := some (5, true) }) (v := undef) rfl (by kernel_rfl) (by kernel_rfl) (by kernel_rfl) (fun _ _ _ h => h) (Or.inr ⟨by rfl, rfl⟩) hHeld ?_
  (try simp only [Act.put, List.setIfInBounds_toArray, List.set_cons_zero, List.set_cons_succ])
  refine wpAnyH_take (i := 7) (oi := { dst := some 11, op := Op.nilCheck (Operand.tmp 10), type := 0, pos := "ref.go:218", after := #[{ on := 6, ground := Ground.data }, { on := 5, ground := Ground.guard }], guard := some (5, true) }) (v := undef) rfl (by kernel_rfl) (by kernel_rfl) (by kernel_rfl) (fun _ _ _ h => h) (Or.inr ⟨by rfl, rfl⟩) hHeld ?_
  (try simp only [Act.put, List.setIfInBounds_toArray, List.set_cons_zero, List.set_cons_succ])
  refine wpAnyH_take (i := 8) (oi := { dst := some 12, op := Op.fieldAddr 137 (Operand.tmp 11) 1, type := 0, pos := "ref.go:218", after := #[{ on := 7, ground := Ground.data }, { on := 5, ground := Ground.guard }], guard := some (5, true) }) (v := undef) rfl (by kernel_rfl) (by kernel_rfl) (by kernel_rfl) (fun _ _ _ h => h) (Or.inr ⟨by rfl, rfl⟩) hHeld ?_
  (try simp only [Act.put, List.setIfInBounds_toArray, List.set_cons_zero, List.set_cons_succ])
  refine wpAnyH_take (i := 9) (oi := { dst := some 13, op := Op.load 3 (Operand.tmp 12), type := 3, pos := "ref.go:218", after := #[{ on := 8, ground := Ground.data }, { on := 5, ground := Ground.guard }], guard := some (5, true) }) (v := undef) rfl (by kernel_rfl) (by kernel_rfl) (by kernel_rfl) (fun _ _ _ h => h) (Or.inr ⟨by rfl, rfl⟩) hHeld ?_
  (try simp only [Act.put, List.setIfInBounds_toArray, List.set_cons_zero, List.set_cons_succ])
  refine wpAnyH_take (i := 10) (oi := { dst := some 14, op := Op.move (Operand.tmp 0), type := 106, pos := "ref.go:218", after := #[{ on := 5, ground := Ground.guard }], guard := some (5, true) }) (v := undef) rfl (by kernel_rfl) (by kernel_rfl) (by kernel_rfl) (fun _ _ _ h => h) (Or.inr ⟨by rfl, rfl⟩) hHeld ?_
  (try simp only [Act.put, List.setIfInBounds_toArray, List.set_cons_zero, List.set_cons_succ])
  refine wpAnyH_take (i := 11) (oi := { dst := some 15, op := Op.nilCheck (Operand.tmp 14), type := 0, pos := "ref.go:218", after := #[{ on := 10, ground := Ground.data }, { on := 5, ground := Ground.guard }], guard := some (5, true) }) (v := undef) rfl (by kernel_rfl) (by kernel_rfl) (by kernel_rfl) (fun _ _ _ h => h) (Or.inr ⟨by rfl, rfl⟩) hHeld ?_
  (try simp only [Act.put, List.setIfInBounds_toArray, List.set_cons_zero, List.set_cons_succ])
  refine wpAnyH_take (i := 12) (oi := { dst := some 16, op := Op.fieldAddr 137 (Operand.tmp 15) 0, type := 0, pos := "ref.go:218", after := #[{ on := 11, ground := Ground.data }, { on := 5, ground := Ground.guard }], guard := some (5, true) }) (v := undef) rfl (by kernel_rfl) (by kernel_rfl) (by kernel_rfl) (fun _ _ _ h => h) (Or.inr ⟨by rfl, rfl⟩) hHeld ?_
  (try simp only [Act.put, List.setIfInBounds_toArray, List.set_cons_zero, List.set_cons_succ])
  refine wpAnyH_take (i := 13) (oi := { dst := some 17, op := Op.load 26 (Operand.tmp 16), type := 26, pos := "ref.go:218", after := #[{ on := 12, ground := Ground.data }, { on := 5, ground := Ground.guard }], guard := some (5, true) }) (v := undef) rfl (by kernel_rfl) (by kernel_rfl) (by kernel_rfl) (fun _ _ _ h => h) (Or.inr ⟨by rfl, rfl⟩) hHeld ?_
  (try simp only [Act.put, List.setIfInBounds_toArray, List.set_cons_zero, List.set_cons_succ])
  refine wpAnyH_take (i := 14) (oi := { dst := some 18, op := Op.call { callee := Callee.builtin Builtin.len, args := #[Operand.tmp 17], argTypes := #[26] }, type := 3, pos := "ref.go:218", after := #[{ on := 13, ground := Ground.data }, { on := 5, ground := Ground.guard }], guard := some (5, true) }) (v := undef) rfl (by kernel_rfl) (by kernel_rfl) (by kernel_rfl) (fun _ _ _ h => h) (Or.inr ⟨by rfl, rfl⟩) hHeld ?_
  (try simp only [Act.put, List.setIfInBounds_toArray, List.set_cons_zero, List.set_cons_succ])
  refine wpAnyH_take (i := 15) (oi := { dst := some 19, op := Op.binOp BinOp.lss 3 (Operand.tmp 13) (Operand.tmp 18) 3, type := 4, pos := "ref.go:218", after := #[{ on := 9, ground := Ground.data }, { on := 14, ground := Ground.data }, { on := 5, ground := Ground.guard }], guard := some (5, true) }) (v := undef) rfl (by kernel_rfl) (by kernel_rfl) (by kernel_rfl) (fun _ _ _ h => h) (Or.inr ⟨by rfl, rfl⟩) hHeld ?_
  (try simp only [Act.put, List.setIfInBounds_toArray, List.set_cons_zero, List.set_cons_succ])
  refine wpAnyH_take (i := 16) (oi := { dst := some 20, op := Op.pick (Operand.tmp 9) (Operand.tmp 19) (Operand.const (Value.bool false)), type := 4, pos := "ref.go:218", after := #[{ on := 5, ground := Ground.data }, { on := 15, ground := Ground.data }], guard := none }) (v := ?_) rfl (by kernel_rfl) (by kernel_rfl) (by kernel_rfl) (fun _ _ _ h => h) (Or.inl ⟨by rfl, ?_⟩) hHeld ?_
  rotate_left
  · intro w' hS; obtain ⟨hS0, hS1, hS2, hS3⟩ := hS; go_simp; all_goals (with_reducible rfl)
  (try simp only [Act.put, List.setIfInBounds_toArray, List.set_cons_zero, List.set_cons_succ])
  refine wpAnyH_done (by kernel_rfl) ?_ _
  (try simp only [Act.put, List.setIfInBounds_toArray, List.set_cons_zero, List.set_cons_succ])
  go_upto_region 3 with fail
  refine wp_region_held_drew (S := fun w' => w'.cell? ⟨g, 0, none⟩ = some (Value.slice A n c) ∧ w'.cell? ⟨g, 1, none⟩ = some (.int .i64 (m : Int)) ∧ w'.cell? ⟨g, 3, none⟩ = some (.int .i64 e0) ∧ w'.cell? ⟨g, 4, none⟩ = some (.int .i64 p0)) (by kernel_rfl) (MKSHK.out _ (below_drew (below_drew (Below.refl _ _)))) (fun hHeld => ?_)
  refine wpAnyH_take (i := 0) (oi := { dst := some 27, op := Op.move (Operand.tmp 0), type := 106, pos := "ref.go:221", after := #[], guard := none }) (v := ?_) rfl (by kernel_rfl) (by kernel_rfl) (by kernel_rfl) (fun _ _ _ h => h) (Or.inl ⟨by rfl, ?_⟩) hHeld ?_
  rotate_left
  · intro w' hS; obtain ⟨hS0, hS1, hS2, hS3⟩ := hS; go_simp; all_goals (with_reducible rfl)
  (try simp only [Act.put, List.setIfInBounds_toArray, List.set_cons_zero, List.set_cons_succ])
  refine wpAnyH_take (i := 1) (oi := { dst := some 28, op := Op.nilCheck (Operand.tmp 27), type := 0, pos := "ref.go:221", after := #[{ on := 0, ground := Ground.data }], guard := none }) (v := ?_) rfl (by kernel_rfl) (by kernel_rfl) (by kernel_rfl) (fun _ _ _ h => h) (Or.inl ⟨by rfl, ?_⟩) hHeld ?_
  rotate_left
  · intro w' hS; obtain ⟨hS0, hS1, hS2, hS3⟩ := hS; go_simp; all_goals (with_reducible rfl)
  (try simp only [Act.put, List.setIfInBounds_toArray, List.set_cons_zero, List.set_cons_succ])
  refine wpAnyH_take (i := 2) (oi := { dst := some 29, op := Op.fieldAddr 137 (Operand.tmp 28) 3, type := 0, pos := "ref.go:221", after := #[{ on := 1, ground := Ground.data }], guard := none }) (v := ?_) rfl (by kernel_rfl) (by kernel_rfl) (by kernel_rfl) (fun _ _ _ h => h) (Or.inl ⟨by rfl, ?_⟩) hHeld ?_
  rotate_left
  · intro w' hS; obtain ⟨hS0, hS1, hS2, hS3⟩ := hS; go_simp; all_goals (with_reducible rfl)
  (try simp only [Act.put, List.setIfInBounds_toArray, List.set_cons_zero, List.set_cons_succ])
  refine wpAnyH_take (i := 3) (oi := { dst := some 30, op := Op.load 22 (Operand.tmp 29), type := 22, pos := "ref.go:221", after := #[{ on := 2, ground := Ground.data }], guard := none }) (v := ?_) rfl (by kernel_rfl) (by kernel_rfl) (by kernel_rfl) (fun _ _ _ h => h) (Or.inl ⟨by rfl, ?_⟩) hHeld ?_
  rotate_left
  · intro w' hS; obtain ⟨hS0, hS1, hS2, hS3⟩ := hS; go_simp; all_goals (with_reducible rfl)
  (try simp only [Act.put, List.setIfInBounds_toArray, List.set_cons_zero, List.set_cons_succ])
  refine wpAnyH_take (i := 4) (oi := { dst := some 31, op := Op.move (Operand.tmp 0), type := 106, pos := "ref.go:221", after := #[{ on := 8, ground := Ground.gcOnly Departure.lateStores }], guard := none }) (v := ?_) rfl (by kernel_rfl) (by kernel_rfl) (by kernel_rfl) (fun _ _ _ h => h) (Or.inl ⟨by rfl, ?_⟩) hHeld ?_
  rotate_left
  · intro w' hS; obtain ⟨hS0, hS1, hS2, hS3⟩ := hS; go_simp; all_goals (with_reducible rfl)
  (try simp only [Act.put, List.setIfInBounds_toArray, List.set_cons_zero, List.set_cons_succ])
  refine wpAnyH_take (i := 5) (oi := { dst := some 32, op := Op.nilCheck (Operand.tmp 31), type := 0, pos := "ref.go:221", after := #[{ on := 4, ground := Ground.data }, { on := 8, ground := Ground.gcOnly Departure.lateStores }], guard := none }) (v := ?_) rfl (by kernel_rfl) (by kernel_rfl) (by kernel_rfl) (fun _ _ _ h => h) (Or.inl ⟨by rfl, ?_⟩) hHeld ?_
  rotate_left
  · intro w' hS; obtain ⟨hS0, hS1, hS2, hS3⟩ := hS; go_simp; all_goals (with_reducible rfl)
  (try simp only [Act.put, List.setIfInBounds_toArray, List.set_cons_zero, List.set_cons_succ])
  refine wpAnyH_take (i := 6) (oi := { dst := some 33, op := Op.fieldAddr 137 (Operand.tmp 32) 4, type := 0, pos := "ref.go:221", after := #[{ on := 5, ground := Ground.data }, { on := 8, ground := Ground.gcOnly Departure.lateStores }], guard := none }) (v := ?_) rfl (by kernel_rfl) (by kernel_rfl) (by kernel_rfl) (fun _ _ _ h => h) (Or.inl ⟨by rfl, ?_⟩) hHeld ?_
  rotate_left
  · intro w' hS; obtain ⟨hS0, hS1, hS2, hS3⟩ := hS; go_simp; all_goals (with_reducible rfl)
  (try simp only [Act.put, List.setIfInBounds_toArray, List.set_cons_zero, List.set_cons_succ])
  refine wpAnyH_take (i := 7) (oi := { dst := some 34, op := Op.load 3 (Operand.tmp 33), type := 3, pos := "ref.go:221", after := #[{ on := 6, ground := Ground.data }, { on := 8, ground := Ground.gcOnly Departure.lateStores }], guard := none }) (v := ?_) rfl (by kernel_rfl) (by kernel_rfl) (by kernel_rfl) (fun _ _ _ h => h) (Or.inl ⟨by rfl, ?_⟩) hHeld ?_
  rotate_left
  · intro w' hS; obtain ⟨hS0, hS1, hS2, hS3⟩ := hS; go_simp; all_goals (with_reducible rfl)
  (try simp only [Act.put, List.setIfInBounds_toArray, List.set_cons_zero, List.set_cons_succ])
  refine wpAnyH_take (i := 8) (oi := { dst := some 2, op := Op.assign (Operand.tmp 30), type := 22, pos := "ref.go:221", after := #[{ on := 3, ground := Ground.data }, { on := 0, ground := Ground.phase }, { on := 1, ground := Ground.phase }, { on := 2, ground := Ground.phase }, { on := 3, ground := Ground.phase }, { on := 4, ground := Ground.textOnly Departure.lateStores }, { on := 5, ground := Ground.textOnly Departure.lateStores }, { on := 6, ground := Ground.textOnly Departure.lateStores }, { on := 7, ground := Ground.textOnly Departure.lateStores }], guard := none }) (v := ?_) rfl (by kernel_rfl) (by kernel_rfl) (by kernel_rfl) (fun _ _ _ h => h) (Or.inl ⟨by rfl, ?_⟩) hHeld ?_
  rotate_left
  · intro w' hS; obtain ⟨hS0, hS1, hS2, hS3⟩ := hS; go_simp; all_goals (with_reducible rfl)
  (try simp only [Act.put, List.setIfInBounds_toArray, List.set_cons_zero, List.set_cons_succ])
  refine wpAnyH_take (i := 9) (oi := { dst := some 3, op := Op.assign (Operand.tmp 34), type := 3, pos := "ref.go:221", after := #[{ on := 7, ground := Ground.data }, { on := 8, ground := Ground.chain }, { on := 0, ground := Ground.phase }, { on := 1, ground := Ground.phase }, { on := 2, ground := Ground.phase }, { on := 3, ground := Ground.phase }, { on := 4, ground := Ground.phase }, { on := 5, ground := Ground.phase }, { on := 6, ground := Ground.phase }, { on := 7, ground := Ground.phase }, { on := 8, ground := Ground.phase }], guard := none }) (v := ?_) rfl (by kernel_rfl) (by kernel_rfl) (by kernel_rfl) (fun _ _ _ h => h) (Or.inl ⟨by rfl, ?_⟩) hHeld ?_
  rotate_left
  · intro w' hS; obtain ⟨hS0, hS1, hS2, hS3⟩ := hS; go_simp; all_goals (with_reducible rfl)
  (try simp only [Act.put, List.setIfInBounds_toArray, List.set_cons_zero, List.set_cons_succ])
  refine wpAnyH_done (by kernel_rfl) ?_ _
  (try simp only [Act.put, List.setIfInBounds_toArray, List.set_cons_zero, List.set_cons_succ])
  go_wp2_with fail
  refine ⟨rfl, ?_⟩
  simp [results, Try.results68, go_sem]
  exact below_drew (below_drew (Below.refl _ _))
theorem q_end_ok {m : Nat} {W : World} (k : QAt g B A n c xs most m 0 0 W) :
    Calls Try.prog 68 #[ptr g] W fun e w' => Below B W w' ∧ Kept W w' (fun j => j = g) ∧ e = .returned (.tuple #[.int .i64 (endOf (if m < xs.length then (Res.fail 4 (m : Int) : Res Unit) else .ok () m)).1, .int .i64 (endOf (if m < xs.length then (Res.fail 4 (m : Int) : Res Unit) else .ok () m)).2]) := by
  have HK := Aside0.mk k
  rw [k.len]
  clear k
  obtain ⟨E, hE⟩ : ∃ E, endOf (if m < n then (Res.fail 4 (m : Int) : Res Unit) else .ok () m) = E := ⟨_, rfl⟩
  rw [hE]
  have HE := Aside0.mk hE
  clear hE
  have MKSHK := Aside0.mk (show ∀ w', Below W.heap.size W w' → (fun w' => w'.cell? ⟨g, 0, none⟩ = some (Value.slice A n c) ∧ w'.cell? ⟨g, 1, none⟩ = some (.int .i64 (m : Int)) ∧ w'.cell? ⟨g, 3, none⟩ = some (.int .i64 0) ∧ w'.cell? ⟨g, 4, none⟩ = some (.int .i64 0)) w' from fun w' hb => by
    have r := HK.out.row.below hb
    exact ⟨r.cell 0 _ rfl, r.cell 1 _ rfl, r.cell 3 _ rfl, r.cell 4 _ rfl⟩)
  go_enter Try.func68, Try.ntmps68
  go_upto_region 1 with fail
  refine wp_region_held_drew (S := fun w' => w'.cell? ⟨g, 0, none⟩ = some (Value.slice A n c) ∧ w'.cell? ⟨g, 1, none⟩ = some (.int .i64 (m : Int)) ∧ w'.cell? ⟨g, 3, none⟩ = some (.int .i64 0) ∧ w'.cell? ⟨g, 4, none⟩ = some (.int .i64 0)) (by kernel_rfl) (MKSHK.out _ (below_drew (Below.refl _ _))) (fun hHeld => ?_)
  refine wpAnyH_take (i := 0) (oi := { dst := some 4, op := Op.move (Operand.tmp 0), type := 106, pos := "ref.go:218", after := #[], guard := none }) (v := ?_) rfl (by kernel_rfl) (by kernel_rfl) (by kernel_rfl) (fun _ _ _ h => h) (Or.inl ⟨by rfl, ?_⟩) hHeld ?_
  rotate_left
  · intro w' hS; obtain ⟨hS0, hS1, hS2, hS3⟩ := hS; go_simp; all_goals (with_reducible rfl)
  (try simp only [Act.put, List.setIfInBounds_toArray, List.set_cons_zero, List.set_cons_succ])
  refine wpAnyH_take (i := 1) (oi := { dst := some 5, op := Op.nilCheck (Operand.tmp 4), type := 0, pos := "ref.go:218", after := #[{ on := 0, ground := Ground.data }], guard := none }) (v := ?_) rfl (by kernel_rfl) (by kernel_rfl) (by kernel_rfl) (fun _ _ _ h => h) (Or.inl ⟨by rfl, ?_⟩) hHeld ?_
  rotate_left
  · intro w' hS; obtain ⟨hS0, hS1, hS2, hS3⟩ := hS; go_simp; all_goals (with_reducible rfl)
  (try simp only [Act.put, List.setIfInBounds_toArray, List.set_cons_zero, List.set_cons_succ])
  refine wpAnyH_take (i := 2) (oi := { dst := some 6, op := Op.fieldAddr 137 (Operand.tmp 5) 3, type := 0, pos := "ref.go:218", after := #[{ on := 1, ground := Ground.data }], guard := none }) (v := ?_) rfl (by kernel_rfl) (by kernel_rfl) (by kernel_rfl) (fun _ _ _ h => h) (Or.inl ⟨by rfl, ?_⟩) hHeld ?_
  rotate_left
  · intro w' hS; obtain ⟨hS0, hS1, hS2, hS3⟩ := hS; go_simp; all_goals (with_reducible rfl)
  (try simp only [Act.put, List.setIfInBounds_toArray, List.set_cons_zero, List.set_cons_succ])
  refine wpAnyH_take (i := 3) (oi := { dst := some 7, op := Op.load 22 (Operand.tmp 6), type := 22, pos := "ref.go:218", after := #[{ on := 2, ground := Ground.data }], guard := none }) (v := ?_) rfl (by kernel_rfl) (by kernel_rfl) (by kernel_rfl) (fun _ _ _ h => h) (Or.inl ⟨by rfl, ?_⟩) hHeld ?_
  rotate_left
  · intro w' hS; obtain ⟨hS0, hS1, hS2, hS3⟩ := hS; go_simp; all_goals (with_reducible rfl)
  (try simp only [Act.put, List.setIfInBounds_toArray, List.set_cons_zero, List.set_cons_succ])
  refine wpAnyH_take (i := 4) (oi := { dst := some 8, op := Op.binOp BinOp.eql 22 (Operand.tmp 7) (Operand.const (Value.int IntKind.i64 0)) 22, type := 4, pos := "ref.go:218", after := #[{ on := 3, ground := Ground.data }], guard := none }) (v := ?_) rfl (by kernel_rfl) (by kernel_rfl) (by kernel_rfl) (fun _ _ _ h => h) (Or.inl ⟨by rfl, ?_⟩) hHeld ?_
  rotate_left
  · intro w' hS; obtain ⟨hS0, hS1, hS2, hS3⟩ := hS; go_simp; all_goals (with_reducible rfl)
  (try simp only [Act.put, List.setIfInBounds_toArray, List.set_cons_zero, List.set_cons_succ])
  refine wpAnyH_take (i := 5) (oi := { dst := some 9, op := Op.move (Operand.tmp 8), type := 4, pos := "ref.go:218", after := #[{ on := 4, ground := Ground.data }], guard := none }) (v := ?_) rfl (by kernel_rfl) (by kernel_rfl) (by kernel_rfl) (fun _ _ _ h => h) (Or.inl ⟨by rfl, ?_⟩) hHeld ?_
  rotate_left
  · intro w' hS; obtain ⟨hS0, hS1, hS2, hS3⟩ := hS; go_simp; all_goals (with_reducible rfl)
  (try simp only [Act.put, List.setIfInBounds_toArray, List.set_cons_zero, List.set_cons_succ])
  refine wpAnyH_take (i := 6) (oi := { dst := some 10, op := Op.move (Operand.tmp 0), type := 106, pos := "ref.go:218", after := #[{ on := 5, ground := Ground.guard }], guard := some (5, true) }) (v := ?_) rfl (by kernel_rfl) (by kernel_rfl) (by kernel_rfl) (fun _ _ _ h => h) (Or.inl ⟨by rfl, ?_⟩) hHeld ?_
  rotate_left
  · intro w' hS; obtain ⟨hS0, hS1, hS2, hS3⟩ := hS; go_simp; all_goals (with_reducible rfl)
  (try simp only [Act.put, List.setIfInBounds_toArray, List.set_cons_zero, List.set_cons_succ])
  refine wpAnyH_take (i := 7) (oi := { dst := some 11, op := Op.nilCheck (Operand.tmp 10), type := 0, pos := "ref.go:218", after := #[{ on := 6, ground := Ground.data }, { on := 5, ground := Ground.guard }], guard := some (5, true) }) (v := ?_) rfl (by kernel_rfl) (by kernel_rfl) (by kernel_rfl) (fun _ _ _ h => h) (Or.inl ⟨by rfl, ?_⟩) hHeld ?_
  rotate_left
  · intro w' hS; obtain ⟨hS0, hS1, hS2, hS3⟩ := hS; go_simp; all_goals (with_reducible rfl)
  (try simp only [Act.put, List.setIfInBounds_toArray, List.set_cons_zero, List.set_cons_succ])
  refine wpAnyH_take (i := 8) (oi := { dst := some 12, op := Op.fieldAddr 137 (Operand.tmp 11) 1, type := 0, pos := "ref.go:218", after := #[{ on := 7, ground := Ground.data }, { on := 5, ground := Ground.guard }], guard := some (5, true) }) (v := ?_) rfl (by kernel_rfl) (by kernel_rfl) (by kernel_rfl) (fun _ _ _ h => h) (Or.inl ⟨by rfl, ?_⟩) hHeld ?_
  rotate_left
  · intro w' hS; obtain ⟨hS0, hS1, hS2, hS3⟩ := hS; go_simp; all_goals (with_reducible rfl)
  (try simp only [Act.put, List.setIfInBounds_toArray, List.set_cons_zero, List.set_cons_succ])
  refine wpAnyH_take (i := 9) (oi := { dst := some 13, op := Op.load 3 (Operand.tmp 12), type := 3, pos := "ref.go:218", after := #[{ on := 8, ground := Ground.data }, { on := 5, ground := Ground.guard }], guard := some (5, true) }) (v := ?_) rfl (by kernel_rfl) (by kernel_rfl) (by kernel_rfl) (fun _ _ _ h => h) (Or.inl ⟨by rfl, ?_⟩) hHeld ?_
  rotate_left
  · intro w' hS; obtain ⟨hS0, hS1, hS2, hS3⟩ := hS; go_simp; all_goals (with_reducible rfl)
  (try simp only [Act.put, List.setIfInBounds_toArray, List.set_cons_zero, List.set_cons_succ])
  refine wpAnyH_take (i := 10) (oi := { dst := some 14, op := Op.move (Operand.tmp 0), type := 106, pos := "ref.go:218", after := #[{ on := 5, ground := Ground.guard }], guard := some (5, true) }) (v := ?_) rfl (by kernel_rfl) (by kernel_rfl) (by kernel_rfl) (fun _ _ _ h => h) (Or.inl ⟨by rfl, ?_⟩) hHeld ?_
  rotate_left
  · intro w' hS; obtain ⟨hS0, hS1, hS2, hS3⟩ := hS; go_simp; all_goals (with_reducible rfl)
  (try simp only [Act.put, List.setIfInBounds_toArray, List.set_cons_zero, List.set_cons_succ])
  refine wpAnyH_take (i := 11) (oi := { dst := some 15, op := Op.nilCheck (Operand.tmp 14), type := 0, pos := "ref.go:218", after := #[{ on := 10, ground := Ground.data }, { on := 5, ground := Ground.guard }], guard := some (5, true) }) (v := ?_) rfl (by kernel_rfl) (by kernel_rfl) (by kernel_rfl) (fun _ _ _ h => h) (Or.inl ⟨by rfl, ?_⟩) hHeld ?_
  rotate_left
  · intro w' hS; obtain ⟨hS0, hS1, hS2, hS3⟩ := hS; go_simp; all_goals (with_reducible rfl)
  (try simp only [Act.put, List.setIfInBounds_toArray, List.set_cons_zero, List.set_cons_succ])
  refine wpAnyH_take (i := 12) (oi := { dst := some 16, op := Op.fieldAddr 137 (Operand.tmp 15) 0, type := 0, pos := "ref.go:218", after := #[{ on := 11, ground := Ground.data }, { on := 5, ground := Ground.guard }], guard := some (5, true) }) (v := ?_) rfl (by kernel_rfl) (by kernel_rfl) (by kernel_rfl) (fun _ _ _ h => h) (Or.inl ⟨by rfl, ?_⟩) hHeld ?_
  rotate_left
  · intro w' hS; obtain ⟨hS0, hS1, hS2, hS3⟩ := hS; go_simp; all_goals (with_reducible rfl)
  (try simp only [Act.put, List.setIfInBounds_toArray, List.set_cons_zero, List.set_cons_succ])
  refine wpAnyH_take (i := 13) (oi := { dst := some 17, op := Op.load 26 (Operand.tmp 16), type := 26, pos := "ref.go:218", after := #[{ on := 12, ground := Ground.data }, { on := 5, ground := Ground.guard }], guard := some (5, true) }) (v := ?_) rfl (by kernel_rfl) (by kernel_rfl) (by kernel_rfl) (fun _ _ _ h => h) (Or.inl ⟨by rfl, ?_⟩) hHeld ?_
  rotate_left
  · intro w' hS; obtain ⟨hS0, hS1, hS2, hS3⟩ := hS; go_simp; all_goals (with_reducible rfl)
  (try simp only [Act.put, List.setIfInBounds_toArray, List.set_cons_zero, List.set_cons_succ])
  refine wpAnyH_take (i := 14) (oi := { dst := some 18, op := Op.call { callee := Callee.builtin Builtin.len, args := #[Operand.tmp 17], argTypes := #[26] }, type := 3, pos := "ref.go:218", after := #[{ on := 13, ground := Ground.data }, { on := 5, ground := Ground.guard }], guard := some (5, true) }) (v := ?_) rfl (by kernel_rfl) (by kernel_rfl) (by kernel_rfl) (fun _ _ _ h => h) (Or.inl ⟨by rfl, ?_⟩) hHeld ?_
  rotate_left
  · intro w' hS; obtain ⟨hS0, hS1, hS2, hS3⟩ := hS; go_simp; all_goals (with_reducible rfl)
  (try simp only [Act.put, List.setIfInBounds_toArray, List.set_cons_zero, List.set_cons_succ])
  refine wpAnyH_take (i := 15) (oi := { dst := some 19, op := Op.binOp BinOp.lss 3 (Operand.tmp 13) (Operand.tmp 18) 3, type := 4, pos := "ref.go:218", after := #[{ on := 9, ground := Ground.data }, { on := 14, ground := Ground.data }, { on := 5, ground := Ground.guard }], guard := some (5, true) }) (v := ?_) rfl (by kernel_rfl) (by kernel_rfl) (by kernel_rfl) (fun _ _ _ h => h) (Or.inl ⟨by rfl, ?_⟩) hHeld ?_
  rotate_left
  · intro w' hS; obtain ⟨hS0, hS1, hS2, hS3⟩ := hS; go_simp; all_goals (with_reducible rfl)
  (try simp only [Act.put, List.setIfInBounds_toArray, List.set_cons_zero, List.set_cons_succ])
  refine wpAnyH_take (i := 16) (oi := { dst := some 20, op := Op.pick (Operand.tmp 9) (Operand.tmp 19) (Operand.const (Value.bool false)), type := 4, pos := "ref.go:218", after := #[{ on := 5, ground := Ground.data }, { on := 15, ground := Ground.data }], guard := none }) (v := ?_) rfl (by kernel_rfl) (by kernel_rfl) (by kernel_rfl) (fun _ _ _ h => h) (Or.inl ⟨by rfl, ?_⟩) hHeld ?_
  rotate_left
  · intro w' hS; obtain ⟨hS0, hS1, hS2, hS3⟩ := hS; go_simp; all_goals (with_reducible rfl)
  (try simp only [Act.put, List.setIfInBounds_toArray, List.set_cons_zero, List.set_cons_succ])
  refine wpAnyH_done (by kernel_rfl) ?_ _
  (try simp only [Act.put, List.setIfInBounds_toArray, List.set_cons_zero, List.set_cons_succ])
  have B1 := Aside0.mk (show Below W.heap.size W W.drew from below_drew (Below.refl _ _))
  have c1 := (MKSHK.out _ B1.out).2.1
  by_cases hm : m < n
  · have d1 : decide ((m : Int) < (n : Int)) = true := decide_eq_true (by omega)
    have d2 : decide (m < n) = true := decide_eq_true hm
    simp only [d2]
    have HE2 := Aside0.mk (show E = (4, (m : Int)) by rw [← HE.out, if_pos hm]; rfl)
    clear hm
    generalize W.drew = w1 at *
    go_wp2_with fail
    go_at_call 120
    refine (q_fail (HK.out.below B1.out) 4 (m : Int) (by decide)).mono ?_
    rintro e w2 ⟨rfl, hk, hb, hkp⟩
    have K2 := Aside0.mk hk
    have B2 := Aside0.mk ((B1.out.mono HK.out.size).trans hb)
    have P2 := Aside0.mk ((Kept.of_below B1.out (fun j => j = g)).then_ hkp (fun _ h => .inl h))
    clear hk hb hkp c1
    go_upto_region 3 with fail
    have MKSK2 := Aside0.mk (show ∀ w', Below w2.heap.size w2 w' → (fun w' => w'.cell? ⟨g, 0, none⟩ = some (Value.slice A n c) ∧ w'.cell? ⟨g, 1, none⟩ = some (.int .i64 (m : Int)) ∧ w'.cell? ⟨g, 3, none⟩ = some (.int .i64 4) ∧ w'.cell? ⟨g, 4, none⟩ = some (.int .i64 (m : Int))) w' from fun w' hb => by
      have r := K2.out.row.below hb
      exact ⟨r.cell 0 _ rfl, r.cell 1 _ rfl, r.cell 3 _ rfl, r.cell 4 _ rfl⟩)
    refine wp_region_held_drew (S := fun w' => w'.cell? ⟨g, 0, none⟩ = some (Value.slice A n c) ∧ w'.cell? ⟨g, 1, none⟩ = some (.int .i64 (m : Int)) ∧ w'.cell? ⟨g, 3, none⟩ = some (.int .i64 4) ∧ w'.cell? ⟨g, 4, none⟩ = some (.int .i64 (m : Int))) (by kernel_rfl) (MKSK2.out _ (below_drew (Below.refl _ _))) (fun hHeld => ?_)
    refine wpAnyH_take (i := 0) (oi := { dst := some 27, op := Op.move (Operand.tmp 0), type := 106, pos := "ref.go:221", after := #[], guard := none }) (v := ?_) rfl (by kernel_rfl) (by kernel_rfl) (by kernel_rfl) (fun _ _ _ h => h) (Or.inl ⟨by rfl, ?_⟩) hHeld ?_
    rotate_left
    · intro w' hS; obtain ⟨hS0, hS1, hS2, hS3⟩ := hS; go_simp; all_goals (with_reducible rfl)
    (try simp only [Act.put, List.setIfInBounds_toArray, List.set_cons_zero, List.set_cons_succ])
    refine wpAnyH_take (i := 1) (oi := { dst := some 28, op := Op.nilCheck (Operand.tmp 27), type := 0, pos := "ref.go:221", after := #[{ on := 0, ground := Ground.data }], guard := none }) (v := ?_) rfl (by kernel_rfl) (by kernel_rfl) (by kernel_rfl) (fun _ _ _ h => h) (Or.inl ⟨by rfl, ?_⟩) hHeld ?_
    rotate_left
    · intro w' hS; obtain ⟨hS0, hS1, hS2, hS3⟩ := hS; go_simp; all_goals (with_reducible rfl)
    (try simp only [Act.put, List.setIfInBounds_toArray, List.set_cons_zero, List.set_cons_succ])
    refine wpAnyH_take (i := 2) (oi := { dst := some 29, op := Op.fieldAddr 137 (Operand.tmp 28) 3, type := 0, pos := "ref.go:221", after := #[{ on := 1, ground := Ground.data }], guard := none }) (v := ?_) rfl (by kernel_rfl) (by kernel_rfl) (by kernel_rfl) (fun _ _ _ h => h) (Or.inl ⟨by rfl, ?_⟩) hHeld ?_
    rotate_left
    · intro w' hS; obtain ⟨hS0, hS1, hS2, hS3⟩ := hS; go_simp; all_goals (with_reducible rfl)
    (try simp only [Act.put, List.setIfInBounds_toArray, List.set_cons_zero, List.set_cons_succ])
    refine wpAnyH_take (i := 3) (oi := { dst := some 30, op := Op.load 22 (Operand.tmp 29), type := 22, pos := "ref.go:221", after := #[{ on := 2, ground := Ground.data }], guard := none }) (v := ?_) rfl (by kernel_rfl) (by kernel_rfl) (by kernel_rfl) (fun _ _ _ h => h) (Or.inl ⟨by rfl, ?_⟩) hHeld ?_
    rotate_left
    · intro w' hS; obtain ⟨hS0, hS1, hS2, hS3⟩ := hS; go_simp; all_goals (with_reducible rfl)
    (try simp only [Act.put, List.setIfInBounds_toArray, List.set_cons_zero, List.set_cons_succ])
    refine wpAnyH_take (i := 4) (oi := { dst := some 31, op := Op.move (Operand.tmp 0), type := 106, pos := "ref.go:221", after := #[{ on := 8, ground := Ground.gcOnly Departure.lateStores }], guard := none }) (v := ?_) rfl (by kernel_rfl) (by kernel_rfl) (by kernel_rfl) (fun _ _ _ h => h) (Or.inl ⟨by rfl, ?_⟩) hHeld ?_
    rotate_left
    · intro w' hS; obtain ⟨hS0, hS1, hS2, hS3⟩ := hS; go_simp; all_goals (with_reducible rfl)
    (try simp only [Act.put, List.setIfInBounds_toArray, List.set_cons_zero, List.set_cons_succ])
    refine wpAnyH_take (i := 5) (oi := { dst := some 32, op := Op.nilCheck (Operand.tmp 31), type := 0, pos := "ref.go:221", after := #[{ on := 4, ground := Ground.data }, { on := 8, ground := Ground.gcOnly Departure.lateStores }], guard := none }) (v := ?_) rfl (by kernel_rfl) (by kernel_rfl) (by kernel_rfl) (fun _ _ _ h => h) (Or.inl ⟨by rfl, ?_⟩) hHeld ?_
    rotate_left
    · intro w' hS; obtain ⟨hS0, hS1, hS2, hS3⟩ := hS; go_simp; all_goals (with_reducible rfl)
    (try simp only [Act.put, List.setIfInBounds_toArray, List.set_cons_zero, List.set_cons_succ])
    refine wpAnyH_take (i := 6) (oi := { dst := some 33, op := Op.fieldAddr 137 (Operand.tmp 32) 4, type := 0, pos := "ref.go:221", after := #[{ on := 5, ground := Ground.data }, { on := 8, ground := Ground.gcOnly Departure.lateStores }], guard := none }) (v := ?_) rfl (by kernel_rfl) (by kernel_rfl) (by kernel_rfl) (fun _ _ _ h => h) (Or.inl ⟨by rfl, ?_⟩) hHeld ?_
    rotate_left
    · intro w' hS; obtain ⟨hS0, hS1, hS2, hS3⟩ := hS; go_simp; all_goals (with_reducible rfl)
    (try simp only [Act.put, List.setIfInBounds_toArray, List.set_cons_zero, List.set_cons_succ])
    refine wpAnyH_take (i := 7) (oi := { dst := some 34, op := Op.load 3 (Operand.tmp 33), type := 3, pos := "ref.go:221", after := #[{ on := 6, ground := Ground.data }, { on := 8, ground := Ground.gcOnly Departure.lateStores }], guard := none }) (v := ?_) rfl (by kernel_rfl) (by kernel_rfl) (by kernel_rfl) (fun _ _ _ h => h) (Or.inl ⟨by rfl, ?_⟩) hHeld ?_
    rotate_left
    · intro w' hS; obtain ⟨hS0, hS1, hS2, hS3⟩ := hS; go_simp; all_goals (with_reducible rfl)
    (try simp only [Act.put, List.setIfInBounds_toArray, List.set_cons_zero, List.set_cons_succ])
    refine wpAnyH_take (i := 8) (oi := { dst := some 2, op := Op.assign (Operand.tmp 30), type := 22, pos := "ref.go:221", after := #[{ on := 3, ground := Ground.data }, { on := 0, ground := Ground.phase }, { on := 1, ground := Ground.phase }, { on := 2, ground := Ground.phase }, { on := 3, ground := Ground.phase }, { on := 4, ground := Ground.textOnly Departure.lateStores }, { on := 5, ground := Ground.textOnly Departure.lateStores }, { on := 6, ground := Ground.textOnly Departure.lateStores }, { on := 7, ground := Ground.textOnly Departure.lateStores }], guard := none }) (v := ?_) rfl (by kernel_rfl) (by kernel_rfl) (by kernel_rfl) (fun _ _ _ h => h) (Or.inl ⟨by rfl, ?_⟩) hHeld ?_
    rotate_left
    · intro w' hS; obtain ⟨hS0, hS1, hS2, hS3⟩ := hS; go_simp; all_goals (with_reducible rfl)
    (try simp only [Act.put, List.setIfInBounds_toArray, List.set_cons_zero, List.set_cons_succ])
    refine wpAnyH_take (i := 9) (oi := { dst := some 3, op := Op.assign (Operand.tmp 34), type := 3, pos := "ref.go:221", after := #[{ on := 7, ground := Ground.data }, { on := 8, ground := Ground.chain }, { on := 0, ground := Ground.phase }, { on := 1, ground := Ground.phase }, { on := 2, ground := Ground.phase }, { on := 3, ground := Ground.phase }, { on := 4, ground := Ground.phase }, { on := 5, ground := Ground.phase }, { on := 6, ground := Ground.phase }, { on := 7, ground := Ground.phase }, { on := 8, ground := Ground.phase }], guard := none }) (v := ?_) rfl (by kernel_rfl) (by kernel_rfl) (by kernel_rfl) (fun _ _ _ h => h) (Or.inl ⟨by rfl, ?_⟩) hHeld ?_
    rotate_left
    · intro w' hS; obtain ⟨hS0, hS1, hS2, hS3⟩ := hS; go_simp; all_goals (with_reducible rfl)
    (try simp only [Act.put, List.setIfInBounds_toArray, List.set_cons_zero, List.set_cons_succ])
    refine wpAnyH_done (by kernel_rfl) ?_ _
    (try simp only [Act.put, List.setIfInBounds_toArray, List.set_cons_zero, List.set_cons_succ])
    go_wp2_with fail
    refine ⟨rfl, ?_⟩
    simp [results, Try.results68, go_sem]
    have hd : Below w2.heap.size w2 w2.drew := below_drew (Below.refl _ _)
    exact ⟨B2.out.trans (hd.mono K2.out.size), P2.out.then_ (Kept.of_below hd (fun j => j = g)) (fun _ h => .inl h), by rw [HE2.out]; exact ⟨rfl, rfl⟩⟩
  · have d1 : decide ((m : Int) < (n : Int)) = false := decide_eq_false (by omega)
    have d2 : decide (m < n) = false := decide_eq_false hm
    simp only [d2]
    have d3 : ((m : Int) < (n : Int)) = False := eq_false (by omega)
    have HE2 := Aside0.mk (show E = (0, 0) by rw [← HE.out, if_neg hm]; rfl)
    clear hm
    go_upto_region 3 with fail
    refine wp_region_held_drew (S := fun w' => w'.cell? ⟨g, 0, none⟩ = some (Value.slice A n c) ∧ w'.cell? ⟨g, 1, none⟩ = some (.int .i64 (m : Int)) ∧ w'.cell? ⟨g, 3, none⟩ = some (.int .i64 0) ∧ w'.cell? ⟨g, 4, none⟩ = some (.int .i64 0)) (by kernel_rfl) (MKSHK.out _ (below_drew B1.out)) (fun hHeld => ?_)
    refine wpAnyH_take (i := 0) (oi := { dst := some 27, op := Op.move (Operand.tmp 0), type := 106, pos := "ref.go:221", after := #[], guard := none }) (v := ?_) rfl (by kernel_rfl) (by kernel_rfl) (by kernel_rfl) (fun _ _ _ h => h) (Or.inl ⟨by rfl, ?_⟩) hHeld ?_
    rotate_left
    · intro w' hS; obtain ⟨hS0, hS1, hS2, hS3⟩ := hS; go_simp; all_goals (with_reducible rfl)
    (try simp only [Act.put, List.setIfInBounds_toArray, List.set_cons_zero, List.set_cons_succ])
    refine wpAnyH_take (i := 1) (oi := { dst := some 28, op := Op.nilCheck (Operand.tmp 27), type := 0, pos := "ref.go:221", after := #[{ on := 0, ground := Ground.data }], guard := none }) (v := ?_) rfl (by kernel_rfl) (by kernel_rfl) (by kernel_rfl) (fun _ _ _ h => h) (Or.inl ⟨by rfl, ?_⟩) hHeld ?_
    rotate_left
    · intro w' hS; obtain ⟨hS0, hS1, hS2, hS3⟩ := hS; go_simp; all_goals (with_reducible rfl)
    (try simp only [Act.put, List.setIfInBounds_toArray, List.set_cons_zero, List.set_cons_succ])
    refine wpAnyH_take (i := 2) (oi := { dst := some 29, op := Op.fieldAddr 137 (Operand.tmp 28) 3, type := 0, pos := "ref.go:221", after := #[{ on := 1, ground := Ground.data }], guard := none }) (v := ?_) rfl (by kernel_rfl) (by kernel_rfl) (by kernel_rfl) (fun _ _ _ h => h) (Or.inl ⟨by rfl, ?_⟩) hHeld ?_
    rotate_left
    · intro w' hS; obtain ⟨hS0, hS1, hS2, hS3⟩ := hS; go_simp; all_goals (with_reducible rfl)
    (try simp only [Act.put, List.setIfInBounds_toArray, List.set_cons_zero, List.set_cons_succ])
    refine wpAnyH_take (i := 3) (oi := { dst := some 30, op := Op.load 22 (Operand.tmp 29), type := 22, pos := "ref.go:221", after := #[{ on := 2, ground := Ground.data }], guard := none }) (v := ?_) rfl (by kernel_rfl) (by kernel_rfl) (by kernel_rfl) (fun _ _ _ h => h) (Or.inl ⟨by rfl, ?_⟩) hHeld ?_
    rotate_left
    · intro w' hS; obtain ⟨hS0, hS1, hS2, hS3⟩ := hS; go_simp; all_goals (with_reducible rfl)
    (try simp only [Act.put, List.setIfInBounds_toArray, List.set_cons_zero, List.set_cons_succ])
    refine wpAnyH_take (i := 4) (oi := { dst := some 31, op := Op.move (Operand.tmp 0), type := 106, pos := "ref.go:221", after := #[{ on := 8, ground := Ground.gcOnly Departure.lateStores }], guard := none }) (v := ?_) rfl (by kernel_rfl) (by kernel_rfl) (by kernel_rfl) (fun _ _ _ h => h) (Or.inl ⟨by rfl, ?_⟩) hHeld ?_
    rotate_left
    · intro w' hS; obtain ⟨hS0, hS1, hS2, hS3⟩ := hS; go_simp; all_goals (with_reducible rfl)
    (try simp only [Act.put, List.setIfInBounds_toArray, List.set_cons_zero, List.set_cons_succ])
    refine wpAnyH_take (i := 5) (oi := { dst := some 32, op := Op.nilCheck (Operand.tmp 31), type := 0, pos := "ref.go:221", after := #[{ on := 4, ground := Ground.data }, { on := 8, ground := Ground.gcOnly Departure.lateStores }], guard := none }) (v := ?_) rfl (by kernel_rfl) (by kernel_rfl) (by kernel_rfl) (fun _ _ _ h => h) (Or.inl ⟨by rfl, ?_⟩) hHeld ?_
    rotate_left
    · intro w' hS; obtain ⟨hS0, hS1, hS2, hS3⟩ := hS; go_simp; all_goals (with_reducible rfl)
    (try simp only [Act.put, List.setIfInBounds_toArray, List.set_cons_zero, List.set_cons_succ])
    refine wpAnyH_take (i := 6) (oi := { dst := some 33, op := Op.fieldAddr 137 (Operand.tmp 32) 4, type := 0, pos := "ref.go:221", after := #[{ on := 5, ground := Ground.data }, { on := 8, ground := Ground.gcOnly Departure.lateStores }], guard := none }) (v := ?_) rfl (by kernel_rfl) (by kernel_rfl) (by kernel_rfl) (fun _ _ _ h => h) (Or.inl ⟨by rfl, ?_⟩) hHeld ?_
    rotate_left
    · intro w' hS; obtain ⟨hS0, hS1, hS2, hS3⟩ := hS; go_simp; all_goals (with_reducible rfl)
    (try simp only [Act.put, List.setIfInBounds_toArray, List.set_cons_zero, List.set_cons_succ])
    refine wpAnyH_take (i := 7) (oi := { dst := some 34, op := Op.load 3 (Operand.tmp 33), type := 3, pos := "ref.go:221", after := #[{ on := 6, ground := Ground.data }, { on := 8, ground := Ground.gcOnly Departure.lateStores }], guard := none }) (v := ?_) rfl (by kernel_rfl) (by kernel_rfl) (by kernel_rfl) (fun _ _ _ h => h) (Or.inl ⟨by rfl, ?_⟩) hHeld ?_
    rotate_left
    · intro w' hS; obtain ⟨hS0, hS1, hS2, hS3⟩ := hS; go_simp; all_goals (with_reducible rfl)
    (try simp only [Act.put, List.setIfInBounds_toArray, List.set_cons_zero, List.set_cons_succ])
    refine wpAnyH_take (i := 8) (oi := { dst := some 2, op := Op.assign (Operand.tmp 30), type := 22, pos := "ref.go:221", after := #[{ on := 3, ground := Ground.data }, { on := 0, ground := Ground.phase }, { on := 1, ground := Ground.phase }, { on := 2, ground := Ground.phase }, { on := 3, ground := Ground.phase }, { on := 4, ground := Ground.textOnly Departure.lateStores }, { on := 5, ground := Ground.textOnly Departure.lateStores }, { on := 6, ground := Ground.textOnly Departure.lateStores }, { on := 7, ground := Ground.textOnly Departure.lateStores }], guard := none }) (v := ?_) rfl (by kernel_rfl) (by kernel_rfl) (by kernel_rfl) (fun _ _ _ h => h) (Or.inl ⟨by rfl, ?_⟩) hHeld ?_
    rotate_left
    · intro w' hS; obtain ⟨hS0, hS1, hS2, hS3⟩ := hS; go_simp; all_goals (with_reducible rfl)
    (try simp only [Act.put, List.setIfInBounds_toArray, List.set_cons_zero, List.set_cons_succ])
    refine wpAnyH_take (i := 9) (oi := { dst := some 3, op := Op.assign (Operand.tmp 34), type := 3, pos := "ref.go:221", after := #[{ on := 7, ground := Ground.data }, { on := 8, ground := Ground.chain }, { on := 0, ground := Ground.phase }, { on := 1, ground := Ground.phase }, { on := 2, ground := Ground.phase }, { on := 3, ground := Ground.phase }, { on := 4, ground := Ground.phase }, { on := 5, ground := Ground.phase }, { on := 6, ground := Ground.phase }, { on := 7, ground := Ground.phase }, { on := 8, ground := Ground.phase }], guard := none }) (v := ?_) rfl (by kernel_rfl) (by kernel_rfl) (by kernel_rfl) (fun _ _ _ h => h) (Or.inl ⟨by rfl, ?_⟩) hHeld ?_
    rotate_left
    · intro w' hS; obtain ⟨hS0, hS1, hS2, hS3⟩ := hS; go_simp; all_goals (with_reducible rfl)
    (try simp only [Act.put, List.setIfInBounds_toArray, List.set_cons_zero, List.set_cons_succ])
    refine wpAnyH_done (by kernel_rfl) ?_ _
    (try simp only [Act.put, List.setIfInBounds_toArray, List.set_cons_zero, List.set_cons_succ])
    go_wp2_with fail
    refine ⟨rfl, ?_⟩
    simp [results, Try.results68, go_sem]
    have hd : Below W.heap.size W W.drew.drew := below_drew B1.out
    exact ⟨hd.mono HK.out.size, Kept.of_below hd (fun j => j = g), by rw [HE2.out]; exact ⟨rfl, rfl⟩⟩
theorem tailOf_ok {α : Type} (xs : List Int) (x : α) (m : Nat) : endOf (tailOf xs (.ok x m)) = endOf (if m < xs.length then (Res.fail 4 (m : Int) : Res Unit) else .ok () m) := by
  unfold tailOf
  simp only [Res.bind]
  split <;> rfl
theorem q_end {α : Type} {r : Res α} {W : World} (k : QSt g B A n c xs most r W) :
    Calls Try.prog 68 #[ptr g] W fun e w' => Below B W w' ∧ Kept W w' (fun j => j = g) ∧ e = .returned (.tuple #[.int .i64 (endOf (tailOf xs r)).1, .int .i64 (endOf (tailOf xs r)).2]) := by
  cases r with
  | ok x m =>
    rw [tailOf_ok]
    exact q_end_ok k
  | fail e p =>
    obtain ⟨he, m, hk⟩ := k
    refine (q_end_no hk he).mono ?_
    rintro e' w' ⟨hb, rfl⟩
    exact ⟨hb.mono hk.size, Kept.of_below hb _, rfl⟩
end Go.Proofs.Ytafmoglaockepaa.Cd
end
section
namespace Go.Proofs.Ytafmoglaockepaa.Cd
open Go Go.RowKit Go.Proofs.Ytafmoglaockepaa.Num Go.Proofs.Ytafmoglaockepaa.PG Go.Proofs.YtafmoglaockepaaW.PrintWords Go.Proofs.YtafmoglaockepaaW.PrintLast Go.Proofs.YtafmoglaockepaaW.PrintMore
set_option linter.unusedVariables false
set_option linter.unusedSimpArgs false
set_option maxHeartbeats 4000000
set_option maxRecDepth 100000
variable {g B : Nat} {A : Option Addr} {n c : Nat} {xs : List Int} {most : Nat}
def oneMoreP {α : Type} (p : Nat → Res α) (m : Nat) (l : List α) : Res (List α) := (p m).bind fun x m => .ok (l ++ [x]) m
theorem oneMoreP_is {α : Type} {p : Nat → Res α} {m u i : Nat} {y : List α} {T : Res (List α)} {x : α} {w : World}
    (k : QSt g B A n c xs most ((Res.ok y m : Res (List α)).bind fun _ m => p m) w) (h : ∀ y' m', ((Res.ok y m : Res (List α)).bind fun _ m => p m) = .ok y' m' → y' = x)
    (hT : (Res.ok y m).bind (fun l m => pN p (u - i) l m) = T) (ci : i < u) :
    QSt g B A n c xs most (oneMoreP p m y) w ∧ (∀ l m2, oneMoreP p m y = .ok l m2 → l = y ++ [x]) ∧ (oneMoreP p m y).bind (fun l m => pN p (u - (i + 1)) l m) = T := by
  rw [show u - i = (u - (i + 1)) + 1 from by omega] at hT
  simp only [Res.bind, pN] at hT
  unfold oneMoreP
  revert k h hT
  simp only [Res.bind]
  cases p m with
  | fail e q => exact fun k _ hT => ⟨k, fun l m2 h => by simp at h, hT⟩
  | ok x' m1 =>
    intro k h hT
    refine ⟨k, fun l m4 h2 => ?_, hT⟩
    injection h2 with h3 h4
    rw [← h3, h _ _ rfl]
theorem fin_is {α : Type} {s0 : Res Unit} {p : Nat → Res α} {x : α} {w : World} (k : QSt g B A n c xs most (s0.bind fun _ m => p m) w) (h : ∀ y m, (s0.bind fun _ m => p m) = .ok y m → y = x) :
    endOf (tailOf xs (s0.bind fun _ m => p m)) = endOf (s0.bind fun _ m => tailOf xs (p m)) ∧ ((∃ m, (s0.bind fun _ m => tailOf xs (p m)) = .ok x m) ∨ ∃ e q, (s0.bind fun _ m => tailOf xs (p m)) = .fail e q ∧ e ≠ 0) := by
  revert k h
  unfold tailOf
  cases s0 with
  | fail e q => exact fun k _ => ⟨by first | rfl | trivial, .inr ⟨e, q, rfl, k.1⟩⟩
  | ok u m0 =>
    simp only [Res.bind]
    cases p m0 with
    | fail e q => exact fun k _ => ⟨by first | rfl | trivial, .inr ⟨e, q, rfl, k.1⟩⟩
    | ok x0 m1 =>
      intro k h
      simp only
      rw [h _ _ rfl]
      split
      · exact ⟨by first | rfl | trivial, .inr ⟨4, _, rfl, by decide⟩⟩
      · exact ⟨by first | rfl | trivial, .inl ⟨_, rfl⟩⟩
theorem line_is {α : Type} {s0 : Res α} {w : World} {t : ByteArray} {a : Int}
    (k : QSt g B A n c xs most ((s0.bind fun _ m => pT xs most m).bind fun _ m => pI xs m) w)
    (e0 : ∀ x m, (s0.bind fun _ m => pT xs most m) = .ok x m → x = t)
    (e1 : ∀ x m, ((s0.bind fun _ m => pT xs most m).bind fun _ m => pI xs m) = .ok x m → x = a) :
    QSt g B A n c xs most (s0.bind fun _ m => pLine xs most m) w ∧ ∀ yy m, (s0.bind fun _ m => pLine xs most m) = .ok yy m → yy = ⟨t, a⟩ := by
  revert k e0 e1
  unfold pLine
  cases s0 with
  | fail e p => exact fun k _ _ => ⟨k, fun yy m h => by simp [Res.bind] at h⟩
  | ok u m0 =>
    simp only [Res.bind]
    cases pT xs most m0 with
    | fail e p => exact fun k _ _ => ⟨k, fun yy m h => by simp [Res.bind] at h⟩
    | ok q0 m1 =>
      simp only
      cases pI xs m1 with
      | fail e p => exact fun k _ _ => ⟨k, fun yy m h => by simp [Res.bind] at h⟩
      | ok q1 m2 =>
        intro k e0 e1
        refine ⟨k, fun yy m h => ?_⟩
        injection h with h1 h2
        rw [← h1, e0 _ _ rfl, e1 _ _ rfl]
theorem q_lines {α : Type} {r : Res α} {W : World} (k : QSt g B A n c xs most r W) (hmb : most < 1000000000) :
    Calls Try.prog 97 #[ptr g] W fun e w' => Below B W w' ∧ Kept W w' (fun j => j = g) ∧ OutQ g B A n c xs most (LN W.heap.size) (r.bind fun _ m => pList xs most (pLine xs most) m) e w' := by
  have HK := Aside0.mk k
  have HMB := Aside0.mk hmb
  have HMY := Aside0.mk (q_many k)
  clear k hmb
  go_enter Try.func97, Try.ntmps97
  go_wp2_with fail
  go_at_call 96
  refine HMY.out.mono ?_
  rintro e w1 ⟨hb, hp, u, v, rfl, rfl, hu, hq⟩
  obtain ⟨S0, hS0⟩ : ∃ S0, W.heap.size = S0 := ⟨_, rfl⟩
  have HS0 := Aside0.mk hS0
  have HLT := Aside0.mk (show g < S0 ∧ B ≤ S0 by have := HK.out.lt; have := HK.out.size; omega)
  obtain ⟨T, hT⟩ : ∃ T, (r.bind fun _ m => pList xs most (pLine xs most) m) = T := ⟨_, rfl⟩
  have HT := Aside0.mk hT
  have B1 := Aside0.mk hb
  have P1 := Aside0.mk hp
  have HI := Aside0.mk (show ∃ st : Res (List S110), QSt g B A n c xs most st w1 ∧ (∀ y m, st = .ok y m → y = [] ∧ u ≤ most) ∧ st.bind (fun l m => pN (pLine xs most) (u - 0) l m) = T from by
    cases r with
    | fail e p =>
      simp only [Res.bind] at hT hq ⊢
      exact ⟨.fail e p, hq, fun y m h => by simp at h, hT⟩
    | ok x m =>
      cases hpu : pU xs most m with
      | fail e p =>
        simp only [Res.bind, hpu] at hq
        refine ⟨.fail e p, hq, fun y m h => by simp at h, ?_⟩
        simp only [Res.bind, pList, hpu] at hT ⊢
        exact hT
      | ok k m2 =>
        simp only [Res.bind, hpu] at hq hu
        obtain rfl := hu k m2 rfl
        refine ⟨.ok [] m2, hq, fun y m h => by cases h; exact ⟨rfl, pU_le hpu⟩, ?_⟩
        simp only [Res.bind, pList, hpu, Nat.sub_zero] at hT ⊢
        exact hT)
  clear hb hp hu hq hT hS0 HMY
  go_wp2_with fail
  go_loopw [3, 5] (fun v p wr => ∃ (i : Nat) (l : List S110) (st : Res (List S110)), p = .int .i64 (i : Int) ∧ Aside0 (l.length = i) ∧ Aside0 (QSt g B A n c xs most st wr) ∧ Aside0 (∀ y m, st = .ok y m → y = l ∧ i ≤ u ∧ u ≤ most) ∧ Aside0 (st.bind (fun l m => pN (pLine xs most) (u - i) l m) = T) ∧ Aside0 (LN S0 l v wr) ∧ Aside0 (Below B W wr) ∧ Aside0 (Kept W wr (fun j => j = g))) (fun _ p _ => u - (intOf p).toNat)
  · obtain ⟨st, h1, h2, h3⟩ := HI.out
    exact ⟨0, [], st, rfl, ⟨rfl⟩, ⟨h1⟩, ⟨fun y m h => ⟨(h2 y m h).1, Nat.zero_le _, (h2 y m h).2⟩⟩, ⟨h3⟩, ⟨Kd.R_nil _ _ _ _ _⟩, B1, P1⟩
  · obtain ⟨i, l, st, rfl, HLN, HQ, HST, HPN, HR, HBr, HPr⟩ := hrel
    by_cases ci : i < u
    rotate_left
    · have ci1 : decide ((i : Int) < (u : Int)) = false := decide_eq_false (by omega)
      have HE := Aside0.mk (show QSt g B A n c xs most T wr ∧ ∀ y m, T = .ok y m → y = l from by
        have h := HPN.out
        rw [show u - i = 0 from by omega] at h
        cases st with
        | fail e p =>
          simp only [Res.bind] at h
          subst h
          exact ⟨HQ.out, fun y m h => by simp at h⟩
        | ok y m =>
          simp only [Res.bind, pN] at h
          subst h
          exact ⟨HQ.out, fun z m2 h => by
            injection h with h1 _
            rw [← h1]
            exact (HST.out y m rfl).1⟩)
      have ci2 : ((i : Int) < (u : Int)) = False := eq_false (by omega)
      have ci3 : decide (i < u) = false := decide_eq_false ci
      have ci4 : (i < u) = False := eq_false ci
      obtain ⟨e, hc3, hcs⟩ := HQ.out.cell3
      clear ci hcs
      go_wp2_with fail
      go_ret
      rw [HT.out, HS0.out]
      exact ⟨HBr.out, HPr.out, l, _, rfl, HR.out, HE.out.2, HE.out.1⟩
    have ci1 : decide ((i : Int) < (u : Int)) = true := decide_eq_true (by omega)
    obtain ⟨e, hc3, hcs⟩ := HQ.out.cell3
    rcases hcs with ⟨⟨y, m, hst⟩, rfl⟩ | ⟨⟨p, hst⟩, he⟩
    rotate_left
    · subst hst
      have h1 : (e == 0) = false := by simpa using he
      have h2 : decide (e = 0) = false := decide_eq_false he
      clear he
      go_wp2_with fail
      go_ret
      rw [HT.out, HS0.out]
      have hT : Res.fail e p = T := HPN.out
      subst hT
      exact ⟨HBr.out, HPr.out, l, _, rfl, HR.out, fun y m h => by simp at h, HQ.out⟩
    subst hst
    obtain ⟨rfl, hiu, hum⟩ := HST.out _ _ rfl
    have HUM := Aside0.mk (And.intro hiu hum)
    have HOU := Aside0.mk (own_under HR.out)
    have hw1 : wrap64 ((i : Int) + 1) = ((i + 1 : Nat) : Int) := by have := HMB.out; unfold wrap64; omega
    clear hiu hum
    go_upto_region 7 with fail
    have hr1 : Rt 110 wr.heap.size [.string ⟨#[]⟩, .int .i64 0] (wr.alloc (.cells #[.string ⟨#[]⟩, .int .i64 0] 110)) := heap_alloc_new wr _
    have hb1 : Below wr.heap.size wr (wr.alloc (.cells #[.string ⟨#[]⟩, .int .i64 0] 110)) := below_alloc (Below.refl _ _) _
    obtain ⟨b, hbe⟩ : ∃ b, wr.heap.size = b := ⟨_, rfl⟩
    have HL0 := HLT.out
    have HLT := Aside0.mk (show g < b ∧ B ≤ b ∧ S0 ≤ b ∧ g < S0 ∧ B ≤ S0 ∧ W.heap.size = S0 by have := HPr.out.1; have := HS0.out; omega)
    clear HL0
    have K1 := Aside0.mk (HQ.out.below hb1)
    have B1 := Aside0.mk (HBr.out.trans (hb1.mono HQ.out.size))
    have P1 := Aside0.mk (HPr.out.then_ (Kept.of_below hb1 (fun j => j = g)) (fun _ h => .inl h))
    have Y1 := Aside0.mk (show k110.R 110 (wr.alloc (.cells #[.string ⟨#[]⟩, .int .i64 0] 110)) S0 (fun j => j ≠ b) u3 y from Kd.R_mono (Kd.R_below (Kd.R_bound HR.out) hb1) (fun j hj e => by have := hj.2.2; omega))
    rw [hbe] at hr1 HOU ⊢
    have R1 := Aside0.mk hr1
    clear hr1 hb1 hbe hc3
    generalize wr.alloc (.cells #[.string ⟨#[]⟩, .int .i64 0] 110) = w1 at *
    have cr0 := R1.out.cell 0 _ rfl
    have fr0 := R1.out.free 0
    go_wp2_with fail
    go_at_call 65
    refine (q_text K1.out).mono ?_
    rintro e w2 ⟨hb, hp, t, v, rfl, rfl, hx, hq⟩
    have Xt := Aside0.mk hx
    have K2 := Aside0.mk hq
    have B2 := Aside0.mk (show Below B W w2 from B1.out.trans (hb.mono (by have := HLT.out; omega)))
    have P2 := Aside0.mk (P1.out.then_ hp (fun _ h => .inl h))
    have R2 := Aside0.mk (show Rt 110 b [Value.string ⟨#[]⟩, .int .i64 0] w2 from (hp.2 b R1.out.lt (by have := HLT.out; show b ≠ g; omega)).trans R1.out)
    have Y2 := Aside0.mk (show k110.R 110 w2 S0 (fun j => j ≠ b) u3 y from Kd.R_mono (Kd.R_kept (Kd.R_bound Y1.out) hp (fun j hj e => by have := hj.2.1; have := HLT.out; omega)) (fun j hj => hj.1))
    clear hb hp hx hq cr0 fr0
    have cr0 := R2.out.cell 0 _ rfl
    have fr0 := R2.out.free 0
    go_upto_region 8 with fail
    have e1 := R2.out.set 0 (.string t)
    rw [e1]
    clear e1 cr0 fr0
    have hl : [Value.string ⟨#[]⟩, .int .i64 0].set 0 (.string t) = [Value.string t, .int .i64 0] := rfl
    rw [hl]
    clear hl
    have K3 := Aside0.mk (K2.out.aside (W' := w2.setRow b [Value.string t, .int .i64 0].toArray) (below_setRow' (Below.refl _ _) (by have := HLT.out; omega) _) (setRow_other _ _ _ _ (by have := HLT.out; omega)))
    have B3 := Aside0.mk (show Below B W (w2.setRow b [Value.string t, .int .i64 0].toArray) from below_setRow' B2.out (by have := HLT.out; omega) _)
    have P3 := Aside0.mk (show Kept W (w2.setRow b [Value.string t, .int .i64 0].toArray) (fun j => j = g) from ⟨by rw [setRow_size]; exact P2.out.1, fun j hj hn => (setRow_other _ _ _ _ (by have := HLT.out; omega)).trans (P2.out.2 j hj hn)⟩)
    have R3 := Aside0.mk (show Rt 110 b [Value.string t, .int .i64 0] (w2.setRow b [Value.string t, .int .i64 0].toArray) from R2.out.row _)
    have Y3 := Aside0.mk (show k110.R 110 (w2.setRow b [Value.string t, .int .i64 0].toArray) S0 (fun j => j ≠ b) u3 y from Kd.R_step Y2.out (fun j hne _ => setRow_other _ _ _ _ hne))
    generalize w2.setRow b [Value.string t, .int .i64 0].toArray = w3 at *
    have cr1 := R3.out.cell 1 _ rfl
    have fr1 := R3.out.free 1
    go_wp2_with fail
    go_at_call 66
    refine (q_int K3.out).mono ?_
    rintro e w4 ⟨hb, hp, a, v, rfl, rfl, hx, hq⟩
    have Xa := Aside0.mk hx
    have K4 := Aside0.mk hq
    have B4 := Aside0.mk (show Below B W w4 from B3.out.trans (hb.mono (by have := HLT.out; omega)))
    have P4 := Aside0.mk (P3.out.then_ hp (fun _ h => .inl h))
    have R4 := Aside0.mk (show Rt 110 b [Value.string t, .int .i64 0] w4 from (hp.2 b R3.out.lt (by have := HLT.out; show b ≠ g; omega)).trans R3.out)
    have Y4 := Aside0.mk (show k110.R 110 w4 S0 (fun j => j ≠ b) u3 y from Kd.R_mono (Kd.R_kept (Kd.R_bound Y3.out) hp (fun j hj e => by have := hj.2.1; have := HLT.out; omega)) (fun j hj => hj.1))
    clear hb hp hx hq cr1 fr1
    have cr1 := R4.out.cell 1 _ rfl
    have fr1 := R4.out.free 1
    go_upto_region 9 with fail
    have e1 := R4.out.set 1 (.int .i64 a)
    rw [e1]
    clear e1 cr1 fr1
    have hl : [Value.string t, .int .i64 0].set 1 (.int .i64 a) = [Value.string t, .int .i64 a] := rfl
    rw [hl]
    clear hl
    have K5 := Aside0.mk (K4.out.aside (W' := w4.setRow b [Value.string t, .int .i64 a].toArray) (below_setRow' (Below.refl _ _) (by have := HLT.out; omega) _) (setRow_other _ _ _ _ (by have := HLT.out; omega)))
    have B5 := Aside0.mk (show Below B W (w4.setRow b [Value.string t, .int .i64 a].toArray) from below_setRow' B4.out (by have := HLT.out; omega) _)
    have P5 := Aside0.mk (show Kept W (w4.setRow b [Value.string t, .int .i64 a].toArray) (fun j => j = g) from ⟨by rw [setRow_size]; exact P4.out.1, fun j hj hn => (setRow_other _ _ _ _ (by have := HLT.out; omega)).trans (P4.out.2 j hj hn)⟩)
    have R5 := Aside0.mk (show Rt 110 b [Value.string t, .int .i64 a] (w4.setRow b [Value.string t, .int .i64 a].toArray) from R4.out.row _)
    have Y5 := Aside0.mk (show k110.R 110 (w4.setRow b [Value.string t, .int .i64 a].toArray) S0 (fun j => j ≠ b) u3 y from Kd.R_step Y4.out (fun j hne _ => setRow_other _ _ _ _ hne))
    generalize w4.setRow b [Value.string t, .int .i64 a].toArray = w5 at *
    have HE := line_is K5.out Xt.out Xa.out
    have HN := Aside0.mk (oneMoreP_is HE.1 HE.2 HPN.out ci)
    clear HE
    have S7 := Aside0.mk (show S0 ≤ w5.heap.size by have := P5.out.1; have := HS0.out; omega)
    have HSZ := Aside0.mk (show (y.length + 1) * 24 ≤ 140737488355328 by have := HLN.out; have := HUM.out; have := HMB.out; omega)
    have x0 := R5.out.cell 0 _ rfl
    have x1 := R5.out.cell 1 _ rfl
    have RX := Aside0.mk (show k110.R 110 w5 S0 (fun _ => True) u3 y from Kd.R_mono Y5.out (fun _ _ => trivial))
    have MX := Aside0.mk (show k110.M w5 S0 (fun j => b + 1 ≤ j) (⟨t, a⟩ : S110) [Value.string t, .int .i64 a] from k110_mkM _ _ _ ⟨t, a⟩)
    go_wp2_with (first | (
      (with_reducible refine gate_builtin (b := .append) (xs := #[.tmp 28, .tmp 30]) rfl ?_)
      at_builtin
      refine Kd.R_append k110 (w0 := w5) S0 rfl (.tmp 28) (.tmp 30) 38 110 (.agg #[.string ⟨#[]⟩, .int .i64 0]) 24 rfl Try.underlying38 info110 rfl (by decide) (by decide) _ y ⟨t, a⟩ [Value.string t, .int .i64 a] (fun _ => True) (fun j => b + 1 ≤ j) rfl rfl MX.out (fun j hj => ⟨trivial, fun e => by have := HOU.out j e.symm; omega⟩) (fun _ _ => trivial) RX.out (Below.refl _ _) S7.out HSZ.out ?_
      intro v1 w8 ho hb hg hat
      have HO8 := Aside0.mk ho
      have K8 := Aside0.mk (HN.out.1.aside (hb.mono (by have := HLT.out; omega)) (hb.block g (by have := HLT.out; omega)))
      have B8 := Aside0.mk (show Below B W w8 from B5.out.trans (hb.mono (by have := HLT.out; omega)))
      have P8 := Aside0.mk (show Kept W w8 (fun j => j = g) from ⟨Nat.le_trans P5.out.1 hb.size, fun j hj hn => (hb.block j (by have := HLT.out; omega)).trans (P5.out.2 j hj hn)⟩)
      clear ho hb hg hat))
    refine ⟨⟨i + 1, y ++ [⟨t, a⟩], oneMoreP (pLine xs most) m y, congrArg (Value.int .i64) (by omega), ⟨by rw [List.length_append, HLN.out]; rfl⟩, K8, ⟨fun l m2 h => ⟨HN.out.2.1 l m2 h, ci, HUM.out.2⟩⟩, ⟨HN.out.2.2⟩, HO8, B8, P8⟩, ?_⟩
    rw [hw1]
    show u - (((i + 1 : Nat) : Int)).toNat < u - ((i : Nat) : Int).toNat
    omega
end Go.Proofs.Ytafmoglaockepaa.Cd
end
section
namespace Go.Proofs.Ytafmoglaockepaa.Cd
open Go Go.RowKit Go.Proofs.Ytafmoglaockepaa.Num Go.Proofs.Ytafmoglaockepaa.PG Go.Proofs.YtafmoglaockepaaW.PrintWords Go.Proofs.YtafmoglaockepaaW.PrintLast Go.Proofs.YtafmoglaockepaaW.PrintMore
set_option linter.unusedVariables false
set_option linter.unusedSimpArgs false
set_option maxHeartbeats 4000000
set_option maxRecDepth 100000
theorem Rt.full_req {t b : Nat} {z0 z1 z2 z3 z4 z5 : Value} {W : World} (h : Rt t b [z0, z1, z2, z3, z4, z5] W) (a0 a1 a2 a3 a4 a5 : Value) :
    ((((((W.setCell ⟨b, 0, none⟩ a0).setCell ⟨b, 1, none⟩ a1).setCell ⟨b, 2, none⟩ a2).setCell ⟨b, 3, none⟩ a3).setCell ⟨b, 4, none⟩ a4).setCell ⟨b, 5, none⟩ a5) = W.setRow b [a0, a1, a2, a3, a4, a5].toArray := by
  rw [h.set 0 a0]
  have h0 : Rt t b [a0, z1, z2, z3, z4, z5] (W.setRow b ([z0, z1, z2, z3, z4, z5].set 0 a0).toArray) := h.row _
  rw [h0.set 1 a1, setRow_again]
  have h1 : Rt t b [a0, a1, z2, z3, z4, z5] (W.setRow b ([a0, z1, z2, z3, z4, z5].set 1 a1).toArray) := h.row _
  rw [h1.set 2 a2, setRow_again]
  have h2 : Rt t b [a0, a1, a2, z3, z4, z5] (W.setRow b ([a0, a1, z2, z3, z4, z5].set 2 a2).toArray) := h.row _
  rw [h2.set 3 a3, setRow_again]
  have h3 : Rt t b [a0, a1, a2, a3, z4, z5] (W.setRow b ([a0, a1, a2, z3, z4, z5].set 3 a3).toArray) := h.row _
  rw [h3.set 4 a4, setRow_again]
  have h4 : Rt t b [a0, a1, a2, a3, a4, z5] (W.setRow b ([a0, a1, a2, a3, z4, z5].set 4 a4).toArray) := h.row _
  rw [h4.set 5 a5, setRow_again]
  rfl
end Go.Proofs.Ytafmoglaockepaa.Cd
end
section
namespace Go.Proofs.Ytafmoglaockepaa.Cd
open Go Go.RowKit Go.Proofs.Ytafmoglaockepaa.Num Go.Proofs.Ytafmoglaockepaa.PG Go.Proofs.YtafmoglaockepaaW.PrintWords Go.Proofs.YtafmoglaockepaaW.PrintLast Go.Proofs.YtafmoglaockepaaW.PrintMore
set_option linter.unusedVariables false
set_option linter.unusedSimpArgs false
set_option maxHeartbeats 4000000
set_option maxRecDepth 100000
variable {g B : Nat} {A : Option Addr} {n c : Nat} {xs : List Int} {most : Nat}
theorem req_is {α : Type} {s0 : Res α} {w : World} {t : ByteArray} {a : Int} {l : List S110} {h : ByteArray} {y : Int} {z : Int}
    (k : QSt g B A n c xs most ((((((s0.bind fun _ m => pT xs most m).bind fun _ m => pI xs m).bind fun _ m => pList xs most (pLine xs most) m).bind fun _ m => pT xs most m).bind fun _ m => pI xs m).bind fun _ m => pI xs m) w)
    (e0 : ∀ x m, (s0.bind fun _ m => pT xs most m) = .ok x m → x = t)
    (e1 : ∀ x m, ((s0.bind fun _ m => pT xs most m).bind fun _ m => pI xs m) = .ok x m → x = a)
    (e2 : ∀ x m, (((s0.bind fun _ m => pT xs most m).bind fun _ m => pI xs m).bind fun _ m => pList xs most (pLine xs most) m) = .ok x m → x = l)
    (e3 : ∀ x m, ((((s0.bind fun _ m => pT xs most m).bind fun _ m => pI xs m).bind fun _ m => pList xs most (pLine xs most) m).bind fun _ m => pT xs most m) = .ok x m → x = h)
    (e4 : ∀ x m, (((((s0.bind fun _ m => pT xs most m).bind fun _ m => pI xs m).bind fun _ m => pList xs most (pLine xs most) m).bind fun _ m => pT xs most m).bind fun _ m => pI xs m) = .ok x m → x = y)
    (e5 : ∀ x m, ((((((s0.bind fun _ m => pT xs most m).bind fun _ m => pI xs m).bind fun _ m => pList xs most (pLine xs most) m).bind fun _ m => pT xs most m).bind fun _ m => pI xs m).bind fun _ m => pI xs m) = .ok x m → x = z) :
    QSt g B A n c xs most (s0.bind fun _ m => pReq xs most m) w ∧ ∀ yy m, (s0.bind fun _ m => pReq xs most m) = .ok yy m → yy = ⟨t, a, l, h, y, z⟩ := by
  revert k e0 e1 e2 e3 e4 e5
  unfold pReq
  cases s0 with
  | fail e p => exact fun k _ _ _ _ _ _ => ⟨k, fun yy m h => by simp [Res.bind] at h⟩
  | ok u m0 =>
    simp only [Res.bind]
    cases pT xs most m0 with
    | fail e p => exact fun k _ _ _ _ _ _ => ⟨k, fun yy m h => by simp [Res.bind] at h⟩
    | ok q0 m1 =>
      simp only
      cases pI xs m1 with
      | fail e p => exact fun k _ _ _ _ _ _ => ⟨k, fun yy m h => by simp [Res.bind] at h⟩
      | ok q1 m2 =>
        simp only
        cases pList xs most (pLine xs most) m2 with
        | fail e p => exact fun k _ _ _ _ _ _ => ⟨k, fun yy m h => by simp [Res.bind] at h⟩
        | ok q2 m3 =>
          simp only
          cases pT xs most m3 with
          | fail e p => exact fun k _ _ _ _ _ _ => ⟨k, fun yy m h => by simp [Res.bind] at h⟩
          | ok q3 m4 =>
            simp only
            cases pI xs m4 with
            | fail e p => exact fun k _ _ _ _ _ _ => ⟨k, fun yy m h => by simp [Res.bind] at h⟩
            | ok q4 m5 =>
              simp only
              cases pI xs m5 with
              | fail e p => exact fun k _ _ _ _ _ _ => ⟨k, fun yy m h => by simp [Res.bind] at h⟩
              | ok q5 m6 =>
                intro k e0 e1 e2 e3 e4 e5
                refine ⟨k, fun yy m h => ?_⟩
                injection h with h1 h2
                rw [← h1, e0 _ _ rfl, e1 _ _ rfl, e2 _ _ rfl, e3 _ _ rfl, e4 _ _ rfl, e5 _ _ rfl]
theorem q_request {α : Type} {r : Res α} {W : World} (k : QSt g B A n c xs most r W) (hmb : most < 1000000000) :
    Calls Try.prog 76 #[ptr g] W fun e w' => Below B W w' ∧ Kept W w' (fun j => j = g) ∧ OutQ g B A n c xs most (memReq W.heap.size) (r.bind fun _ m => pReq xs most m) e w' := by
  have HK := Aside0.mk k
  have HMB := Aside0.mk hmb
  clear k hmb
  have hb0 : Below W.heap.size W (W.alloc (.cells #[.string ⟨#[]⟩, .int .i64 0, .slice none 0 0, .string ⟨#[]⟩, .int .i64 0, .int .i64 0] 40)) := below_alloc (Below.refl _ _) _
  have ho0 : Rt 40 W.heap.size [.string ⟨#[]⟩, .int .i64 0, .slice none 0 0, .string ⟨#[]⟩, .int .i64 0, .int .i64 0] (W.alloc (.cells #[.string ⟨#[]⟩, .int .i64 0, .slice none 0 0, .string ⟨#[]⟩, .int .i64 0, .int .i64 0] 40)) := heap_alloc_new W _
  have hs0 : (W.alloc (.cells #[.string ⟨#[]⟩, .int .i64 0, .slice none 0 0, .string ⟨#[]⟩, .int .i64 0, .int .i64 0] 40)).heap.size = W.heap.size + 1 := by simp
  obtain ⟨S0, hS0⟩ : ∃ S0, W.heap.size = S0 := ⟨_, rfl⟩
  have HS0 := Aside0.mk hS0
  have KA := Aside0.mk (HK.out.below hb0)
  have BA := Aside0.mk (hb0.mono HK.out.size)
  have PA := Aside0.mk (Kept.of_below hb0 (fun j => j = g))
  rw [hS0] at ho0 hs0
  have OA := Aside0.mk ho0
  have HSA := Aside0.mk hs0
  clear hb0 ho0 hs0 hS0
  go_enter Try.func76, Try.ntmps76
  go_upto_region 1 with fail
  have hS0 := HS0.out
  rw [hS0]
  clear hS0
  generalize W.alloc (.cells #[.string ⟨#[]⟩, .int .i64 0, .slice none 0 0, .string ⟨#[]⟩, .int .i64 0, .int .i64 0] 40) = wa at *
  go_upto_region 2 with fail
  have hr1 : Rt 40 wa.heap.size [.string ⟨#[]⟩, .int .i64 0, .slice none 0 0, .string ⟨#[]⟩, .int .i64 0, .int .i64 0] (wa.alloc (.cells #[.string ⟨#[]⟩, .int .i64 0, .slice none 0 0, .string ⟨#[]⟩, .int .i64 0, .int .i64 0] 40)) := heap_alloc_new wa _
  have hb1 : Below wa.heap.size wa (wa.alloc (.cells #[.string ⟨#[]⟩, .int .i64 0, .slice none 0 0, .string ⟨#[]⟩, .int .i64 0, .int .i64 0] 40)) := below_alloc (Below.refl _ _) _
  obtain ⟨b, hbe⟩ : ∃ b, wa.heap.size = b := ⟨_, rfl⟩
  have K1 := Aside0.mk (KA.out.below hb1)
  have B1 := Aside0.mk (BA.out.trans (hb1.mono KA.out.size))
  have P1 := Aside0.mk (PA.out.then_ (Kept.of_below hb1 (fun j => j = g)) (fun _ h => .inl h))
  have O1 := Aside0.mk (OA.out.below hb1)
  rw [hbe] at hr1
  have hgb1 : S0 + 1 = b := by have := HSA.out; omega
  have HLT := Aside0.mk (show g < S0 ∧ B ≤ S0 ∧ S0 < b ∧ W.heap.size = S0 by have := HK.out.lt; have := HK.out.size; have := HS0.out; omega)
  (first | rw [hbe] | rw [hgb1])
  have R1 := Aside0.mk hr1
  clear hr1 hb1 hbe hgb1
  generalize wa.alloc (.cells #[.string ⟨#[]⟩, .int .i64 0, .slice none 0 0, .string ⟨#[]⟩, .int .i64 0, .int .i64 0] 40) = w1 at *
  have cr0 := R1.out.cell 0 _ rfl
  have fr0 := R1.out.free 0
  go_wp2_with fail
  go_at_call 65
  refine (q_text K1.out).mono ?_
  rintro e w2 ⟨hb, hp, t, v, rfl, rfl, hx, hq⟩
  have Xt := Aside0.mk hx
  have K2 := Aside0.mk hq
  have B2 := Aside0.mk (show Below B W w2 from B1.out.trans (hb.mono (by have := HLT.out; omega)))
  have P2 := Aside0.mk (P1.out.then_ hp (fun _ h => .inl h))
  have R2 := Aside0.mk (show Rt 40 b [Value.string ⟨#[]⟩, .int .i64 0, .slice none 0 0, .string ⟨#[]⟩, .int .i64 0, .int .i64 0] w2 from (hp.2 b R1.out.lt (by have := HLT.out; show b ≠ g; omega)).trans R1.out)
  have O2 := Aside0.mk (show Rt 40 S0 [Value.string ⟨#[]⟩, .int .i64 0, .slice none 0 0, .string ⟨#[]⟩, .int .i64 0, .int .i64 0] w2 from (hp.2 S0 O1.out.lt (by have := HLT.out; show S0 ≠ g; omega)).trans O1.out)
  clear hb hp hx hq cr0 fr0
  have cr0 := R2.out.cell 0 _ rfl
  have fr0 := R2.out.free 0
  go_upto_region 3 with fail
  have e1 := R2.out.set 0 (.string t)
  rw [e1]
  clear e1 cr0 fr0
  have hl : [Value.string ⟨#[]⟩, .int .i64 0, .slice none 0 0, .string ⟨#[]⟩, .int .i64 0, .int .i64 0].set 0 (.string t) = [Value.string t, .int .i64 0, .slice none 0 0, .string ⟨#[]⟩, .int .i64 0, .int .i64 0] := rfl
  rw [hl]
  clear hl
  have K3 := Aside0.mk (K2.out.aside (W' := w2.setRow b [Value.string t, .int .i64 0, .slice none 0 0, .string ⟨#[]⟩, .int .i64 0, .int .i64 0].toArray) (below_setRow' (Below.refl _ _) (by have := HLT.out; omega) _) (setRow_other _ _ _ _ (by have := HLT.out; omega)))
  have B3 := Aside0.mk (show Below B W (w2.setRow b [Value.string t, .int .i64 0, .slice none 0 0, .string ⟨#[]⟩, .int .i64 0, .int .i64 0].toArray) from below_setRow' B2.out (by have := HLT.out; omega) _)
  have P3 := Aside0.mk (show Kept W (w2.setRow b [Value.string t, .int .i64 0, .slice none 0 0, .string ⟨#[]⟩, .int .i64 0, .int .i64 0].toArray) (fun j => j = g) from ⟨by rw [setRow_size]; exact P2.out.1, fun j hj hn => (setRow_other _ _ _ _ (by have := HLT.out; omega)).trans (P2.out.2 j hj hn)⟩)
  have R3 := Aside0.mk (show Rt 40 b [Value.string t, .int .i64 0, .slice none 0 0, .string ⟨#[]⟩, .int .i64 0, .int .i64 0] (w2.setRow b [Value.string t, .int .i64 0, .slice none 0 0, .string ⟨#[]⟩, .int .i64 0, .int .i64 0].toArray) from R2.out.row _)
  have O3 := Aside0.mk (show Rt 40 S0 [Value.string ⟨#[]⟩, .int .i64 0, .slice none 0 0, .string ⟨#[]⟩, .int .i64 0, .int .i64 0] (w2.setRow b [Value.string t, .int .i64 0, .slice none 0 0, .string ⟨#[]⟩, .int .i64 0, .int .i64 0].toArray) from (setRow_other _ _ _ _ (by have := HLT.out; omega)).trans O2.out)
  generalize w2.setRow b [Value.string t, .int .i64 0, .slice none 0 0, .string ⟨#[]⟩, .int .i64 0, .int .i64 0].toArray = w3 at *
  have cr1 := R3.out.cell 1 _ rfl
  have fr1 := R3.out.free 1
  go_wp2_with fail
  go_at_call 66
  refine (q_int K3.out).mono ?_
  rintro e w4 ⟨hb, hp, a, v, rfl, rfl, hx, hq⟩
  have Xa := Aside0.mk hx
  have K4 := Aside0.mk hq
  have B4 := Aside0.mk (show Below B W w4 from B3.out.trans (hb.mono (by have := HLT.out; omega)))
  have P4 := Aside0.mk (P3.out.then_ hp (fun _ h => .inl h))
  have R4 := Aside0.mk (show Rt 40 b [Value.string t, .int .i64 0, .slice none 0 0, .string ⟨#[]⟩, .int .i64 0, .int .i64 0] w4 from (hp.2 b R3.out.lt (by have := HLT.out; show b ≠ g; omega)).trans R3.out)
  have O4 := Aside0.mk (show Rt 40 S0 [Value.string ⟨#[]⟩, .int .i64 0, .slice none 0 0, .string ⟨#[]⟩, .int .i64 0, .int .i64 0] w4 from (hp.2 S0 O3.out.lt (by have := HLT.out; show S0 ≠ g; omega)).trans O3.out)
  clear hb hp hx hq cr1 fr1
  have cr1 := R4.out.cell 1 _ rfl
  have fr1 := R4.out.free 1
  go_upto_region 4 with fail
  have e1 := R4.out.set 1 (.int .i64 a)
  rw [e1]
  clear e1 cr1 fr1
  have hl : [Value.string t, .int .i64 0, .slice none 0 0, .string ⟨#[]⟩, .int .i64 0, .int .i64 0].set 1 (.int .i64 a) = [Value.string t, .int .i64 a, .slice none 0 0, .string ⟨#[]⟩, .int .i64 0, .int .i64 0] := rfl
  rw [hl]
  clear hl
  have K5 := Aside0.mk (K4.out.aside (W' := w4.setRow b [Value.string t, .int .i64 a, .slice none 0 0, .string ⟨#[]⟩, .int .i64 0, .int .i64 0].toArray) (below_setRow' (Below.refl _ _) (by have := HLT.out; omega) _) (setRow_other _ _ _ _ (by have := HLT.out; omega)))
  have B5 := Aside0.mk (show Below B W (w4.setRow b [Value.string t, .int .i64 a, .slice none 0 0, .string ⟨#[]⟩, .int .i64 0, .int .i64 0].toArray) from below_setRow' B4.out (by have := HLT.out; omega) _)
  have P5 := Aside0.mk (show Kept W (w4.setRow b [Value.string t, .int .i64 a, .slice none 0 0, .string ⟨#[]⟩, .int .i64 0, .int .i64 0].toArray) (fun j => j = g) from ⟨by rw [setRow_size]; exact P4.out.1, fun j hj hn => (setRow_other _ _ _ _ (by have := HLT.out; omega)).trans (P4.out.2 j hj hn)⟩)
  have R5 := Aside0.mk (show Rt 40 b [Value.string t, .int .i64 a, .slice none 0 0, .string ⟨#[]⟩, .int .i64 0, .int .i64 0] (w4.setRow b [Value.string t, .int .i64 a, .slice none 0 0, .string ⟨#[]⟩, .int .i64 0, .int .i64 0].toArray) from R4.out.row _)
  have O5 := Aside0.mk (show Rt 40 S0 [Value.string ⟨#[]⟩, .int .i64 0, .slice none 0 0, .string ⟨#[]⟩, .int .i64 0, .int .i64 0] (w4.setRow b [Value.string t, .int .i64 a, .slice none 0 0, .string ⟨#[]⟩, .int .i64 0, .int .i64 0].toArray) from (setRow_other _ _ _ _ (by have := HLT.out; omega)).trans O4.out)
  generalize w4.setRow b [Value.string t, .int .i64 a, .slice none 0 0, .string ⟨#[]⟩, .int .i64 0, .int .i64 0].toArray = w5 at *
  have cr2 := R5.out.cell 2 _ rfl
  have fr2 := R5.out.free 2
  go_wp2_with fail
  go_at_call 97
  refine (q_lines K5.out HMB.out).mono ?_
  rintro e w6 ⟨hb, hp, l, v, rfl, hE, hx, hq⟩
  obtain ⟨Al, nl, cl, ev⟩ := LN_slice hE
  subst ev
  have Ll_6 := Aside0.mk (show LN (b + 1) l (.slice Al nl cl) w6 from LN_alive.lower hE R5.out.lt)
  clear hE
  have Xl := Aside0.mk hx
  have K6 := Aside0.mk hq
  have B6 := Aside0.mk (show Below B W w6 from B5.out.trans (hb.mono (by have := HLT.out; omega)))
  have P6 := Aside0.mk (P5.out.then_ hp (fun _ h => .inl h))
  have R6 := Aside0.mk (show Rt 40 b [Value.string t, .int .i64 a, .slice none 0 0, .string ⟨#[]⟩, .int .i64 0, .int .i64 0] w6 from (hp.2 b R5.out.lt (by have := HLT.out; show b ≠ g; omega)).trans R5.out)
  have O6 := Aside0.mk (show Rt 40 S0 [Value.string ⟨#[]⟩, .int .i64 0, .slice none 0 0, .string ⟨#[]⟩, .int .i64 0, .int .i64 0] w6 from (hp.2 S0 O5.out.lt (by have := HLT.out; show S0 ≠ g; omega)).trans O5.out)
  clear hb hp hx hq cr2 fr2
  have cr2 := R6.out.cell 2 _ rfl
  have fr2 := R6.out.free 2
  go_upto_region 5 with fail
  have e1 := R6.out.set 2 (.slice Al nl cl)
  rw [e1]
  clear e1 cr2 fr2
  have hl : [Value.string t, .int .i64 a, .slice none 0 0, .string ⟨#[]⟩, .int .i64 0, .int .i64 0].set 2 (.slice Al nl cl) = [Value.string t, .int .i64 a, .slice Al nl cl, .string ⟨#[]⟩, .int .i64 0, .int .i64 0] := rfl
  rw [hl]
  clear hl
  have K7 := Aside0.mk (K6.out.aside (W' := w6.setRow b [Value.string t, .int .i64 a, .slice Al nl cl, .string ⟨#[]⟩, .int .i64 0, .int .i64 0].toArray) (below_setRow' (Below.refl _ _) (by have := HLT.out; omega) _) (setRow_other _ _ _ _ (by have := HLT.out; omega)))
  have B7 := Aside0.mk (show Below B W (w6.setRow b [Value.string t, .int .i64 a, .slice Al nl cl, .string ⟨#[]⟩, .int .i64 0, .int .i64 0].toArray) from below_setRow' B6.out (by have := HLT.out; omega) _)
  have P7 := Aside0.mk (show Kept W (w6.setRow b [Value.string t, .int .i64 a, .slice Al nl cl, .string ⟨#[]⟩, .int .i64 0, .int .i64 0].toArray) (fun j => j = g) from ⟨by rw [setRow_size]; exact P6.out.1, fun j hj hn => (setRow_other _ _ _ _ (by have := HLT.out; omega)).trans (P6.out.2 j hj hn)⟩)
  have R7 := Aside0.mk (show Rt 40 b [Value.string t, .int .i64 a, .slice Al nl cl, .string ⟨#[]⟩, .int .i64 0, .int .i64 0] (w6.setRow b [Value.string t, .int .i64 a, .slice Al nl cl, .string ⟨#[]⟩, .int .i64 0, .int .i64 0].toArray) from R6.out.row _)
  have O7 := Aside0.mk (show Rt 40 S0 [Value.string ⟨#[]⟩, .int .i64 0, .slice none 0 0, .string ⟨#[]⟩, .int .i64 0, .int .i64 0] (w6.setRow b [Value.string t, .int .i64 a, .slice Al nl cl, .string ⟨#[]⟩, .int .i64 0, .int .i64 0].toArray) from (setRow_other _ _ _ _ (by have := HLT.out; omega)).trans O6.out)
  have Ll_7 := Aside0.mk (LN_alive.row (b := b) Ll_6.out (by have := HLT.out; omega) [Value.string t, .int .i64 a, .slice Al nl cl, .string ⟨#[]⟩, .int .i64 0, .int .i64 0].toArray)
  generalize w6.setRow b [Value.string t, .int .i64 a, .slice Al nl cl, .string ⟨#[]⟩, .int .i64 0, .int .i64 0].toArray = w7 at *
  have cr3 := R7.out.cell 3 _ rfl
  have fr3 := R7.out.free 3
  go_wp2_with fail
  go_at_call 65
  refine (q_text K7.out).mono ?_
  rintro e w8 ⟨hb, hp, h, v, rfl, rfl, hx, hq⟩
  have Xh := Aside0.mk hx
  have K8 := Aside0.mk hq
  have B8 := Aside0.mk (show Below B W w8 from B7.out.trans (hb.mono (by have := HLT.out; omega)))
  have P8 := Aside0.mk (P7.out.then_ hp (fun _ h => .inl h))
  have R8 := Aside0.mk (show Rt 40 b [Value.string t, .int .i64 a, .slice Al nl cl, .string ⟨#[]⟩, .int .i64 0, .int .i64 0] w8 from (hp.2 b R7.out.lt (by have := HLT.out; show b ≠ g; omega)).trans R7.out)
  have O8 := Aside0.mk (show Rt 40 S0 [Value.string ⟨#[]⟩, .int .i64 0, .slice none 0 0, .string ⟨#[]⟩, .int .i64 0, .int .i64 0] w8 from (hp.2 S0 O7.out.lt (by have := HLT.out; show S0 ≠ g; omega)).trans O7.out)
  have Ll_8 := Aside0.mk (LN_alive.kept Ll_7.out hp (fun j hj e => by have := HLT.out; omega))
  clear hb hp hx hq cr3 fr3
  have cr3 := R8.out.cell 3 _ rfl
  have fr3 := R8.out.free 3
  go_upto_region 6 with fail
  have e1 := R8.out.set 3 (.string h)
  rw [e1]
  clear e1 cr3 fr3
  have hl : [Value.string t, .int .i64 a, .slice Al nl cl, .string ⟨#[]⟩, .int .i64 0, .int .i64 0].set 3 (.string h) = [Value.string t, .int .i64 a, .slice Al nl cl, .string h, .int .i64 0, .int .i64 0] := rfl
  rw [hl]
  clear hl
  have K9 := Aside0.mk (K8.out.aside (W' := w8.setRow b [Value.string t, .int .i64 a, .slice Al nl cl, .string h, .int .i64 0, .int .i64 0].toArray) (below_setRow' (Below.refl _ _) (by have := HLT.out; omega) _) (setRow_other _ _ _ _ (by have := HLT.out; omega)))
  have B9 := Aside0.mk (show Below B W (w8.setRow b [Value.string t, .int .i64 a, .slice Al nl cl, .string h, .int .i64 0, .int .i64 0].toArray) from below_setRow' B8.out (by have := HLT.out; omega) _)
  have P9 := Aside0.mk (show Kept W (w8.setRow b [Value.string t, .int .i64 a, .slice Al nl cl, .string h, .int .i64 0, .int .i64 0].toArray) (fun j => j = g) from ⟨by rw [setRow_size]; exact P8.out.1, fun j hj hn => (setRow_other _ _ _ _ (by have := HLT.out; omega)).trans (P8.out.2 j hj hn)⟩)
  have R9 := Aside0.mk (show Rt 40 b [Value.string t, .int .i64 a, .slice Al nl cl, .string h, .int .i64 0, .int .i64 0] (w8.setRow b [Value.string t, .int .i64 a, .slice Al nl cl, .string h, .int .i64 0, .int .i64 0].toArray) from R8.out.row _)
  have O9 := Aside0.mk (show Rt 40 S0 [Value.string ⟨#[]⟩, .int .i64 0, .slice none 0 0, .string ⟨#[]⟩, .int .i64 0, .int .i64 0] (w8.setRow b [Value.string t, .int .i64 a, .slice Al nl cl, .string h, .int .i64 0, .int .i64 0].toArray) from (setRow_other _ _ _ _ (by have := HLT.out; omega)).trans O8.out)
  have Ll_9 := Aside0.mk (LN_alive.row (b := b) Ll_8.out (by have := HLT.out; omega) [Value.string t, .int .i64 a, .slice Al nl cl, .string h, .int .i64 0, .int .i64 0].toArray)
  generalize w8.setRow b [Value.string t, .int .i64 a, .slice Al nl cl, .string h, .int .i64 0, .int .i64 0].toArray = w9 at *
  have cr4 := R9.out.cell 4 _ rfl
  have fr4 := R9.out.free 4
  go_wp2_with fail
  go_at_call 66
  refine (q_int K9.out).mono ?_
  rintro e w10 ⟨hb, hp, y, v, rfl, rfl, hx, hq⟩
  have Xy := Aside0.mk hx
  have K10 := Aside0.mk hq
  have B10 := Aside0.mk (show Below B W w10 from B9.out.trans (hb.mono (by have := HLT.out; omega)))
  have P10 := Aside0.mk (P9.out.then_ hp (fun _ h => .inl h))
  have R10 := Aside0.mk (show Rt 40 b [Value.string t, .int .i64 a, .slice Al nl cl, .string h, .int .i64 0, .int .i64 0] w10 from (hp.2 b R9.out.lt (by have := HLT.out; show b ≠ g; omega)).trans R9.out)
  have O10 := Aside0.mk (show Rt 40 S0 [Value.string ⟨#[]⟩, .int .i64 0, .slice none 0 0, .string ⟨#[]⟩, .int .i64 0, .int .i64 0] w10 from (hp.2 S0 O9.out.lt (by have := HLT.out; show S0 ≠ g; omega)).trans O9.out)
  have Ll_10 := Aside0.mk (LN_alive.kept Ll_9.out hp (fun j hj e => by have := HLT.out; omega))
  clear hb hp hx hq cr4 fr4
  have cr4 := R10.out.cell 4 _ rfl
  have fr4 := R10.out.free 4
  go_upto_region 7 with fail
  have e1 := R10.out.set 4 (.int .i64 y)
  rw [e1]
  clear e1 cr4 fr4
  have hl : [Value.string t, .int .i64 a, .slice Al nl cl, .string h, .int .i64 0, .int .i64 0].set 4 (.int .i64 y) = [Value.string t, .int .i64 a, .slice Al nl cl, .string h, .int .i64 y, .int .i64 0] := rfl
  rw [hl]
  clear hl
  have K11 := Aside0.mk (K10.out.aside (W' := w10.setRow b [Value.string t, .int .i64 a, .slice Al nl cl, .string h, .int .i64 y, .int .i64 0].toArray) (below_setRow' (Below.refl _ _) (by have := HLT.out; omega) _) (setRow_other _ _ _ _ (by have := HLT.out; omega)))
  have B11 := Aside0.mk (show Below B W (w10.setRow b [Value.string t, .int .i64 a, .slice Al nl cl, .string h, .int .i64 y, .int .i64 0].toArray) from below_setRow' B10.out (by have := HLT.out; omega) _)
  have P11 := Aside0.mk (show Kept W (w10.setRow b [Value.string t, .int .i64 a, .slice Al nl cl, .string h, .int .i64 y, .int .i64 0].toArray) (fun j => j = g) from ⟨by rw [setRow_size]; exact P10.out.1, fun j hj hn => (setRow_other _ _ _ _ (by have := HLT.out; omega)).trans (P10.out.2 j hj hn)⟩)
  have R11 := Aside0.mk (show Rt 40 b [Value.string t, .int .i64 a, .slice Al nl cl, .string h, .int .i64 y, .int .i64 0] (w10.setRow b [Value.string t, .int .i64 a, .slice Al nl cl, .string h, .int .i64 y, .int .i64 0].toArray) from R10.out.row _)
  have O11 := Aside0.mk (show Rt 40 S0 [Value.string ⟨#[]⟩, .int .i64 0, .slice none 0 0, .string ⟨#[]⟩, .int .i64 0, .int .i64 0] (w10.setRow b [Value.string t, .int .i64 a, .slice Al nl cl, .string h, .int .i64 y, .int .i64 0].toArray) from (setRow_other _ _ _ _ (by have := HLT.out; omega)).trans O10.out)
  have Ll_11 := Aside0.mk (LN_alive.row (b := b) Ll_10.out (by have := HLT.out; omega) [Value.string t, .int .i64 a, .slice Al nl cl, .string h, .int .i64 y, .int .i64 0].toArray)
  generalize w10.setRow b [Value.string t, .int .i64 a, .slice Al nl cl, .string h, .int .i64 y, .int .i64 0].toArray = w11 at *
  have cr5 := R11.out.cell 5 _ rfl
  have fr5 := R11.out.free 5
  go_wp2_with fail
  go_at_call 66
  refine (q_int K11.out).mono ?_
  rintro e w12 ⟨hb, hp, z, v, rfl, rfl, hx, hq⟩
  have Xz := Aside0.mk hx
  have K12 := Aside0.mk hq
  have B12 := Aside0.mk (show Below B W w12 from B11.out.trans (hb.mono (by have := HLT.out; omega)))
  have P12 := Aside0.mk (P11.out.then_ hp (fun _ h => .inl h))
  have R12 := Aside0.mk (show Rt 40 b [Value.string t, .int .i64 a, .slice Al nl cl, .string h, .int .i64 y, .int .i64 0] w12 from (hp.2 b R11.out.lt (by have := HLT.out; show b ≠ g; omega)).trans R11.out)
  have O12 := Aside0.mk (show Rt 40 S0 [Value.string ⟨#[]⟩, .int .i64 0, .slice none 0 0, .string ⟨#[]⟩, .int .i64 0, .int .i64 0] w12 from (hp.2 S0 O11.out.lt (by have := HLT.out; show S0 ≠ g; omega)).trans O11.out)
  have Ll_12 := Aside0.mk (LN_alive.kept Ll_11.out hp (fun j hj e => by have := HLT.out; omega))
  clear hb hp hx hq cr5 fr5
  have cr5 := R12.out.cell 5 _ rfl
  have fr5 := R12.out.free 5
  go_upto_region 8 with fail
  have e1 := R12.out.set 5 (.int .i64 z)
  rw [e1]
  clear e1 cr5 fr5
  have hl : [Value.string t, .int .i64 a, .slice Al nl cl, .string h, .int .i64 y, .int .i64 0].set 5 (.int .i64 z) = [Value.string t, .int .i64 a, .slice Al nl cl, .string h, .int .i64 y, .int .i64 z] := rfl
  rw [hl]
  clear hl
  have K13 := Aside0.mk (K12.out.aside (W' := w12.setRow b [Value.string t, .int .i64 a, .slice Al nl cl, .string h, .int .i64 y, .int .i64 z].toArray) (below_setRow' (Below.refl _ _) (by have := HLT.out; omega) _) (setRow_other _ _ _ _ (by have := HLT.out; omega)))
  have B13 := Aside0.mk (show Below B W (w12.setRow b [Value.string t, .int .i64 a, .slice Al nl cl, .string h, .int .i64 y, .int .i64 z].toArray) from below_setRow' B12.out (by have := HLT.out; omega) _)
  have P13 := Aside0.mk (show Kept W (w12.setRow b [Value.string t, .int .i64 a, .slice Al nl cl, .string h, .int .i64 y, .int .i64 z].toArray) (fun j => j = g) from ⟨by rw [setRow_size]; exact P12.out.1, fun j hj hn => (setRow_other _ _ _ _ (by have := HLT.out; omega)).trans (P12.out.2 j hj hn)⟩)
  have R13 := Aside0.mk (show Rt 40 b [Value.string t, .int .i64 a, .slice Al nl cl, .string h, .int .i64 y, .int .i64 z] (w12.setRow b [Value.string t, .int .i64 a, .slice Al nl cl, .string h, .int .i64 y, .int .i64 z].toArray) from R12.out.row _)
  have O13 := Aside0.mk (show Rt 40 S0 [Value.string ⟨#[]⟩, .int .i64 0, .slice none 0 0, .string ⟨#[]⟩, .int .i64 0, .int .i64 0] (w12.setRow b [Value.string t, .int .i64 a, .slice Al nl cl, .string h, .int .i64 y, .int .i64 z].toArray) from (setRow_other _ _ _ _ (by have := HLT.out; omega)).trans O12.out)
  have Ll_13 := Aside0.mk (LN_alive.row (b := b) Ll_12.out (by have := HLT.out; omega) [Value.string t, .int .i64 a, .slice Al nl cl, .string h, .int .i64 y, .int .i64 z].toArray)
  generalize w12.setRow b [Value.string t, .int .i64 a, .slice Al nl cl, .string h, .int .i64 y, .int .i64 z].toArray = w13 at *
  have HI := Aside0.mk (req_is K13.out Xt.out Xa.out Xl.out Xh.out Xy.out Xz.out)
  have x0 := R13.out.cell 0 _ rfl
  have z0 := O13.out.cell 0 _ rfl
  have f0 := O13.out.free 0
  have x1 := R13.out.cell 1 _ rfl
  have z1 := O13.out.cell 1 _ rfl
  have f1 := O13.out.free 1
  have x2 := R13.out.cell 2 _ rfl
  have z2 := O13.out.cell 2 _ rfl
  have f2 := O13.out.free 2
  have x3 := R13.out.cell 3 _ rfl
  have z3 := O13.out.cell 3 _ rfl
  have f3 := O13.out.free 3
  have x4 := R13.out.cell 4 _ rfl
  have z4 := O13.out.cell 4 _ rfl
  have f4 := O13.out.free 4
  have x5 := R13.out.cell 5 _ rfl
  have z5 := O13.out.cell 5 _ rfl
  have f5 := O13.out.free 5
  go_wp2_with fail
  rw [O13.out.full_req]
  have R3 : Rt 40 S0 [Value.string t, .int .i64 a, .slice Al nl cl, .string h, .int .i64 y, .int .i64 z] (w13.setRow S0 [Value.string t, .int .i64 a, .slice Al nl cl, .string h, .int .i64 y, .int .i64 z].toArray) := O13.out.row _
  refine bodyPost_ret (results_cell_row rfl _ _ S0 40 _ (0, 0) _ rfl R3 Try.underlying40 rfl (by kernel_rfl)) rfl ?_
  refine ⟨below_setRow' B13.out (by have := HLT.out; omega) _, ⟨by rw [setRow_size]; exact P13.out.1, fun j hj hn => (setRow_other _ _ _ _ (by have := HLT.out; omega)).trans (P13.out.2 j hj hn)⟩, ?_⟩
  refine ⟨⟨t, a, l, h, y, z⟩, _, rfl, ⟨Al, nl, cl, rfl, LN_alive.lower (LN_alive.row (b := S0) Ll_13.out (by have := HLT.out; omega) _) (by have := HLT.out; omega)⟩, HI.out.2, HI.out.1.aside (below_setRow' (Below.refl _ _) (by have := HLT.out; omega) _) (setRow_other _ _ _ _ (by have := HLT.out; omega))⟩
end Go.Proofs.Ytafmoglaockepaa.Cd
end
section
-- Written by a program of this session (wip/pp), out of the translation.
namespace Go.Proofs.Ytafmoglaockepaa.PG
open Go.RowKit Go.Proofs.Ytafmoglaockepaa.Mine Go.Proofs.YtafmoglaockepaaW.PrintWords Go.Proofs.YtafmoglaockepaaW.PrintLast Go.Proofs.YtafmoglaockepaaW.PrintMore
attribute [local go_sem] max2_int min2_int max_two min_two max_three min_three max_four min_four   -- for this text's walks alone
set_option linter.unusedVariables false
set_option linter.unusedSimpArgs false
end Go.Proofs.Ytafmoglaockepaa.PG
end
section
namespace Go.Proofs.Ytafmoglaockepaa.Cd
open Go Go.RowKit Go.Proofs.Ytafmoglaockepaa.Num Go.Proofs.Ytafmoglaockepaa.PG Go.Proofs.YtafmoglaockepaaW.PrintWords Go.Proofs.YtafmoglaockepaaW.PrintLast Go.Proofs.YtafmoglaockepaaW.PrintMore
set_option linter.unusedVariables false
set_option linter.unusedSimpArgs false
set_option maxHeartbeats 4000000
set_option maxRecDepth 100000
theorem sameLines_l0 (l : List S110) (hl : l.length ≤ 9223372036854775807) : ∀ d i k : Nat, d + 1 ≤ k → i + d = l.length → larderref09_SameLines.l0 k l l (i : Int) = some true
  | 0, i, k, hk, h => by
    obtain ⟨k, rfl⟩ : ∃ q, k = q + 1 := ⟨k - 1, by omega⟩
    unfold larderref09_SameLines.l0
    rw [if_neg (by omega)]
  | d + 1, i, k, hk, h => by
    obtain ⟨k, rfl⟩ : ∃ q, k = q + 1 := ⟨k - 1, by omega⟩
    unfold larderref09_SameLines.l0
    rw [if_pos (by omega), if_pos (by omega), if_pos (by omega), w64n (by omega), sameLines_l0 l hl d (i + 1) k (by omega) (by omega)]
    simp
theorem sameLines_ok (l : List S110) (hl : l.length ≤ 9223372036854775807) (k : Nat) (hk : l.length + 1 ≤ k) : larderref09_SameLines.f k l l = some true := by
  unfold larderref09_SameLines.f
  rw [if_pos rfl]
  exact sameLines_l0 l hl l.length 0 k hk (by omega)
theorem sameRequest_ok (q : S40) (hl : q.f2.length ≤ 9223372036854775807) (k : Nat) (hk : q.f2.length + 1 ≤ k) : larderref09_SameRequest.f k q.f0 q.f1 q.f2 q.f3 q.f4 q.f5 q.f0 q.f1 q.f2 q.f3 q.f4 q.f5 = some true := by
  unfold larderref09_SameRequest.f
  rw [if_pos rfl, if_pos rfl, sameLines_ok q.f2 hl k hk, Option.bind_some, if_pos rfl, if_pos rfl, if_pos rfl]
  simp
def sumN (l : List S110) : Nat := (l.map fun x => 2 + x.f0.size).sum
def sumQ (q : S40) : Nat := q.f0.size + q.f3.size + sumN q.f2
theorem sumN_count : ∀ l : List S110, 2 * l.length ≤ sumN l
  | [] => by simp [sumN]
  | x :: l => by
    have := sumN_count l
    simp only [sumN, List.map_cons, List.sum_cons, List.length_cons] at this ⊢
    omega
theorem sumN_cons (x : S110) (l : List S110) : sumN (x :: l) = 2 + x.f0.size + sumN l := by simp [sumN]
theorem bulkN_sum : ∀ l : List S110, bulkN l ≤ 10 * sumN l
  | [] => by simp [bulkN, sumN]
  | x :: l => by
    have := bulkN_sum l
    simp only [sumN, bulkN, List.map_cons, List.sum_cons] at this ⊢
    omega
theorem bulkQ_sum (q : S40) : bulkQ q ≤ 60 + 10 * sumQ q := by
  have := bulkN_sum q.f2
  unfold bulkQ sumQ
  omega
theorem weight_l0 (l : List S110) (z0 : ByteArray) (z1 : Int) (z3 : ByteArray) (z4 z5 : Int) (hll : l.length < 9223372036854775807) : ∀ (d i k s : Nat), d + 1 ≤ k → i + d = l.length → s + sumN (l.drop i) < 9223372036854775807 → larderlaw09_weight.l0 k (s : Int) (i : Int) z0 z1 l z3 z4 z5 = some ((s + sumN (l.drop i) : Nat) : Int)
  | 0, i, k, s, hk, h, hb => by
    obtain ⟨k, rfl⟩ : ∃ q, k = q + 1 := ⟨k - 1, by omega⟩
    unfold larderlaw09_weight.l0
    rw [if_neg (by omega), List.drop_of_length_le (by omega)]
    simp [sumN]
  | d + 1, i, k, s, hk, h, hb => by
    obtain ⟨k, rfl⟩ : ∃ q, k = q + 1 := ⟨k - 1, by omega⟩
    obtain ⟨x, hx⟩ : ∃ x, l[i]? = some x := ⟨_, List.getElem?_eq_getElem (by omega)⟩
    have he := drop_at hx
    rw [he, sumN_cons] at hb
    have ih := weight_l0 l z0 z1 z3 z4 z5 hll d (i + 1) k (s + 2 + x.f0.size) (by omega) (by omega) (by omega)
    have w1 : wrap64 ((s : Int) + 2) = ((s + 2 : Nat) : Int) := by unfold wrap64; omega
    have w2 : wrap64 (((s + 2 : Nat) : Int) + (x.f0.size : Int)) = ((s + 2 + x.f0.size : Nat) : Int) := by unfold wrap64; omega
    unfold larderlaw09_weight.l0
    rw [if_pos (by omega), if_pos (by omega), rd110 hx, w1, w2, w64n (by omega), ih, he, sumN_cons]
    congr 2
    omega
theorem weight_ok (q : S40) (hb : sumQ q < 9223372036854775807) (k : Nat) (hk : q.f2.length + 1 ≤ k) : larderlaw09_weight.f k q.f0 q.f1 q.f2 q.f3 q.f4 q.f5 = some (sumQ q : Int) := by
  have hc := sumN_count q.f2
  have hq : sumQ q = q.f0.size + q.f3.size + sumN q.f2 := rfl
  have := weight_l0 q.f2 q.f0 q.f1 q.f3 q.f4 q.f5 (by omega) q.f2.length 0 k (q.f0.size + q.f3.size) hk (by omega) (by rw [List.drop_zero]; omega)
  rw [List.drop_zero] at this
  have e0 : ((0 : Nat) : Int) = 0 := rfl
  rw [e0] at this
  unfold larderlaw09_weight.f
  rw [show wrap64 ((q.f0.size : Int) + (q.f3.size : Int)) = ((q.f0.size + q.f3.size : Nat) : Int) by unfold wrap64; omega, this, hq]
theorem C_row {w : World} {A : Option Addr} {n b : Nat} {xs : List S110} {cs : Array Value} (h : Kd.C k110 w A n xs) (hb : ∀ a, A = some a → a.block ≠ b) : Kd.C k110 (w.setRow b cs) A n xs := by
  obtain ⟨h1, h2, h3⟩ := h
  refine ⟨h1, h2, fun hn => ?_⟩
  obtain ⟨ad, e, hc⟩ := h3 hn
  refine ⟨ad, e, fun j p hj => ?_⟩
  obtain ⟨c, hs, hr, hcell⟩ := hc j p hj
  refine ⟨c, hs, ?_, fun i u hu => ?_⟩
  · rw [k110_open hr]
    exact k110_mk _ p
  · rw [World.cell?_of_block (w := w) (w' := w.setRow b cs) (a := ad.add (j * k110.sz + i)) (setRow_other w b _ cs (by have h5 := hb ad e; unfold Addr.add; first | exact h5 | (split <;> exact h5) | (simp; exact h5)))]
    exact hcell i u hu
theorem lent_at (q : S40) (A : Option Addr) (c : Nat) (W : World) (hC : Kd.C k110 W A q.f2.length q.f2) (hc : q.f2.length ≤ c) (hL : q.f2.length + 9 < 5864062014805) :
    Calls Try.prog 20 #[.agg #[.string q.f0, .int .i64 q.f1, .slice A q.f2.length c, .string q.f3, .int .i64 q.f4, .int .i64 q.f5]] W fun e w' => Below W.heap.size W w' ∧ ∃ Ao co, e = .returned (.agg #[.string q.f0, .int .i64 q.f1, .slice Ao q.f2.length co, .string q.f3, .int .i64 q.f4, .int .i64 q.f5]) ∧ Kd.C k110 w' Ao q.f2.length q.f2 ∧ q.f2.length ≤ co ∧ Kd.C k110 w' Ao (q.f2 ++ marksN).length (q.f2 ++ marksN) ∧ (q.f2 ++ marksN).length ≤ co := by
  have hb1 : Below W.heap.size W (W.alloc (.cells #[.string q.f0, .int .i64 q.f1, .slice A q.f2.length c, .string q.f3, .int .i64 q.f4, .int .i64 q.f5] 40)) := below_alloc (Below.refl _ _) _
  have r1 : Rt 40 W.heap.size [.string q.f0, .int .i64 q.f1, .slice A q.f2.length c, .string q.f3, .int .i64 q.f4, .int .i64 q.f5] (W.alloc (.cells #[.string q.f0, .int .i64 q.f1, .slice A q.f2.length c, .string q.f3, .int .i64 q.f4, .int .i64 q.f5] 40)) := heap_alloc_new W _
  have s1 : (W.alloc (.cells #[.string q.f0, .int .i64 q.f1, .slice A q.f2.length c, .string q.f3, .int .i64 q.f4, .int .i64 q.f5] 40)).heap.size = W.heap.size + 1 := by simp
  obtain ⟨b, hbe⟩ : ∃ b, W.heap.size = b := ⟨_, rfl⟩
  have HBE := Aside0.mk hbe
  have CA := Aside0.mk (Kd.C_below hC hb1)
  have HC := Aside0.mk hc
  have HL := Aside0.mk hL
  have BA := Aside0.mk (show Below b W (W.alloc (.cells #[.string q.f0, .int .i64 q.f1, .slice A q.f2.length c, .string q.f3, .int .i64 q.f4, .int .i64 q.f5] 40)) by rw [← hbe]; exact hb1)
  rw [hbe] at r1 s1
  have RA := Aside0.mk r1
  have SA := Aside0.mk s1
  clear hC hc hL hb1 r1 s1 hbe
  go_enter Try.func20, Try.ntmps20
  go_upto_region 1 with fail
  have hbe := HBE.out
  have hab : (W.alloc (.cells #[.string q.f0, .int .i64 q.f1, .slice A q.f2.length c, .string q.f3, .int .i64 q.f4, .int .i64 q.f5] 40)).heap.size = b + 1 := SA.out
  try rw [hab]
  try rw [hbe]
  clear hbe hab
  generalize W.alloc (.cells #[.string q.f0, .int .i64 q.f1, .slice A q.f2.length c, .string q.f3, .int .i64 q.f4, .int .i64 q.f5] 40) = wa at *
  have hb2 : Below wa.heap.size wa (wa.alloc (.cells #[.string ⟨#[]⟩, .int .i64 0, .slice none 0 0, .string ⟨#[]⟩, .int .i64 0, .int .i64 0] 40)) := below_alloc (Below.refl _ _) _
  have r2 : Rt 40 wa.heap.size [.string ⟨#[]⟩, .int .i64 0, .slice none 0 0, .string ⟨#[]⟩, .int .i64 0, .int .i64 0] (wa.alloc (.cells #[.string ⟨#[]⟩, .int .i64 0, .slice none 0 0, .string ⟨#[]⟩, .int .i64 0, .int .i64 0] 40)) := heap_alloc_new wa _
  have R1 := Aside0.mk (RA.out.below hb2)
  have C1 := Aside0.mk (Kd.C_below CA.out hb2)
  have B1 := Aside0.mk (BA.out.trans (hb2.mono (by have := SA.out; omega)))
  have S1 := Aside0.mk (show b + 2 ≤ (wa.alloc (.cells #[.string ⟨#[]⟩, .int .i64 0, .slice none 0 0, .string ⟨#[]⟩, .int .i64 0, .int .i64 0] 40)).heap.size by have := SA.out; simp; omega)
  rw [SA.out] at r2
  have O1 := Aside0.mk r2
  clear hb2 r2
  try rw [SA.out]
  generalize wa.alloc (.cells #[.string ⟨#[]⟩, .int .i64 0, .slice none 0 0, .string ⟨#[]⟩, .int .i64 0, .int .i64 0] 40) = w1 at *
  have c2 := R1.out.cell 2 _ rfl
  have f2 := R1.out.free 2
  go_wp2_with fail
  go_at_call 69
  refine (LentLines_at A c q.f2 w1 C1.out HC.out HL.out).mono ?_
  rintro e w2 ⟨v, rfl, hR, ⟨hsp, hcsp⟩, hb⟩
  obtain ⟨Ao, co, rfl, hco, hCo⟩ := Kd.R_reads hR
  have R2 := Aside0.mk (R1.out.below hb)
  have O2 := Aside0.mk (O1.out.below hb)
  have B2 := Aside0.mk (B1.out.trans (hb.mono (by have := S1.out; omega)))
  have BD := Aside0.mk (Kd.R_bound hR)
  have S2 := Aside0.mk (Nat.le_trans S1.out hb.size)
  have LO := Aside0.mk (show LN (b + 2) q.f2 (.slice Ao q.f2.length co) w2 from LN_alive.lower hR S1.out)
  have HCO := Aside0.mk hco
  have HSP := Aside0.mk (And.intro hsp hcsp)
  have HOW := Aside0.mk (show ∀ j, (Value.slice Ao q.f2.length co).ownBlock = some j → b + 2 ≤ j from fun j hj => Nat.le_trans S1.out ((Kd.R_bound hR).1 j hj).2.1)
  clear hR hsp hcsp hb hco hCo c2 f2
  have c2 := R2.out.cell 2 _ rfl
  have f2 := R2.out.free 2
  go_upto_region 2 with fail
  rw [R2.out.set 2 (.slice Ao q.f2.length co)]
  have hl : ([Value.string q.f0, .int .i64 q.f1, .slice A q.f2.length c, .string q.f3, .int .i64 q.f4, .int .i64 q.f5] : List Value).set 2 (.slice Ao q.f2.length co) = [Value.string q.f0, .int .i64 q.f1, .slice Ao q.f2.length co, .string q.f3, .int .i64 q.f4, .int .i64 q.f5] := rfl
  rw [hl]
  clear hl c2 f2
  have R3 := Aside0.mk (show Rt 40 b [.string q.f0, .int .i64 q.f1, .slice Ao q.f2.length co, .string q.f3, .int .i64 q.f4, .int .i64 q.f5] (w2.setRow b [Value.string q.f0, .int .i64 q.f1, .slice Ao q.f2.length co, .string q.f3, .int .i64 q.f4, .int .i64 q.f5].toArray) from R2.out.row _)
  have O3 := Aside0.mk (show Rt 40 (b + 1) [.string ⟨#[]⟩, .int .i64 0, .slice none 0 0, .string ⟨#[]⟩, .int .i64 0, .int .i64 0] (w2.setRow b [Value.string q.f0, .int .i64 q.f1, .slice Ao q.f2.length co, .string q.f3, .int .i64 q.f4, .int .i64 q.f5].toArray) from (setRow_other _ _ _ _ (by omega)).trans O2.out)
  have B3 := Aside0.mk (show Below b W (w2.setRow b [Value.string q.f0, .int .i64 q.f1, .slice Ao q.f2.length co, .string q.f3, .int .i64 q.f4, .int .i64 q.f5].toArray) from below_setRow' B2.out (Nat.le_refl _) _)
  have L3 := Aside0.mk (LN_alive.row (b := b) LO.out (by omega) [Value.string q.f0, .int .i64 q.f1, .slice Ao q.f2.length co, .string q.f3, .int .i64 q.f4, .int .i64 q.f5].toArray)
  have SP3 := Aside0.mk (show Kd.C k110 (w2.setRow b [Value.string q.f0, .int .i64 q.f1, .slice Ao q.f2.length co, .string q.f3, .int .i64 q.f4, .int .i64 q.f5].toArray) Ao (q.f2 ++ marksN).length (q.f2 ++ marksN) from C_row HSP.out.1 (fun a ha => by
    intro e
    have := HOW.out a.block (by rw [ha]; rfl)
    omega))
  generalize w2.setRow b [Value.string q.f0, .int .i64 q.f1, .slice Ao q.f2.length co, .string q.f3, .int .i64 q.f4, .int .i64 q.f5].toArray = w3 at *
  have c0 := R3.out.cell 0 _ rfl
  have c1 := R3.out.cell 1 _ rfl
  have c2 := R3.out.cell 2 _ rfl
  have c3 := R3.out.cell 3 _ rfl
  have c4 := R3.out.cell 4 _ rfl
  have c5 := R3.out.cell 5 _ rfl
  have f0 := O3.out.free 0
  have f1 := O3.out.free 1
  have f2 := O3.out.free 2
  have f3 := O3.out.free 3
  have f4 := O3.out.free 4
  have f5 := O3.out.free 5
  have d0 := O3.out.cell 0 _ rfl
  have d1 := O3.out.cell 1 _ rfl
  have d2 := O3.out.cell 2 _ rfl
  have d3 := O3.out.cell 3 _ rfl
  have d4 := O3.out.cell 4 _ rfl
  have d5 := O3.out.cell 5 _ rfl
  go_wp2_with fail
  rw [O3.out.full_req]
  have R4 : Rt 40 (b + 1) [.string q.f0, .int .i64 q.f1, .slice Ao q.f2.length co, .string q.f3, .int .i64 q.f4, .int .i64 q.f5] (w3.setRow (b + 1) [Value.string q.f0, .int .i64 q.f1, .slice Ao q.f2.length co, .string q.f3, .int .i64 q.f4, .int .i64 q.f5].toArray) := O3.out.row _
  refine bodyPost_ret (results_cell_row rfl _ _ (b + 1) 40 _ (0, 0) _ rfl R4 Try.underlying40 rfl (by kernel_rfl)) rfl ?_
  rw [HBE.out]
  have L4 := LN_alive.row (b := b + 1) L3.out (by omega) [Value.string q.f0, .int .i64 q.f1, .slice Ao q.f2.length co, .string q.f3, .int .i64 q.f4, .int .i64 q.f5].toArray
  obtain ⟨A4, c4', e4, hc4, hC4⟩ := Kd.R_reads L4
  injection e4 with e5 e6 e7
  subst e5 e7
  refine ⟨below_setRow' B3.out (Nat.le_succ _) _, Ao, co, rfl, hC4, HCO.out, C_row SP3.out (fun a ha => by
    intro e
    have := HOW.out a.block (by rw [ha]; rfl)
    omega), HSP.out.2⟩
theorem kept_at (q : S40) (Ao : Option Addr) (co : Nat) (A : Option Addr) (c : Nat) (W : World) (hCo : Kd.C k110 W Ao q.f2.length q.f2) (hco : q.f2.length ≤ co) (hsp : Kd.C k110 W Ao (q.f2 ++ marksN).length (q.f2 ++ marksN)) (hcs : (q.f2 ++ marksN).length ≤ co)
    (hC : Kd.C k110 W A q.f2.length q.f2) (hc : q.f2.length ≤ c) (hl : q.f2.length < 9223372036854775000) :
    Calls Try.prog 23 #[.agg #[.string q.f0, .int .i64 q.f1, .slice Ao q.f2.length co, .string q.f3, .int .i64 q.f4, .int .i64 q.f5], .agg #[.string q.f0, .int .i64 q.f1, .slice A q.f2.length c, .string q.f3, .int .i64 q.f4, .int .i64 q.f5]] W fun e w' => e = .returned (.bool true) ∧ Below W.heap.size W w' := by
  have hb1 : Below W.heap.size W (W.alloc (.cells #[.string q.f0, .int .i64 q.f1, .slice Ao q.f2.length co, .string q.f3, .int .i64 q.f4, .int .i64 q.f5] 40)) := below_alloc (Below.refl _ _) _
  have r1 : Rt 40 W.heap.size [.string q.f0, .int .i64 q.f1, .slice Ao q.f2.length co, .string q.f3, .int .i64 q.f4, .int .i64 q.f5] (W.alloc (.cells #[.string q.f0, .int .i64 q.f1, .slice Ao q.f2.length co, .string q.f3, .int .i64 q.f4, .int .i64 q.f5] 40)) := heap_alloc_new W _
  have s1 : (W.alloc (.cells #[.string q.f0, .int .i64 q.f1, .slice Ao q.f2.length co, .string q.f3, .int .i64 q.f4, .int .i64 q.f5] 40)).heap.size = W.heap.size + 1 := by simp
  obtain ⟨b, hbe⟩ : ∃ b, W.heap.size = b := ⟨_, rfl⟩
  have HBE := Aside0.mk hbe
  have HC := Aside0.mk (And.intro hco (And.intro hc (And.intro hcs hl)))
  have CA := Aside0.mk (And.intro (Kd.C_below hCo hb1) (And.intro (Kd.C_below hsp hb1) (Kd.C_below hC hb1)))
  have BA := Aside0.mk (show Below b W (W.alloc (.cells #[.string q.f0, .int .i64 q.f1, .slice Ao q.f2.length co, .string q.f3, .int .i64 q.f4, .int .i64 q.f5] 40)) by rw [← hbe]; exact hb1)
  rw [hbe] at r1 s1
  have RA := Aside0.mk r1
  have SA := Aside0.mk s1
  clear hCo hco hsp hcs hC hc hl hb1 r1 s1 hbe
  go_enter Try.func23, Try.ntmps23
  go_upto_region 1 with fail
  have hbe := HBE.out
  have hab : (W.alloc (.cells #[.string q.f0, .int .i64 q.f1, .slice Ao q.f2.length co, .string q.f3, .int .i64 q.f4, .int .i64 q.f5] 40)).heap.size = b + 1 := SA.out
  try rw [hab]
  try rw [hbe]
  clear hbe hab
  generalize W.alloc (.cells #[.string q.f0, .int .i64 q.f1, .slice Ao q.f2.length co, .string q.f3, .int .i64 q.f4, .int .i64 q.f5] 40) = wa at *
  have hb2 : Below wa.heap.size wa (wa.alloc (.cells #[.string q.f0, .int .i64 q.f1, .slice A q.f2.length c, .string q.f3, .int .i64 q.f4, .int .i64 q.f5] 40)) := below_alloc (Below.refl _ _) _
  have r2 : Rt 40 wa.heap.size [.string q.f0, .int .i64 q.f1, .slice A q.f2.length c, .string q.f3, .int .i64 q.f4, .int .i64 q.f5] (wa.alloc (.cells #[.string q.f0, .int .i64 q.f1, .slice A q.f2.length c, .string q.f3, .int .i64 q.f4, .int .i64 q.f5] 40)) := heap_alloc_new wa _
  have R1 := Aside0.mk (RA.out.below hb2)
  have C1 := Aside0.mk (And.intro (Kd.C_below CA.out.1 hb2) (And.intro (Kd.C_below CA.out.2.1 hb2) (Kd.C_below CA.out.2.2 hb2)))
  have B1 := Aside0.mk (BA.out.trans (hb2.mono (by have := SA.out; omega)))
  have S1 := Aside0.mk (show b + 2 ≤ (wa.alloc (.cells #[.string q.f0, .int .i64 q.f1, .slice A q.f2.length c, .string q.f3, .int .i64 q.f4, .int .i64 q.f5] 40)).heap.size by have := SA.out; simp; omega)
  rw [SA.out] at r2
  have O1 := Aside0.mk r2
  clear hb2 r2
  try rw [SA.out]
  generalize wa.alloc (.cells #[.string q.f0, .int .i64 q.f1, .slice A q.f2.length c, .string q.f3, .int .i64 q.f4, .int .i64 q.f5] 40) = w1 at *
  have HSR := Aside0.mk (larderref09_SameRequest.calls (q.f2.length + 1) q.f0 q.f1 Ao co q.f2 q.f3 q.f4 q.f5 q.f0 q.f1 A c q.f2 q.f3 q.f4 q.f5 true w1 C1.out.1 HC.out.1 C1.out.2.2 HC.out.2.1 (sameRequest_ok q (by have := HC.out.2.2.2; omega) _ (Nat.le_refl _)))
  have c0 := R1.out.cell 0 _ rfl
  have d0 := O1.out.cell 0 _ rfl
  have c1 := R1.out.cell 1 _ rfl
  have d1 := O1.out.cell 1 _ rfl
  have c2 := R1.out.cell 2 _ rfl
  have d2 := O1.out.cell 2 _ rfl
  have c3 := R1.out.cell 3 _ rfl
  have d3 := O1.out.cell 3 _ rfl
  have c4 := R1.out.cell 4 _ rfl
  have d4 := O1.out.cell 4 _ rfl
  have c5 := R1.out.cell 5 _ rfl
  have d5 := O1.out.cell 5 _ rfl
  go_wp2_with fail
  go_at_call 26
  refine HSR.out.mono ?_
  rintro e w2 ⟨rfl, hb⟩
  have R2 := Aside0.mk (R1.out.below hb)
  have O2 := Aside0.mk (O1.out.below hb)
  have C2 := Aside0.mk (And.intro (Kd.C_below C1.out.2.1 hb) (Kd.C_below C1.out.2.2 hb))
  have B2 := Aside0.mk (B1.out.trans (hb.mono (by have := S1.out; omega)))
  have S2 := Aside0.mk (Nat.le_trans S1.out hb.size)
  have HKL := Aside0.mk (KeptLines_at (q.f2.length + 9 + 1) Ao co A c q.f2 (q.f2 ++ marksN) true w2 C2.out.1 (by rw [List.length_append, marksN_length]) HC.out.2.2.1 C2.out.2 HC.out.2.1 HC.out.2.2.2 (keptLines_l0 q.f2 HC.out.2.2.2 (q.f2.length + 9) 0 (by omega)))
  clear hb HSR c0 c1 c2 c3 c4 c5 d0 d1 d2 d3 d4 d5
  have c2 := R2.out.cell 2 _ rfl
  have d2 := O2.out.cell 2 _ rfl
  go_wp2_with fail
  go_at_call 73
  refine HKL.out.mono ?_
  rintro e w3 ⟨rfl, hd⟩
  have hb : Below w2.heap.size w2 w3 := by
    obtain ⟨md, rfl⟩ := hd
    exact pw_below_drewN (Below.refl _ _) md
  have B3 := Aside0.mk (B2.out.trans (hb.mono (by have := S2.out; omega)))
  clear hd hb
  go_wp2_with fail
  go_ret
  rw [HBE.out]
  exact ⟨rfl, B3.out⟩
end Go.Proofs.Ytafmoglaockepaa.Cd
end
