/- What the codec writes and reads: texts of this session joined, with what is not needed left out. -/
import Derived.Test.YtafmoglaockepaaSt2
import Derived.Test.YtafmoglaockepaaSt4
import Derived.Deep.RegionHeld3
import Derived.Deep.RegionLaw
import Derived.Defers
import Derived.Recover
import Derived.Test.YtafmoglaockepaaSt3
section
namespace Go.Proofs.Ytafmoglaockepaa.Cd
open Go Go.RowKit Go.Proofs.Ytafmoglaockepaa.Num Go.Proofs.Ytafmoglaockepaa.PG Go.Proofs.YtafmoglaockepaaW.PrintWords Go.Proofs.YtafmoglaockepaaW.PrintLast Go.Proofs.YtafmoglaockepaaW.PrintMore
set_option linter.unusedVariables false
set_option linter.unusedSimpArgs false
set_option maxHeartbeats 4000000
set_option maxRecDepth 100000
theorem info28 : (Try.prog.info? 28).map (fun i => (i.zero, i.size, i.bytes)) = some (some (.agg #[.string ⟨#[]⟩, .int .i64 0, .int .i64 0]), 3, 32) := by kernel_rfl
theorem CrAt.aside {g B : Nat} {A : Option Addr} {n c : Nat} {xs : List Int} {m most : Nat} {W W' : World} (k : CrAt g B A n c xs m most W) (hb : Below B W W') (hg : W'.heap[g]? = W.heap[g]?) : CrAt g B A n c xs m most W' :=
  { k with row := hg.trans k.row, foot := fun W2 hb2 => k.foot W2 (hb.trans hb2) }
abbrev lev (x : S28) : Value := .agg #[.string x.f0, .int .i64 x.f1, .int .i64 x.f2]
theorem r_level {g B gb : Nat} {A : Option Addr} {n c : Nat} {xs : List Int} {m most : Nat} {W : World} (k : CrAt g B A n c xs m most W) (hbx : Rt 101 gb [ptr g] W) :
    Calls Try.prog 119 #[ptr gb] W fun e w' => Below B W w' ∧ Kept W w' (fun j => j = g) ∧ Out g B A n c xs most lev (pLevel xs most m) e w' := by
  have HK := Aside0.mk k
  have HBX := Aside0.mk hbx
  have HNE := Aside0.mk (show gb ≠ g from fun e => by
    have h2 := hbx
    rw [e] at h2
    have := blk_types h2 k.row
    omega)
  clear k hbx
  go_enter Try.func119, Try.ntmps119
  go_upto_region 1 with fail
  have hr1 : Rt 28 W.heap.size [.string ⟨#[]⟩, .int .i64 0, .int .i64 0] (W.alloc (.cells #[.string ⟨#[]⟩, .int .i64 0, .int .i64 0] 28)) := heap_alloc_new W _
  have hb1 : Below W.heap.size W (W.alloc (.cells #[.string ⟨#[]⟩, .int .i64 0, .int .i64 0] 28)) := below_alloc (Below.refl _ _) _
  obtain ⟨b, hbe⟩ : ∃ b, W.heap.size = b := ⟨_, rfl⟩
  have K1 := Aside0.mk (HK.out.below hb1)
  have X1 := Aside0.mk (HBX.out.below hb1)
  have B1 := Aside0.mk (hb1.mono HK.out.size)
  have P1 := Aside0.mk (Kept.of_below hb1 (fun j => j = g))
  have HBE := Aside0.mk hbe
  have HLT := Aside0.mk (show g < b ∧ gb < b ∧ B ≤ b by have := HK.out.row.lt; have := HBX.out.lt; have := HK.out.size; omega)
  rw [hbe] at hr1 ⊢
  have R1 := Aside0.mk hr1
  clear hr1 hb1 hbe
  generalize W.alloc (.cells #[.string ⟨#[]⟩, .int .i64 0, .int .i64 0] 28) = w1 at *
  have cx := X1.out.cell 0 _ rfl
  have cr := R1.out.cell 0 _ rfl
  have fr := R1.out.free 0
  go_wp2_with fail
  go_at_call 61
  refine (r_text K1.out).mono ?_
  rintro e w2 ⟨hb, hp, ho⟩
  have hbt := B1.out.trans hb
  have hpt := P1.out.then_ hp (fun _ h => .inl h)
  rcases hq : pT xs most m with ⟨t, m1⟩ | ⟨er, p⟩
  rotate_left
  · rw [hq] at ho
    have ho : e = gaveUp er p := ho
    subst ho
    refine ⟨rfl, hbt, hpt, ?_⟩
    have e9 : pLevel xs most m = Res.fail er p := by
      unfold pLevel
      simp only [Res.bind, hq]
    rw [e9]
    rfl
  rw [hq] at ho
  obtain ⟨he, hk⟩ : e = .returned (.string t) ∧ CrAt g B A n c xs m1 most w2 := ho
  subst he
  have HQ0 := Aside0.mk hq
  have K2 := Aside0.mk hk
  have B2 := Aside0.mk hbt
  have P2 := Aside0.mk hpt
  have X2 := Aside0.mk (show Rt 101 gb [ptr g] w2 from (hp.2 gb X1.out.lt HNE.out).trans X1.out)
  have R2 := Aside0.mk (show Rt 28 b [.string ⟨#[]⟩, .int .i64 0, .int .i64 0] w2 from (hp.2 b R1.out.lt (by have := HLT.out; show b ≠ g; omega)).trans R1.out)
  clear hb hp hbt hpt hq hk cx cr fr
  try clear ho
  have cr := R2.out.cell 0 _ rfl
  have fr := R2.out.free 0
  go_upto_region 2 with fail
  have e1 := R2.out.set 0 (.string t)
  rw [e1]
  clear e1 cr fr
  have hl : [Value.string ⟨#[]⟩, .int .i64 0, .int .i64 0].set 0 (.string t) = [Value.string t, .int .i64 0, .int .i64 0] := rfl
  rw [hl]
  clear hl
  have hbs : Below B W (w2.setRow b [Value.string t, .int .i64 0, .int .i64 0].toArray) := below_setRow' B2.out HLT.out.2.2 _
  have K3 := Aside0.mk (show CrAt g B A n c xs m1 most (w2.setRow b [Value.string t, .int .i64 0, .int .i64 0].toArray) from K2.out.aside (below_setRow' (Below.refl _ _) HLT.out.2.2 _) (setRow_other _ _ _ _ (by have := HLT.out; omega)))
  have B3 := Aside0.mk hbs
  have P3 := Aside0.mk (show Kept W (w2.setRow b [Value.string t, .int .i64 0, .int .i64 0].toArray) (fun j => j = g) from ⟨by rw [setRow_size]; exact P2.out.1, fun j hj hn => (setRow_other _ _ _ _ (by have := HBE.out; omega)).trans (P2.out.2 j hj hn)⟩)
  have X3 := Aside0.mk (show Rt 101 gb [ptr g] (w2.setRow b [Value.string t, .int .i64 0, .int .i64 0].toArray) from (setRow_other _ _ _ _ (by have := HLT.out; omega)).trans X2.out)
  have R3 := Aside0.mk (show Rt 28 b [Value.string t, .int .i64 0, .int .i64 0] (w2.setRow b [Value.string t, .int .i64 0, .int .i64 0].toArray) from R2.out.row _)
  clear hbs
  generalize w2.setRow b [Value.string t, .int .i64 0, .int .i64 0].toArray = w3 at *
  have cx := X3.out.cell 0 _ rfl
  have cr := R3.out.cell 1 _ rfl
  have fr := R3.out.free 1
  go_wp2_with fail
  go_at_call 62
  refine (r_int K3.out).mono ?_
  rintro e w4 ⟨hb, hp, ho⟩
  have hbt := B3.out.trans hb
  have hpt := P3.out.then_ hp (fun _ h => .inl h)
  rcases hq : pI xs m1 with ⟨a, m2⟩ | ⟨er, p⟩
  rotate_left
  · rw [hq] at ho
    have ho : e = gaveUp er p := ho
    subst ho
    refine ⟨rfl, hbt, hpt, ?_⟩
    have e9 : pLevel xs most m = Res.fail er p := by
      unfold pLevel
      simp only [Res.bind, HQ0.out, hq]
    rw [e9]
    rfl
  rw [hq] at ho
  obtain ⟨he, hk⟩ : e = .returned (.int .i64 a) ∧ CrAt g B A n c xs m2 most w4 := ho
  subst he
  have HQ1 := Aside0.mk hq
  have K4 := Aside0.mk hk
  have B4 := Aside0.mk hbt
  have P4 := Aside0.mk hpt
  have X4 := Aside0.mk (show Rt 101 gb [ptr g] w4 from (hp.2 gb X3.out.lt HNE.out).trans X3.out)
  have R4 := Aside0.mk (show Rt 28 b [.string t, .int .i64 0, .int .i64 0] w4 from (hp.2 b R3.out.lt (by have := HLT.out; show b ≠ g; omega)).trans R3.out)
  clear hb hp hbt hpt hq hk cx cr fr
  try clear ho
  have cr := R4.out.cell 1 _ rfl
  have fr := R4.out.free 1
  go_upto_region 3 with fail
  have e1 := R4.out.set 1 (.int .i64 a)
  rw [e1]
  clear e1 cr fr
  have hl : [Value.string t, .int .i64 0, .int .i64 0].set 1 (.int .i64 a) = [Value.string t, .int .i64 a, .int .i64 0] := rfl
  rw [hl]
  clear hl
  have hbs : Below B W (w4.setRow b [Value.string t, .int .i64 a, .int .i64 0].toArray) := below_setRow' B4.out HLT.out.2.2 _
  have K5 := Aside0.mk (show CrAt g B A n c xs m2 most (w4.setRow b [Value.string t, .int .i64 a, .int .i64 0].toArray) from K4.out.aside (below_setRow' (Below.refl _ _) HLT.out.2.2 _) (setRow_other _ _ _ _ (by have := HLT.out; omega)))
  have B5 := Aside0.mk hbs
  have P5 := Aside0.mk (show Kept W (w4.setRow b [Value.string t, .int .i64 a, .int .i64 0].toArray) (fun j => j = g) from ⟨by rw [setRow_size]; exact P4.out.1, fun j hj hn => (setRow_other _ _ _ _ (by have := HBE.out; omega)).trans (P4.out.2 j hj hn)⟩)
  have X5 := Aside0.mk (show Rt 101 gb [ptr g] (w4.setRow b [Value.string t, .int .i64 a, .int .i64 0].toArray) from (setRow_other _ _ _ _ (by have := HLT.out; omega)).trans X4.out)
  have R5 := Aside0.mk (show Rt 28 b [Value.string t, .int .i64 a, .int .i64 0] (w4.setRow b [Value.string t, .int .i64 a, .int .i64 0].toArray) from R4.out.row _)
  clear hbs
  generalize w4.setRow b [Value.string t, .int .i64 a, .int .i64 0].toArray = w5 at *
  have cx := X5.out.cell 0 _ rfl
  have cr := R5.out.cell 2 _ rfl
  have fr := R5.out.free 2
  go_wp2_with fail
  go_at_call 62
  refine (r_int K5.out).mono ?_
  rintro e w6 ⟨hb, hp, ho⟩
  have hbt := B5.out.trans hb
  have hpt := P5.out.then_ hp (fun _ h => .inl h)
  rcases hq : pI xs m2 with ⟨z, m3⟩ | ⟨er, p⟩
  rotate_left
  · rw [hq] at ho
    have ho : e = gaveUp er p := ho
    subst ho
    refine ⟨rfl, hbt, hpt, ?_⟩
    have e9 : pLevel xs most m = Res.fail er p := by
      unfold pLevel
      simp only [Res.bind, HQ0.out, HQ1.out, hq]
    rw [e9]
    rfl
  rw [hq] at ho
  obtain ⟨he, hk⟩ : e = .returned (.int .i64 z) ∧ CrAt g B A n c xs m3 most w6 := ho
  subst he
  have HQ2 := Aside0.mk hq
  have K6 := Aside0.mk hk
  have B6 := Aside0.mk hbt
  have P6 := Aside0.mk hpt
  have X6 := Aside0.mk (show Rt 101 gb [ptr g] w6 from (hp.2 gb X5.out.lt HNE.out).trans X5.out)
  have R6 := Aside0.mk (show Rt 28 b [.string t, .int .i64 a, .int .i64 0] w6 from (hp.2 b R5.out.lt (by have := HLT.out; show b ≠ g; omega)).trans R5.out)
  clear hb hp hbt hpt hq hk cx cr fr
  try clear ho
  have cr := R6.out.cell 2 _ rfl
  have fr := R6.out.free 2
  go_upto_region 4 with fail
  have e1 := R6.out.set 2 (.int .i64 z)
  rw [e1]
  clear e1 cr fr
  have hl : [Value.string t, .int .i64 a, .int .i64 0].set 2 (.int .i64 z) = [Value.string t, .int .i64 a, .int .i64 z] := rfl
  rw [hl]
  clear hl
  have hbs : Below B W (w6.setRow b [Value.string t, .int .i64 a, .int .i64 z].toArray) := below_setRow' B6.out HLT.out.2.2 _
  have K7 := Aside0.mk (show CrAt g B A n c xs m3 most (w6.setRow b [Value.string t, .int .i64 a, .int .i64 z].toArray) from K6.out.aside (below_setRow' (Below.refl _ _) HLT.out.2.2 _) (setRow_other _ _ _ _ (by have := HLT.out; omega)))
  have B7 := Aside0.mk hbs
  have P7 := Aside0.mk (show Kept W (w6.setRow b [Value.string t, .int .i64 a, .int .i64 z].toArray) (fun j => j = g) from ⟨by rw [setRow_size]; exact P6.out.1, fun j hj hn => (setRow_other _ _ _ _ (by have := HBE.out; omega)).trans (P6.out.2 j hj hn)⟩)
  have X7 := Aside0.mk (show Rt 101 gb [ptr g] (w6.setRow b [Value.string t, .int .i64 a, .int .i64 z].toArray) from (setRow_other _ _ _ _ (by have := HLT.out; omega)).trans X6.out)
  have R7 := Aside0.mk (show Rt 28 b [Value.string t, .int .i64 a, .int .i64 z] (w6.setRow b [Value.string t, .int .i64 a, .int .i64 z].toArray) from R6.out.row _)
  clear hbs
  generalize w6.setRow b [Value.string t, .int .i64 a, .int .i64 z].toArray = w7 at *
  have c0 := R7.out.cell 0 _ rfl
  have c1 := R7.out.cell 1 _ rfl
  have c2 := R7.out.cell 2 _ rfl
  have f0 := R7.out.free 0
  have f1 := R7.out.free 1
  have f2 := R7.out.free 2
  go_wp2_with fail
  rw [R7.out.same 0 _ rfl, R7.out.same 1 _ rfl, R7.out.same 2 _ rfl]
  refine bodyPost_ret (results_cell_row rfl _ _ b 28 _ (0, 0) _ rfl R7.out Try.underlying28 rfl (by kernel_rfl)) rfl ?_
  refine ⟨B7.out, P7.out, ?_⟩
  have e9 : pLevel xs most m = Res.ok ⟨t, a, z⟩ m3 := by
    unfold pLevel
    simp only [Res.bind, HQ0.out, HQ1.out, HQ2.out]
  rw [e9]
  exact ⟨rfl, K7.out⟩
def OutR {α : Type} (g B : Nat) (A : Option Addr) (n c : Nat) (xs : List Int) (most : Nat) (enc : α → Value → World → Prop) (r : Res α) (e : Ending) (w' : World) : Prop :=
  match r with
  | .ok x m' => ∃ v, e = .returned v ∧ enc x v w' ∧ CrAt g B A n c xs m' most w'
  | .fail er p => e = gaveUp er p
theorem r_levelList {g B gb : Nat} {A : Option Addr} {n c : Nat} {xs : List Int} {m most : Nat} {W : World} (k : CrAt g B A n c xs m most W) (hbx : Rt 101 gb [ptr g] W) :
    Calls Try.prog 118 #[ptr g, .func (.func 119) #[] #[ptr gb]] W fun e w' => Below B W w' ∧ Kept W w' (fun j => j = g) ∧ OutR g B A n c xs most (fun l v w' => k28.R 28 w' W.heap.size (fun _ => True) v l) (pList xs most (pLevel xs most) m) e w' := by
  have HK := Aside0.mk k
  have HBX := Aside0.mk hbx
  have HNE := Aside0.mk (show gb ≠ g from fun e => by
    have h2 := hbx
    rw [e] at h2
    have := blk_types h2 k.row
    omega)
  have c1 : (m : Int) ≤ (n : Int) := by have := k.le; omega
  have c2 : (n : Int) ≤ (c : Int) := by have := k.nc; omega
  have c3 : (0 : Int) ≤ (m : Int) := by omega
  have MKS := Aside0.mk (show ∀ w', Below W.heap.size W w' → (fun w' => w'.cell? ⟨g, 0, none⟩ = some (.slice A n c) ∧ w'.cell? ⟨g, 1, none⟩ = some (.int .i64 (m : Int)) ∧ w'.cell? ⟨g, 2, none⟩ = some (.int .i64 (most : Int))) w' from fun w' hb => by
    have r := HK.out.row.below hb
    exact ⟨r.cell 0 _ rfl, r.cell 1 _ rfl, r.cell 2 _ rfl⟩)
  clear k hbx
  have hdl := HK.out.dl
  have hul := ug_lt (xs.drop m) 0 0 (by omega) (by decide) (HK.out.by_.drop m)
  obtain ⟨q, hq⟩ : ∃ q, ug 0 0 (xs.drop m) = q := ⟨_, rfl⟩
  have HQ := Aside0.mk hq
  have hpl := ug_place xs m n HK.out.len HK.out.le
  have HF := Aside0.mk (show ∀ w', Below W.heap.size W w' → Calls Try.prog 129 #[.slice (if c = m then A else A.map (·.add m)) (n - m) (c - m)] w' fun e w2 => e = .returned (.tuple #[.int .u64 q.1, .int .i64 q.2.1, .int .i64 q.2.2]) ∧ Drawn0 w' w2 from fun w' hb => by
    have := frame_Uint.calls ((xs.drop m).length + 2) (if c = m then A else A.map (·.add m)) (c - m) (xs.drop m) q.1 q.2.1 q.2.2 w' (HK.out.rest (hb.mono HK.out.size)) (by rw [hdl]; have := HK.out.nc; omega) (by rw [frame_uint _ (HK.out.by_.drop m) (by rw [hdl]; have := HK.out.big; omega) _ (by omega), hq])
    rwa [hdl] at this)
  rw [hq] at hpl hul
  obtain ⟨v, d, er⟩ := q
  obtain ⟨dn, hdn⟩ : ∃ dn : Nat, d = (dn : Int) := ⟨d.toNat, by have h1 : 0 ≤ d := hpl.1; omega⟩
  subst hdn
  obtain ⟨u, hu⟩ : ∃ u : Nat, v = (u : Int) := ⟨v.toNat, by have h1 : 0 ≤ v := hul.1; omega⟩
  subst hu
  have HPL := Aside0.mk (show m + dn ≤ n by have h1 : (dn : Int) ≤ ((n - m : Nat) : Int) := hpl.2; have := HK.out.le; omega)
  have HUL := Aside0.mk (show u < 18446744073709551616 by have h1 : (u : Int) < 18446744073709551616 := hul.2; omega)
  clear hdl hq hpl hul
  have cm := (MKS.out W (Below.refl _ _)).2.1
  go_enter Try.func118, Try.ntmps118
  go_upto_region 2 with fail
  refine wp_region_held_drew (S := fun w' => w'.cell? ⟨g, 0, none⟩ = some (.slice A n c) ∧ w'.cell? ⟨g, 1, none⟩ = some (.int .i64 (m : Int)) ∧ w'.cell? ⟨g, 2, none⟩ = some (.int .i64 (most : Int))) (by kernel_rfl) (MKS.out _ (below_drew (Below.refl _ _))) (fun hHeld => ?_)
  refine tk (i := 0) (oi := { dst := some 15, op := Op.move (Operand.tmp 0), type := 101, pos := "read.go:44", after := #[], guard := none }) (v := ?_) (.inl ⟨by rfl, ?_⟩) hHeld ?_
  rotate_left
  · intro w' hS; obtain ⟨hS0, hS1, hS2⟩ := hS; go_simp; all_goals (with_reducible rfl)
  (try simp only [pz])
  refine tk (i := 1) (oi := { dst := some 16, op := Op.nilCheck (Operand.tmp 15), type := 0, pos := "read.go:44", after := #[(eD 0)], guard := none }) (v := ?_) (.inl ⟨by rfl, ?_⟩) hHeld ?_
  rotate_left
  · intro w' hS; obtain ⟨hS0, hS1, hS2⟩ := hS; go_simp; all_goals (with_reducible rfl)
  (try simp only [pz])
  refine tk (i := 2) (oi := { dst := some 17, op := Op.fieldAddr 158 (Operand.tmp 16) 0, type := 0, pos := "read.go:44", after := #[(eD 1)], guard := none }) (v := ?_) (.inl ⟨by rfl, ?_⟩) hHeld ?_
  rotate_left
  · intro w' hS; obtain ⟨hS0, hS1, hS2⟩ := hS; go_simp; all_goals (with_reducible rfl)
  (try simp only [pz])
  refine tk (i := 3) (oi := { dst := some 18, op := Op.load 26 (Operand.tmp 17), type := 26, pos := "read.go:44", after := #[(eD 2)], guard := none }) (v := ?_) (.inl ⟨by rfl, ?_⟩) hHeld ?_
  rotate_left
  · intro w' hS; obtain ⟨hS0, hS1, hS2⟩ := hS; go_simp; all_goals (with_reducible rfl)
  (try simp only [pz])
  refine tk (i := 4) (oi := { dst := some 19, op := Op.move (Operand.tmp 0), type := 101, pos := "read.go:44", after := #[], guard := none }) (v := ?_) (.inl ⟨by rfl, ?_⟩) hHeld ?_
  rotate_left
  · intro w' hS; obtain ⟨hS0, hS1, hS2⟩ := hS; go_simp; all_goals (with_reducible rfl)
  (try simp only [pz])
  refine tk (i := 5) (oi := { dst := some 20, op := Op.nilCheck (Operand.tmp 19), type := 0, pos := "read.go:44", after := #[(eD 4)], guard := none }) (v := ?_) (.inl ⟨by rfl, ?_⟩) hHeld ?_
  rotate_left
  · intro w' hS; obtain ⟨hS0, hS1, hS2⟩ := hS; go_simp; all_goals (with_reducible rfl)
  (try simp only [pz])
  refine tk (i := 6) (oi := { dst := some 21, op := Op.fieldAddr 158 (Operand.tmp 20) 1, type := 0, pos := "read.go:44", after := #[(eD 5)], guard := none }) (v := ?_) (.inl ⟨by rfl, ?_⟩) hHeld ?_
  rotate_left
  · intro w' hS; obtain ⟨hS0, hS1, hS2⟩ := hS; go_simp; all_goals (with_reducible rfl)
  (try simp only [pz])
  refine tk (i := 7) (oi := { dst := some 22, op := Op.load 3 (Operand.tmp 21), type := 3, pos := "read.go:44", after := #[(eD 6)], guard := none }) (v := ?_) (.inl ⟨by rfl, ?_⟩) hHeld ?_
  rotate_left
  · intro w' hS; obtain ⟨hS0, hS1, hS2⟩ := hS; go_simp; all_goals (with_reducible rfl)
  (try simp only [pz])
  refine tk (i := 8) (oi := { dst := some 23, op := Op.slice 26 (Operand.tmp 18) (some (Operand.tmp 22)) none none, type := 26, pos := "read.go:44", after := #[(eD 3), (eD 7)], guard := none }) (v := ?_) (.inl ⟨by rfl, ?_⟩) hHeld ?_
  rotate_left
  · intro w' hS; obtain ⟨hS0, hS1, hS2⟩ := hS; go_simp; all_goals (with_reducible rfl)
  (try simp only [pz])
  refine wpAnyH_ready (rs := [9]) (by kernel_rfl) (by simp) ?_
  refine AllReadyH.cons (o := { dst := some 24, op := Op.call { callee := Callee.value (Operand.func 129), args := #[Operand.tmp 23], argTypes := #[26] }, type := 169, pos := "read.go:44", after := #[(eD 8)], guard := none }) rfl (fun K hK => ?_) AllReadyH.nil
  go_simp
  go_at_call 129
  refine (HF.out _ (below_drew (Below.refl _ _))).mono ?_
  rintro e wa ⟨rfl, hd⟩
  have HB1 := Aside0.mk (show Below W.heap.size W wa from by
    obtain ⟨md, rfl⟩ := hd
    exact pw_below_drewN (below_drew (Below.refl _ _)) md)
  clear hd
  refine hK.out _ _ (MKS.out _ HB1.out) (fun hHeld => ?_)
  clear hK K
  (try simp only [pz])
  refine tk (i := 10) (oi := { dst := some 14, op := Op.move (Operand.tmp 24), type := 169, pos := "read.go:44", after := #[(eD 9)], guard := none }) (v := ?_) (.inl ⟨by rfl, ?_⟩) hHeld ?_
  rotate_left
  · intro w' hS; obtain ⟨hS0, hS1, hS2⟩ := hS; go_simp; all_goals (with_reducible rfl)
  (try simp only [pz])
  refine tk (i := 11) (oi := { dst := some 25, op := Op.extract (Operand.tmp 14) 0, type := 151, pos := "read.go:44", after := #[(eD 10)], guard := none }) (v := ?_) (.inl ⟨by rfl, ?_⟩) hHeld ?_
  rotate_left
  · intro w' hS; obtain ⟨hS0, hS1, hS2⟩ := hS; go_simp; all_goals (with_reducible rfl)
  (try simp only [pz])
  refine tk (i := 12) (oi := { dst := some 26, op := Op.extract (Operand.tmp 14) 1, type := 3, pos := "read.go:44", after := #[(eD 10), (eM 14)], guard := none }) (v := ?_) (.inl ⟨by rfl, ?_⟩) hHeld ?_
  rotate_left
  · intro w' hS; obtain ⟨hS0, hS1, hS2⟩ := hS; go_simp; all_goals (with_reducible rfl)
  (try simp only [pz])
  refine tk (i := 13) (oi := { dst := some 27, op := Op.extract (Operand.tmp 14) 2, type := 22, pos := "read.go:44", after := #[(eD 10), (eM 15)], guard := none }) (v := ?_) (.inl ⟨by rfl, ?_⟩) hHeld ?_
  rotate_left
  · intro w' hS; obtain ⟨hS0, hS1, hS2⟩ := hS; go_simp; all_goals (with_reducible rfl)
  (try simp only [pz])
  refine tk (i := 14) (oi := { dst := some 6, op := Op.assign (Operand.tmp 25), type := 151, pos := "read.go:44", after := #[(eD 11), (eC 9), (eP 0), (eP 1), (eP 2), (eP 3), (eP 4), (eP 5), (eP 6), (eP 7), (eP 8), (eP 9), (eP 10), (eP 11), (eL 12), (eL 13)], guard := none }) (v := ?_) (.inl ⟨by rfl, ?_⟩) hHeld ?_
  rotate_left
  · intro w' hS; obtain ⟨hS0, hS1, hS2⟩ := hS; go_simp; all_goals (with_reducible rfl)
  (try simp only [pz])
  refine tk (i := 15) (oi := { dst := some 7, op := Op.assign (Operand.tmp 26), type := 3, pos := "read.go:44", after := #[(eD 12), (eC 14), (eP 0), (eP 1), (eP 2), (eP 3), (eP 4), (eP 5), (eP 6), (eP 7), (eP 8), (eP 9), (eP 10), (eP 11), (eP 12), (eL 13), (eP 14)], guard := none }) (v := ?_) (.inl ⟨by rfl, ?_⟩) hHeld ?_
  rotate_left
  · intro w' hS; obtain ⟨hS0, hS1, hS2⟩ := hS; go_simp; all_goals (with_reducible rfl)
  (try simp only [pz])
  refine tk (i := 16) (oi := { dst := some 8, op := Op.assign (Operand.tmp 27), type := 22, pos := "read.go:44", after := #[(eD 13), (eC 15), (eP 0), (eP 1), (eP 2), (eP 3), (eP 4), (eP 5), (eP 6), (eP 7), (eP 8), (eP 9), (eP 10), (eP 11), (eP 12), (eP 13), (eP 14), (eP 15)], guard := none }) (v := ?_) (.inl ⟨by rfl, ?_⟩) hHeld ?_
  rotate_left
  · intro w' hS; obtain ⟨hS0, hS1, hS2⟩ := hS; go_simp; all_goals (with_reducible rfl)
  (try simp only [pz])
  refine wpAnyH_done (by kernel_rfl) ?_ _
  (try simp only [pz])
  clear HF cm
  generalize (if c = m then A else Option.map (fun x => x.add m) A) = Am at *
  by_cases he : er = 0
  rotate_left
  · have HP := Aside0.mk (show pList xs most (pLevel xs most) m = Res.fail er ((m : Int) + (dn : Int)) from by
      unfold pList pU took
      rw [HQ.out, if_neg he]
      rfl)
    have HE := Aside0.mk he
    clear he
    go_wp2_with fail
    go_at_call 116
    refine (took_fail (HK.out.below HB1.out) (dn : Int) er (by have := HPL.out; have := HK.out.big; omega) HE.out).mono ?_
    rintro e w2 ⟨rfl, rfl⟩
    refine ⟨rfl, HB1.out.mono HK.out.size, Kept.of_below HB1.out _, ?_⟩
    rw [HP.out]
    rfl
  subst he
  go_wp2_with fail
  go_at_call 116
  refine (took_ok (HK.out.below HB1.out) dn HPL.out).mono ?_
  rintro e w2 ⟨rfl, hk, hb, hkp⟩
  have K2 := Aside0.mk hk
  have B2 := Aside0.mk ((HB1.out.mono HK.out.size).trans hb)
  have P2 := Aside0.mk ((Kept.of_below HB1.out (fun j => j = g)).then_ hkp (fun _ h => .inl h))
  have X2 := Aside0.mk (show Rt 101 gb [ptr g] w2 from (hkp.2 gb (Nat.lt_of_lt_of_le HBX.out.lt HB1.out.size) HNE.out).trans (HBX.out.below HB1.out))
  have hm2 := hk.row.cell 2 _ rfl
  have hw64 : IntKind.u64.wrap (most : Int) = (most : Int) := by have := HK.out.mb; rw [IntKind.wrap_u64]; omega
  clear hk hb hkp
  by_cases hu : most < u
  · have HP := Aside0.mk (show pList xs most (pLevel xs most) m = Res.fail 91 (m : Int) from by
      unfold pList pU took
      rw [HQ.out, if_pos rfl]
      simp only [Res.bind]
      rw [if_pos (by omega)])
    have d1 : decide ((most : Int) < (u : Int)) = true := decide_eq_true (by omega)
    have d2 : decide (most < u) = true := decide_eq_true hu
    clear hu
    go_wp2_with fail
    refine ⟨rfl, B2.out, P2.out, ?_⟩
    rw [HP.out]
    rfl
  have HP := Aside0.mk (show pList xs most (pLevel xs most) m = pN (pLevel xs most) u [] (m + dn) from by
    unfold pList pU took
    rw [HQ.out, if_pos rfl]
    simp only [Res.bind]
    rw [if_neg (by omega), Int.toNat_natCast, Int.toNat_natCast])
  have HU := Aside0.mk (show u ≤ most by omega)
  have d1 : decide ((most : Int) < (u : Int)) = false := decide_eq_false (by omega)
  have d2 : decide (most < u) = false := decide_eq_false hu
  clear hu
  go_wp2_with fail
  clear hm2 hw64 d1 d2 c1 c2 c3
  obtain ⟨S0, hS0⟩ : ∃ S0, W.heap.size = S0 := ⟨_, rfl⟩
  have HS0 := Aside0.mk hS0
  have HLT := Aside0.mk (show g < S0 ∧ gb < S0 ∧ B ≤ S0 by have := HK.out.row.lt; have := HBX.out.lt; have := HK.out.size; omega)
  clear hS0
  go_loopw [9, 43] (fun v p wr => ∃ (i m' : Nat) (l : List S28), p = .int .u64 (i : Int) ∧ Aside0 (i ≤ u) ∧ Aside0 (l.length = i) ∧ Aside0 (pN (pLevel xs most) u [] (m + dn) = pN (pLevel xs most) (u - i) l m') ∧ Aside0 (k28.R 28 wr S0 (fun _ => True) v l) ∧ Aside0 (CrAt g B A n c xs m' most wr) ∧ Aside0 (Below B W wr) ∧ Aside0 (Kept W wr (fun j => j = g)) ∧ Aside0 (Rt 101 gb [ptr g] wr)) (fun _ p _ => u - (intOf p).toNat)
  · exact ⟨0, m + dn, [], rfl, ⟨Nat.zero_le _⟩, ⟨rfl⟩, ⟨rfl⟩, ⟨Kd.R_nil _ _ _ _ _⟩, K2, B2, P2, X2⟩
  · obtain ⟨i, m', l, rfl, HI, HLN, HPN, HR, HKr, HBr, HPr, HXr⟩ := hrel
    by_cases ci : i < u
    · have ci1 : decide ((i : Int) < (u : Int)) = true := decide_eq_true (by omega)
      have hw1 : IntKind.u64.wrap ((i : Int) + 1) = ((i + 1 : Nat) : Int) := by rw [IntKind.wrap_u64]; have := HUL.out; omega
      go_wp2_with fail
      go_at_call 119
      refine (r_level HKr.out HXr.out).mono ?_
      rintro e w5 ⟨hb, hp, ho⟩
      have hbt := HBr.out.trans hb
      have hpt := HPr.out.then_ hp (fun _ h => .inl h)
      have hpn : pN (pLevel xs most) (u - i) l m' = (pLevel xs most m').bind fun x mm => pN (pLevel xs most) (u - (i + 1)) (l ++ [x]) mm := by
        rw [show u - i = (u - (i + 1)) + 1 from by omega]
        rfl
      rcases hq : pLevel xs most m' with ⟨x, m2⟩ | ⟨er, p⟩
      rotate_left
      · rw [hq] at ho hpn
        have ho : e = gaveUp er p := ho
        subst ho
        refine ⟨rfl, hbt, hpt, ?_⟩
        rw [HP.out, HPN.out, hpn]
        rfl
      rw [hq] at ho hpn
      obtain ⟨he, hk⟩ : e = .returned (lev x) ∧ CrAt g B A n c xs m2 most w5 := ho
      subst he
      have K5 := Aside0.mk hk
      have B5 := Aside0.mk hbt
      have P5 := Aside0.mk hpt
      have X5 := Aside0.mk (show Rt 101 gb [ptr g] w5 from (hp.2 gb HXr.out.lt HNE.out).trans HXr.out)
      have R5 := Aside0.mk (show k28.R 28 w5 S0 (fun _ => True) _ l from Kd.R_mono (Kd.R_kept (Kd.R_bound HR.out) hp (fun j hj e => by have := hj.2.1; have := HLT.out; omega)) (fun _ _ => trivial))
      have HPN2 := Aside0.mk (HPN.out.trans hpn)
      have S5 := Aside0.mk (show S0 ≤ w5.heap.size by have := hpt.1; have := HS0.out; omega)
      have HSZ := Aside0.mk (show (l.length + 1) * 32 ≤ 140737488355328 by have := HLN.out; have := HI.out; have := HU.out; have := HK.out.mb; omega)
      clear hb hp hbt hpt hpn hq hk
      try clear ho
      go_wp2_with (first | (
        (with_reducible refine gate_builtin (b := .append) (xs := #[.tmp 45, .tmp 48]) rfl ?_)
        at_builtin
        refine Kd.R_append k28 (w0 := w5) S0 rfl (.tmp 45) (.tmp 48) 23 28 (.agg #[.string ⟨#[]⟩, .int .i64 0, .int .i64 0]) 32 rfl Try.underlying23 info28 rfl (by decide) (by decide) _ l x [.string x.f0, .int .i64 x.f1, .int .i64 x.f2] (fun _ => True) (fun _ => False) rfl rfl (k28_mkM _ _ _ x) (fun _ h => h.elim) (fun _ _ => trivial) R5.out (Below.refl _ _) S5.out HSZ.out ?_
        intro v1 w6 ho hb hg hat
        have HO6 := Aside0.mk ho
        have K6 := Aside0.mk (K5.out.aside (hb.mono HLT.out.2.2) (hb.block g HLT.out.1))
        have B6 := Aside0.mk (B5.out.trans (hb.mono HLT.out.2.2))
        have P6 := Aside0.mk (show Kept W w6 (fun j => j = g) from ⟨Nat.le_trans P5.out.1 hb.size, fun j hj hn => (hb.block j (by have := HS0.out; omega)).trans (P5.out.2 j hj hn)⟩)
        have X6 := Aside0.mk (show Rt 101 gb [ptr g] w6 from (hb.block gb HLT.out.2.1).trans X5.out)
        clear ho hb hg hat))
      refine ⟨⟨i + 1, m2, l ++ [x], congrArg (Value.int .u64) (by omega), ⟨ci⟩, ⟨by rw [List.length_append, HLN.out]; rfl⟩, HPN2, HO6, K6, B6, P6, X6⟩, ?_⟩
      simp only [intOf]
      omega
    · have ci1 : decide ((i : Int) < (u : Int)) = false := decide_eq_false (by omega)
      obtain rfl : i = u := by have := HI.out; omega
      go_wp2_with fail
      go_ret
      refine ⟨HBr.out, HPr.out, ?_⟩
      rw [HP.out, HPN.out, Nat.sub_self, HS0.out]
      exact ⟨_, rfl, HR.out, HKr.out⟩
theorem r_levels {g B : Nat} {A : Option Addr} {n c : Nat} {xs : List Int} {m most : Nat} {W : World} (k : CrAt g B A n c xs m most W) :
    Calls Try.prog 63 #[ptr g] W fun e w' => Below B W w' ∧ Kept W w' (fun j => j = g) ∧ OutR g B A n c xs most (fun l v w' => k28.R 28 w' W.heap.size (fun _ => True) v l) (pList xs most (pLevel xs most) m) e w' := by
  have HK := Aside0.mk k
  have hr2 : Rt 101 W.heap.size [ptr g] (W.alloc (.cells #[ptr g] 101)) := heap_alloc_new W _
  have hb1 : Below W.heap.size W (W.alloc (.cells #[ptr g] 101)) := below_alloc (Below.refl _ _) _
  have hmf : ∀ (fn : Fn) (first cap : Array Value) (w : World), (Instr.makeFunc fn first cap).run Try.prog w = .ok (.func fn first cap) w := fun _ _ _ _ => rfl
  have HSZ := Aside0.mk hb1.size
  clear k
  go_enter Try.func63, Try.ntmps63
  go_upto_region 1 with fail
  obtain ⟨b2, hb2⟩ : ∃ b2, W.heap.size = b2 := ⟨_, rfl⟩
  have HBE := Aside0.mk hb2
  have K1 := Aside0.mk (HK.out.below hb1)
  have B1 := Aside0.mk (hb1.mono HK.out.size)
  have P1 := Aside0.mk (Kept.of_below hb1 (fun j => j = g))
  rw [hb2] at hr2 ⊢
  have R1 := Aside0.mk hr2
  clear hr2 hb1 hb2
  generalize W.alloc (.cells #[ptr g] 101) = w1 at *
  have c0 := R1.out.cell 0 _ rfl
  go_wp2_with fail
  go_at_call 118
  refine (r_levelList K1.out R1.out).mono ?_
  rintro e w2 ⟨hb, hp, ho⟩
  have hbt := B1.out.trans hb
  have hpt := P1.out.then_ hp (fun _ h => .inl h)
  rcases hq : pList xs most (pLevel xs most) m with ⟨l, m2⟩ | ⟨er, p⟩
  · rw [hq] at ho
    obtain ⟨v, he, hR, hk⟩ : ∃ v, e = .returned v ∧ k28.R 28 w2 w1.heap.size (fun _ => True) v l ∧ CrAt g B A n c xs m2 most w2 := ho
    subst he
    have HR := Aside0.mk (show k28.R 28 w2 W.heap.size (fun _ => True) v l from Kd.R_lower hR HSZ.out)
    have K2 := Aside0.mk hk
    have B2 := Aside0.mk hbt
    have P2 := Aside0.mk hpt
    have HQ := Aside0.mk hq
    clear hb hp hbt hpt hR hk hq c0 hmf
    try clear ho
    go_wp2_with fail
    go_ret
    rw [HBE.out] at *
    refine ⟨B2.out, P2.out, ?_⟩
    rw [HQ.out]
    exact ⟨v, rfl, HR.out, K2.out⟩
  · rw [hq] at ho
    have ho : e = gaveUp er p := ho
    subst ho
    refine ⟨rfl, hbt, hpt, ?_⟩
    rw [hq]
    rfl
section
variable {P : Program} {ops : Array Oper} {Q : Exit → Act → List Frame → World → Prop} {cs : List Frame}
theorem wpOpsS_of (hl : ¬ LetsOut (fun e a w => Q e a cs w)) : ∀ (l : List Nat) (a : Act) (w : World), wpOps P ops (fun e a' w' => Q e a' cs w') l a w → wpOpsS P ops Q l a cs w
  | [], a, w, h => h
  | i :: rest, a, w, h => by
    simp only [wpOps] at h
    simp only [wpOpsS]
    cases ho : ops[i]? with
    | none =>
      simp only [ho] at h
      exact wpOpsS_of hl rest a w h
    | some o =>
      simp only [ho] at h
      by_cases hw : Region.wanted o (yielded ops a.tmps) = true
      · simp only [hw, if_true] at h ⊢
        rcases h with h | ⟨_, h⟩
        · have h := Oper.wp_mono (fun a w hh => wpOpsS_of hl rest a w hh) h
          unfold Oper.wp at h
          generalize (execOp a.eval o).run P w = r at h ⊢
          split
          · exact h.elim
          · exact h
        · exact absurd h hl
      · simp only [hw] at h ⊢
        exact wpOpsS_of hl rest _ w h
theorem wpS_recovers {id : Nat} {o : Oper} {l : List Oper} {a : Act} {w : World} {v : Value} {cs' : List Frame} (hw : Region.wanted o (yielded (o :: l).toArray a.tmps) = true) (hr : (execOp a.eval o).run P w = .ok .recover w)
    (hrec : recoverD cs = some (v, cs')) (hl : ¬ LetsOut (fun e a w => Q e a cs' w)) (h : wpList P (o :: l).toArray (fun e a' w' => Q e a' cs' w') l (a.put o.dst v) w) : (Code.region id (o :: l).toArray false).wpS P Q a cs w := by
  refine wpS_region ?_
  rw [List.size_toArray, List.length_cons, List.range_eq_range', List.range'_succ]
  simp only [wpOpsS]
  have h0 : (o :: l).toArray[0]? = some o := by simp
  simp only [h0, hw, if_true, hr, hrec]
  refine wpOpsS_of hl _ _ _ ?_
  rw [wpOps_eq_wpList l 1 (by intro j; simp [Nat.add_comm])]
  exact h
theorem wpS_recovers_none {id : Nat} {o : Oper} {l : List Oper} {a : Act} {w : World} (hw : Region.wanted o (yielded (o :: l).toArray a.tmps) = true) (hr : (execOp a.eval o).run P w = .ok .recover w)
    (hrec : recoverD cs = none) (hl : ¬ LetsOut (fun e a w => Q e a cs w)) (h : wpList P (o :: l).toArray (fun e a' w' => Q e a' cs w') l (a.put o.dst .nilIface) w) : (Code.region id (o :: l).toArray false).wpS P Q a cs w := by
  refine wpS_region ?_
  rw [List.size_toArray, List.length_cons, List.range_eq_range', List.range'_succ]
  simp only [wpOpsS]
  have h0 : (o :: l).toArray[0]? = some o := by simp
  simp only [h0, hw, if_true, hr, hrec]
  refine wpOpsS_of hl _ _ _ ?_
  rw [wpOps_eq_wpList l 1 (by intro j; simp [Nat.add_comm])]
  exact h
end
def endOf {α : Type} : Res α → Int × Int
  | .ok _ _ => (0, 0)
  | .fail e p => (e, p)
theorem setRow_again (W : World) (g : Nat) (xs ys : Array Value) : (W.setRow g xs).setRow g ys = W.setRow g ys := by
  obtain ⟨heap, tape, drawn, os, output⟩ := W
  simp only [World.setRow, World.mk.injEq, and_true]
  apply Array.ext
  · simp
  · intro i h1 h2
    have hi : i < heap.size := by simpa using h1
    by_cases e : g = i
    · subst e
      rcases ho : heap[g] with _ | _ <;> simp [Array.getElem_modify, ho]
    · simp [Array.getElem_modify, e]
structure Alive {α : Type} (E : Nat → α → Value → World → Prop) : Prop where
  lower : ∀ {S S' : Nat} {x : α} {v : Value} {w : World}, E S x v w → S' ≤ S → E S' x v w
  keep : ∀ {S : Nat} {x : α} {v : Value} {w w' : World}, E S x v w → (∀ j, S ≤ j → j < w.heap.size → w'.heap[j]? = w.heap[j]?) → E S x v w'
section
variable {α : Type} {E : Nat → α → Value → World → Prop}
theorem Alive.below (h : Alive E) {S : Nat} {x : α} {v : Value} {w w' : World} (e : E S x v w) (hb : Below w.heap.size w w') : E S x v w' := h.keep e (fun j _ hj => hb.block j hj)
theorem Alive.kept (h : Alive E) {S : Nat} {x : α} {v : Value} {w w' : World} {p : Nat → Prop} (e : E S x v w) (hk : Kept w w' p) (hp : ∀ j, S ≤ j → ¬ p j) : E S x v w' := h.keep e (fun j h1 hj => hk.2 j hj (hp j h1))
theorem Alive.row (h : Alive E) {S : Nat} {x : α} {v : Value} {w : World} (e : E S x v w) {b : Nat} (hb : b < S) (cs : Array Value) : E S x v (w.setRow b cs) := h.keep e (fun j h1 _ => setRow_other _ _ _ _ (by omega))
end
theorem alive_R {α : Type} (k : Kd α) (t : Nat) : Alive (fun S l v w => k.R t w S (fun _ => True) v l) :=
  ⟨fun h hs => Kd.R_lower h hs, fun h hk => Kd.R_mono (Kd.R_step (Kd.R_bound h) (fun j hj _ => hk j hj.2.1 hj.2.2.1)) (fun _ _ => trivial)⟩
theorem own_under {α : Type} {k : Kd α} {t S : Nat} {ok : Nat → Prop} {w : World} {v : Value} {l : List α} (h : k.R t w S ok v l) : ∀ j, v.ownBlock = some j → j < w.heap.size := fun j hj => ((Kd.R_bound h).1 j hj).2.2.1
abbrev LL (S : Nat) (l : List S28) (v : Value) (w : World) : Prop := k28.R 28 w S (fun _ => True) v l
abbrev LN (S : Nat) (l : List S110) (v : Value) (w : World) : Prop := k110.R 110 w S (fun _ => True) v l
abbrev LH (S : Nat) (l : List S121) (v : Value) (w : World) : Prop := k121.R 121 w S (fun _ => True) v l
abbrev LD (S : Nat) (l : List S123) (v : Value) (w : World) : Prop := k123.R 123 w S (fun _ => True) v l
theorem LL_alive : Alive LL := alive_R k28 28
theorem LN_alive : Alive LN := alive_R k110 110
theorem LH_alive : Alive LH := alive_R k121 121
theorem LD_alive : Alive LD := alive_R k123 123
theorem LL_slice {S : Nat} {l : List S28} {v : Value} {w : World} (h : LL S l v w) : ∃ A n c, v = .slice A n c := by
  obtain ⟨A, c, e⟩ := Kd.R_slice h
  exact ⟨A, _, c, e⟩
theorem LN_slice {S : Nat} {l : List S110} {v : Value} {w : World} (h : LN S l v w) : ∃ A n c, v = .slice A n c := by
  obtain ⟨A, c, e⟩ := Kd.R_slice h
  exact ⟨A, _, c, e⟩
theorem LH_slice {S : Nat} {l : List S121} {v : Value} {w : World} (h : LH S l v w) : ∃ A n c, v = .slice A n c := by
  obtain ⟨A, c, e⟩ := Kd.R_slice h
  exact ⟨A, _, c, e⟩
theorem LD_slice {S : Nat} {l : List S123} {v : Value} {w : World} (h : LD S l v w) : ∃ A n c, v = .slice A n c := by
  obtain ⟨A, c, e⟩ := Kd.R_slice h
  exact ⟨A, _, c, e⟩
def pLine (xs : List Int) (most : Nat) (m : Nat) : Res S110 :=
  (pT xs most m).bind fun t m => (pI xs m).bind fun a m => .ok ⟨t, a⟩ m
def memLine (_S : Nat) (x : S110) (v : Value) (_w : World) : Prop := v = .agg #[.string x.f0, .int .i64 x.f1]
theorem r_line {g B gb : Nat} {A : Option Addr} {n c : Nat} {xs : List Int} {m most : Nat} {W : World} (k : CrAt g B A n c xs m most W) (hbx : Rt 101 gb [ptr g] W) :
    Calls Try.prog 131 #[ptr gb] W fun e w' => Below B W w' ∧ Kept W w' (fun j => j = g) ∧ OutR g B A n c xs most (memLine W.heap.size) (pLine xs most m) e w' := by
  have HK := Aside0.mk k
  have HBX := Aside0.mk hbx
  have HNE := Aside0.mk (show gb ≠ g from fun e => by
    have h2 := hbx
    rw [e] at h2
    have := blk_types h2 k.row
    omega)
  clear k hbx
  go_enter Try.func131, Try.ntmps131
  go_upto_region 1 with fail
  have hr1 : Rt 110 W.heap.size [.string ⟨#[]⟩, .int .i64 0] (W.alloc (.cells #[.string ⟨#[]⟩, .int .i64 0] 110)) := heap_alloc_new W _
  have hb1 : Below W.heap.size W (W.alloc (.cells #[.string ⟨#[]⟩, .int .i64 0] 110)) := below_alloc (Below.refl _ _) _
  obtain ⟨b, hbe⟩ : ∃ b, W.heap.size = b := ⟨_, rfl⟩
  have K1 := Aside0.mk (HK.out.below hb1)
  have X1 := Aside0.mk (HBX.out.below hb1)
  have B1 := Aside0.mk (hb1.mono HK.out.size)
  have P1 := Aside0.mk (Kept.of_below hb1 (fun j => j = g))
  have HBE := Aside0.mk (show W.heap.size ≤ b by omega)
  have HLT := Aside0.mk (show g < b ∧ B ≤ b ∧ gb < b by have := HK.out.row.lt; have := HK.out.size; have := HBX.out.lt; omega)
  rw [hbe] at hr1
  rw [hbe]
  have R1 := Aside0.mk hr1
  clear hr1 hb1 hbe
  generalize W.alloc (.cells #[.string ⟨#[]⟩, .int .i64 0] 110) = w1 at *
  have cx := X1.out.cell 0 _ rfl
  have cr0 := R1.out.cell 0 _ rfl
  have fr0 := R1.out.free 0
  go_wp2_with fail
  go_at_call 61
  refine (r_text K1.out).mono ?_
  rintro e w2 ⟨hb, hp, ho⟩
  have hbt := B1.out.trans hb
  have hpt := P1.out.then_ hp (fun _ h => .inl h)
  rcases hq : pT xs most m with ⟨t, m1⟩ | ⟨er, p⟩
  rotate_left
  · rw [hq] at ho
    have ho : e = gaveUp er p := ho
    subst ho
    refine ⟨rfl, hbt, hpt, ?_⟩
    have e9 : pLine xs most m = Res.fail er p := by
      unfold pLine
      simp only [Res.bind, hq]
    rw [e9]
    rfl
  rw [hq] at ho
  obtain ⟨he, hk⟩ : e = .returned (.string t) ∧ CrAt g B A n c xs m1 most w2 := ho
  subst he
  have HQ0 := Aside0.mk hq
  have K2 := Aside0.mk hk
  have B2 := Aside0.mk hbt
  have P2 := Aside0.mk hpt
  have R2 := Aside0.mk (show Rt 110 b [.string ⟨#[]⟩, .int .i64 0] w2 from (hp.2 b R1.out.lt (by have := HLT.out; show b ≠ g; omega)).trans R1.out)
  have X2 := Aside0.mk (show Rt 101 gb [ptr g] w2 from (hp.2 gb X1.out.lt HNE.out).trans X1.out)
  clear hb hp hbt hpt hq hk cr0 fr0
  try clear ho
  clear cx
  have cr0 := R2.out.cell 0 _ rfl
  have fr0 := R2.out.free 0
  go_upto_region 2 with fail
  have e1 := R2.out.set 0 (.string t)
  rw [e1]
  clear e1 cr0 fr0
  have hl : [Value.string ⟨#[]⟩, .int .i64 0].set 0 (.string t) = [Value.string t, .int .i64 0] := rfl
  rw [hl]
  clear hl
  have K3 := Aside0.mk (show CrAt g B A n c xs m1 most (w2.setRow b [Value.string t, .int .i64 0].toArray) from K2.out.aside (below_setRow' (Below.refl _ _) HLT.out.2.1 _) (setRow_other _ _ _ _ (by have := HLT.out; omega)))
  have B3 := Aside0.mk (show Below B W (w2.setRow b [Value.string t, .int .i64 0].toArray) from below_setRow' B2.out HLT.out.2.1 _)
  have P3 := Aside0.mk (show Kept W (w2.setRow b [Value.string t, .int .i64 0].toArray) (fun j => j = g) from ⟨by rw [setRow_size]; exact P2.out.1, fun j hj hn => (setRow_other _ _ _ _ (by have := HBE.out; omega)).trans (P2.out.2 j hj hn)⟩)
  have R3 := Aside0.mk (show Rt 110 b [Value.string t, .int .i64 0] (w2.setRow b [Value.string t, .int .i64 0].toArray) from R2.out.row _)
  have X3 := Aside0.mk (show Rt 101 gb [ptr g] (w2.setRow b [Value.string t, .int .i64 0].toArray) from (setRow_other _ _ _ _ (by have := HLT.out; omega)).trans X2.out)
  generalize w2.setRow b [Value.string t, .int .i64 0].toArray = w3 at *
  have cx := X3.out.cell 0 _ rfl
  have cr1 := R3.out.cell 1 _ rfl
  have fr1 := R3.out.free 1
  go_wp2_with fail
  go_at_call 62
  refine (r_int K3.out).mono ?_
  rintro e w4 ⟨hb, hp, ho⟩
  have hbt := B3.out.trans hb
  have hpt := P3.out.then_ hp (fun _ h => .inl h)
  rcases hq : pI xs m1 with ⟨a, m2⟩ | ⟨er, p⟩
  rotate_left
  · rw [hq] at ho
    have ho : e = gaveUp er p := ho
    subst ho
    refine ⟨rfl, hbt, hpt, ?_⟩
    have e9 : pLine xs most m = Res.fail er p := by
      unfold pLine
      simp only [Res.bind, HQ0.out, hq]
    rw [e9]
    rfl
  rw [hq] at ho
  obtain ⟨he, hk⟩ : e = .returned (.int .i64 a) ∧ CrAt g B A n c xs m2 most w4 := ho
  subst he
  have HQ1 := Aside0.mk hq
  have K4 := Aside0.mk hk
  have B4 := Aside0.mk hbt
  have P4 := Aside0.mk hpt
  have R4 := Aside0.mk (show Rt 110 b [.string t, .int .i64 0] w4 from (hp.2 b R3.out.lt (by have := HLT.out; show b ≠ g; omega)).trans R3.out)
  have X4 := Aside0.mk (show Rt 101 gb [ptr g] w4 from (hp.2 gb X3.out.lt HNE.out).trans X3.out)
  clear hb hp hbt hpt hq hk cr1 fr1
  try clear ho
  clear cx
  have cr1 := R4.out.cell 1 _ rfl
  have fr1 := R4.out.free 1
  go_upto_region 3 with fail
  have e1 := R4.out.set 1 (.int .i64 a)
  rw [e1]
  clear e1 cr1 fr1
  have hl : [Value.string t, .int .i64 0].set 1 (.int .i64 a) = [Value.string t, .int .i64 a] := rfl
  rw [hl]
  clear hl
  have K5 := Aside0.mk (show CrAt g B A n c xs m2 most (w4.setRow b [Value.string t, .int .i64 a].toArray) from K4.out.aside (below_setRow' (Below.refl _ _) HLT.out.2.1 _) (setRow_other _ _ _ _ (by have := HLT.out; omega)))
  have B5 := Aside0.mk (show Below B W (w4.setRow b [Value.string t, .int .i64 a].toArray) from below_setRow' B4.out HLT.out.2.1 _)
  have P5 := Aside0.mk (show Kept W (w4.setRow b [Value.string t, .int .i64 a].toArray) (fun j => j = g) from ⟨by rw [setRow_size]; exact P4.out.1, fun j hj hn => (setRow_other _ _ _ _ (by have := HBE.out; omega)).trans (P4.out.2 j hj hn)⟩)
  have R5 := Aside0.mk (show Rt 110 b [Value.string t, .int .i64 a] (w4.setRow b [Value.string t, .int .i64 a].toArray) from R4.out.row _)
  have X5 := Aside0.mk (show Rt 101 gb [ptr g] (w4.setRow b [Value.string t, .int .i64 a].toArray) from (setRow_other _ _ _ _ (by have := HLT.out; omega)).trans X4.out)
  generalize w4.setRow b [Value.string t, .int .i64 a].toArray = w5 at *
  have c0 := R5.out.cell 0 _ rfl
  have f0 := R5.out.free 0
  have c1 := R5.out.cell 1 _ rfl
  have f1 := R5.out.free 1
  go_wp2_with fail
  rw [R5.out.same 0 _ rfl, R5.out.same 1 _ rfl]
  refine bodyPost_ret (results_cell_row rfl _ _ b 110 _ (0, 0) _ rfl R5.out Try.underlying110 rfl (by kernel_rfl)) rfl ?_
  refine ⟨B5.out, P5.out, ?_⟩
  have e9 : pLine xs most m = Res.ok ⟨t, a⟩ m2 := by
    unfold pLine
    simp only [Res.bind, HQ0.out, HQ1.out]
  rw [e9]
  exact ⟨_, rfl, rfl, K5.out⟩
theorem r_lineList {g B gb : Nat} {A : Option Addr} {n c : Nat} {xs : List Int} {m most : Nat} {W : World} (k : CrAt g B A n c xs m most W) (hbx : Rt 101 gb [ptr g] W) :
    Calls Try.prog 130 #[ptr g, .func (.func 131) #[] #[ptr gb]] W fun e w' => Below B W w' ∧ Kept W w' (fun j => j = g) ∧ OutR g B A n c xs most (LN W.heap.size) (pList xs most (pLine xs most) m) e w' := by
  have HK := Aside0.mk k
  have HBX := Aside0.mk hbx
  have HNE := Aside0.mk (show gb ≠ g from fun e => by
    have h2 := hbx
    rw [e] at h2
    have := blk_types h2 k.row
    omega)
  have c1 : (m : Int) ≤ (n : Int) := by have := k.le; omega
  have c2 : (n : Int) ≤ (c : Int) := by have := k.nc; omega
  have c3 : (0 : Int) ≤ (m : Int) := by omega
  have MKS := Aside0.mk (show ∀ w', Below W.heap.size W w' → (fun w' => w'.cell? ⟨g, 0, none⟩ = some (.slice A n c) ∧ w'.cell? ⟨g, 1, none⟩ = some (.int .i64 (m : Int)) ∧ w'.cell? ⟨g, 2, none⟩ = some (.int .i64 (most : Int))) w' from fun w' hb => by
    have r := HK.out.row.below hb
    exact ⟨r.cell 0 _ rfl, r.cell 1 _ rfl, r.cell 2 _ rfl⟩)
  clear k hbx
  have hdl := HK.out.dl
  have hul := ug_lt (xs.drop m) 0 0 (by omega) (by decide) (HK.out.by_.drop m)
  obtain ⟨q, hq⟩ : ∃ q, ug 0 0 (xs.drop m) = q := ⟨_, rfl⟩
  have HQ := Aside0.mk hq
  have hpl := ug_place xs m n HK.out.len HK.out.le
  have HF := Aside0.mk (show ∀ w', Below W.heap.size W w' → Calls Try.prog 129 #[.slice (if c = m then A else A.map (·.add m)) (n - m) (c - m)] w' fun e w2 => e = .returned (.tuple #[.int .u64 q.1, .int .i64 q.2.1, .int .i64 q.2.2]) ∧ Drawn0 w' w2 from fun w' hb => by
    have := frame_Uint.calls ((xs.drop m).length + 2) (if c = m then A else A.map (·.add m)) (c - m) (xs.drop m) q.1 q.2.1 q.2.2 w' (HK.out.rest (hb.mono HK.out.size)) (by rw [hdl]; have := HK.out.nc; omega) (by rw [frame_uint _ (HK.out.by_.drop m) (by rw [hdl]; have := HK.out.big; omega) _ (by omega), hq])
    rwa [hdl] at this)
  rw [hq] at hpl hul
  obtain ⟨v, d, er⟩ := q
  obtain ⟨dn, hdn⟩ : ∃ dn : Nat, d = (dn : Int) := ⟨d.toNat, by have h1 : 0 ≤ d := hpl.1; omega⟩
  subst hdn
  obtain ⟨u, hu⟩ : ∃ u : Nat, v = (u : Int) := ⟨v.toNat, by have h1 : 0 ≤ v := hul.1; omega⟩
  subst hu
  have HPL := Aside0.mk (show m + dn ≤ n by have h1 : (dn : Int) ≤ ((n - m : Nat) : Int) := hpl.2; have := HK.out.le; omega)
  have HUL := Aside0.mk (show u < 18446744073709551616 by have h1 : (u : Int) < 18446744073709551616 := hul.2; omega)
  clear hdl hq hpl hul
  have cm := (MKS.out W (Below.refl _ _)).2.1
  go_enter Try.func130, Try.ntmps130
  go_upto_region 2 with fail
  refine wp_region_held_drew (S := fun w' => w'.cell? ⟨g, 0, none⟩ = some (.slice A n c) ∧ w'.cell? ⟨g, 1, none⟩ = some (.int .i64 (m : Int)) ∧ w'.cell? ⟨g, 2, none⟩ = some (.int .i64 (most : Int))) (by kernel_rfl) (MKS.out _ (below_drew (Below.refl _ _))) (fun hHeld => ?_)
  refine tk (i := 0) (oi := { dst := some 15, op := Op.move (Operand.tmp 0), type := 101, pos := "read.go:44", after := #[], guard := none }) (v := ?_) (.inl ⟨by rfl, ?_⟩) hHeld ?_
  rotate_left
  · intro w' hS; obtain ⟨hS0, hS1, hS2⟩ := hS; go_simp; all_goals (with_reducible rfl)
  (try simp only [pz])
  refine tk (i := 1) (oi := { dst := some 16, op := Op.nilCheck (Operand.tmp 15), type := 0, pos := "read.go:44", after := #[(eD 0)], guard := none }) (v := ?_) (.inl ⟨by rfl, ?_⟩) hHeld ?_
  rotate_left
  · intro w' hS; obtain ⟨hS0, hS1, hS2⟩ := hS; go_simp; all_goals (with_reducible rfl)
  (try simp only [pz])
  refine tk (i := 2) (oi := { dst := some 17, op := Op.fieldAddr 158 (Operand.tmp 16) 0, type := 0, pos := "read.go:44", after := #[(eD 1)], guard := none }) (v := ?_) (.inl ⟨by rfl, ?_⟩) hHeld ?_
  rotate_left
  · intro w' hS; obtain ⟨hS0, hS1, hS2⟩ := hS; go_simp; all_goals (with_reducible rfl)
  (try simp only [pz])
  refine tk (i := 3) (oi := { dst := some 18, op := Op.load 26 (Operand.tmp 17), type := 26, pos := "read.go:44", after := #[(eD 2)], guard := none }) (v := ?_) (.inl ⟨by rfl, ?_⟩) hHeld ?_
  rotate_left
  · intro w' hS; obtain ⟨hS0, hS1, hS2⟩ := hS; go_simp; all_goals (with_reducible rfl)
  (try simp only [pz])
  refine tk (i := 4) (oi := { dst := some 19, op := Op.move (Operand.tmp 0), type := 101, pos := "read.go:44", after := #[], guard := none }) (v := ?_) (.inl ⟨by rfl, ?_⟩) hHeld ?_
  rotate_left
  · intro w' hS; obtain ⟨hS0, hS1, hS2⟩ := hS; go_simp; all_goals (with_reducible rfl)
  (try simp only [pz])
  refine tk (i := 5) (oi := { dst := some 20, op := Op.nilCheck (Operand.tmp 19), type := 0, pos := "read.go:44", after := #[(eD 4)], guard := none }) (v := ?_) (.inl ⟨by rfl, ?_⟩) hHeld ?_
  rotate_left
  · intro w' hS; obtain ⟨hS0, hS1, hS2⟩ := hS; go_simp; all_goals (with_reducible rfl)
  (try simp only [pz])
  refine tk (i := 6) (oi := { dst := some 21, op := Op.fieldAddr 158 (Operand.tmp 20) 1, type := 0, pos := "read.go:44", after := #[(eD 5)], guard := none }) (v := ?_) (.inl ⟨by rfl, ?_⟩) hHeld ?_
  rotate_left
  · intro w' hS; obtain ⟨hS0, hS1, hS2⟩ := hS; go_simp; all_goals (with_reducible rfl)
  (try simp only [pz])
  refine tk (i := 7) (oi := { dst := some 22, op := Op.load 3 (Operand.tmp 21), type := 3, pos := "read.go:44", after := #[(eD 6)], guard := none }) (v := ?_) (.inl ⟨by rfl, ?_⟩) hHeld ?_
  rotate_left
  · intro w' hS; obtain ⟨hS0, hS1, hS2⟩ := hS; go_simp; all_goals (with_reducible rfl)
  (try simp only [pz])
  refine tk (i := 8) (oi := { dst := some 23, op := Op.slice 26 (Operand.tmp 18) (some (Operand.tmp 22)) none none, type := 26, pos := "read.go:44", after := #[(eD 3), (eD 7)], guard := none }) (v := ?_) (.inl ⟨by rfl, ?_⟩) hHeld ?_
  rotate_left
  · intro w' hS; obtain ⟨hS0, hS1, hS2⟩ := hS; go_simp; all_goals (with_reducible rfl)
  (try simp only [pz])
  refine wpAnyH_ready (rs := [9]) (by kernel_rfl) (by simp) ?_
  refine AllReadyH.cons (o := { dst := some 24, op := Op.call { callee := Callee.value (Operand.func 129), args := #[Operand.tmp 23], argTypes := #[26] }, type := 169, pos := "read.go:44", after := #[(eD 8)], guard := none }) rfl (fun K hK => ?_) AllReadyH.nil
  go_simp
  go_at_call 129
  refine (HF.out _ (below_drew (Below.refl _ _))).mono ?_
  rintro e wa ⟨rfl, hd⟩
  have HB1 := Aside0.mk (show Below W.heap.size W wa from by
    obtain ⟨md, rfl⟩ := hd
    exact pw_below_drewN (below_drew (Below.refl _ _)) md)
  clear hd
  refine hK.out _ _ (MKS.out _ HB1.out) (fun hHeld => ?_)
  clear hK K
  (try simp only [pz])
  refine tk (i := 10) (oi := { dst := some 14, op := Op.move (Operand.tmp 24), type := 169, pos := "read.go:44", after := #[(eD 9)], guard := none }) (v := ?_) (.inl ⟨by rfl, ?_⟩) hHeld ?_
  rotate_left
  · intro w' hS; obtain ⟨hS0, hS1, hS2⟩ := hS; go_simp; all_goals (with_reducible rfl)
  (try simp only [pz])
  refine tk (i := 11) (oi := { dst := some 25, op := Op.extract (Operand.tmp 14) 0, type := 151, pos := "read.go:44", after := #[(eD 10)], guard := none }) (v := ?_) (.inl ⟨by rfl, ?_⟩) hHeld ?_
  rotate_left
  · intro w' hS; obtain ⟨hS0, hS1, hS2⟩ := hS; go_simp; all_goals (with_reducible rfl)
  (try simp only [pz])
  refine tk (i := 12) (oi := { dst := some 26, op := Op.extract (Operand.tmp 14) 1, type := 3, pos := "read.go:44", after := #[(eD 10), (eM 14)], guard := none }) (v := ?_) (.inl ⟨by rfl, ?_⟩) hHeld ?_
  rotate_left
  · intro w' hS; obtain ⟨hS0, hS1, hS2⟩ := hS; go_simp; all_goals (with_reducible rfl)
  (try simp only [pz])
  refine tk (i := 13) (oi := { dst := some 27, op := Op.extract (Operand.tmp 14) 2, type := 22, pos := "read.go:44", after := #[(eD 10), (eM 15)], guard := none }) (v := ?_) (.inl ⟨by rfl, ?_⟩) hHeld ?_
  rotate_left
  · intro w' hS; obtain ⟨hS0, hS1, hS2⟩ := hS; go_simp; all_goals (with_reducible rfl)
  (try simp only [pz])
  refine tk (i := 14) (oi := { dst := some 6, op := Op.assign (Operand.tmp 25), type := 151, pos := "read.go:44", after := #[(eD 11), (eC 9), (eP 0), (eP 1), (eP 2), (eP 3), (eP 4), (eP 5), (eP 6), (eP 7), (eP 8), (eP 9), (eP 10), (eP 11), (eL 12), (eL 13)], guard := none }) (v := ?_) (.inl ⟨by rfl, ?_⟩) hHeld ?_
  rotate_left
  · intro w' hS; obtain ⟨hS0, hS1, hS2⟩ := hS; go_simp; all_goals (with_reducible rfl)
  (try simp only [pz])
  refine tk (i := 15) (oi := { dst := some 7, op := Op.assign (Operand.tmp 26), type := 3, pos := "read.go:44", after := #[(eD 12), (eC 14), (eP 0), (eP 1), (eP 2), (eP 3), (eP 4), (eP 5), (eP 6), (eP 7), (eP 8), (eP 9), (eP 10), (eP 11), (eP 12), (eL 13), (eP 14)], guard := none }) (v := ?_) (.inl ⟨by rfl, ?_⟩) hHeld ?_
  rotate_left
  · intro w' hS; obtain ⟨hS0, hS1, hS2⟩ := hS; go_simp; all_goals (with_reducible rfl)
  (try simp only [pz])
  refine tk (i := 16) (oi := { dst := some 8, op := Op.assign (Operand.tmp 27), type := 22, pos := "read.go:44", after := #[(eD 13), (eC 15), (eP 0), (eP 1), (eP 2), (eP 3), (eP 4), (eP 5), (eP 6), (eP 7), (eP 8), (eP 9), (eP 10), (eP 11), (eP 12), (eP 13), (eP 14), (eP 15)], guard := none }) (v := ?_) (.inl ⟨by rfl, ?_⟩) hHeld ?_
  rotate_left
  · intro w' hS; obtain ⟨hS0, hS1, hS2⟩ := hS; go_simp; all_goals (with_reducible rfl)
  (try simp only [pz])
  refine wpAnyH_done (by kernel_rfl) ?_ _
  (try simp only [pz])
  clear HF cm
  generalize (if c = m then A else Option.map (fun x => x.add m) A) = Am at *
  by_cases he : er = 0
  rotate_left
  · have HP := Aside0.mk (show pList xs most (pLine xs most) m = Res.fail er ((m : Int) + (dn : Int)) from by
      unfold pList pU took
      rw [HQ.out, if_neg he]
      rfl)
    have HE := Aside0.mk he
    clear he
    go_wp2_with fail
    go_at_call 116
    refine (took_fail (HK.out.below HB1.out) (dn : Int) er (by have := HPL.out; have := HK.out.big; omega) HE.out).mono ?_
    rintro e w2 ⟨rfl, rfl⟩
    refine ⟨rfl, HB1.out.mono HK.out.size, Kept.of_below HB1.out _, ?_⟩
    rw [HP.out]
    rfl
  subst he
  go_wp2_with fail
  go_at_call 116
  refine (took_ok (HK.out.below HB1.out) dn HPL.out).mono ?_
  rintro e w2 ⟨rfl, hk, hb, hkp⟩
  have K2 := Aside0.mk hk
  have B2 := Aside0.mk ((HB1.out.mono HK.out.size).trans hb)
  have P2 := Aside0.mk ((Kept.of_below HB1.out (fun j => j = g)).then_ hkp (fun _ h => .inl h))
  have X2 := Aside0.mk (show Rt 101 gb [ptr g] w2 from (hkp.2 gb (Nat.lt_of_lt_of_le HBX.out.lt HB1.out.size) HNE.out).trans (HBX.out.below HB1.out))
  have hm2 := hk.row.cell 2 _ rfl
  have hw64 : IntKind.u64.wrap (most : Int) = (most : Int) := by have := HK.out.mb; rw [IntKind.wrap_u64]; omega
  clear hk hb hkp
  by_cases hu : most < u
  · have HP := Aside0.mk (show pList xs most (pLine xs most) m = Res.fail 91 (m : Int) from by
      unfold pList pU took
      rw [HQ.out, if_pos rfl]
      simp only [Res.bind]
      rw [if_pos (by omega)])
    have d1 : decide ((most : Int) < (u : Int)) = true := decide_eq_true (by omega)
    have d2 : decide (most < u) = true := decide_eq_true hu
    clear hu
    go_wp2_with fail
    refine ⟨rfl, B2.out, P2.out, ?_⟩
    rw [HP.out]
    rfl
  have HP := Aside0.mk (show pList xs most (pLine xs most) m = pN (pLine xs most) u [] (m + dn) from by
    unfold pList pU took
    rw [HQ.out, if_pos rfl]
    simp only [Res.bind]
    rw [if_neg (by omega), Int.toNat_natCast, Int.toNat_natCast])
  have HU := Aside0.mk (show u ≤ most by omega)
  have d1 : decide ((most : Int) < (u : Int)) = false := decide_eq_false (by omega)
  have d2 : decide (most < u) = false := decide_eq_false hu
  clear hu
  go_wp2_with fail
  clear hm2 hw64 d1 d2 c1 c2 c3
  obtain ⟨S0, hS0⟩ : ∃ S0, W.heap.size = S0 := ⟨_, rfl⟩
  have HS0 := Aside0.mk hS0
  have HLT := Aside0.mk (show g < S0 ∧ gb < S0 ∧ B ≤ S0 by have := HK.out.row.lt; have := HBX.out.lt; have := HK.out.size; omega)
  clear hS0
  go_loopw [9, 43] (fun v p wr => ∃ (i m' : Nat) (l : List S110), p = .int .u64 (i : Int) ∧ Aside0 (i ≤ u) ∧ Aside0 (l.length = i) ∧ Aside0 (pN (pLine xs most) u [] (m + dn) = pN (pLine xs most) (u - i) l m') ∧ Aside0 (LN S0 l v wr) ∧ Aside0 (CrAt g B A n c xs m' most wr) ∧ Aside0 (Below B W wr) ∧ Aside0 (Kept W wr (fun j => j = g)) ∧ Aside0 (Rt 101 gb [ptr g] wr)) (fun _ p _ => u - (intOf p).toNat)
  · exact ⟨0, m + dn, [], rfl, ⟨Nat.zero_le _⟩, ⟨rfl⟩, ⟨rfl⟩, ⟨Kd.R_nil _ _ _ _ _⟩, K2, B2, P2, X2⟩
  · obtain ⟨i, m', l, rfl, HI, HLN, HPN, HR, HKr, HBr, HPr, HXr⟩ := hrel
    by_cases ci : i < u
    · have ci1 : decide ((i : Int) < (u : Int)) = true := decide_eq_true (by omega)
      have hw1 : IntKind.u64.wrap ((i : Int) + 1) = ((i + 1 : Nat) : Int) := by rw [IntKind.wrap_u64]; have := HUL.out; omega
      have HOU := Aside0.mk (own_under HR.out)
      go_wp2_with fail
      go_at_call 131
      refine (r_line HKr.out HXr.out).mono ?_
      rintro e w5 ⟨hb, hp, ho⟩
      have hbt := HBr.out.trans hb
      have hpt := HPr.out.then_ hp (fun _ h => .inl h)
      have hpn : pN (pLine xs most) (u - i) l m' = (pLine xs most m').bind fun x mm => pN (pLine xs most) (u - (i + 1)) (l ++ [x]) mm := by
        rw [show u - i = (u - (i + 1)) + 1 from by omega]
        rfl
      rcases hq : pLine xs most m' with ⟨x, m2⟩ | ⟨er, p⟩
      rotate_left
      · rw [hq] at ho hpn
        have ho : e = gaveUp er p := ho
        subst ho
        refine ⟨rfl, hbt, hpt, ?_⟩
        rw [HP.out, HPN.out, hpn]
        rfl
      rw [hq] at ho hpn
      obtain ⟨vx, he, hx, hk⟩ : ∃ vx, e = .returned vx ∧ memLine wr.heap.size x vx w5 ∧ CrAt g B A n c xs m2 most w5 := ho
      subst he
      have SR := Aside0.mk (show S0 ≤ wr.heap.size by have := HPr.out.1; have := HS0.out; omega)
      have hx : vx = .agg #[.string x.f0, .int .i64 x.f1] := hx
      subst hx
      have MX := Aside0.mk (show k110.M w5 S0 (fun j => wr.heap.size ≤ j) x [.string x.f0, .int .i64 x.f1] from k110_mkM _ _ _ x)
      have K5 := Aside0.mk hk
      have B5 := Aside0.mk hbt
      have P5 := Aside0.mk hpt
      have X5 := Aside0.mk (show Rt 101 gb [ptr g] w5 from (hp.2 gb HXr.out.lt HNE.out).trans HXr.out)
      have R5 := Aside0.mk (show LN S0 l _ w5 from LN_alive.kept HR.out hp (fun j hj e => by have := HLT.out; omega))
      have HPN2 := Aside0.mk (HPN.out.trans hpn)
      have S5 := Aside0.mk (show S0 ≤ w5.heap.size by have := hpt.1; have := HS0.out; omega)
      have HSZ := Aside0.mk (show (l.length + 1) * 24 ≤ 140737488355328 by have := HLN.out; have := HI.out; have := HU.out; have := HK.out.mb; omega)
      have SR5 := Aside0.mk hp.1
      obtain ⟨T0, hT0⟩ : ∃ T0, wr.heap.size = T0 := ⟨_, rfl⟩
      rw [hT0] at HOU SR SR5 MX
      clear hb hp hbt hpt hpn hq hk hT0
      try clear ho
      go_wp2_with (first | (
        (with_reducible refine gate_builtin (b := .append) (xs := #[.tmp 45, .tmp 48]) rfl ?_)
        at_builtin
        refine Kd.R_append k110 (w0 := w5) S0 rfl (.tmp 45) (.tmp 48) 38 110 (.agg #[.string ⟨#[]⟩, .int .i64 0]) 24 rfl Try.underlying38 info110 rfl (by decide) (by decide) _ l x [.string x.f0, .int .i64 x.f1] (fun _ => True) (fun j => T0 ≤ j) rfl rfl MX.out (fun j hj => ⟨trivial, fun e => by have := HOU.out j e.symm; omega⟩) (fun _ _ => trivial) R5.out (Below.refl _ _) S5.out HSZ.out ?_
        intro v1 w6 ho hb hg hat
        have HO6 := Aside0.mk ho
        have K6 := Aside0.mk (K5.out.aside (hb.mono HLT.out.2.2) (hb.block g HLT.out.1))
        have B6 := Aside0.mk (B5.out.trans (hb.mono HLT.out.2.2))
        have P6 := Aside0.mk (show Kept W w6 (fun j => j = g) from ⟨Nat.le_trans P5.out.1 hb.size, fun j hj hn => (hb.block j (by have := HS0.out; omega)).trans (P5.out.2 j hj hn)⟩)
        have X6 := Aside0.mk (show Rt 101 gb [ptr g] w6 from (hb.block gb HLT.out.2.1).trans X5.out)
        clear ho hb hg hat))
      refine ⟨⟨i + 1, m2, l ++ [x], congrArg (Value.int .u64) (by omega), ⟨ci⟩, ⟨by rw [List.length_append, HLN.out]; rfl⟩, HPN2, HO6, K6, B6, P6, X6⟩, ?_⟩
      simp only [intOf]
      omega
    · have ci1 : decide ((i : Int) < (u : Int)) = false := decide_eq_false (by omega)
      obtain rfl : i = u := by have := HI.out; omega
      go_wp2_with fail
      go_ret
      refine ⟨HBr.out, HPr.out, ?_⟩
      rw [HP.out, HPN.out, Nat.sub_self, HS0.out]
      exact ⟨_, rfl, HR.out, HKr.out⟩
theorem r_lines {g B : Nat} {A : Option Addr} {n c : Nat} {xs : List Int} {m most : Nat} {W : World} (k : CrAt g B A n c xs m most W) :
    Calls Try.prog 93 #[ptr g] W fun e w' => Below B W w' ∧ Kept W w' (fun j => j = g) ∧ OutR g B A n c xs most (LN W.heap.size) (pList xs most (pLine xs most) m) e w' := by
  have HK := Aside0.mk k
  have hr2 : Rt 101 W.heap.size [ptr g] (W.alloc (.cells #[ptr g] 101)) := heap_alloc_new W _
  have hb1 : Below W.heap.size W (W.alloc (.cells #[ptr g] 101)) := below_alloc (Below.refl _ _) _
  have hmf : ∀ (fn : Fn) (first cap : Array Value) (w : World), (Instr.makeFunc fn first cap).run Try.prog w = .ok (.func fn first cap) w := fun _ _ _ _ => rfl
  have HSZ := Aside0.mk hb1.size
  clear k
  go_enter Try.func93, Try.ntmps93
  go_upto_region 1 with fail
  obtain ⟨b2, hb2⟩ : ∃ b2, W.heap.size = b2 := ⟨_, rfl⟩
  have HBE := Aside0.mk hb2
  have K1 := Aside0.mk (HK.out.below hb1)
  have B1 := Aside0.mk (hb1.mono HK.out.size)
  have P1 := Aside0.mk (Kept.of_below hb1 (fun j => j = g))
  rw [hb2] at hr2 ⊢
  have R1 := Aside0.mk hr2
  clear hr2 hb1 hb2
  generalize W.alloc (.cells #[ptr g] 101) = w1 at *
  have c0 := R1.out.cell 0 _ rfl
  go_wp2_with fail
  go_at_call 130
  refine (r_lineList K1.out R1.out).mono ?_
  rintro e w2 ⟨hb, hp, ho⟩
  have hbt := B1.out.trans hb
  have hpt := P1.out.then_ hp (fun _ h => .inl h)
  rcases hq : pList xs most (pLine xs most) m with ⟨l, m2⟩ | ⟨er, p⟩
  · rw [hq] at ho
    obtain ⟨v, he, hR, hk⟩ : ∃ v, e = .returned v ∧ LN w1.heap.size l v w2 ∧ CrAt g B A n c xs m2 most w2 := ho
    subst he
    have HR := Aside0.mk (show LN W.heap.size l v w2 from LN_alive.lower hR HSZ.out)
    have K2 := Aside0.mk hk
    have B2 := Aside0.mk hbt
    have P2 := Aside0.mk hpt
    have HQ := Aside0.mk hq
    clear hb hp hbt hpt hR hk hq c0 hmf
    try clear ho
    go_wp2_with fail
    go_ret
    rw [HBE.out] at *
    refine ⟨B2.out, P2.out, ?_⟩
    rw [HQ.out]
    exact ⟨v, rfl, HR.out, K2.out⟩
  · rw [hq] at ho
    have ho : e = gaveUp er p := ho
    subst ho
    refine ⟨rfl, hbt, hpt, ?_⟩
    rw [hq]
    rfl
theorem Rt.fill6 {t b : Nat} {zs : List Value} {W : World} (h : Rt t b zs W) (k : Nat) (a0 a1 a2 a3 a4 a5 : Value) :
    (((((W.setCell ⟨b, k, none⟩ a0).setCell ⟨b, k + 1, none⟩ a1).setCell ⟨b, k + 2, none⟩ a2).setCell ⟨b, k + 3, none⟩ a3).setCell ⟨b, k + 4, none⟩ a4).setCell ⟨b, k + 5, none⟩ a5 = W.setRow b ((((((zs.set k a0).set (k + 1) a1).set (k + 2) a2).set (k + 3) a3).set (k + 4) a4).set (k + 5) a5).toArray := by
  rw [h.set k a0, (h.row _).set (k + 1) a1, setRow_again, (h.row _).set (k + 2) a2, setRow_again, (h.row _).set (k + 3) a3, setRow_again, (h.row _).set (k + 4) a4, setRow_again, (h.row _).set (k + 5) a5, setRow_again]
def pReq (xs : List Int) (most : Nat) (m : Nat) : Res S40 :=
  (pT xs most m).bind fun t m => (pI xs m).bind fun a m => (pList xs most (pLine xs most) m).bind fun l m => (pT xs most m).bind fun h m => (pI xs m).bind fun y m => (pI xs m).bind fun z m => .ok ⟨t, a, l, h, y, z⟩ m
def memReq (S : Nat) (x : S40) (v : Value) (w : World) : Prop := ∃ Al nl cl, v = .agg #[.string x.f0, .int .i64 x.f1, .slice Al nl cl, .string x.f3, .int .i64 x.f4, .int .i64 x.f5] ∧ LN S x.f2 (.slice Al nl cl) w
theorem r_request {g B : Nat} {A : Option Addr} {n c : Nat} {xs : List Int} {m most : Nat} {W : World} (k : CrAt g B A n c xs m most W) :
    Calls Try.prog 75 #[ptr g] W fun e w' => Below B W w' ∧ Kept W w' (fun j => j = g) ∧ OutR g B A n c xs most (memReq W.heap.size) (pReq xs most m) e w' := by
  have HK := Aside0.mk k
  clear k
  go_enter Try.func75, Try.ntmps75
  go_upto_region 1 with fail
  have hr1 : Rt 40 W.heap.size [.string ⟨#[]⟩, .int .i64 0, .slice none 0 0, .string ⟨#[]⟩, .int .i64 0, .int .i64 0] (W.alloc (.cells #[.string ⟨#[]⟩, .int .i64 0, .slice none 0 0, .string ⟨#[]⟩, .int .i64 0, .int .i64 0] 40)) := heap_alloc_new W _
  have hb1 : Below W.heap.size W (W.alloc (.cells #[.string ⟨#[]⟩, .int .i64 0, .slice none 0 0, .string ⟨#[]⟩, .int .i64 0, .int .i64 0] 40)) := below_alloc (Below.refl _ _) _
  obtain ⟨b, hbe⟩ : ∃ b, W.heap.size = b := ⟨_, rfl⟩
  have K1 := Aside0.mk (HK.out.below hb1)
  have B1 := Aside0.mk (hb1.mono HK.out.size)
  have P1 := Aside0.mk (Kept.of_below hb1 (fun j => j = g))
  have HBE := Aside0.mk (show W.heap.size ≤ b by omega)
  have HLT := Aside0.mk (show g < b ∧ B ≤ b by have := HK.out.row.lt; have := HK.out.size; omega)
  rw [hbe] at hr1
  rw [hbe]
  have R1 := Aside0.mk hr1
  clear hr1 hb1 hbe
  generalize W.alloc (.cells #[.string ⟨#[]⟩, .int .i64 0, .slice none 0 0, .string ⟨#[]⟩, .int .i64 0, .int .i64 0] 40) = w1 at *
  have cr0 := R1.out.cell 0 _ rfl
  have fr0 := R1.out.free 0
  go_wp2_with fail
  go_at_call 61
  refine (r_text K1.out).mono ?_
  rintro e w2 ⟨hb, hp, ho⟩
  have hbt := B1.out.trans hb
  have hpt := P1.out.then_ hp (fun _ h => .inl h)
  rcases hq : pT xs most m with ⟨t, m1⟩ | ⟨er, p⟩
  rotate_left
  · rw [hq] at ho
    have ho : e = gaveUp er p := ho
    subst ho
    refine ⟨rfl, hbt, hpt, ?_⟩
    have e9 : pReq xs most m = Res.fail er p := by
      unfold pReq
      simp only [Res.bind, hq]
    rw [e9]
    rfl
  rw [hq] at ho
  obtain ⟨he, hk⟩ : e = .returned (.string t) ∧ CrAt g B A n c xs m1 most w2 := ho
  subst he
  have HQ0 := Aside0.mk hq
  have K2 := Aside0.mk hk
  have B2 := Aside0.mk hbt
  have P2 := Aside0.mk hpt
  have R2 := Aside0.mk (show Rt 40 b [.string ⟨#[]⟩, .int .i64 0, .slice none 0 0, .string ⟨#[]⟩, .int .i64 0, .int .i64 0] w2 from (hp.2 b R1.out.lt (by have := HLT.out; show b ≠ g; omega)).trans R1.out)
  clear hb hp hbt hpt hq hk cr0 fr0
  try clear ho
  have cr0 := R2.out.cell 0 _ rfl
  have fr0 := R2.out.free 0
  go_upto_region 2 with fail
  have e1 := R2.out.set 0 (.string t)
  rw [e1]
  clear e1 cr0 fr0
  have hl : [Value.string ⟨#[]⟩, .int .i64 0, .slice none 0 0, .string ⟨#[]⟩, .int .i64 0, .int .i64 0].set 0 (.string t) = [Value.string t, .int .i64 0, .slice none 0 0, .string ⟨#[]⟩, .int .i64 0, .int .i64 0] := rfl
  rw [hl]
  clear hl
  have K3 := Aside0.mk (show CrAt g B A n c xs m1 most (w2.setRow b [Value.string t, .int .i64 0, .slice none 0 0, .string ⟨#[]⟩, .int .i64 0, .int .i64 0].toArray) from K2.out.aside (below_setRow' (Below.refl _ _) HLT.out.2 _) (setRow_other _ _ _ _ (by have := HLT.out; omega)))
  have B3 := Aside0.mk (show Below B W (w2.setRow b [Value.string t, .int .i64 0, .slice none 0 0, .string ⟨#[]⟩, .int .i64 0, .int .i64 0].toArray) from below_setRow' B2.out HLT.out.2 _)
  have P3 := Aside0.mk (show Kept W (w2.setRow b [Value.string t, .int .i64 0, .slice none 0 0, .string ⟨#[]⟩, .int .i64 0, .int .i64 0].toArray) (fun j => j = g) from ⟨by rw [setRow_size]; exact P2.out.1, fun j hj hn => (setRow_other _ _ _ _ (by have := HBE.out; omega)).trans (P2.out.2 j hj hn)⟩)
  have R3 := Aside0.mk (show Rt 40 b [Value.string t, .int .i64 0, .slice none 0 0, .string ⟨#[]⟩, .int .i64 0, .int .i64 0] (w2.setRow b [Value.string t, .int .i64 0, .slice none 0 0, .string ⟨#[]⟩, .int .i64 0, .int .i64 0].toArray) from R2.out.row _)
  generalize w2.setRow b [Value.string t, .int .i64 0, .slice none 0 0, .string ⟨#[]⟩, .int .i64 0, .int .i64 0].toArray = w3 at *
  have cr1 := R3.out.cell 1 _ rfl
  have fr1 := R3.out.free 1
  go_wp2_with fail
  go_at_call 62
  refine (r_int K3.out).mono ?_
  rintro e w4 ⟨hb, hp, ho⟩
  have hbt := B3.out.trans hb
  have hpt := P3.out.then_ hp (fun _ h => .inl h)
  rcases hq : pI xs m1 with ⟨a, m2⟩ | ⟨er, p⟩
  rotate_left
  · rw [hq] at ho
    have ho : e = gaveUp er p := ho
    subst ho
    refine ⟨rfl, hbt, hpt, ?_⟩
    have e9 : pReq xs most m = Res.fail er p := by
      unfold pReq
      simp only [Res.bind, HQ0.out, hq]
    rw [e9]
    rfl
  rw [hq] at ho
  obtain ⟨he, hk⟩ : e = .returned (.int .i64 a) ∧ CrAt g B A n c xs m2 most w4 := ho
  subst he
  have HQ1 := Aside0.mk hq
  have K4 := Aside0.mk hk
  have B4 := Aside0.mk hbt
  have P4 := Aside0.mk hpt
  have R4 := Aside0.mk (show Rt 40 b [.string t, .int .i64 0, .slice none 0 0, .string ⟨#[]⟩, .int .i64 0, .int .i64 0] w4 from (hp.2 b R3.out.lt (by have := HLT.out; show b ≠ g; omega)).trans R3.out)
  clear hb hp hbt hpt hq hk cr1 fr1
  try clear ho
  have cr1 := R4.out.cell 1 _ rfl
  have fr1 := R4.out.free 1
  go_upto_region 3 with fail
  have e1 := R4.out.set 1 (.int .i64 a)
  rw [e1]
  clear e1 cr1 fr1
  have hl : [Value.string t, .int .i64 0, .slice none 0 0, .string ⟨#[]⟩, .int .i64 0, .int .i64 0].set 1 (.int .i64 a) = [Value.string t, .int .i64 a, .slice none 0 0, .string ⟨#[]⟩, .int .i64 0, .int .i64 0] := rfl
  rw [hl]
  clear hl
  have K5 := Aside0.mk (show CrAt g B A n c xs m2 most (w4.setRow b [Value.string t, .int .i64 a, .slice none 0 0, .string ⟨#[]⟩, .int .i64 0, .int .i64 0].toArray) from K4.out.aside (below_setRow' (Below.refl _ _) HLT.out.2 _) (setRow_other _ _ _ _ (by have := HLT.out; omega)))
  have B5 := Aside0.mk (show Below B W (w4.setRow b [Value.string t, .int .i64 a, .slice none 0 0, .string ⟨#[]⟩, .int .i64 0, .int .i64 0].toArray) from below_setRow' B4.out HLT.out.2 _)
  have P5 := Aside0.mk (show Kept W (w4.setRow b [Value.string t, .int .i64 a, .slice none 0 0, .string ⟨#[]⟩, .int .i64 0, .int .i64 0].toArray) (fun j => j = g) from ⟨by rw [setRow_size]; exact P4.out.1, fun j hj hn => (setRow_other _ _ _ _ (by have := HBE.out; omega)).trans (P4.out.2 j hj hn)⟩)
  have R5 := Aside0.mk (show Rt 40 b [Value.string t, .int .i64 a, .slice none 0 0, .string ⟨#[]⟩, .int .i64 0, .int .i64 0] (w4.setRow b [Value.string t, .int .i64 a, .slice none 0 0, .string ⟨#[]⟩, .int .i64 0, .int .i64 0].toArray) from R4.out.row _)
  generalize w4.setRow b [Value.string t, .int .i64 a, .slice none 0 0, .string ⟨#[]⟩, .int .i64 0, .int .i64 0].toArray = w5 at *
  have cr2 := R5.out.cell 2 _ rfl
  have fr2 := R5.out.free 2
  go_wp2_with fail
  go_at_call 93
  refine (r_lines K5.out).mono ?_
  rintro e w6 ⟨hb, hp, ho⟩
  have hbt := B5.out.trans hb
  have hpt := P5.out.then_ hp (fun _ h => .inl h)
  rcases hq : pList xs most (pLine xs most) m2 with ⟨l, m3⟩ | ⟨er, p⟩
  rotate_left
  · rw [hq] at ho
    have ho : e = gaveUp er p := ho
    subst ho
    refine ⟨rfl, hbt, hpt, ?_⟩
    have e9 : pReq xs most m = Res.fail er p := by
      unfold pReq
      simp only [Res.bind, HQ0.out, HQ1.out, hq]
    rw [e9]
    rfl
  rw [hq] at ho
  obtain ⟨v, he, hE, hk⟩ : ∃ v, e = .returned v ∧ LN w5.heap.size l v w6 ∧ CrAt g B A n c xs m3 most w6 := ho
  obtain ⟨Al, nl, cl, ev⟩ := LN_slice hE
  subst ev
  have Ll_6 := Aside0.mk (show LN (b + 1) l (.slice Al nl cl) w6 from LN_alive.lower hE R5.out.lt)
  clear hE
  subst he
  have HQ2 := Aside0.mk hq
  have K6 := Aside0.mk hk
  have B6 := Aside0.mk hbt
  have P6 := Aside0.mk hpt
  have R6 := Aside0.mk (show Rt 40 b [.string t, .int .i64 a, .slice none 0 0, .string ⟨#[]⟩, .int .i64 0, .int .i64 0] w6 from (hp.2 b R5.out.lt (by have := HLT.out; show b ≠ g; omega)).trans R5.out)
  clear hb hp hbt hpt hq hk cr2 fr2
  try clear ho
  have cr2 := R6.out.cell 2 _ rfl
  have fr2 := R6.out.free 2
  go_upto_region 4 with fail
  have e1 := R6.out.set 2 (.slice Al nl cl)
  rw [e1]
  clear e1 cr2 fr2
  have hl : [Value.string t, .int .i64 a, .slice none 0 0, .string ⟨#[]⟩, .int .i64 0, .int .i64 0].set 2 (.slice Al nl cl) = [Value.string t, .int .i64 a, .slice Al nl cl, .string ⟨#[]⟩, .int .i64 0, .int .i64 0] := rfl
  rw [hl]
  clear hl
  have K7 := Aside0.mk (show CrAt g B A n c xs m3 most (w6.setRow b [Value.string t, .int .i64 a, .slice Al nl cl, .string ⟨#[]⟩, .int .i64 0, .int .i64 0].toArray) from K6.out.aside (below_setRow' (Below.refl _ _) HLT.out.2 _) (setRow_other _ _ _ _ (by have := HLT.out; omega)))
  have B7 := Aside0.mk (show Below B W (w6.setRow b [Value.string t, .int .i64 a, .slice Al nl cl, .string ⟨#[]⟩, .int .i64 0, .int .i64 0].toArray) from below_setRow' B6.out HLT.out.2 _)
  have P7 := Aside0.mk (show Kept W (w6.setRow b [Value.string t, .int .i64 a, .slice Al nl cl, .string ⟨#[]⟩, .int .i64 0, .int .i64 0].toArray) (fun j => j = g) from ⟨by rw [setRow_size]; exact P6.out.1, fun j hj hn => (setRow_other _ _ _ _ (by have := HBE.out; omega)).trans (P6.out.2 j hj hn)⟩)
  have R7 := Aside0.mk (show Rt 40 b [Value.string t, .int .i64 a, .slice Al nl cl, .string ⟨#[]⟩, .int .i64 0, .int .i64 0] (w6.setRow b [Value.string t, .int .i64 a, .slice Al nl cl, .string ⟨#[]⟩, .int .i64 0, .int .i64 0].toArray) from R6.out.row _)
  have Ll_7 := Aside0.mk (LN_alive.row Ll_6.out (Nat.lt_succ_self b) [Value.string t, .int .i64 a, .slice Al nl cl, .string ⟨#[]⟩, .int .i64 0, .int .i64 0].toArray)
  generalize w6.setRow b [Value.string t, .int .i64 a, .slice Al nl cl, .string ⟨#[]⟩, .int .i64 0, .int .i64 0].toArray = w7 at *
  have cr3 := R7.out.cell 3 _ rfl
  have fr3 := R7.out.free 3
  go_wp2_with fail
  go_at_call 61
  refine (r_text K7.out).mono ?_
  rintro e w8 ⟨hb, hp, ho⟩
  have hbt := B7.out.trans hb
  have hpt := P7.out.then_ hp (fun _ h => .inl h)
  rcases hq : pT xs most m3 with ⟨h, m4⟩ | ⟨er, p⟩
  rotate_left
  · rw [hq] at ho
    have ho : e = gaveUp er p := ho
    subst ho
    refine ⟨rfl, hbt, hpt, ?_⟩
    have e9 : pReq xs most m = Res.fail er p := by
      unfold pReq
      simp only [Res.bind, HQ0.out, HQ1.out, HQ2.out, hq]
    rw [e9]
    rfl
  rw [hq] at ho
  obtain ⟨he, hk⟩ : e = .returned (.string h) ∧ CrAt g B A n c xs m4 most w8 := ho
  subst he
  have HQ3 := Aside0.mk hq
  have K8 := Aside0.mk hk
  have B8 := Aside0.mk hbt
  have P8 := Aside0.mk hpt
  have R8 := Aside0.mk (show Rt 40 b [.string t, .int .i64 a, .slice Al nl cl, .string ⟨#[]⟩, .int .i64 0, .int .i64 0] w8 from (hp.2 b R7.out.lt (by have := HLT.out; show b ≠ g; omega)).trans R7.out)
  have Ll_8 := Aside0.mk (LN_alive.kept Ll_7.out hp (fun j hj e => by have := HLT.out; omega))
  clear hb hp hbt hpt hq hk cr3 fr3
  try clear ho
  have cr3 := R8.out.cell 3 _ rfl
  have fr3 := R8.out.free 3
  go_upto_region 5 with fail
  have e1 := R8.out.set 3 (.string h)
  rw [e1]
  clear e1 cr3 fr3
  have hl : [Value.string t, .int .i64 a, .slice Al nl cl, .string ⟨#[]⟩, .int .i64 0, .int .i64 0].set 3 (.string h) = [Value.string t, .int .i64 a, .slice Al nl cl, .string h, .int .i64 0, .int .i64 0] := rfl
  rw [hl]
  clear hl
  have K9 := Aside0.mk (show CrAt g B A n c xs m4 most (w8.setRow b [Value.string t, .int .i64 a, .slice Al nl cl, .string h, .int .i64 0, .int .i64 0].toArray) from K8.out.aside (below_setRow' (Below.refl _ _) HLT.out.2 _) (setRow_other _ _ _ _ (by have := HLT.out; omega)))
  have B9 := Aside0.mk (show Below B W (w8.setRow b [Value.string t, .int .i64 a, .slice Al nl cl, .string h, .int .i64 0, .int .i64 0].toArray) from below_setRow' B8.out HLT.out.2 _)
  have P9 := Aside0.mk (show Kept W (w8.setRow b [Value.string t, .int .i64 a, .slice Al nl cl, .string h, .int .i64 0, .int .i64 0].toArray) (fun j => j = g) from ⟨by rw [setRow_size]; exact P8.out.1, fun j hj hn => (setRow_other _ _ _ _ (by have := HBE.out; omega)).trans (P8.out.2 j hj hn)⟩)
  have R9 := Aside0.mk (show Rt 40 b [Value.string t, .int .i64 a, .slice Al nl cl, .string h, .int .i64 0, .int .i64 0] (w8.setRow b [Value.string t, .int .i64 a, .slice Al nl cl, .string h, .int .i64 0, .int .i64 0].toArray) from R8.out.row _)
  have Ll_9 := Aside0.mk (LN_alive.row Ll_8.out (Nat.lt_succ_self b) [Value.string t, .int .i64 a, .slice Al nl cl, .string h, .int .i64 0, .int .i64 0].toArray)
  generalize w8.setRow b [Value.string t, .int .i64 a, .slice Al nl cl, .string h, .int .i64 0, .int .i64 0].toArray = w9 at *
  have cr4 := R9.out.cell 4 _ rfl
  have fr4 := R9.out.free 4
  go_wp2_with fail
  go_at_call 62
  refine (r_int K9.out).mono ?_
  rintro e w10 ⟨hb, hp, ho⟩
  have hbt := B9.out.trans hb
  have hpt := P9.out.then_ hp (fun _ h => .inl h)
  rcases hq : pI xs m4 with ⟨y, m5⟩ | ⟨er, p⟩
  rotate_left
  · rw [hq] at ho
    have ho : e = gaveUp er p := ho
    subst ho
    refine ⟨rfl, hbt, hpt, ?_⟩
    have e9 : pReq xs most m = Res.fail er p := by
      unfold pReq
      simp only [Res.bind, HQ0.out, HQ1.out, HQ2.out, HQ3.out, hq]
    rw [e9]
    rfl
  rw [hq] at ho
  obtain ⟨he, hk⟩ : e = .returned (.int .i64 y) ∧ CrAt g B A n c xs m5 most w10 := ho
  subst he
  have HQ4 := Aside0.mk hq
  have K10 := Aside0.mk hk
  have B10 := Aside0.mk hbt
  have P10 := Aside0.mk hpt
  have R10 := Aside0.mk (show Rt 40 b [.string t, .int .i64 a, .slice Al nl cl, .string h, .int .i64 0, .int .i64 0] w10 from (hp.2 b R9.out.lt (by have := HLT.out; show b ≠ g; omega)).trans R9.out)
  have Ll_10 := Aside0.mk (LN_alive.kept Ll_9.out hp (fun j hj e => by have := HLT.out; omega))
  clear hb hp hbt hpt hq hk cr4 fr4
  try clear ho
  have cr4 := R10.out.cell 4 _ rfl
  have fr4 := R10.out.free 4
  go_upto_region 6 with fail
  have e1 := R10.out.set 4 (.int .i64 y)
  rw [e1]
  clear e1 cr4 fr4
  have hl : [Value.string t, .int .i64 a, .slice Al nl cl, .string h, .int .i64 0, .int .i64 0].set 4 (.int .i64 y) = [Value.string t, .int .i64 a, .slice Al nl cl, .string h, .int .i64 y, .int .i64 0] := rfl
  rw [hl]
  clear hl
  have K11 := Aside0.mk (show CrAt g B A n c xs m5 most (w10.setRow b [Value.string t, .int .i64 a, .slice Al nl cl, .string h, .int .i64 y, .int .i64 0].toArray) from K10.out.aside (below_setRow' (Below.refl _ _) HLT.out.2 _) (setRow_other _ _ _ _ (by have := HLT.out; omega)))
  have B11 := Aside0.mk (show Below B W (w10.setRow b [Value.string t, .int .i64 a, .slice Al nl cl, .string h, .int .i64 y, .int .i64 0].toArray) from below_setRow' B10.out HLT.out.2 _)
  have P11 := Aside0.mk (show Kept W (w10.setRow b [Value.string t, .int .i64 a, .slice Al nl cl, .string h, .int .i64 y, .int .i64 0].toArray) (fun j => j = g) from ⟨by rw [setRow_size]; exact P10.out.1, fun j hj hn => (setRow_other _ _ _ _ (by have := HBE.out; omega)).trans (P10.out.2 j hj hn)⟩)
  have R11 := Aside0.mk (show Rt 40 b [Value.string t, .int .i64 a, .slice Al nl cl, .string h, .int .i64 y, .int .i64 0] (w10.setRow b [Value.string t, .int .i64 a, .slice Al nl cl, .string h, .int .i64 y, .int .i64 0].toArray) from R10.out.row _)
  have Ll_11 := Aside0.mk (LN_alive.row Ll_10.out (Nat.lt_succ_self b) [Value.string t, .int .i64 a, .slice Al nl cl, .string h, .int .i64 y, .int .i64 0].toArray)
  generalize w10.setRow b [Value.string t, .int .i64 a, .slice Al nl cl, .string h, .int .i64 y, .int .i64 0].toArray = w11 at *
  have cr5 := R11.out.cell 5 _ rfl
  have fr5 := R11.out.free 5
  go_wp2_with fail
  go_at_call 62
  refine (r_int K11.out).mono ?_
  rintro e w12 ⟨hb, hp, ho⟩
  have hbt := B11.out.trans hb
  have hpt := P11.out.then_ hp (fun _ h => .inl h)
  rcases hq : pI xs m5 with ⟨z, m6⟩ | ⟨er, p⟩
  rotate_left
  · rw [hq] at ho
    have ho : e = gaveUp er p := ho
    subst ho
    refine ⟨rfl, hbt, hpt, ?_⟩
    have e9 : pReq xs most m = Res.fail er p := by
      unfold pReq
      simp only [Res.bind, HQ0.out, HQ1.out, HQ2.out, HQ3.out, HQ4.out, hq]
    rw [e9]
    rfl
  rw [hq] at ho
  obtain ⟨he, hk⟩ : e = .returned (.int .i64 z) ∧ CrAt g B A n c xs m6 most w12 := ho
  subst he
  have HQ5 := Aside0.mk hq
  have K12 := Aside0.mk hk
  have B12 := Aside0.mk hbt
  have P12 := Aside0.mk hpt
  have R12 := Aside0.mk (show Rt 40 b [.string t, .int .i64 a, .slice Al nl cl, .string h, .int .i64 y, .int .i64 0] w12 from (hp.2 b R11.out.lt (by have := HLT.out; show b ≠ g; omega)).trans R11.out)
  have Ll_12 := Aside0.mk (LN_alive.kept Ll_11.out hp (fun j hj e => by have := HLT.out; omega))
  clear hb hp hbt hpt hq hk cr5 fr5
  try clear ho
  have cr5 := R12.out.cell 5 _ rfl
  have fr5 := R12.out.free 5
  go_upto_region 7 with fail
  have e1 := R12.out.set 5 (.int .i64 z)
  rw [e1]
  clear e1 cr5 fr5
  have hl : [Value.string t, .int .i64 a, .slice Al nl cl, .string h, .int .i64 y, .int .i64 0].set 5 (.int .i64 z) = [Value.string t, .int .i64 a, .slice Al nl cl, .string h, .int .i64 y, .int .i64 z] := rfl
  rw [hl]
  clear hl
  have K13 := Aside0.mk (show CrAt g B A n c xs m6 most (w12.setRow b [Value.string t, .int .i64 a, .slice Al nl cl, .string h, .int .i64 y, .int .i64 z].toArray) from K12.out.aside (below_setRow' (Below.refl _ _) HLT.out.2 _) (setRow_other _ _ _ _ (by have := HLT.out; omega)))
  have B13 := Aside0.mk (show Below B W (w12.setRow b [Value.string t, .int .i64 a, .slice Al nl cl, .string h, .int .i64 y, .int .i64 z].toArray) from below_setRow' B12.out HLT.out.2 _)
  have P13 := Aside0.mk (show Kept W (w12.setRow b [Value.string t, .int .i64 a, .slice Al nl cl, .string h, .int .i64 y, .int .i64 z].toArray) (fun j => j = g) from ⟨by rw [setRow_size]; exact P12.out.1, fun j hj hn => (setRow_other _ _ _ _ (by have := HBE.out; omega)).trans (P12.out.2 j hj hn)⟩)
  have R13 := Aside0.mk (show Rt 40 b [Value.string t, .int .i64 a, .slice Al nl cl, .string h, .int .i64 y, .int .i64 z] (w12.setRow b [Value.string t, .int .i64 a, .slice Al nl cl, .string h, .int .i64 y, .int .i64 z].toArray) from R12.out.row _)
  have Ll_13 := Aside0.mk (LN_alive.row Ll_12.out (Nat.lt_succ_self b) [Value.string t, .int .i64 a, .slice Al nl cl, .string h, .int .i64 y, .int .i64 z].toArray)
  generalize w12.setRow b [Value.string t, .int .i64 a, .slice Al nl cl, .string h, .int .i64 y, .int .i64 z].toArray = w13 at *
  have c0 := R13.out.cell 0 _ rfl
  have f0 := R13.out.free 0
  have c1 := R13.out.cell 1 _ rfl
  have f1 := R13.out.free 1
  have c2 := R13.out.cell 2 _ rfl
  have f2 := R13.out.free 2
  have c3 := R13.out.cell 3 _ rfl
  have f3 := R13.out.free 3
  have c4 := R13.out.cell 4 _ rfl
  have f4 := R13.out.free 4
  have c5 := R13.out.cell 5 _ rfl
  have f5 := R13.out.free 5
  go_wp2_with fail
  rw [R13.out.same 0 _ rfl, R13.out.same 1 _ rfl, R13.out.same 2 _ rfl, R13.out.same 3 _ rfl, R13.out.same 4 _ rfl, R13.out.same 5 _ rfl]
  refine bodyPost_ret (results_cell_row rfl _ _ b 40 _ (0, 0) _ rfl R13.out Try.underlying40 rfl (by kernel_rfl)) rfl ?_
  refine ⟨B13.out, P13.out, ?_⟩
  have e9 : pReq xs most m = Res.ok ⟨t, a, l, h, y, z⟩ m6 := by
    unfold pReq
    simp only [Res.bind, HQ0.out, HQ1.out, HQ2.out, HQ3.out, HQ4.out, HQ5.out]
  rw [e9]
  exact ⟨_, rfl, ⟨Al, nl, cl, rfl, LN_alive.lower Ll_13.out (Nat.le_succ_of_le HBE.out)⟩, K13.out⟩
def RdOut {α : Type} (enc : Nat → α → Value → World → Prop) (zero : List Value) (S0 : Nat) (r : Res α) (v : Value) (w : World) : Prop :=
  match r with
  | .ok x _ => enc S0 x v w
  | .fail _ _ => v = .agg zero.toArray
def outOr {α : Type} (z : α) (r : Res α) : α :=
  match r with
  | .ok x _ => x
  | .fail _ _ => z
def pHeld (xs : List Int) (most : Nat) (m : Nat) : Res S121 :=
  (pT xs most m).bind fun t m => (pList xs most (pLine xs most) m).bind fun l m => (pI xs m).bind fun a m => .ok ⟨t, l, a⟩ m
def memHeld (S : Nat) (x : S121) (v : Value) (w : World) : Prop := ∃ Al nl cl, v = .agg #[.string x.f0, .slice Al nl cl, .int .i64 x.f2] ∧ LN S x.f1 (.slice Al nl cl) w
theorem r_held {g B gb : Nat} {A : Option Addr} {n c : Nat} {xs : List Int} {m most : Nat} {W : World} (k : CrAt g B A n c xs m most W) (hbx : Rt 101 gb [ptr g] W) :
    Calls Try.prog 92 #[ptr gb] W fun e w' => Below B W w' ∧ Kept W w' (fun j => j = g) ∧ OutR g B A n c xs most (memHeld W.heap.size) (pHeld xs most m) e w' := by
  have HK := Aside0.mk k
  have HBX := Aside0.mk hbx
  have HNE := Aside0.mk (show gb ≠ g from fun e => by
    have h2 := hbx
    rw [e] at h2
    have := blk_types h2 k.row
    omega)
  clear k hbx
  go_enter Try.func92, Try.ntmps92
  go_upto_region 1 with fail
  have hr1 : Rt 121 W.heap.size [.string ⟨#[]⟩, .slice none 0 0, .int .i64 0] (W.alloc (.cells #[.string ⟨#[]⟩, .slice none 0 0, .int .i64 0] 121)) := heap_alloc_new W _
  have hb1 : Below W.heap.size W (W.alloc (.cells #[.string ⟨#[]⟩, .slice none 0 0, .int .i64 0] 121)) := below_alloc (Below.refl _ _) _
  obtain ⟨b, hbe⟩ : ∃ b, W.heap.size = b := ⟨_, rfl⟩
  have K1 := Aside0.mk (HK.out.below hb1)
  have X1 := Aside0.mk (HBX.out.below hb1)
  have B1 := Aside0.mk (hb1.mono HK.out.size)
  have P1 := Aside0.mk (Kept.of_below hb1 (fun j => j = g))
  have HBE := Aside0.mk (show W.heap.size ≤ b by omega)
  have HLT := Aside0.mk (show g < b ∧ B ≤ b ∧ gb < b by have := HK.out.row.lt; have := HK.out.size; have := HBX.out.lt; omega)
  rw [hbe] at hr1
  rw [hbe]
  have R1 := Aside0.mk hr1
  clear hr1 hb1 hbe
  generalize W.alloc (.cells #[.string ⟨#[]⟩, .slice none 0 0, .int .i64 0] 121) = w1 at *
  have cx := X1.out.cell 0 _ rfl
  have cr0 := R1.out.cell 0 _ rfl
  have fr0 := R1.out.free 0
  go_wp2_with fail
  go_at_call 61
  refine (r_text K1.out).mono ?_
  rintro e w2 ⟨hb, hp, ho⟩
  have hbt := B1.out.trans hb
  have hpt := P1.out.then_ hp (fun _ h => .inl h)
  rcases hq : pT xs most m with ⟨t, m1⟩ | ⟨er, p⟩
  rotate_left
  · rw [hq] at ho
    have ho : e = gaveUp er p := ho
    subst ho
    refine ⟨rfl, hbt, hpt, ?_⟩
    have e9 : pHeld xs most m = Res.fail er p := by
      unfold pHeld
      simp only [Res.bind, hq]
    rw [e9]
    rfl
  rw [hq] at ho
  obtain ⟨he, hk⟩ : e = .returned (.string t) ∧ CrAt g B A n c xs m1 most w2 := ho
  subst he
  have HQ0 := Aside0.mk hq
  have K2 := Aside0.mk hk
  have B2 := Aside0.mk hbt
  have P2 := Aside0.mk hpt
  have R2 := Aside0.mk (show Rt 121 b [.string ⟨#[]⟩, .slice none 0 0, .int .i64 0] w2 from (hp.2 b R1.out.lt (by have := HLT.out; show b ≠ g; omega)).trans R1.out)
  have X2 := Aside0.mk (show Rt 101 gb [ptr g] w2 from (hp.2 gb X1.out.lt HNE.out).trans X1.out)
  clear hb hp hbt hpt hq hk cr0 fr0
  try clear ho
  clear cx
  have cr0 := R2.out.cell 0 _ rfl
  have fr0 := R2.out.free 0
  go_upto_region 2 with fail
  have e1 := R2.out.set 0 (.string t)
  rw [e1]
  clear e1 cr0 fr0
  have hl : [Value.string ⟨#[]⟩, .slice none 0 0, .int .i64 0].set 0 (.string t) = [Value.string t, .slice none 0 0, .int .i64 0] := rfl
  rw [hl]
  clear hl
  have K3 := Aside0.mk (show CrAt g B A n c xs m1 most (w2.setRow b [Value.string t, .slice none 0 0, .int .i64 0].toArray) from K2.out.aside (below_setRow' (Below.refl _ _) HLT.out.2.1 _) (setRow_other _ _ _ _ (by have := HLT.out; omega)))
  have B3 := Aside0.mk (show Below B W (w2.setRow b [Value.string t, .slice none 0 0, .int .i64 0].toArray) from below_setRow' B2.out HLT.out.2.1 _)
  have P3 := Aside0.mk (show Kept W (w2.setRow b [Value.string t, .slice none 0 0, .int .i64 0].toArray) (fun j => j = g) from ⟨by rw [setRow_size]; exact P2.out.1, fun j hj hn => (setRow_other _ _ _ _ (by have := HBE.out; omega)).trans (P2.out.2 j hj hn)⟩)
  have R3 := Aside0.mk (show Rt 121 b [Value.string t, .slice none 0 0, .int .i64 0] (w2.setRow b [Value.string t, .slice none 0 0, .int .i64 0].toArray) from R2.out.row _)
  have X3 := Aside0.mk (show Rt 101 gb [ptr g] (w2.setRow b [Value.string t, .slice none 0 0, .int .i64 0].toArray) from (setRow_other _ _ _ _ (by have := HLT.out; omega)).trans X2.out)
  generalize w2.setRow b [Value.string t, .slice none 0 0, .int .i64 0].toArray = w3 at *
  have cx := X3.out.cell 0 _ rfl
  have cr1 := R3.out.cell 1 _ rfl
  have fr1 := R3.out.free 1
  go_wp2_with fail
  go_at_call 93
  refine (r_lines K3.out).mono ?_
  rintro e w4 ⟨hb, hp, ho⟩
  have hbt := B3.out.trans hb
  have hpt := P3.out.then_ hp (fun _ h => .inl h)
  rcases hq : pList xs most (pLine xs most) m1 with ⟨l, m2⟩ | ⟨er, p⟩
  rotate_left
  · rw [hq] at ho
    have ho : e = gaveUp er p := ho
    subst ho
    refine ⟨rfl, hbt, hpt, ?_⟩
    have e9 : pHeld xs most m = Res.fail er p := by
      unfold pHeld
      simp only [Res.bind, HQ0.out, hq]
    rw [e9]
    rfl
  rw [hq] at ho
  obtain ⟨v, he, hE, hk⟩ : ∃ v, e = .returned v ∧ LN w3.heap.size l v w4 ∧ CrAt g B A n c xs m2 most w4 := ho
  obtain ⟨Al, nl, cl, ev⟩ := LN_slice hE
  subst ev
  have Ll_4 := Aside0.mk (show LN (b + 1) l (.slice Al nl cl) w4 from LN_alive.lower hE R3.out.lt)
  clear hE
  subst he
  have HQ1 := Aside0.mk hq
  have K4 := Aside0.mk hk
  have B4 := Aside0.mk hbt
  have P4 := Aside0.mk hpt
  have R4 := Aside0.mk (show Rt 121 b [.string t, .slice none 0 0, .int .i64 0] w4 from (hp.2 b R3.out.lt (by have := HLT.out; show b ≠ g; omega)).trans R3.out)
  have X4 := Aside0.mk (show Rt 101 gb [ptr g] w4 from (hp.2 gb X3.out.lt HNE.out).trans X3.out)
  clear hb hp hbt hpt hq hk cr1 fr1
  try clear ho
  clear cx
  have cr1 := R4.out.cell 1 _ rfl
  have fr1 := R4.out.free 1
  go_upto_region 3 with fail
  have e1 := R4.out.set 1 (.slice Al nl cl)
  rw [e1]
  clear e1 cr1 fr1
  have hl : [Value.string t, .slice none 0 0, .int .i64 0].set 1 (.slice Al nl cl) = [Value.string t, .slice Al nl cl, .int .i64 0] := rfl
  rw [hl]
  clear hl
  have K5 := Aside0.mk (show CrAt g B A n c xs m2 most (w4.setRow b [Value.string t, .slice Al nl cl, .int .i64 0].toArray) from K4.out.aside (below_setRow' (Below.refl _ _) HLT.out.2.1 _) (setRow_other _ _ _ _ (by have := HLT.out; omega)))
  have B5 := Aside0.mk (show Below B W (w4.setRow b [Value.string t, .slice Al nl cl, .int .i64 0].toArray) from below_setRow' B4.out HLT.out.2.1 _)
  have P5 := Aside0.mk (show Kept W (w4.setRow b [Value.string t, .slice Al nl cl, .int .i64 0].toArray) (fun j => j = g) from ⟨by rw [setRow_size]; exact P4.out.1, fun j hj hn => (setRow_other _ _ _ _ (by have := HBE.out; omega)).trans (P4.out.2 j hj hn)⟩)
  have R5 := Aside0.mk (show Rt 121 b [Value.string t, .slice Al nl cl, .int .i64 0] (w4.setRow b [Value.string t, .slice Al nl cl, .int .i64 0].toArray) from R4.out.row _)
  have X5 := Aside0.mk (show Rt 101 gb [ptr g] (w4.setRow b [Value.string t, .slice Al nl cl, .int .i64 0].toArray) from (setRow_other _ _ _ _ (by have := HLT.out; omega)).trans X4.out)
  have Ll_5 := Aside0.mk (LN_alive.row Ll_4.out (Nat.lt_succ_self b) [Value.string t, .slice Al nl cl, .int .i64 0].toArray)
  generalize w4.setRow b [Value.string t, .slice Al nl cl, .int .i64 0].toArray = w5 at *
  have cx := X5.out.cell 0 _ rfl
  have cr2 := R5.out.cell 2 _ rfl
  have fr2 := R5.out.free 2
  go_wp2_with fail
  go_at_call 62
  refine (r_int K5.out).mono ?_
  rintro e w6 ⟨hb, hp, ho⟩
  have hbt := B5.out.trans hb
  have hpt := P5.out.then_ hp (fun _ h => .inl h)
  rcases hq : pI xs m2 with ⟨a, m3⟩ | ⟨er, p⟩
  rotate_left
  · rw [hq] at ho
    have ho : e = gaveUp er p := ho
    subst ho
    refine ⟨rfl, hbt, hpt, ?_⟩
    have e9 : pHeld xs most m = Res.fail er p := by
      unfold pHeld
      simp only [Res.bind, HQ0.out, HQ1.out, hq]
    rw [e9]
    rfl
  rw [hq] at ho
  obtain ⟨he, hk⟩ : e = .returned (.int .i64 a) ∧ CrAt g B A n c xs m3 most w6 := ho
  subst he
  have HQ2 := Aside0.mk hq
  have K6 := Aside0.mk hk
  have B6 := Aside0.mk hbt
  have P6 := Aside0.mk hpt
  have R6 := Aside0.mk (show Rt 121 b [.string t, .slice Al nl cl, .int .i64 0] w6 from (hp.2 b R5.out.lt (by have := HLT.out; show b ≠ g; omega)).trans R5.out)
  have X6 := Aside0.mk (show Rt 101 gb [ptr g] w6 from (hp.2 gb X5.out.lt HNE.out).trans X5.out)
  have Ll_6 := Aside0.mk (LN_alive.kept Ll_5.out hp (fun j hj e => by have := HLT.out; omega))
  clear hb hp hbt hpt hq hk cr2 fr2
  try clear ho
  clear cx
  have cr2 := R6.out.cell 2 _ rfl
  have fr2 := R6.out.free 2
  go_upto_region 4 with fail
  have e1 := R6.out.set 2 (.int .i64 a)
  rw [e1]
  clear e1 cr2 fr2
  have hl : [Value.string t, .slice Al nl cl, .int .i64 0].set 2 (.int .i64 a) = [Value.string t, .slice Al nl cl, .int .i64 a] := rfl
  rw [hl]
  clear hl
  have K7 := Aside0.mk (show CrAt g B A n c xs m3 most (w6.setRow b [Value.string t, .slice Al nl cl, .int .i64 a].toArray) from K6.out.aside (below_setRow' (Below.refl _ _) HLT.out.2.1 _) (setRow_other _ _ _ _ (by have := HLT.out; omega)))
  have B7 := Aside0.mk (show Below B W (w6.setRow b [Value.string t, .slice Al nl cl, .int .i64 a].toArray) from below_setRow' B6.out HLT.out.2.1 _)
  have P7 := Aside0.mk (show Kept W (w6.setRow b [Value.string t, .slice Al nl cl, .int .i64 a].toArray) (fun j => j = g) from ⟨by rw [setRow_size]; exact P6.out.1, fun j hj hn => (setRow_other _ _ _ _ (by have := HBE.out; omega)).trans (P6.out.2 j hj hn)⟩)
  have R7 := Aside0.mk (show Rt 121 b [Value.string t, .slice Al nl cl, .int .i64 a] (w6.setRow b [Value.string t, .slice Al nl cl, .int .i64 a].toArray) from R6.out.row _)
  have X7 := Aside0.mk (show Rt 101 gb [ptr g] (w6.setRow b [Value.string t, .slice Al nl cl, .int .i64 a].toArray) from (setRow_other _ _ _ _ (by have := HLT.out; omega)).trans X6.out)
  have Ll_7 := Aside0.mk (LN_alive.row Ll_6.out (Nat.lt_succ_self b) [Value.string t, .slice Al nl cl, .int .i64 a].toArray)
  generalize w6.setRow b [Value.string t, .slice Al nl cl, .int .i64 a].toArray = w7 at *
  have c0 := R7.out.cell 0 _ rfl
  have f0 := R7.out.free 0
  have c1 := R7.out.cell 1 _ rfl
  have f1 := R7.out.free 1
  have c2 := R7.out.cell 2 _ rfl
  have f2 := R7.out.free 2
  go_wp2_with fail
  rw [R7.out.same 0 _ rfl, R7.out.same 1 _ rfl, R7.out.same 2 _ rfl]
  refine bodyPost_ret (results_cell_row rfl _ _ b 121 _ (0, 0) _ rfl R7.out Try.underlying121 rfl (by kernel_rfl)) rfl ?_
  refine ⟨B7.out, P7.out, ?_⟩
  have e9 : pHeld xs most m = Res.ok ⟨t, l, a⟩ m3 := by
    unfold pHeld
    simp only [Res.bind, HQ0.out, HQ1.out, HQ2.out]
  rw [e9]
  exact ⟨_, rfl, ⟨Al, nl, cl, rfl, LN_alive.lower Ll_7.out (Nat.le_succ_of_le HBE.out)⟩, K7.out⟩
def pDone (xs : List Int) (most : Nat) (m : Nat) : Res S123 :=
  (pReq xs most m).bind fun q m => (pI xs m).bind fun a m => .ok ⟨q, a⟩ m
def memDone (S : Nat) (x : S123) (v : Value) (w : World) : Prop := ∃ Aq nq cq, v = .agg #[.string x.f0.f0, .int .i64 x.f0.f1, .slice Aq nq cq, .string x.f0.f3, .int .i64 x.f0.f4, .int .i64 x.f0.f5, .int .i64 x.f1] ∧ LN S x.f0.f2 (.slice Aq nq cq) w
theorem r_done {g B gb : Nat} {A : Option Addr} {n c : Nat} {xs : List Int} {m most : Nat} {W : World} (k : CrAt g B A n c xs m most W) (hbx : Rt 101 gb [ptr g] W) :
    Calls Try.prog 95 #[ptr gb] W fun e w' => Below B W w' ∧ Kept W w' (fun j => j = g) ∧ OutR g B A n c xs most (memDone W.heap.size) (pDone xs most m) e w' := by
  have HK := Aside0.mk k
  have HBX := Aside0.mk hbx
  have HNE := Aside0.mk (show gb ≠ g from fun e => by
    have h2 := hbx
    rw [e] at h2
    have := blk_types h2 k.row
    omega)
  clear k hbx
  go_enter Try.func95, Try.ntmps95
  go_upto_region 1 with fail
  have hr1 : Rt 123 W.heap.size [.string ⟨#[]⟩, .int .i64 0, .slice none 0 0, .string ⟨#[]⟩, .int .i64 0, .int .i64 0, .int .i64 0] (W.alloc (.cells #[.string ⟨#[]⟩, .int .i64 0, .slice none 0 0, .string ⟨#[]⟩, .int .i64 0, .int .i64 0, .int .i64 0] 123)) := heap_alloc_new W _
  have hb1 : Below W.heap.size W (W.alloc (.cells #[.string ⟨#[]⟩, .int .i64 0, .slice none 0 0, .string ⟨#[]⟩, .int .i64 0, .int .i64 0, .int .i64 0] 123)) := below_alloc (Below.refl _ _) _
  obtain ⟨b, hbe⟩ : ∃ b, W.heap.size = b := ⟨_, rfl⟩
  have K1 := Aside0.mk (HK.out.below hb1)
  have X1 := Aside0.mk (HBX.out.below hb1)
  have B1 := Aside0.mk (hb1.mono HK.out.size)
  have P1 := Aside0.mk (Kept.of_below hb1 (fun j => j = g))
  have HBE := Aside0.mk (show W.heap.size ≤ b by omega)
  have HLT := Aside0.mk (show g < b ∧ B ≤ b ∧ gb < b by have := HK.out.row.lt; have := HK.out.size; have := HBX.out.lt; omega)
  rw [hbe] at hr1
  rw [hbe]
  have R1 := Aside0.mk hr1
  clear hr1 hb1 hbe
  generalize W.alloc (.cells #[.string ⟨#[]⟩, .int .i64 0, .slice none 0 0, .string ⟨#[]⟩, .int .i64 0, .int .i64 0, .int .i64 0] 123) = w1 at *
  have cx := X1.out.cell 0 _ rfl
  have cr0 := R1.out.cell 0 _ rfl
  have fr0 := R1.out.free 0
  have cr1 := R1.out.cell 1 _ rfl
  have fr1 := R1.out.free 1
  have cr2 := R1.out.cell 2 _ rfl
  have fr2 := R1.out.free 2
  have cr3 := R1.out.cell 3 _ rfl
  have fr3 := R1.out.free 3
  have cr4 := R1.out.cell 4 _ rfl
  have fr4 := R1.out.free 4
  have cr5 := R1.out.cell 5 _ rfl
  have fr5 := R1.out.free 5
  go_wp2_with fail
  go_at_call 75
  refine (r_request K1.out).mono ?_
  rintro e w2 ⟨hb, hp, ho⟩
  have hbt := B1.out.trans hb
  have hpt := P1.out.then_ hp (fun _ h => .inl h)
  rcases hq : pReq xs most m with ⟨q, m1⟩ | ⟨er, p⟩
  rotate_left
  · rw [hq] at ho
    have ho : e = gaveUp er p := ho
    subst ho
    refine ⟨rfl, hbt, hpt, ?_⟩
    have e9 : pDone xs most m = Res.fail er p := by
      unfold pDone
      simp only [Res.bind, hq]
    rw [e9]
    rfl
  rw [hq] at ho
  obtain ⟨v, he, hE, hk⟩ : ∃ v, e = .returned v ∧ memReq w1.heap.size q v w2 ∧ CrAt g B A n c xs m1 most w2 := ho
  obtain ⟨Aq, nq, cq, ev, hE⟩ := hE
  subst ev
  have Lq_2 := Aside0.mk (show LN (b + 1) q.f2 (.slice Aq nq cq) w2 from LN_alive.lower hE R1.out.lt)
  clear hE
  subst he
  have HQ0 := Aside0.mk hq
  have K2 := Aside0.mk hk
  have B2 := Aside0.mk hbt
  have P2 := Aside0.mk hpt
  have R2 := Aside0.mk (show Rt 123 b [.string ⟨#[]⟩, .int .i64 0, .slice none 0 0, .string ⟨#[]⟩, .int .i64 0, .int .i64 0, .int .i64 0] w2 from (hp.2 b R1.out.lt (by have := HLT.out; show b ≠ g; omega)).trans R1.out)
  have X2 := Aside0.mk (show Rt 101 gb [ptr g] w2 from (hp.2 gb X1.out.lt HNE.out).trans X1.out)
  clear hb hp hbt hpt hq hk cr0 fr0 cr1 fr1 cr2 fr2 cr3 fr3 cr4 fr4 cr5 fr5
  try clear ho
  clear cx
  have cr0 := R2.out.cell 0 _ rfl
  have fr0 := R2.out.free 0
  have cr1 := R2.out.cell 1 _ rfl
  have fr1 := R2.out.free 1
  have cr2 := R2.out.cell 2 _ rfl
  have fr2 := R2.out.free 2
  have cr3 := R2.out.cell 3 _ rfl
  have fr3 := R2.out.free 3
  have cr4 := R2.out.cell 4 _ rfl
  have fr4 := R2.out.free 4
  have cr5 := R2.out.cell 5 _ rfl
  have fr5 := R2.out.free 5
  go_upto_region 2 with fail
  have e1 := R2.out.fill6 0 (.string q.f0) (.int .i64 q.f1) (.slice Aq nq cq) (.string q.f3) (.int .i64 q.f4) (.int .i64 q.f5)
  have e2 := R2.out
  simp only [Nat.reduceAdd, List.set_cons_zero, List.set_cons_succ] at e1
  rw [e1]
  clear e1 e2 cr0 fr0 cr1 fr1 cr2 fr2 cr3 fr3 cr4 fr4 cr5 fr5
  have K3 := Aside0.mk (show CrAt g B A n c xs m1 most (w2.setRow b [Value.string q.f0, .int .i64 q.f1, .slice Aq nq cq, .string q.f3, .int .i64 q.f4, .int .i64 q.f5, .int .i64 0].toArray) from K2.out.aside (below_setRow' (Below.refl _ _) HLT.out.2.1 _) (setRow_other _ _ _ _ (by have := HLT.out; omega)))
  have B3 := Aside0.mk (show Below B W (w2.setRow b [Value.string q.f0, .int .i64 q.f1, .slice Aq nq cq, .string q.f3, .int .i64 q.f4, .int .i64 q.f5, .int .i64 0].toArray) from below_setRow' B2.out HLT.out.2.1 _)
  have P3 := Aside0.mk (show Kept W (w2.setRow b [Value.string q.f0, .int .i64 q.f1, .slice Aq nq cq, .string q.f3, .int .i64 q.f4, .int .i64 q.f5, .int .i64 0].toArray) (fun j => j = g) from ⟨by rw [setRow_size]; exact P2.out.1, fun j hj hn => (setRow_other _ _ _ _ (by have := HBE.out; omega)).trans (P2.out.2 j hj hn)⟩)
  have R3 := Aside0.mk (show Rt 123 b [Value.string q.f0, .int .i64 q.f1, .slice Aq nq cq, .string q.f3, .int .i64 q.f4, .int .i64 q.f5, .int .i64 0] (w2.setRow b [Value.string q.f0, .int .i64 q.f1, .slice Aq nq cq, .string q.f3, .int .i64 q.f4, .int .i64 q.f5, .int .i64 0].toArray) from R2.out.row _)
  have X3 := Aside0.mk (show Rt 101 gb [ptr g] (w2.setRow b [Value.string q.f0, .int .i64 q.f1, .slice Aq nq cq, .string q.f3, .int .i64 q.f4, .int .i64 q.f5, .int .i64 0].toArray) from (setRow_other _ _ _ _ (by have := HLT.out; omega)).trans X2.out)
  have Lq_3 := Aside0.mk (LN_alive.row Lq_2.out (Nat.lt_succ_self b) [Value.string q.f0, .int .i64 q.f1, .slice Aq nq cq, .string q.f3, .int .i64 q.f4, .int .i64 q.f5, .int .i64 0].toArray)
  generalize w2.setRow b [Value.string q.f0, .int .i64 q.f1, .slice Aq nq cq, .string q.f3, .int .i64 q.f4, .int .i64 q.f5, .int .i64 0].toArray = w3 at *
  have cx := X3.out.cell 0 _ rfl
  have cr6 := R3.out.cell 6 _ rfl
  have fr6 := R3.out.free 6
  go_wp2_with fail
  go_at_call 62
  refine (r_int K3.out).mono ?_
  rintro e w4 ⟨hb, hp, ho⟩
  have hbt := B3.out.trans hb
  have hpt := P3.out.then_ hp (fun _ h => .inl h)
  rcases hq : pI xs m1 with ⟨a, m2⟩ | ⟨er, p⟩
  rotate_left
  · rw [hq] at ho
    have ho : e = gaveUp er p := ho
    subst ho
    refine ⟨rfl, hbt, hpt, ?_⟩
    have e9 : pDone xs most m = Res.fail er p := by
      unfold pDone
      simp only [Res.bind, HQ0.out, hq]
    rw [e9]
    rfl
  rw [hq] at ho
  obtain ⟨he, hk⟩ : e = .returned (.int .i64 a) ∧ CrAt g B A n c xs m2 most w4 := ho
  subst he
  have HQ1 := Aside0.mk hq
  have K4 := Aside0.mk hk
  have B4 := Aside0.mk hbt
  have P4 := Aside0.mk hpt
  have R4 := Aside0.mk (show Rt 123 b [.string q.f0, .int .i64 q.f1, .slice Aq nq cq, .string q.f3, .int .i64 q.f4, .int .i64 q.f5, .int .i64 0] w4 from (hp.2 b R3.out.lt (by have := HLT.out; show b ≠ g; omega)).trans R3.out)
  have X4 := Aside0.mk (show Rt 101 gb [ptr g] w4 from (hp.2 gb X3.out.lt HNE.out).trans X3.out)
  have Lq_4 := Aside0.mk (LN_alive.kept Lq_3.out hp (fun j hj e => by have := HLT.out; omega))
  clear hb hp hbt hpt hq hk cr6 fr6
  try clear ho
  clear cx
  have cr6 := R4.out.cell 6 _ rfl
  have fr6 := R4.out.free 6
  go_upto_region 3 with fail
  have e1 := R4.out.set 6 (.int .i64 a)
  rw [e1]
  clear e1 cr6 fr6
  have hl : [Value.string q.f0, .int .i64 q.f1, .slice Aq nq cq, .string q.f3, .int .i64 q.f4, .int .i64 q.f5, .int .i64 0].set 6 (.int .i64 a) = [Value.string q.f0, .int .i64 q.f1, .slice Aq nq cq, .string q.f3, .int .i64 q.f4, .int .i64 q.f5, .int .i64 a] := rfl
  rw [hl]
  clear hl
  have K5 := Aside0.mk (show CrAt g B A n c xs m2 most (w4.setRow b [Value.string q.f0, .int .i64 q.f1, .slice Aq nq cq, .string q.f3, .int .i64 q.f4, .int .i64 q.f5, .int .i64 a].toArray) from K4.out.aside (below_setRow' (Below.refl _ _) HLT.out.2.1 _) (setRow_other _ _ _ _ (by have := HLT.out; omega)))
  have B5 := Aside0.mk (show Below B W (w4.setRow b [Value.string q.f0, .int .i64 q.f1, .slice Aq nq cq, .string q.f3, .int .i64 q.f4, .int .i64 q.f5, .int .i64 a].toArray) from below_setRow' B4.out HLT.out.2.1 _)
  have P5 := Aside0.mk (show Kept W (w4.setRow b [Value.string q.f0, .int .i64 q.f1, .slice Aq nq cq, .string q.f3, .int .i64 q.f4, .int .i64 q.f5, .int .i64 a].toArray) (fun j => j = g) from ⟨by rw [setRow_size]; exact P4.out.1, fun j hj hn => (setRow_other _ _ _ _ (by have := HBE.out; omega)).trans (P4.out.2 j hj hn)⟩)
  have R5 := Aside0.mk (show Rt 123 b [Value.string q.f0, .int .i64 q.f1, .slice Aq nq cq, .string q.f3, .int .i64 q.f4, .int .i64 q.f5, .int .i64 a] (w4.setRow b [Value.string q.f0, .int .i64 q.f1, .slice Aq nq cq, .string q.f3, .int .i64 q.f4, .int .i64 q.f5, .int .i64 a].toArray) from R4.out.row _)
  have X5 := Aside0.mk (show Rt 101 gb [ptr g] (w4.setRow b [Value.string q.f0, .int .i64 q.f1, .slice Aq nq cq, .string q.f3, .int .i64 q.f4, .int .i64 q.f5, .int .i64 a].toArray) from (setRow_other _ _ _ _ (by have := HLT.out; omega)).trans X4.out)
  have Lq_5 := Aside0.mk (LN_alive.row Lq_4.out (Nat.lt_succ_self b) [Value.string q.f0, .int .i64 q.f1, .slice Aq nq cq, .string q.f3, .int .i64 q.f4, .int .i64 q.f5, .int .i64 a].toArray)
  generalize w4.setRow b [Value.string q.f0, .int .i64 q.f1, .slice Aq nq cq, .string q.f3, .int .i64 q.f4, .int .i64 q.f5, .int .i64 a].toArray = w5 at *
  have c0 := R5.out.cell 0 _ rfl
  have f0 := R5.out.free 0
  have c1 := R5.out.cell 1 _ rfl
  have f1 := R5.out.free 1
  have c2 := R5.out.cell 2 _ rfl
  have f2 := R5.out.free 2
  have c3 := R5.out.cell 3 _ rfl
  have f3 := R5.out.free 3
  have c4 := R5.out.cell 4 _ rfl
  have f4 := R5.out.free 4
  have c5 := R5.out.cell 5 _ rfl
  have f5 := R5.out.free 5
  have c6 := R5.out.cell 6 _ rfl
  have f6 := R5.out.free 6
  go_wp2_with fail
  rw [R5.out.same 0 _ rfl, R5.out.same 1 _ rfl, R5.out.same 2 _ rfl, R5.out.same 3 _ rfl, R5.out.same 4 _ rfl, R5.out.same 5 _ rfl, R5.out.same 6 _ rfl]
  refine bodyPost_ret (results_cell_row rfl _ _ b 123 _ (0, 0) _ rfl R5.out Try.underlying123 rfl (by kernel_rfl)) rfl ?_
  refine ⟨B5.out, P5.out, ?_⟩
  have e9 : pDone xs most m = Res.ok ⟨q, a⟩ m2 := by
    unfold pDone
    simp only [Res.bind, HQ0.out, HQ1.out]
  rw [e9]
  exact ⟨_, rfl, ⟨Aq, nq, cq, rfl, LN_alive.lower Lq_5.out (Nat.le_succ_of_le HBE.out)⟩, K5.out⟩
theorem r_heldList {g B gb : Nat} {A : Option Addr} {n c : Nat} {xs : List Int} {m most : Nat} {W : World} (k : CrAt g B A n c xs m most W) (hbx : Rt 101 gb [ptr g] W) :
    Calls Try.prog 91 #[ptr g, .func (.func 92) #[] #[ptr gb]] W fun e w' => Below B W w' ∧ Kept W w' (fun j => j = g) ∧ OutR g B A n c xs most (LH W.heap.size) (pList xs most (pHeld xs most) m) e w' := by
  have HK := Aside0.mk k
  have HBX := Aside0.mk hbx
  have HNE := Aside0.mk (show gb ≠ g from fun e => by
    have h2 := hbx
    rw [e] at h2
    have := blk_types h2 k.row
    omega)
  have c1 : (m : Int) ≤ (n : Int) := by have := k.le; omega
  have c2 : (n : Int) ≤ (c : Int) := by have := k.nc; omega
  have c3 : (0 : Int) ≤ (m : Int) := by omega
  have MKS := Aside0.mk (show ∀ w', Below W.heap.size W w' → (fun w' => w'.cell? ⟨g, 0, none⟩ = some (.slice A n c) ∧ w'.cell? ⟨g, 1, none⟩ = some (.int .i64 (m : Int)) ∧ w'.cell? ⟨g, 2, none⟩ = some (.int .i64 (most : Int))) w' from fun w' hb => by
    have r := HK.out.row.below hb
    exact ⟨r.cell 0 _ rfl, r.cell 1 _ rfl, r.cell 2 _ rfl⟩)
  clear k hbx
  have hdl := HK.out.dl
  have hul := ug_lt (xs.drop m) 0 0 (by omega) (by decide) (HK.out.by_.drop m)
  obtain ⟨q, hq⟩ : ∃ q, ug 0 0 (xs.drop m) = q := ⟨_, rfl⟩
  have HQ := Aside0.mk hq
  have hpl := ug_place xs m n HK.out.len HK.out.le
  have HF := Aside0.mk (show ∀ w', Below W.heap.size W w' → Calls Try.prog 129 #[.slice (if c = m then A else A.map (·.add m)) (n - m) (c - m)] w' fun e w2 => e = .returned (.tuple #[.int .u64 q.1, .int .i64 q.2.1, .int .i64 q.2.2]) ∧ Drawn0 w' w2 from fun w' hb => by
    have := frame_Uint.calls ((xs.drop m).length + 2) (if c = m then A else A.map (·.add m)) (c - m) (xs.drop m) q.1 q.2.1 q.2.2 w' (HK.out.rest (hb.mono HK.out.size)) (by rw [hdl]; have := HK.out.nc; omega) (by rw [frame_uint _ (HK.out.by_.drop m) (by rw [hdl]; have := HK.out.big; omega) _ (by omega), hq])
    rwa [hdl] at this)
  rw [hq] at hpl hul
  obtain ⟨v, d, er⟩ := q
  obtain ⟨dn, hdn⟩ : ∃ dn : Nat, d = (dn : Int) := ⟨d.toNat, by have h1 : 0 ≤ d := hpl.1; omega⟩
  subst hdn
  obtain ⟨u, hu⟩ : ∃ u : Nat, v = (u : Int) := ⟨v.toNat, by have h1 : 0 ≤ v := hul.1; omega⟩
  subst hu
  have HPL := Aside0.mk (show m + dn ≤ n by have h1 : (dn : Int) ≤ ((n - m : Nat) : Int) := hpl.2; have := HK.out.le; omega)
  have HUL := Aside0.mk (show u < 18446744073709551616 by have h1 : (u : Int) < 18446744073709551616 := hul.2; omega)
  clear hdl hq hpl hul
  have cm := (MKS.out W (Below.refl _ _)).2.1
  go_enter Try.func91, Try.ntmps91
  go_upto_region 2 with fail
  refine wp_region_held_drew (S := fun w' => w'.cell? ⟨g, 0, none⟩ = some (.slice A n c) ∧ w'.cell? ⟨g, 1, none⟩ = some (.int .i64 (m : Int)) ∧ w'.cell? ⟨g, 2, none⟩ = some (.int .i64 (most : Int))) (by kernel_rfl) (MKS.out _ (below_drew (Below.refl _ _))) (fun hHeld => ?_)
  refine tk (i := 0) (oi := { dst := some 15, op := Op.move (Operand.tmp 0), type := 101, pos := "read.go:44", after := #[], guard := none }) (v := ?_) (.inl ⟨by rfl, ?_⟩) hHeld ?_
  rotate_left
  · intro w' hS; obtain ⟨hS0, hS1, hS2⟩ := hS; go_simp; all_goals (with_reducible rfl)
  (try simp only [pz])
  refine tk (i := 1) (oi := { dst := some 16, op := Op.nilCheck (Operand.tmp 15), type := 0, pos := "read.go:44", after := #[(eD 0)], guard := none }) (v := ?_) (.inl ⟨by rfl, ?_⟩) hHeld ?_
  rotate_left
  · intro w' hS; obtain ⟨hS0, hS1, hS2⟩ := hS; go_simp; all_goals (with_reducible rfl)
  (try simp only [pz])
  refine tk (i := 2) (oi := { dst := some 17, op := Op.fieldAddr 158 (Operand.tmp 16) 0, type := 0, pos := "read.go:44", after := #[(eD 1)], guard := none }) (v := ?_) (.inl ⟨by rfl, ?_⟩) hHeld ?_
  rotate_left
  · intro w' hS; obtain ⟨hS0, hS1, hS2⟩ := hS; go_simp; all_goals (with_reducible rfl)
  (try simp only [pz])
  refine tk (i := 3) (oi := { dst := some 18, op := Op.load 26 (Operand.tmp 17), type := 26, pos := "read.go:44", after := #[(eD 2)], guard := none }) (v := ?_) (.inl ⟨by rfl, ?_⟩) hHeld ?_
  rotate_left
  · intro w' hS; obtain ⟨hS0, hS1, hS2⟩ := hS; go_simp; all_goals (with_reducible rfl)
  (try simp only [pz])
  refine tk (i := 4) (oi := { dst := some 19, op := Op.move (Operand.tmp 0), type := 101, pos := "read.go:44", after := #[], guard := none }) (v := ?_) (.inl ⟨by rfl, ?_⟩) hHeld ?_
  rotate_left
  · intro w' hS; obtain ⟨hS0, hS1, hS2⟩ := hS; go_simp; all_goals (with_reducible rfl)
  (try simp only [pz])
  refine tk (i := 5) (oi := { dst := some 20, op := Op.nilCheck (Operand.tmp 19), type := 0, pos := "read.go:44", after := #[(eD 4)], guard := none }) (v := ?_) (.inl ⟨by rfl, ?_⟩) hHeld ?_
  rotate_left
  · intro w' hS; obtain ⟨hS0, hS1, hS2⟩ := hS; go_simp; all_goals (with_reducible rfl)
  (try simp only [pz])
  refine tk (i := 6) (oi := { dst := some 21, op := Op.fieldAddr 158 (Operand.tmp 20) 1, type := 0, pos := "read.go:44", after := #[(eD 5)], guard := none }) (v := ?_) (.inl ⟨by rfl, ?_⟩) hHeld ?_
  rotate_left
  · intro w' hS; obtain ⟨hS0, hS1, hS2⟩ := hS; go_simp; all_goals (with_reducible rfl)
  (try simp only [pz])
  refine tk (i := 7) (oi := { dst := some 22, op := Op.load 3 (Operand.tmp 21), type := 3, pos := "read.go:44", after := #[(eD 6)], guard := none }) (v := ?_) (.inl ⟨by rfl, ?_⟩) hHeld ?_
  rotate_left
  · intro w' hS; obtain ⟨hS0, hS1, hS2⟩ := hS; go_simp; all_goals (with_reducible rfl)
  (try simp only [pz])
  refine tk (i := 8) (oi := { dst := some 23, op := Op.slice 26 (Operand.tmp 18) (some (Operand.tmp 22)) none none, type := 26, pos := "read.go:44", after := #[(eD 3), (eD 7)], guard := none }) (v := ?_) (.inl ⟨by rfl, ?_⟩) hHeld ?_
  rotate_left
  · intro w' hS; obtain ⟨hS0, hS1, hS2⟩ := hS; go_simp; all_goals (with_reducible rfl)
  (try simp only [pz])
  refine wpAnyH_ready (rs := [9]) (by kernel_rfl) (by simp) ?_
  refine AllReadyH.cons (o := { dst := some 24, op := Op.call { callee := Callee.value (Operand.func 129), args := #[Operand.tmp 23], argTypes := #[26] }, type := 169, pos := "read.go:44", after := #[(eD 8)], guard := none }) rfl (fun K hK => ?_) AllReadyH.nil
  go_simp
  go_at_call 129
  refine (HF.out _ (below_drew (Below.refl _ _))).mono ?_
  rintro e wa ⟨rfl, hd⟩
  have HB1 := Aside0.mk (show Below W.heap.size W wa from by
    obtain ⟨md, rfl⟩ := hd
    exact pw_below_drewN (below_drew (Below.refl _ _)) md)
  clear hd
  refine hK.out _ _ (MKS.out _ HB1.out) (fun hHeld => ?_)
  clear hK K
  (try simp only [pz])
  refine tk (i := 10) (oi := { dst := some 14, op := Op.move (Operand.tmp 24), type := 169, pos := "read.go:44", after := #[(eD 9)], guard := none }) (v := ?_) (.inl ⟨by rfl, ?_⟩) hHeld ?_
  rotate_left
  · intro w' hS; obtain ⟨hS0, hS1, hS2⟩ := hS; go_simp; all_goals (with_reducible rfl)
  (try simp only [pz])
  refine tk (i := 11) (oi := { dst := some 25, op := Op.extract (Operand.tmp 14) 0, type := 151, pos := "read.go:44", after := #[(eD 10)], guard := none }) (v := ?_) (.inl ⟨by rfl, ?_⟩) hHeld ?_
  rotate_left
  · intro w' hS; obtain ⟨hS0, hS1, hS2⟩ := hS; go_simp; all_goals (with_reducible rfl)
  (try simp only [pz])
  refine tk (i := 12) (oi := { dst := some 26, op := Op.extract (Operand.tmp 14) 1, type := 3, pos := "read.go:44", after := #[(eD 10), (eM 14)], guard := none }) (v := ?_) (.inl ⟨by rfl, ?_⟩) hHeld ?_
  rotate_left
  · intro w' hS; obtain ⟨hS0, hS1, hS2⟩ := hS; go_simp; all_goals (with_reducible rfl)
  (try simp only [pz])
  refine tk (i := 13) (oi := { dst := some 27, op := Op.extract (Operand.tmp 14) 2, type := 22, pos := "read.go:44", after := #[(eD 10), (eM 15)], guard := none }) (v := ?_) (.inl ⟨by rfl, ?_⟩) hHeld ?_
  rotate_left
  · intro w' hS; obtain ⟨hS0, hS1, hS2⟩ := hS; go_simp; all_goals (with_reducible rfl)
  (try simp only [pz])
  refine tk (i := 14) (oi := { dst := some 6, op := Op.assign (Operand.tmp 25), type := 151, pos := "read.go:44", after := #[(eD 11), (eC 9), (eP 0), (eP 1), (eP 2), (eP 3), (eP 4), (eP 5), (eP 6), (eP 7), (eP 8), (eP 9), (eP 10), (eP 11), (eL 12), (eL 13)], guard := none }) (v := ?_) (.inl ⟨by rfl, ?_⟩) hHeld ?_
  rotate_left
  · intro w' hS; obtain ⟨hS0, hS1, hS2⟩ := hS; go_simp; all_goals (with_reducible rfl)
  (try simp only [pz])
  refine tk (i := 15) (oi := { dst := some 7, op := Op.assign (Operand.tmp 26), type := 3, pos := "read.go:44", after := #[(eD 12), (eC 14), (eP 0), (eP 1), (eP 2), (eP 3), (eP 4), (eP 5), (eP 6), (eP 7), (eP 8), (eP 9), (eP 10), (eP 11), (eP 12), (eL 13), (eP 14)], guard := none }) (v := ?_) (.inl ⟨by rfl, ?_⟩) hHeld ?_
  rotate_left
  · intro w' hS; obtain ⟨hS0, hS1, hS2⟩ := hS; go_simp; all_goals (with_reducible rfl)
  (try simp only [pz])
  refine tk (i := 16) (oi := { dst := some 8, op := Op.assign (Operand.tmp 27), type := 22, pos := "read.go:44", after := #[(eD 13), (eC 15), (eP 0), (eP 1), (eP 2), (eP 3), (eP 4), (eP 5), (eP 6), (eP 7), (eP 8), (eP 9), (eP 10), (eP 11), (eP 12), (eP 13), (eP 14), (eP 15)], guard := none }) (v := ?_) (.inl ⟨by rfl, ?_⟩) hHeld ?_
  rotate_left
  · intro w' hS; obtain ⟨hS0, hS1, hS2⟩ := hS; go_simp; all_goals (with_reducible rfl)
  (try simp only [pz])
  refine wpAnyH_done (by kernel_rfl) ?_ _
  (try simp only [pz])
  clear HF cm
  generalize (if c = m then A else Option.map (fun x => x.add m) A) = Am at *
  by_cases he : er = 0
  rotate_left
  · have HP := Aside0.mk (show pList xs most (pHeld xs most) m = Res.fail er ((m : Int) + (dn : Int)) from by
      unfold pList pU took
      rw [HQ.out, if_neg he]
      rfl)
    have HE := Aside0.mk he
    clear he
    go_wp2_with fail
    go_at_call 116
    refine (took_fail (HK.out.below HB1.out) (dn : Int) er (by have := HPL.out; have := HK.out.big; omega) HE.out).mono ?_
    rintro e w2 ⟨rfl, rfl⟩
    refine ⟨rfl, HB1.out.mono HK.out.size, Kept.of_below HB1.out _, ?_⟩
    rw [HP.out]
    rfl
  subst he
  go_wp2_with fail
  go_at_call 116
  refine (took_ok (HK.out.below HB1.out) dn HPL.out).mono ?_
  rintro e w2 ⟨rfl, hk, hb, hkp⟩
  have K2 := Aside0.mk hk
  have B2 := Aside0.mk ((HB1.out.mono HK.out.size).trans hb)
  have P2 := Aside0.mk ((Kept.of_below HB1.out (fun j => j = g)).then_ hkp (fun _ h => .inl h))
  have X2 := Aside0.mk (show Rt 101 gb [ptr g] w2 from (hkp.2 gb (Nat.lt_of_lt_of_le HBX.out.lt HB1.out.size) HNE.out).trans (HBX.out.below HB1.out))
  have hm2 := hk.row.cell 2 _ rfl
  have hw64 : IntKind.u64.wrap (most : Int) = (most : Int) := by have := HK.out.mb; rw [IntKind.wrap_u64]; omega
  clear hk hb hkp
  by_cases hu : most < u
  · have HP := Aside0.mk (show pList xs most (pHeld xs most) m = Res.fail 91 (m : Int) from by
      unfold pList pU took
      rw [HQ.out, if_pos rfl]
      simp only [Res.bind]
      rw [if_pos (by omega)])
    have d1 : decide ((most : Int) < (u : Int)) = true := decide_eq_true (by omega)
    have d2 : decide (most < u) = true := decide_eq_true hu
    clear hu
    go_wp2_with fail
    refine ⟨rfl, B2.out, P2.out, ?_⟩
    rw [HP.out]
    rfl
  have HP := Aside0.mk (show pList xs most (pHeld xs most) m = pN (pHeld xs most) u [] (m + dn) from by
    unfold pList pU took
    rw [HQ.out, if_pos rfl]
    simp only [Res.bind]
    rw [if_neg (by omega), Int.toNat_natCast, Int.toNat_natCast])
  have HU := Aside0.mk (show u ≤ most by omega)
  have d1 : decide ((most : Int) < (u : Int)) = false := decide_eq_false (by omega)
  have d2 : decide (most < u) = false := decide_eq_false hu
  clear hu
  go_wp2_with fail
  clear hm2 hw64 d1 d2 c1 c2 c3
  obtain ⟨S0, hS0⟩ : ∃ S0, W.heap.size = S0 := ⟨_, rfl⟩
  have HS0 := Aside0.mk hS0
  have HLT := Aside0.mk (show g < S0 ∧ gb < S0 ∧ B ≤ S0 by have := HK.out.row.lt; have := HBX.out.lt; have := HK.out.size; omega)
  clear hS0
  go_loopw [9, 43] (fun v p wr => ∃ (i m' : Nat) (l : List S121), p = .int .u64 (i : Int) ∧ Aside0 (i ≤ u) ∧ Aside0 (l.length = i) ∧ Aside0 (pN (pHeld xs most) u [] (m + dn) = pN (pHeld xs most) (u - i) l m') ∧ Aside0 (LH S0 l v wr) ∧ Aside0 (CrAt g B A n c xs m' most wr) ∧ Aside0 (Below B W wr) ∧ Aside0 (Kept W wr (fun j => j = g)) ∧ Aside0 (Rt 101 gb [ptr g] wr)) (fun _ p _ => u - (intOf p).toNat)
  · exact ⟨0, m + dn, [], rfl, ⟨Nat.zero_le _⟩, ⟨rfl⟩, ⟨rfl⟩, ⟨Kd.R_nil _ _ _ _ _⟩, K2, B2, P2, X2⟩
  · obtain ⟨i, m', l, rfl, HI, HLN, HPN, HR, HKr, HBr, HPr, HXr⟩ := hrel
    by_cases ci : i < u
    · have ci1 : decide ((i : Int) < (u : Int)) = true := decide_eq_true (by omega)
      have hw1 : IntKind.u64.wrap ((i : Int) + 1) = ((i + 1 : Nat) : Int) := by rw [IntKind.wrap_u64]; have := HUL.out; omega
      have HOU := Aside0.mk (own_under HR.out)
      go_wp2_with fail
      go_at_call 92
      refine (r_held HKr.out HXr.out).mono ?_
      rintro e w5 ⟨hb, hp, ho⟩
      have hbt := HBr.out.trans hb
      have hpt := HPr.out.then_ hp (fun _ h => .inl h)
      have hpn : pN (pHeld xs most) (u - i) l m' = (pHeld xs most m').bind fun x mm => pN (pHeld xs most) (u - (i + 1)) (l ++ [x]) mm := by
        rw [show u - i = (u - (i + 1)) + 1 from by omega]
        rfl
      rcases hq : pHeld xs most m' with ⟨x, m2⟩ | ⟨er, p⟩
      rotate_left
      · rw [hq] at ho hpn
        have ho : e = gaveUp er p := ho
        subst ho
        refine ⟨rfl, hbt, hpt, ?_⟩
        rw [HP.out, HPN.out, hpn]
        rfl
      rw [hq] at ho hpn
      obtain ⟨vx, he, hx, hk⟩ : ∃ vx, e = .returned vx ∧ memHeld wr.heap.size x vx w5 ∧ CrAt g B A n c xs m2 most w5 := ho
      subst he
      have SR := Aside0.mk (show S0 ≤ wr.heap.size by have := HPr.out.1; have := HS0.out; omega)
      obtain ⟨Al, nl, cl, ev, hl⟩ := hx
      subst ev
      have MX := Aside0.mk (show k121.M w5 S0 (fun j => wr.heap.size ≤ j) x [.string x.f0, .slice Al nl cl, .int .i64 x.f2] from k121_mkM _ _ _ x (Kd.R_lower (Kd.R_mono (Kd.R_bound hl) (fun j hj => hj.2.1)) SR.out))
      have K5 := Aside0.mk hk
      have B5 := Aside0.mk hbt
      have P5 := Aside0.mk hpt
      have X5 := Aside0.mk (show Rt 101 gb [ptr g] w5 from (hp.2 gb HXr.out.lt HNE.out).trans HXr.out)
      have R5 := Aside0.mk (show LH S0 l _ w5 from LH_alive.kept HR.out hp (fun j hj e => by have := HLT.out; omega))
      have HPN2 := Aside0.mk (HPN.out.trans hpn)
      have S5 := Aside0.mk (show S0 ≤ w5.heap.size by have := hpt.1; have := HS0.out; omega)
      have HSZ := Aside0.mk (show (l.length + 1) * 48 ≤ 140737488355328 by have := HLN.out; have := HI.out; have := HU.out; have := HK.out.mb; omega)
      have SR5 := Aside0.mk hp.1
      obtain ⟨T0, hT0⟩ : ∃ T0, wr.heap.size = T0 := ⟨_, rfl⟩
      rw [hT0] at HOU SR SR5 MX
      clear hb hp hbt hpt hpn hq hk hT0
      try clear ho
      go_wp2_with (first | (
        (with_reducible refine gate_builtin (b := .append) (xs := #[.tmp 45, .tmp 48]) rfl ?_)
        at_builtin
        refine Kd.R_append k121 (w0 := w5) S0 rfl (.tmp 45) (.tmp 48) 55 121 (.agg #[.string ⟨#[]⟩, .slice none 0 0, .int .i64 0]) 48 rfl Try.underlying55 info121 rfl (by decide) (by decide) _ l x [.string x.f0, .slice Al nl cl, .int .i64 x.f2] (fun _ => True) (fun j => T0 ≤ j) rfl rfl MX.out (fun j hj => ⟨trivial, fun e => by have := HOU.out j e.symm; omega⟩) (fun _ _ => trivial) R5.out (Below.refl _ _) S5.out HSZ.out ?_
        intro v1 w6 ho hb hg hat
        have HO6 := Aside0.mk ho
        have K6 := Aside0.mk (K5.out.aside (hb.mono HLT.out.2.2) (hb.block g HLT.out.1))
        have B6 := Aside0.mk (B5.out.trans (hb.mono HLT.out.2.2))
        have P6 := Aside0.mk (show Kept W w6 (fun j => j = g) from ⟨Nat.le_trans P5.out.1 hb.size, fun j hj hn => (hb.block j (by have := HS0.out; omega)).trans (P5.out.2 j hj hn)⟩)
        have X6 := Aside0.mk (show Rt 101 gb [ptr g] w6 from (hb.block gb HLT.out.2.1).trans X5.out)
        clear ho hb hg hat))
      refine ⟨⟨i + 1, m2, l ++ [x], congrArg (Value.int .u64) (by omega), ⟨ci⟩, ⟨by rw [List.length_append, HLN.out]; rfl⟩, HPN2, HO6, K6, B6, P6, X6⟩, ?_⟩
      simp only [intOf]
      omega
    · have ci1 : decide ((i : Int) < (u : Int)) = false := decide_eq_false (by omega)
      obtain rfl : i = u := by have := HI.out; omega
      go_wp2_with fail
      go_ret
      refine ⟨HBr.out, HPr.out, ?_⟩
      rw [HP.out, HPN.out, Nat.sub_self, HS0.out]
      exact ⟨_, rfl, HR.out, HKr.out⟩
theorem r_doneList {g B gb : Nat} {A : Option Addr} {n c : Nat} {xs : List Int} {m most : Nat} {W : World} (k : CrAt g B A n c xs m most W) (hbx : Rt 101 gb [ptr g] W) :
    Calls Try.prog 94 #[ptr g, .func (.func 95) #[] #[ptr gb]] W fun e w' => Below B W w' ∧ Kept W w' (fun j => j = g) ∧ OutR g B A n c xs most (LD W.heap.size) (pList xs most (pDone xs most) m) e w' := by
  have HK := Aside0.mk k
  have HBX := Aside0.mk hbx
  have HNE := Aside0.mk (show gb ≠ g from fun e => by
    have h2 := hbx
    rw [e] at h2
    have := blk_types h2 k.row
    omega)
  have c1 : (m : Int) ≤ (n : Int) := by have := k.le; omega
  have c2 : (n : Int) ≤ (c : Int) := by have := k.nc; omega
  have c3 : (0 : Int) ≤ (m : Int) := by omega
  have MKS := Aside0.mk (show ∀ w', Below W.heap.size W w' → (fun w' => w'.cell? ⟨g, 0, none⟩ = some (.slice A n c) ∧ w'.cell? ⟨g, 1, none⟩ = some (.int .i64 (m : Int)) ∧ w'.cell? ⟨g, 2, none⟩ = some (.int .i64 (most : Int))) w' from fun w' hb => by
    have r := HK.out.row.below hb
    exact ⟨r.cell 0 _ rfl, r.cell 1 _ rfl, r.cell 2 _ rfl⟩)
  clear k hbx
  have hdl := HK.out.dl
  have hul := ug_lt (xs.drop m) 0 0 (by omega) (by decide) (HK.out.by_.drop m)
  obtain ⟨q, hq⟩ : ∃ q, ug 0 0 (xs.drop m) = q := ⟨_, rfl⟩
  have HQ := Aside0.mk hq
  have hpl := ug_place xs m n HK.out.len HK.out.le
  have HF := Aside0.mk (show ∀ w', Below W.heap.size W w' → Calls Try.prog 129 #[.slice (if c = m then A else A.map (·.add m)) (n - m) (c - m)] w' fun e w2 => e = .returned (.tuple #[.int .u64 q.1, .int .i64 q.2.1, .int .i64 q.2.2]) ∧ Drawn0 w' w2 from fun w' hb => by
    have := frame_Uint.calls ((xs.drop m).length + 2) (if c = m then A else A.map (·.add m)) (c - m) (xs.drop m) q.1 q.2.1 q.2.2 w' (HK.out.rest (hb.mono HK.out.size)) (by rw [hdl]; have := HK.out.nc; omega) (by rw [frame_uint _ (HK.out.by_.drop m) (by rw [hdl]; have := HK.out.big; omega) _ (by omega), hq])
    rwa [hdl] at this)
  rw [hq] at hpl hul
  obtain ⟨v, d, er⟩ := q
  obtain ⟨dn, hdn⟩ : ∃ dn : Nat, d = (dn : Int) := ⟨d.toNat, by have h1 : 0 ≤ d := hpl.1; omega⟩
  subst hdn
  obtain ⟨u, hu⟩ : ∃ u : Nat, v = (u : Int) := ⟨v.toNat, by have h1 : 0 ≤ v := hul.1; omega⟩
  subst hu
  have HPL := Aside0.mk (show m + dn ≤ n by have h1 : (dn : Int) ≤ ((n - m : Nat) : Int) := hpl.2; have := HK.out.le; omega)
  have HUL := Aside0.mk (show u < 18446744073709551616 by have h1 : (u : Int) < 18446744073709551616 := hul.2; omega)
  clear hdl hq hpl hul
  have cm := (MKS.out W (Below.refl _ _)).2.1
  go_enter Try.func94, Try.ntmps94
  go_upto_region 2 with fail
  refine wp_region_held_drew (S := fun w' => w'.cell? ⟨g, 0, none⟩ = some (.slice A n c) ∧ w'.cell? ⟨g, 1, none⟩ = some (.int .i64 (m : Int)) ∧ w'.cell? ⟨g, 2, none⟩ = some (.int .i64 (most : Int))) (by kernel_rfl) (MKS.out _ (below_drew (Below.refl _ _))) (fun hHeld => ?_)
  refine tk (i := 0) (oi := { dst := some 15, op := Op.move (Operand.tmp 0), type := 101, pos := "read.go:44", after := #[], guard := none }) (v := ?_) (.inl ⟨by rfl, ?_⟩) hHeld ?_
  rotate_left
  · intro w' hS; obtain ⟨hS0, hS1, hS2⟩ := hS; go_simp; all_goals (with_reducible rfl)
  (try simp only [pz])
  refine tk (i := 1) (oi := { dst := some 16, op := Op.nilCheck (Operand.tmp 15), type := 0, pos := "read.go:44", after := #[(eD 0)], guard := none }) (v := ?_) (.inl ⟨by rfl, ?_⟩) hHeld ?_
  rotate_left
  · intro w' hS; obtain ⟨hS0, hS1, hS2⟩ := hS; go_simp; all_goals (with_reducible rfl)
  (try simp only [pz])
  refine tk (i := 2) (oi := { dst := some 17, op := Op.fieldAddr 158 (Operand.tmp 16) 0, type := 0, pos := "read.go:44", after := #[(eD 1)], guard := none }) (v := ?_) (.inl ⟨by rfl, ?_⟩) hHeld ?_
  rotate_left
  · intro w' hS; obtain ⟨hS0, hS1, hS2⟩ := hS; go_simp; all_goals (with_reducible rfl)
  (try simp only [pz])
  refine tk (i := 3) (oi := { dst := some 18, op := Op.load 26 (Operand.tmp 17), type := 26, pos := "read.go:44", after := #[(eD 2)], guard := none }) (v := ?_) (.inl ⟨by rfl, ?_⟩) hHeld ?_
  rotate_left
  · intro w' hS; obtain ⟨hS0, hS1, hS2⟩ := hS; go_simp; all_goals (with_reducible rfl)
  (try simp only [pz])
  refine tk (i := 4) (oi := { dst := some 19, op := Op.move (Operand.tmp 0), type := 101, pos := "read.go:44", after := #[], guard := none }) (v := ?_) (.inl ⟨by rfl, ?_⟩) hHeld ?_
  rotate_left
  · intro w' hS; obtain ⟨hS0, hS1, hS2⟩ := hS; go_simp; all_goals (with_reducible rfl)
  (try simp only [pz])
  refine tk (i := 5) (oi := { dst := some 20, op := Op.nilCheck (Operand.tmp 19), type := 0, pos := "read.go:44", after := #[(eD 4)], guard := none }) (v := ?_) (.inl ⟨by rfl, ?_⟩) hHeld ?_
  rotate_left
  · intro w' hS; obtain ⟨hS0, hS1, hS2⟩ := hS; go_simp; all_goals (with_reducible rfl)
  (try simp only [pz])
  refine tk (i := 6) (oi := { dst := some 21, op := Op.fieldAddr 158 (Operand.tmp 20) 1, type := 0, pos := "read.go:44", after := #[(eD 5)], guard := none }) (v := ?_) (.inl ⟨by rfl, ?_⟩) hHeld ?_
  rotate_left
  · intro w' hS; obtain ⟨hS0, hS1, hS2⟩ := hS; go_simp; all_goals (with_reducible rfl)
  (try simp only [pz])
  refine tk (i := 7) (oi := { dst := some 22, op := Op.load 3 (Operand.tmp 21), type := 3, pos := "read.go:44", after := #[(eD 6)], guard := none }) (v := ?_) (.inl ⟨by rfl, ?_⟩) hHeld ?_
  rotate_left
  · intro w' hS; obtain ⟨hS0, hS1, hS2⟩ := hS; go_simp; all_goals (with_reducible rfl)
  (try simp only [pz])
  refine tk (i := 8) (oi := { dst := some 23, op := Op.slice 26 (Operand.tmp 18) (some (Operand.tmp 22)) none none, type := 26, pos := "read.go:44", after := #[(eD 3), (eD 7)], guard := none }) (v := ?_) (.inl ⟨by rfl, ?_⟩) hHeld ?_
  rotate_left
  · intro w' hS; obtain ⟨hS0, hS1, hS2⟩ := hS; go_simp; all_goals (with_reducible rfl)
  (try simp only [pz])
  refine wpAnyH_ready (rs := [9]) (by kernel_rfl) (by simp) ?_
  refine AllReadyH.cons (o := { dst := some 24, op := Op.call { callee := Callee.value (Operand.func 129), args := #[Operand.tmp 23], argTypes := #[26] }, type := 169, pos := "read.go:44", after := #[(eD 8)], guard := none }) rfl (fun K hK => ?_) AllReadyH.nil
  go_simp
  go_at_call 129
  refine (HF.out _ (below_drew (Below.refl _ _))).mono ?_
  rintro e wa ⟨rfl, hd⟩
  have HB1 := Aside0.mk (show Below W.heap.size W wa from by
    obtain ⟨md, rfl⟩ := hd
    exact pw_below_drewN (below_drew (Below.refl _ _)) md)
  clear hd
  refine hK.out _ _ (MKS.out _ HB1.out) (fun hHeld => ?_)
  clear hK K
  (try simp only [pz])
  refine tk (i := 10) (oi := { dst := some 14, op := Op.move (Operand.tmp 24), type := 169, pos := "read.go:44", after := #[(eD 9)], guard := none }) (v := ?_) (.inl ⟨by rfl, ?_⟩) hHeld ?_
  rotate_left
  · intro w' hS; obtain ⟨hS0, hS1, hS2⟩ := hS; go_simp; all_goals (with_reducible rfl)
  (try simp only [pz])
  refine tk (i := 11) (oi := { dst := some 25, op := Op.extract (Operand.tmp 14) 0, type := 151, pos := "read.go:44", after := #[(eD 10)], guard := none }) (v := ?_) (.inl ⟨by rfl, ?_⟩) hHeld ?_
  rotate_left
  · intro w' hS; obtain ⟨hS0, hS1, hS2⟩ := hS; go_simp; all_goals (with_reducible rfl)
  (try simp only [pz])
  refine tk (i := 12) (oi := { dst := some 26, op := Op.extract (Operand.tmp 14) 1, type := 3, pos := "read.go:44", after := #[(eD 10), (eM 14)], guard := none }) (v := ?_) (.inl ⟨by rfl, ?_⟩) hHeld ?_
  rotate_left
  · intro w' hS; obtain ⟨hS0, hS1, hS2⟩ := hS; go_simp; all_goals (with_reducible rfl)
  (try simp only [pz])
  refine tk (i := 13) (oi := { dst := some 27, op := Op.extract (Operand.tmp 14) 2, type := 22, pos := "read.go:44", after := #[(eD 10), (eM 15)], guard := none }) (v := ?_) (.inl ⟨by rfl, ?_⟩) hHeld ?_
  rotate_left
  · intro w' hS; obtain ⟨hS0, hS1, hS2⟩ := hS; go_simp; all_goals (with_reducible rfl)
  (try simp only [pz])
  refine tk (i := 14) (oi := { dst := some 6, op := Op.assign (Operand.tmp 25), type := 151, pos := "read.go:44", after := #[(eD 11), (eC 9), (eP 0), (eP 1), (eP 2), (eP 3), (eP 4), (eP 5), (eP 6), (eP 7), (eP 8), (eP 9), (eP 10), (eP 11), (eL 12), (eL 13)], guard := none }) (v := ?_) (.inl ⟨by rfl, ?_⟩) hHeld ?_
  rotate_left
  · intro w' hS; obtain ⟨hS0, hS1, hS2⟩ := hS; go_simp; all_goals (with_reducible rfl)
  (try simp only [pz])
  refine tk (i := 15) (oi := { dst := some 7, op := Op.assign (Operand.tmp 26), type := 3, pos := "read.go:44", after := #[(eD 12), (eC 14), (eP 0), (eP 1), (eP 2), (eP 3), (eP 4), (eP 5), (eP 6), (eP 7), (eP 8), (eP 9), (eP 10), (eP 11), (eP 12), (eL 13), (eP 14)], guard := none }) (v := ?_) (.inl ⟨by rfl, ?_⟩) hHeld ?_
  rotate_left
  · intro w' hS; obtain ⟨hS0, hS1, hS2⟩ := hS; go_simp; all_goals (with_reducible rfl)
  (try simp only [pz])
  refine tk (i := 16) (oi := { dst := some 8, op := Op.assign (Operand.tmp 27), type := 22, pos := "read.go:44", after := #[(eD 13), (eC 15), (eP 0), (eP 1), (eP 2), (eP 3), (eP 4), (eP 5), (eP 6), (eP 7), (eP 8), (eP 9), (eP 10), (eP 11), (eP 12), (eP 13), (eP 14), (eP 15)], guard := none }) (v := ?_) (.inl ⟨by rfl, ?_⟩) hHeld ?_
  rotate_left
  · intro w' hS; obtain ⟨hS0, hS1, hS2⟩ := hS; go_simp; all_goals (with_reducible rfl)
  (try simp only [pz])
  refine wpAnyH_done (by kernel_rfl) ?_ _
  (try simp only [pz])
  clear HF cm
  generalize (if c = m then A else Option.map (fun x => x.add m) A) = Am at *
  by_cases he : er = 0
  rotate_left
  · have HP := Aside0.mk (show pList xs most (pDone xs most) m = Res.fail er ((m : Int) + (dn : Int)) from by
      unfold pList pU took
      rw [HQ.out, if_neg he]
      rfl)
    have HE := Aside0.mk he
    clear he
    go_wp2_with fail
    go_at_call 116
    refine (took_fail (HK.out.below HB1.out) (dn : Int) er (by have := HPL.out; have := HK.out.big; omega) HE.out).mono ?_
    rintro e w2 ⟨rfl, rfl⟩
    refine ⟨rfl, HB1.out.mono HK.out.size, Kept.of_below HB1.out _, ?_⟩
    rw [HP.out]
    rfl
  subst he
  go_wp2_with fail
  go_at_call 116
  refine (took_ok (HK.out.below HB1.out) dn HPL.out).mono ?_
  rintro e w2 ⟨rfl, hk, hb, hkp⟩
  have K2 := Aside0.mk hk
  have B2 := Aside0.mk ((HB1.out.mono HK.out.size).trans hb)
  have P2 := Aside0.mk ((Kept.of_below HB1.out (fun j => j = g)).then_ hkp (fun _ h => .inl h))
  have X2 := Aside0.mk (show Rt 101 gb [ptr g] w2 from (hkp.2 gb (Nat.lt_of_lt_of_le HBX.out.lt HB1.out.size) HNE.out).trans (HBX.out.below HB1.out))
  have hm2 := hk.row.cell 2 _ rfl
  have hw64 : IntKind.u64.wrap (most : Int) = (most : Int) := by have := HK.out.mb; rw [IntKind.wrap_u64]; omega
  clear hk hb hkp
  by_cases hu : most < u
  · have HP := Aside0.mk (show pList xs most (pDone xs most) m = Res.fail 91 (m : Int) from by
      unfold pList pU took
      rw [HQ.out, if_pos rfl]
      simp only [Res.bind]
      rw [if_pos (by omega)])
    have d1 : decide ((most : Int) < (u : Int)) = true := decide_eq_true (by omega)
    have d2 : decide (most < u) = true := decide_eq_true hu
    clear hu
    go_wp2_with fail
    refine ⟨rfl, B2.out, P2.out, ?_⟩
    rw [HP.out]
    rfl
  have HP := Aside0.mk (show pList xs most (pDone xs most) m = pN (pDone xs most) u [] (m + dn) from by
    unfold pList pU took
    rw [HQ.out, if_pos rfl]
    simp only [Res.bind]
    rw [if_neg (by omega), Int.toNat_natCast, Int.toNat_natCast])
  have HU := Aside0.mk (show u ≤ most by omega)
  have d1 : decide ((most : Int) < (u : Int)) = false := decide_eq_false (by omega)
  have d2 : decide (most < u) = false := decide_eq_false hu
  clear hu
  go_wp2_with fail
  clear hm2 hw64 d1 d2 c1 c2 c3
  obtain ⟨S0, hS0⟩ : ∃ S0, W.heap.size = S0 := ⟨_, rfl⟩
  have HS0 := Aside0.mk hS0
  have HLT := Aside0.mk (show g < S0 ∧ gb < S0 ∧ B ≤ S0 by have := HK.out.row.lt; have := HBX.out.lt; have := HK.out.size; omega)
  clear hS0
  go_loopw [9, 43] (fun v p wr => ∃ (i m' : Nat) (l : List S123), p = .int .u64 (i : Int) ∧ Aside0 (i ≤ u) ∧ Aside0 (l.length = i) ∧ Aside0 (pN (pDone xs most) u [] (m + dn) = pN (pDone xs most) (u - i) l m') ∧ Aside0 (LD S0 l v wr) ∧ Aside0 (CrAt g B A n c xs m' most wr) ∧ Aside0 (Below B W wr) ∧ Aside0 (Kept W wr (fun j => j = g)) ∧ Aside0 (Rt 101 gb [ptr g] wr)) (fun _ p _ => u - (intOf p).toNat)
  · exact ⟨0, m + dn, [], rfl, ⟨Nat.zero_le _⟩, ⟨rfl⟩, ⟨rfl⟩, ⟨Kd.R_nil _ _ _ _ _⟩, K2, B2, P2, X2⟩
  · obtain ⟨i, m', l, rfl, HI, HLN, HPN, HR, HKr, HBr, HPr, HXr⟩ := hrel
    by_cases ci : i < u
    · have ci1 : decide ((i : Int) < (u : Int)) = true := decide_eq_true (by omega)
      have hw1 : IntKind.u64.wrap ((i : Int) + 1) = ((i + 1 : Nat) : Int) := by rw [IntKind.wrap_u64]; have := HUL.out; omega
      have HOU := Aside0.mk (own_under HR.out)
      go_wp2_with fail
      go_at_call 95
      refine (r_done HKr.out HXr.out).mono ?_
      rintro e w5 ⟨hb, hp, ho⟩
      have hbt := HBr.out.trans hb
      have hpt := HPr.out.then_ hp (fun _ h => .inl h)
      have hpn : pN (pDone xs most) (u - i) l m' = (pDone xs most m').bind fun x mm => pN (pDone xs most) (u - (i + 1)) (l ++ [x]) mm := by
        rw [show u - i = (u - (i + 1)) + 1 from by omega]
        rfl
      rcases hq : pDone xs most m' with ⟨x, m2⟩ | ⟨er, p⟩
      rotate_left
      · rw [hq] at ho hpn
        have ho : e = gaveUp er p := ho
        subst ho
        refine ⟨rfl, hbt, hpt, ?_⟩
        rw [HP.out, HPN.out, hpn]
        rfl
      rw [hq] at ho hpn
      obtain ⟨vx, he, hx, hk⟩ : ∃ vx, e = .returned vx ∧ memDone wr.heap.size x vx w5 ∧ CrAt g B A n c xs m2 most w5 := ho
      subst he
      have SR := Aside0.mk (show S0 ≤ wr.heap.size by have := HPr.out.1; have := HS0.out; omega)
      obtain ⟨Aq, nq, cq, ev, hq⟩ := hx
      subst ev
      have MX := Aside0.mk (show k123.M w5 S0 (fun j => wr.heap.size ≤ j) x [.string x.f0.f0, .int .i64 x.f0.f1, .slice Aq nq cq, .string x.f0.f3, .int .i64 x.f0.f4, .int .i64 x.f0.f5, .int .i64 x.f1] from k123_mkM _ _ _ x (Kd.R_lower (Kd.R_mono (Kd.R_bound hq) (fun j hj => hj.2.1)) SR.out))
      have K5 := Aside0.mk hk
      have B5 := Aside0.mk hbt
      have P5 := Aside0.mk hpt
      have X5 := Aside0.mk (show Rt 101 gb [ptr g] w5 from (hp.2 gb HXr.out.lt HNE.out).trans HXr.out)
      have R5 := Aside0.mk (show LD S0 l _ w5 from LD_alive.kept HR.out hp (fun j hj e => by have := HLT.out; omega))
      have HPN2 := Aside0.mk (HPN.out.trans hpn)
      have S5 := Aside0.mk (show S0 ≤ w5.heap.size by have := hpt.1; have := HS0.out; omega)
      have HSZ := Aside0.mk (show (l.length + 1) * 88 ≤ 140737488355328 by have := HLN.out; have := HI.out; have := HU.out; have := HK.out.mb; omega)
      have SR5 := Aside0.mk hp.1
      obtain ⟨T0, hT0⟩ : ∃ T0, wr.heap.size = T0 := ⟨_, rfl⟩
      rw [hT0] at HOU SR SR5 MX
      clear hb hp hbt hpt hpn hq hk hT0
      try clear ho
      go_wp2_with (first | (
        (with_reducible refine gate_builtin (b := .append) (xs := #[.tmp 45, .tmp 48]) rfl ?_)
        at_builtin
        refine Kd.R_append k123 (w0 := w5) S0 rfl (.tmp 45) (.tmp 48) 56 123 (.agg #[.string ⟨#[]⟩, .int .i64 0, .slice none 0 0, .string ⟨#[]⟩, .int .i64 0, .int .i64 0, .int .i64 0]) 88 rfl Try.underlying56 info123 rfl (by decide) (by decide) _ l x [.string x.f0.f0, .int .i64 x.f0.f1, .slice Aq nq cq, .string x.f0.f3, .int .i64 x.f0.f4, .int .i64 x.f0.f5, .int .i64 x.f1] (fun _ => True) (fun j => T0 ≤ j) rfl rfl MX.out (fun j hj => ⟨trivial, fun e => by have := HOU.out j e.symm; omega⟩) (fun _ _ => trivial) R5.out (Below.refl _ _) S5.out HSZ.out ?_
        intro v1 w6 ho hb hg hat
        have HO6 := Aside0.mk ho
        have K6 := Aside0.mk (K5.out.aside (hb.mono HLT.out.2.2) (hb.block g HLT.out.1))
        have B6 := Aside0.mk (B5.out.trans (hb.mono HLT.out.2.2))
        have P6 := Aside0.mk (show Kept W w6 (fun j => j = g) from ⟨Nat.le_trans P5.out.1 hb.size, fun j hj hn => (hb.block j (by have := HS0.out; omega)).trans (P5.out.2 j hj hn)⟩)
        have X6 := Aside0.mk (show Rt 101 gb [ptr g] w6 from (hb.block gb HLT.out.2.1).trans X5.out)
        clear ho hb hg hat))
      refine ⟨⟨i + 1, m2, l ++ [x], congrArg (Value.int .u64) (by omega), ⟨ci⟩, ⟨by rw [List.length_append, HLN.out]; rfl⟩, HPN2, HO6, K6, B6, P6, X6⟩, ?_⟩
      simp only [intOf]
      omega
    · have ci1 : decide ((i : Int) < (u : Int)) = false := decide_eq_false (by omega)
      obtain rfl : i = u := by have := HI.out; omega
      go_wp2_with fail
      go_ret
      refine ⟨HBr.out, HPr.out, ?_⟩
      rw [HP.out, HPN.out, Nat.sub_self, HS0.out]
      exact ⟨_, rfl, HR.out, HKr.out⟩
structure StD where
  f0 : Int
  f1 : Int
  f2 : Int
  f3 : List S28
  f4 : List S121
  f5 : List S123
def pSt (xs : List Int) (most : Nat) (m : Nat) : Res StD :=
  (pI xs m).bind fun a m => (pI xs m).bind fun y m => (pI xs m).bind fun z m => (pList xs most (pLevel xs most) m).bind fun l m => (pList xs most (pHeld xs most) m).bind fun h m => (pList xs most (pDone xs most) m).bind fun d m => .ok ⟨a, y, z, l, h, d⟩ m
def memSt (S : Nat) (x : StD) (v : Value) (w : World) : Prop := ∃ Al nl cl Ah nh ch Ad nd cd, v = .agg #[.int .i64 x.f0, .int .i64 x.f1, .int .i64 x.f2, .slice Al nl cl, .slice Ah nh ch, .slice Ad nd cd] ∧ LL S x.f3 (.slice Al nl cl) w ∧ LH S x.f4 (.slice Ah nh ch) w ∧ LD S x.f5 (.slice Ad nd cd) w
theorem r_state {g B : Nat} {A : Option Addr} {n c : Nat} {xs : List Int} {m most : Nat} {W : World} (k : CrAt g B A n c xs m most W) :
    Calls Try.prog 90 #[ptr g] W fun e w' => Below B W w' ∧ Kept W w' (fun j => j = g) ∧ OutR g B A n c xs most (memSt W.heap.size) (pSt xs most m) e w' := by
  have HK := Aside0.mk k
  clear k
  have hmf : ∀ (fn : Fn) (first cap : Array Value) (w : World), (Instr.makeFunc fn first cap).run Try.prog w = .ok (.func fn first cap) w := fun _ _ _ _ => rfl
  go_enter Try.func90, Try.ntmps90
  go_upto_region 1 with fail
  have hrx : Rt 101 W.heap.size [ptr g] (W.alloc (.cells #[ptr g] 101)) := heap_alloc_new W _
  have hbx : Below W.heap.size W (W.alloc (.cells #[ptr g] 101)) := below_alloc (Below.refl _ _) _
  obtain ⟨gb, hgb⟩ : ∃ gb, W.heap.size = gb := ⟨_, rfl⟩
  have HGB := Aside0.mk hgb
  have K0 := Aside0.mk (HK.out.below hbx)
  have B0 := Aside0.mk (hbx.mono HK.out.size)
  have P0 := Aside0.mk (Kept.of_below hbx (fun j => j = g))
  have HNE := Aside0.mk (show gb ≠ g by have := HK.out.row.lt; omega)
  have hs0 : (W.alloc (.cells #[ptr g] 101)).heap.size = W.heap.size + 1 := by simp
  rw [hgb] at hrx hs0 ⊢
  have X0 := Aside0.mk hrx
  have HS0 := Aside0.mk hs0
  clear hrx hbx hgb hs0
  generalize W.alloc (.cells #[ptr g] 101) = w0 at *
  have hr1 : Rt 58 w0.heap.size [.int .i64 0, .int .i64 0, .int .i64 0, .slice none 0 0, .slice none 0 0, .slice none 0 0] (w0.alloc (.cells #[.int .i64 0, .int .i64 0, .int .i64 0, .slice none 0 0, .slice none 0 0, .slice none 0 0] 58)) := heap_alloc_new w0 _
  have hb1 : Below w0.heap.size w0 (w0.alloc (.cells #[.int .i64 0, .int .i64 0, .int .i64 0, .slice none 0 0, .slice none 0 0, .slice none 0 0] 58)) := below_alloc (Below.refl _ _) _
  obtain ⟨b, hbe⟩ : ∃ b, w0.heap.size = b := ⟨_, rfl⟩
  have K1 := Aside0.mk (K0.out.below hb1)
  have X1 := Aside0.mk (X0.out.below hb1)
  have B1 := Aside0.mk (B0.out.trans (hb1.mono K0.out.size))
  have P1 := Aside0.mk (P0.out.then_ (Kept.of_below hb1 (fun j => j = g)) (fun _ h => .inl h))
  have HBE := Aside0.mk (show W.heap.size ≤ b by have := P0.out.1; omega)
  have HLT := Aside0.mk (show g < b ∧ B ≤ b ∧ gb < b by have := K0.out.row.lt; have := K0.out.size; have := X0.out.lt; omega)
  rw [hbe] at hr1
  have hgb1 : gb + 1 = b := by have := HS0.out; omega
  rw [hgb1]
  clear hgb1
  have R1 := Aside0.mk hr1
  clear hr1 hb1 hbe
  generalize w0.alloc (.cells #[.int .i64 0, .int .i64 0, .int .i64 0, .slice none 0 0, .slice none 0 0, .slice none 0 0] 58) = w1 at *
  have cx := X1.out.cell 0 _ rfl
  have cr0 := R1.out.cell 0 _ rfl
  have fr0 := R1.out.free 0
  go_wp2_with fail
  go_at_call 62
  refine (r_int K1.out).mono ?_
  rintro e w2 ⟨hb, hp, ho⟩
  have hbt := B1.out.trans hb
  have hpt := P1.out.then_ hp (fun _ h => .inl h)
  rcases hq : pI xs m with ⟨a, m1⟩ | ⟨er, p⟩
  rotate_left
  · rw [hq] at ho
    have ho : e = gaveUp er p := ho
    subst ho
    refine ⟨rfl, hbt, hpt, ?_⟩
    have e9 : pSt xs most m = Res.fail er p := by
      unfold pSt
      simp only [Res.bind, hq]
    rw [e9]
    rfl
  rw [hq] at ho
  obtain ⟨he, hk⟩ : e = .returned (.int .i64 a) ∧ CrAt g B A n c xs m1 most w2 := ho
  subst he
  have HQ0 := Aside0.mk hq
  have K2 := Aside0.mk hk
  have B2 := Aside0.mk hbt
  have P2 := Aside0.mk hpt
  have R2 := Aside0.mk (show Rt 58 b [.int .i64 0, .int .i64 0, .int .i64 0, .slice none 0 0, .slice none 0 0, .slice none 0 0] w2 from (hp.2 b R1.out.lt (by have := HLT.out; show b ≠ g; omega)).trans R1.out)
  have X2 := Aside0.mk (show Rt 101 gb [ptr g] w2 from (hp.2 gb X1.out.lt HNE.out).trans X1.out)
  clear hb hp hbt hpt hq hk cr0 fr0
  try clear ho
  clear cx
  have cr0 := R2.out.cell 0 _ rfl
  have fr0 := R2.out.free 0
  go_upto_region 2 with fail
  have e1 := R2.out.set 0 (.int .i64 a)
  rw [e1]
  clear e1 cr0 fr0
  have hl : [Value.int .i64 0, .int .i64 0, .int .i64 0, .slice none 0 0, .slice none 0 0, .slice none 0 0].set 0 (.int .i64 a) = [Value.int .i64 a, .int .i64 0, .int .i64 0, .slice none 0 0, .slice none 0 0, .slice none 0 0] := rfl
  rw [hl]
  clear hl
  have K3 := Aside0.mk (show CrAt g B A n c xs m1 most (w2.setRow b [Value.int .i64 a, .int .i64 0, .int .i64 0, .slice none 0 0, .slice none 0 0, .slice none 0 0].toArray) from K2.out.aside (below_setRow' (Below.refl _ _) HLT.out.2.1 _) (setRow_other _ _ _ _ (by have := HLT.out; omega)))
  have B3 := Aside0.mk (show Below B W (w2.setRow b [Value.int .i64 a, .int .i64 0, .int .i64 0, .slice none 0 0, .slice none 0 0, .slice none 0 0].toArray) from below_setRow' B2.out HLT.out.2.1 _)
  have P3 := Aside0.mk (show Kept W (w2.setRow b [Value.int .i64 a, .int .i64 0, .int .i64 0, .slice none 0 0, .slice none 0 0, .slice none 0 0].toArray) (fun j => j = g) from ⟨by rw [setRow_size]; exact P2.out.1, fun j hj hn => (setRow_other _ _ _ _ (by have := HBE.out; omega)).trans (P2.out.2 j hj hn)⟩)
  have R3 := Aside0.mk (show Rt 58 b [Value.int .i64 a, .int .i64 0, .int .i64 0, .slice none 0 0, .slice none 0 0, .slice none 0 0] (w2.setRow b [Value.int .i64 a, .int .i64 0, .int .i64 0, .slice none 0 0, .slice none 0 0, .slice none 0 0].toArray) from R2.out.row _)
  have X3 := Aside0.mk (show Rt 101 gb [ptr g] (w2.setRow b [Value.int .i64 a, .int .i64 0, .int .i64 0, .slice none 0 0, .slice none 0 0, .slice none 0 0].toArray) from (setRow_other _ _ _ _ (by have := HLT.out; omega)).trans X2.out)
  generalize w2.setRow b [Value.int .i64 a, .int .i64 0, .int .i64 0, .slice none 0 0, .slice none 0 0, .slice none 0 0].toArray = w3 at *
  have cx := X3.out.cell 0 _ rfl
  have cr1 := R3.out.cell 1 _ rfl
  have fr1 := R3.out.free 1
  go_wp2_with fail
  go_at_call 62
  refine (r_int K3.out).mono ?_
  rintro e w4 ⟨hb, hp, ho⟩
  have hbt := B3.out.trans hb
  have hpt := P3.out.then_ hp (fun _ h => .inl h)
  rcases hq : pI xs m1 with ⟨y, m2⟩ | ⟨er, p⟩
  rotate_left
  · rw [hq] at ho
    have ho : e = gaveUp er p := ho
    subst ho
    refine ⟨rfl, hbt, hpt, ?_⟩
    have e9 : pSt xs most m = Res.fail er p := by
      unfold pSt
      simp only [Res.bind, HQ0.out, hq]
    rw [e9]
    rfl
  rw [hq] at ho
  obtain ⟨he, hk⟩ : e = .returned (.int .i64 y) ∧ CrAt g B A n c xs m2 most w4 := ho
  subst he
  have HQ1 := Aside0.mk hq
  have K4 := Aside0.mk hk
  have B4 := Aside0.mk hbt
  have P4 := Aside0.mk hpt
  have R4 := Aside0.mk (show Rt 58 b [.int .i64 a, .int .i64 0, .int .i64 0, .slice none 0 0, .slice none 0 0, .slice none 0 0] w4 from (hp.2 b R3.out.lt (by have := HLT.out; show b ≠ g; omega)).trans R3.out)
  have X4 := Aside0.mk (show Rt 101 gb [ptr g] w4 from (hp.2 gb X3.out.lt HNE.out).trans X3.out)
  clear hb hp hbt hpt hq hk cr1 fr1
  try clear ho
  clear cx
  have cr1 := R4.out.cell 1 _ rfl
  have fr1 := R4.out.free 1
  go_upto_region 3 with fail
  have e1 := R4.out.set 1 (.int .i64 y)
  rw [e1]
  clear e1 cr1 fr1
  have hl : [Value.int .i64 a, .int .i64 0, .int .i64 0, .slice none 0 0, .slice none 0 0, .slice none 0 0].set 1 (.int .i64 y) = [Value.int .i64 a, .int .i64 y, .int .i64 0, .slice none 0 0, .slice none 0 0, .slice none 0 0] := rfl
  rw [hl]
  clear hl
  have K5 := Aside0.mk (show CrAt g B A n c xs m2 most (w4.setRow b [Value.int .i64 a, .int .i64 y, .int .i64 0, .slice none 0 0, .slice none 0 0, .slice none 0 0].toArray) from K4.out.aside (below_setRow' (Below.refl _ _) HLT.out.2.1 _) (setRow_other _ _ _ _ (by have := HLT.out; omega)))
  have B5 := Aside0.mk (show Below B W (w4.setRow b [Value.int .i64 a, .int .i64 y, .int .i64 0, .slice none 0 0, .slice none 0 0, .slice none 0 0].toArray) from below_setRow' B4.out HLT.out.2.1 _)
  have P5 := Aside0.mk (show Kept W (w4.setRow b [Value.int .i64 a, .int .i64 y, .int .i64 0, .slice none 0 0, .slice none 0 0, .slice none 0 0].toArray) (fun j => j = g) from ⟨by rw [setRow_size]; exact P4.out.1, fun j hj hn => (setRow_other _ _ _ _ (by have := HBE.out; omega)).trans (P4.out.2 j hj hn)⟩)
  have R5 := Aside0.mk (show Rt 58 b [Value.int .i64 a, .int .i64 y, .int .i64 0, .slice none 0 0, .slice none 0 0, .slice none 0 0] (w4.setRow b [Value.int .i64 a, .int .i64 y, .int .i64 0, .slice none 0 0, .slice none 0 0, .slice none 0 0].toArray) from R4.out.row _)
  have X5 := Aside0.mk (show Rt 101 gb [ptr g] (w4.setRow b [Value.int .i64 a, .int .i64 y, .int .i64 0, .slice none 0 0, .slice none 0 0, .slice none 0 0].toArray) from (setRow_other _ _ _ _ (by have := HLT.out; omega)).trans X4.out)
  generalize w4.setRow b [Value.int .i64 a, .int .i64 y, .int .i64 0, .slice none 0 0, .slice none 0 0, .slice none 0 0].toArray = w5 at *
  have cx := X5.out.cell 0 _ rfl
  have cr2 := R5.out.cell 2 _ rfl
  have fr2 := R5.out.free 2
  go_wp2_with fail
  go_at_call 62
  refine (r_int K5.out).mono ?_
  rintro e w6 ⟨hb, hp, ho⟩
  have hbt := B5.out.trans hb
  have hpt := P5.out.then_ hp (fun _ h => .inl h)
  rcases hq : pI xs m2 with ⟨z, m3⟩ | ⟨er, p⟩
  rotate_left
  · rw [hq] at ho
    have ho : e = gaveUp er p := ho
    subst ho
    refine ⟨rfl, hbt, hpt, ?_⟩
    have e9 : pSt xs most m = Res.fail er p := by
      unfold pSt
      simp only [Res.bind, HQ0.out, HQ1.out, hq]
    rw [e9]
    rfl
  rw [hq] at ho
  obtain ⟨he, hk⟩ : e = .returned (.int .i64 z) ∧ CrAt g B A n c xs m3 most w6 := ho
  subst he
  have HQ2 := Aside0.mk hq
  have K6 := Aside0.mk hk
  have B6 := Aside0.mk hbt
  have P6 := Aside0.mk hpt
  have R6 := Aside0.mk (show Rt 58 b [.int .i64 a, .int .i64 y, .int .i64 0, .slice none 0 0, .slice none 0 0, .slice none 0 0] w6 from (hp.2 b R5.out.lt (by have := HLT.out; show b ≠ g; omega)).trans R5.out)
  have X6 := Aside0.mk (show Rt 101 gb [ptr g] w6 from (hp.2 gb X5.out.lt HNE.out).trans X5.out)
  clear hb hp hbt hpt hq hk cr2 fr2
  try clear ho
  clear cx
  have cr2 := R6.out.cell 2 _ rfl
  have fr2 := R6.out.free 2
  go_upto_region 4 with fail
  have e1 := R6.out.set 2 (.int .i64 z)
  rw [e1]
  clear e1 cr2 fr2
  have hl : [Value.int .i64 a, .int .i64 y, .int .i64 0, .slice none 0 0, .slice none 0 0, .slice none 0 0].set 2 (.int .i64 z) = [Value.int .i64 a, .int .i64 y, .int .i64 z, .slice none 0 0, .slice none 0 0, .slice none 0 0] := rfl
  rw [hl]
  clear hl
  have K7 := Aside0.mk (show CrAt g B A n c xs m3 most (w6.setRow b [Value.int .i64 a, .int .i64 y, .int .i64 z, .slice none 0 0, .slice none 0 0, .slice none 0 0].toArray) from K6.out.aside (below_setRow' (Below.refl _ _) HLT.out.2.1 _) (setRow_other _ _ _ _ (by have := HLT.out; omega)))
  have B7 := Aside0.mk (show Below B W (w6.setRow b [Value.int .i64 a, .int .i64 y, .int .i64 z, .slice none 0 0, .slice none 0 0, .slice none 0 0].toArray) from below_setRow' B6.out HLT.out.2.1 _)
  have P7 := Aside0.mk (show Kept W (w6.setRow b [Value.int .i64 a, .int .i64 y, .int .i64 z, .slice none 0 0, .slice none 0 0, .slice none 0 0].toArray) (fun j => j = g) from ⟨by rw [setRow_size]; exact P6.out.1, fun j hj hn => (setRow_other _ _ _ _ (by have := HBE.out; omega)).trans (P6.out.2 j hj hn)⟩)
  have R7 := Aside0.mk (show Rt 58 b [Value.int .i64 a, .int .i64 y, .int .i64 z, .slice none 0 0, .slice none 0 0, .slice none 0 0] (w6.setRow b [Value.int .i64 a, .int .i64 y, .int .i64 z, .slice none 0 0, .slice none 0 0, .slice none 0 0].toArray) from R6.out.row _)
  have X7 := Aside0.mk (show Rt 101 gb [ptr g] (w6.setRow b [Value.int .i64 a, .int .i64 y, .int .i64 z, .slice none 0 0, .slice none 0 0, .slice none 0 0].toArray) from (setRow_other _ _ _ _ (by have := HLT.out; omega)).trans X6.out)
  generalize w6.setRow b [Value.int .i64 a, .int .i64 y, .int .i64 z, .slice none 0 0, .slice none 0 0, .slice none 0 0].toArray = w7 at *
  have cx := X7.out.cell 0 _ rfl
  have cr3 := R7.out.cell 3 _ rfl
  have fr3 := R7.out.free 3
  go_wp2_with fail
  go_at_call 63
  refine (r_levels K7.out).mono ?_
  rintro e w8 ⟨hb, hp, ho⟩
  have hbt := B7.out.trans hb
  have hpt := P7.out.then_ hp (fun _ h => .inl h)
  rcases hq : pList xs most (pLevel xs most) m3 with ⟨l, m4⟩ | ⟨er, p⟩
  rotate_left
  · rw [hq] at ho
    have ho : e = gaveUp er p := ho
    subst ho
    refine ⟨rfl, hbt, hpt, ?_⟩
    have e9 : pSt xs most m = Res.fail er p := by
      unfold pSt
      simp only [Res.bind, HQ0.out, HQ1.out, HQ2.out, hq]
    rw [e9]
    rfl
  rw [hq] at ho
  obtain ⟨v, he, hE, hk⟩ : ∃ v, e = .returned v ∧ LL w7.heap.size l v w8 ∧ CrAt g B A n c xs m4 most w8 := ho
  obtain ⟨Al, nl, cl, ev⟩ := LL_slice hE
  subst ev
  have Ll_8 := Aside0.mk (show LL (b + 1) l (.slice Al nl cl) w8 from LL_alive.lower hE R7.out.lt)
  clear hE
  subst he
  have HQ3 := Aside0.mk hq
  have K8 := Aside0.mk hk
  have B8 := Aside0.mk hbt
  have P8 := Aside0.mk hpt
  have R8 := Aside0.mk (show Rt 58 b [.int .i64 a, .int .i64 y, .int .i64 z, .slice none 0 0, .slice none 0 0, .slice none 0 0] w8 from (hp.2 b R7.out.lt (by have := HLT.out; show b ≠ g; omega)).trans R7.out)
  have X8 := Aside0.mk (show Rt 101 gb [ptr g] w8 from (hp.2 gb X7.out.lt HNE.out).trans X7.out)
  clear hb hp hbt hpt hq hk cr3 fr3
  try clear ho
  clear cx
  have cr3 := R8.out.cell 3 _ rfl
  have fr3 := R8.out.free 3
  go_upto_region 5 with fail
  have e1 := R8.out.set 3 (.slice Al nl cl)
  rw [e1]
  clear e1 cr3 fr3
  have hl : [Value.int .i64 a, .int .i64 y, .int .i64 z, .slice none 0 0, .slice none 0 0, .slice none 0 0].set 3 (.slice Al nl cl) = [Value.int .i64 a, .int .i64 y, .int .i64 z, .slice Al nl cl, .slice none 0 0, .slice none 0 0] := rfl
  rw [hl]
  clear hl
  have K9 := Aside0.mk (show CrAt g B A n c xs m4 most (w8.setRow b [Value.int .i64 a, .int .i64 y, .int .i64 z, .slice Al nl cl, .slice none 0 0, .slice none 0 0].toArray) from K8.out.aside (below_setRow' (Below.refl _ _) HLT.out.2.1 _) (setRow_other _ _ _ _ (by have := HLT.out; omega)))
  have B9 := Aside0.mk (show Below B W (w8.setRow b [Value.int .i64 a, .int .i64 y, .int .i64 z, .slice Al nl cl, .slice none 0 0, .slice none 0 0].toArray) from below_setRow' B8.out HLT.out.2.1 _)
  have P9 := Aside0.mk (show Kept W (w8.setRow b [Value.int .i64 a, .int .i64 y, .int .i64 z, .slice Al nl cl, .slice none 0 0, .slice none 0 0].toArray) (fun j => j = g) from ⟨by rw [setRow_size]; exact P8.out.1, fun j hj hn => (setRow_other _ _ _ _ (by have := HBE.out; omega)).trans (P8.out.2 j hj hn)⟩)
  have R9 := Aside0.mk (show Rt 58 b [Value.int .i64 a, .int .i64 y, .int .i64 z, .slice Al nl cl, .slice none 0 0, .slice none 0 0] (w8.setRow b [Value.int .i64 a, .int .i64 y, .int .i64 z, .slice Al nl cl, .slice none 0 0, .slice none 0 0].toArray) from R8.out.row _)
  have X9 := Aside0.mk (show Rt 101 gb [ptr g] (w8.setRow b [Value.int .i64 a, .int .i64 y, .int .i64 z, .slice Al nl cl, .slice none 0 0, .slice none 0 0].toArray) from (setRow_other _ _ _ _ (by have := HLT.out; omega)).trans X8.out)
  have Ll_9 := Aside0.mk (LL_alive.row Ll_8.out (Nat.lt_succ_self b) [Value.int .i64 a, .int .i64 y, .int .i64 z, .slice Al nl cl, .slice none 0 0, .slice none 0 0].toArray)
  generalize w8.setRow b [Value.int .i64 a, .int .i64 y, .int .i64 z, .slice Al nl cl, .slice none 0 0, .slice none 0 0].toArray = w9 at *
  have cx := X9.out.cell 0 _ rfl
  have cr4 := R9.out.cell 4 _ rfl
  have fr4 := R9.out.free 4
  go_wp2_with fail
  go_at_call 91
  refine (r_heldList K9.out X9.out).mono ?_
  rintro e w10 ⟨hb, hp, ho⟩
  have hbt := B9.out.trans hb
  have hpt := P9.out.then_ hp (fun _ h => .inl h)
  rcases hq : pList xs most (pHeld xs most) m4 with ⟨h, m5⟩ | ⟨er, p⟩
  rotate_left
  · rw [hq] at ho
    have ho : e = gaveUp er p := ho
    subst ho
    refine ⟨rfl, hbt, hpt, ?_⟩
    have e9 : pSt xs most m = Res.fail er p := by
      unfold pSt
      simp only [Res.bind, HQ0.out, HQ1.out, HQ2.out, HQ3.out, hq]
    rw [e9]
    rfl
  rw [hq] at ho
  obtain ⟨v, he, hE, hk⟩ : ∃ v, e = .returned v ∧ LH w9.heap.size h v w10 ∧ CrAt g B A n c xs m5 most w10 := ho
  obtain ⟨Ah, nh, ch, ev⟩ := LH_slice hE
  subst ev
  have Lh_10 := Aside0.mk (show LH (b + 1) h (.slice Ah nh ch) w10 from LH_alive.lower hE R9.out.lt)
  clear hE
  subst he
  have HQ4 := Aside0.mk hq
  have K10 := Aside0.mk hk
  have B10 := Aside0.mk hbt
  have P10 := Aside0.mk hpt
  have R10 := Aside0.mk (show Rt 58 b [.int .i64 a, .int .i64 y, .int .i64 z, .slice Al nl cl, .slice none 0 0, .slice none 0 0] w10 from (hp.2 b R9.out.lt (by have := HLT.out; show b ≠ g; omega)).trans R9.out)
  have X10 := Aside0.mk (show Rt 101 gb [ptr g] w10 from (hp.2 gb X9.out.lt HNE.out).trans X9.out)
  have Ll_10 := Aside0.mk (LL_alive.kept Ll_9.out hp (fun j hj e => by have := HLT.out; omega))
  clear hb hp hbt hpt hq hk cr4 fr4
  try clear ho
  clear cx
  have cr4 := R10.out.cell 4 _ rfl
  have fr4 := R10.out.free 4
  go_upto_region 6 with fail
  have e1 := R10.out.set 4 (.slice Ah nh ch)
  rw [e1]
  clear e1 cr4 fr4
  have hl : [Value.int .i64 a, .int .i64 y, .int .i64 z, .slice Al nl cl, .slice none 0 0, .slice none 0 0].set 4 (.slice Ah nh ch) = [Value.int .i64 a, .int .i64 y, .int .i64 z, .slice Al nl cl, .slice Ah nh ch, .slice none 0 0] := rfl
  rw [hl]
  clear hl
  have K11 := Aside0.mk (show CrAt g B A n c xs m5 most (w10.setRow b [Value.int .i64 a, .int .i64 y, .int .i64 z, .slice Al nl cl, .slice Ah nh ch, .slice none 0 0].toArray) from K10.out.aside (below_setRow' (Below.refl _ _) HLT.out.2.1 _) (setRow_other _ _ _ _ (by have := HLT.out; omega)))
  have B11 := Aside0.mk (show Below B W (w10.setRow b [Value.int .i64 a, .int .i64 y, .int .i64 z, .slice Al nl cl, .slice Ah nh ch, .slice none 0 0].toArray) from below_setRow' B10.out HLT.out.2.1 _)
  have P11 := Aside0.mk (show Kept W (w10.setRow b [Value.int .i64 a, .int .i64 y, .int .i64 z, .slice Al nl cl, .slice Ah nh ch, .slice none 0 0].toArray) (fun j => j = g) from ⟨by rw [setRow_size]; exact P10.out.1, fun j hj hn => (setRow_other _ _ _ _ (by have := HBE.out; omega)).trans (P10.out.2 j hj hn)⟩)
  have R11 := Aside0.mk (show Rt 58 b [Value.int .i64 a, .int .i64 y, .int .i64 z, .slice Al nl cl, .slice Ah nh ch, .slice none 0 0] (w10.setRow b [Value.int .i64 a, .int .i64 y, .int .i64 z, .slice Al nl cl, .slice Ah nh ch, .slice none 0 0].toArray) from R10.out.row _)
  have X11 := Aside0.mk (show Rt 101 gb [ptr g] (w10.setRow b [Value.int .i64 a, .int .i64 y, .int .i64 z, .slice Al nl cl, .slice Ah nh ch, .slice none 0 0].toArray) from (setRow_other _ _ _ _ (by have := HLT.out; omega)).trans X10.out)
  have Ll_11 := Aside0.mk (LL_alive.row Ll_10.out (Nat.lt_succ_self b) [Value.int .i64 a, .int .i64 y, .int .i64 z, .slice Al nl cl, .slice Ah nh ch, .slice none 0 0].toArray)
  have Lh_11 := Aside0.mk (LH_alive.row Lh_10.out (Nat.lt_succ_self b) [Value.int .i64 a, .int .i64 y, .int .i64 z, .slice Al nl cl, .slice Ah nh ch, .slice none 0 0].toArray)
  generalize w10.setRow b [Value.int .i64 a, .int .i64 y, .int .i64 z, .slice Al nl cl, .slice Ah nh ch, .slice none 0 0].toArray = w11 at *
  have cx := X11.out.cell 0 _ rfl
  have cr5 := R11.out.cell 5 _ rfl
  have fr5 := R11.out.free 5
  go_wp2_with fail
  go_at_call 94
  refine (r_doneList K11.out X11.out).mono ?_
  rintro e w12 ⟨hb, hp, ho⟩
  have hbt := B11.out.trans hb
  have hpt := P11.out.then_ hp (fun _ h => .inl h)
  rcases hq : pList xs most (pDone xs most) m5 with ⟨d, m6⟩ | ⟨er, p⟩
  rotate_left
  · rw [hq] at ho
    have ho : e = gaveUp er p := ho
    subst ho
    refine ⟨rfl, hbt, hpt, ?_⟩
    have e9 : pSt xs most m = Res.fail er p := by
      unfold pSt
      simp only [Res.bind, HQ0.out, HQ1.out, HQ2.out, HQ3.out, HQ4.out, hq]
    rw [e9]
    rfl
  rw [hq] at ho
  obtain ⟨v, he, hE, hk⟩ : ∃ v, e = .returned v ∧ LD w11.heap.size d v w12 ∧ CrAt g B A n c xs m6 most w12 := ho
  obtain ⟨Ad, nd, cd, ev⟩ := LD_slice hE
  subst ev
  have Ld_12 := Aside0.mk (show LD (b + 1) d (.slice Ad nd cd) w12 from LD_alive.lower hE R11.out.lt)
  clear hE
  subst he
  have HQ5 := Aside0.mk hq
  have K12 := Aside0.mk hk
  have B12 := Aside0.mk hbt
  have P12 := Aside0.mk hpt
  have R12 := Aside0.mk (show Rt 58 b [.int .i64 a, .int .i64 y, .int .i64 z, .slice Al nl cl, .slice Ah nh ch, .slice none 0 0] w12 from (hp.2 b R11.out.lt (by have := HLT.out; show b ≠ g; omega)).trans R11.out)
  have X12 := Aside0.mk (show Rt 101 gb [ptr g] w12 from (hp.2 gb X11.out.lt HNE.out).trans X11.out)
  have Ll_12 := Aside0.mk (LL_alive.kept Ll_11.out hp (fun j hj e => by have := HLT.out; omega))
  have Lh_12 := Aside0.mk (LH_alive.kept Lh_11.out hp (fun j hj e => by have := HLT.out; omega))
  clear hb hp hbt hpt hq hk cr5 fr5
  try clear ho
  clear cx
  have cr5 := R12.out.cell 5 _ rfl
  have fr5 := R12.out.free 5
  go_upto_region 7 with fail
  have e1 := R12.out.set 5 (.slice Ad nd cd)
  rw [e1]
  clear e1 cr5 fr5
  have hl : [Value.int .i64 a, .int .i64 y, .int .i64 z, .slice Al nl cl, .slice Ah nh ch, .slice none 0 0].set 5 (.slice Ad nd cd) = [Value.int .i64 a, .int .i64 y, .int .i64 z, .slice Al nl cl, .slice Ah nh ch, .slice Ad nd cd] := rfl
  rw [hl]
  clear hl
  have K13 := Aside0.mk (show CrAt g B A n c xs m6 most (w12.setRow b [Value.int .i64 a, .int .i64 y, .int .i64 z, .slice Al nl cl, .slice Ah nh ch, .slice Ad nd cd].toArray) from K12.out.aside (below_setRow' (Below.refl _ _) HLT.out.2.1 _) (setRow_other _ _ _ _ (by have := HLT.out; omega)))
  have B13 := Aside0.mk (show Below B W (w12.setRow b [Value.int .i64 a, .int .i64 y, .int .i64 z, .slice Al nl cl, .slice Ah nh ch, .slice Ad nd cd].toArray) from below_setRow' B12.out HLT.out.2.1 _)
  have P13 := Aside0.mk (show Kept W (w12.setRow b [Value.int .i64 a, .int .i64 y, .int .i64 z, .slice Al nl cl, .slice Ah nh ch, .slice Ad nd cd].toArray) (fun j => j = g) from ⟨by rw [setRow_size]; exact P12.out.1, fun j hj hn => (setRow_other _ _ _ _ (by have := HBE.out; omega)).trans (P12.out.2 j hj hn)⟩)
  have R13 := Aside0.mk (show Rt 58 b [Value.int .i64 a, .int .i64 y, .int .i64 z, .slice Al nl cl, .slice Ah nh ch, .slice Ad nd cd] (w12.setRow b [Value.int .i64 a, .int .i64 y, .int .i64 z, .slice Al nl cl, .slice Ah nh ch, .slice Ad nd cd].toArray) from R12.out.row _)
  have X13 := Aside0.mk (show Rt 101 gb [ptr g] (w12.setRow b [Value.int .i64 a, .int .i64 y, .int .i64 z, .slice Al nl cl, .slice Ah nh ch, .slice Ad nd cd].toArray) from (setRow_other _ _ _ _ (by have := HLT.out; omega)).trans X12.out)
  have Ll_13 := Aside0.mk (LL_alive.row Ll_12.out (Nat.lt_succ_self b) [Value.int .i64 a, .int .i64 y, .int .i64 z, .slice Al nl cl, .slice Ah nh ch, .slice Ad nd cd].toArray)
  have Lh_13 := Aside0.mk (LH_alive.row Lh_12.out (Nat.lt_succ_self b) [Value.int .i64 a, .int .i64 y, .int .i64 z, .slice Al nl cl, .slice Ah nh ch, .slice Ad nd cd].toArray)
  have Ld_13 := Aside0.mk (LD_alive.row Ld_12.out (Nat.lt_succ_self b) [Value.int .i64 a, .int .i64 y, .int .i64 z, .slice Al nl cl, .slice Ah nh ch, .slice Ad nd cd].toArray)
  generalize w12.setRow b [Value.int .i64 a, .int .i64 y, .int .i64 z, .slice Al nl cl, .slice Ah nh ch, .slice Ad nd cd].toArray = w13 at *
  have c0 := R13.out.cell 0 _ rfl
  have f0 := R13.out.free 0
  have c1 := R13.out.cell 1 _ rfl
  have f1 := R13.out.free 1
  have c2 := R13.out.cell 2 _ rfl
  have f2 := R13.out.free 2
  have c3 := R13.out.cell 3 _ rfl
  have f3 := R13.out.free 3
  have c4 := R13.out.cell 4 _ rfl
  have f4 := R13.out.free 4
  have c5 := R13.out.cell 5 _ rfl
  have f5 := R13.out.free 5
  go_wp2_with fail
  rw [R13.out.same 0 _ rfl, R13.out.same 1 _ rfl, R13.out.same 2 _ rfl, R13.out.same 3 _ rfl, R13.out.same 4 _ rfl, R13.out.same 5 _ rfl]
  refine bodyPost_ret (results_cell_row rfl _ _ b 58 _ (0, 0) _ rfl R13.out Try.underlying58 rfl (by kernel_rfl)) rfl ?_
  refine ⟨B13.out, P13.out, ?_⟩
  have e9 : pSt xs most m = Res.ok ⟨a, y, z, l, h, d⟩ m6 := by
    unfold pSt
    simp only [Res.bind, HQ0.out, HQ1.out, HQ2.out, HQ3.out, HQ4.out, HQ5.out]
  rw [e9]
  exact ⟨_, rfl, ⟨Al, nl, cl, Ah, nh, ch, Ad, nd, cd, rfl, LL_alive.lower Ll_13.out (Nat.le_succ_of_le HBE.out), LH_alive.lower Lh_13.out (Nat.le_succ_of_le HBE.out), LD_alive.lower Ld_13.out (Nat.le_succ_of_le HBE.out)⟩, K13.out⟩
def encS (x : StD) : List Int := encI x.f0 ++ (encI x.f1 ++ (encI x.f2 ++ ((encU x.f3.length ++ encLs x.f3) ++ ((encU x.f4.length ++ encHs x.f4) ++ (encU x.f5.length ++ encDs x.f5)))))
def bulkS (x : StD) : Nat := 90 + bulkL x.f3 + bulkHs x.f4 + bulkDs x.f5
theorem w_state {g B br : Nat} {xs : List Int} {W W0 : World} (k : WrAt g B xs W) (hW0 : Below W0.heap.size W0 W) (hB0 : W0.heap.size ≤ B) (x : StD) (Al : Option Addr) (cl : Nat) (hCl : Kd.C k28 W0 Al x.f3.length x.f3) (Ah : Option Addr) (ch : Nat) (hCh : Kd.C k121 W0 Ah x.f4.length x.f4) (Ad : Option Addr) (cd : Nat) (hCd : Kd.C k123 W0 Ad x.f5.length x.f5) (h0 : Int64 x.f0) (h1 : Int64 x.f1) (h2 : Int64 x.f2) (h3 : LevOk x.f3) (h4 : HeldsOk x.f4) (h5 : DonesOk x.f5) (hbr : Rt 58 br [.int .i64 x.f0, .int .i64 x.f1, .int .i64 x.f2, .slice Al x.f3.length cl, .slice Ah x.f4.length ch, .slice Ad x.f5.length cd] W) (hl : xs.length + bulkS x + 2000 < 140737488355328) :
    Calls Try.prog 81 #[ptr g, ptr br] W fun e w' => e = .returned (.tuple #[]) ∧ WrAt g B (xs ++ encS x) w' ∧ Below B W w' ∧ Others W w' := by
  have HLL := Aside0.mk hl
  have HW0 := Aside0.mk hW0
  have HB0 := Aside0.mk hB0
  have HS := Aside0.mk k.size
  have HCl := Aside0.mk hCl
  have HCh := Aside0.mk hCh
  have HCd := Aside0.mk hCd
  have H0 := Aside0.mk h0
  have H1 := Aside0.mk h1
  have H2 := Aside0.mk h2
  have H3 := Aside0.mk h3
  have H4 := Aside0.mk h4
  have H5 := Aside0.mk h5
  have hmf : ∀ (fn : Fn) (first cap : Array Value) (w : World), (Instr.makeFunc fn first cap).run Try.prog w = .ok (.func fn first cap) w := fun _ _ _ _ => rfl
  have hr2 : Rt 92 W.heap.size [ptr g] (W.alloc (.cells #[ptr g] 92)) := heap_alloc_new W _
  have hb1 : Below W.heap.size W (W.alloc (.cells #[ptr g] 92)) := below_alloc (Below.refl _ _) _
  obtain ⟨gb, hb2⟩ : ∃ b2, W.heap.size = b2 := ⟨_, rfl⟩
  have HB2 := Aside0.mk hb2
  have K1 := Aside0.mk (k.below hb1)
  have B1 := Aside0.mk (hb1.mono HS.out)
  have O1 := Aside0.mk (Others.of_below hb1)
  have R1 := Aside0.mk (hbr.below hb1)
  rw [hb2] at hr2
  have X1 := Aside0.mk hr2
  clear k hbr hr2 hb1 hb2 hl hW0 hB0 hCl hCh hCd h0 h1 h2 h3 h4 h5
  go_enter Try.func81, Try.ntmps81
  go_upto_region 1 with fail
  have hb2 := HB2.out
  rw [hb2]
  clear hb2
  generalize W.alloc (.cells #[ptr g] 92) = w1 at *
  have cx := X1.out.cell 0 _ rfl
  have c0 := R1.out.cell 0 _ rfl
  go_wp2_with fail
  go_at_call 53
  refine (w_int K1.out x.f0 H0.out (by have := HLL.out; have := encI_len x.f0; have := encI_len x.f1; have := encI_len x.f2; have := encU_len x.f3.length; have := encLs_len x.f3; have := encU_len x.f4.length; have := encHs_len x.f4; have := encU_len x.f5.length; have := encDs_len x.f5; have := show bulkS x = 90 + bulkL x.f3 + bulkHs x.f4 + bulkDs x.f5 from rfl; (try simp only [List.length_append]); omega)).mono ?_
  rintro e w2 ⟨rfl, hk, hb, ho⟩
  have K2 := Aside0.mk hk
  have B2 := Aside0.mk (B1.out.trans hb)
  have O2 := Aside0.mk (O1.out.trans ho)
  have R2 := Aside0.mk (ho.row R1.out (by decide) (by decide))
  have X2 := Aside0.mk (ho.row X1.out (by decide) (by decide))
  clear hk hb ho cx c0
  have cx := X2.out.cell 0 _ rfl
  have c1 := R2.out.cell 1 _ rfl
  go_wp2_with fail
  go_at_call 53
  refine (w_int K2.out x.f1 H1.out (by have := HLL.out; have := encI_len x.f0; have := encI_len x.f1; have := encI_len x.f2; have := encU_len x.f3.length; have := encLs_len x.f3; have := encU_len x.f4.length; have := encHs_len x.f4; have := encU_len x.f5.length; have := encDs_len x.f5; have := show bulkS x = 90 + bulkL x.f3 + bulkHs x.f4 + bulkDs x.f5 from rfl; (try simp only [List.length_append]); omega)).mono ?_
  rintro e w3 ⟨rfl, hk, hb, ho⟩
  have K3 := Aside0.mk hk
  have B3 := Aside0.mk (B2.out.trans hb)
  have O3 := Aside0.mk (O2.out.trans ho)
  have R3 := Aside0.mk (ho.row R2.out (by decide) (by decide))
  have X3 := Aside0.mk (ho.row X2.out (by decide) (by decide))
  clear hk hb ho cx c1
  have cx := X3.out.cell 0 _ rfl
  have c2 := R3.out.cell 2 _ rfl
  go_wp2_with fail
  go_at_call 53
  refine (w_int K3.out x.f2 H2.out (by have := HLL.out; have := encI_len x.f0; have := encI_len x.f1; have := encI_len x.f2; have := encU_len x.f3.length; have := encLs_len x.f3; have := encU_len x.f4.length; have := encHs_len x.f4; have := encU_len x.f5.length; have := encDs_len x.f5; have := show bulkS x = 90 + bulkL x.f3 + bulkHs x.f4 + bulkDs x.f5 from rfl; (try simp only [List.length_append]); omega)).mono ?_
  rintro e w4 ⟨rfl, hk, hb, ho⟩
  have K4 := Aside0.mk hk
  have B4 := Aside0.mk (B3.out.trans hb)
  have O4 := Aside0.mk (O3.out.trans ho)
  have R4 := Aside0.mk (ho.row R3.out (by decide) (by decide))
  have X4 := Aside0.mk (ho.row X3.out (by decide) (by decide))
  clear hk hb ho cx c2
  have cx := X4.out.cell 0 _ rfl
  have c3 := R4.out.cell 3 _ rfl
  go_wp2_with fail
  go_at_call 54
  refine (w_levels K4.out Al x.f3.length cl x.f3 (fun W' hb => Kd.C_below HCl.out (HW0.out.trans ((B4.out.trans hb).mono HB0.out))) H3.out (by have := HLL.out; have := encI_len x.f0; have := encI_len x.f1; have := encI_len x.f2; have := encU_len x.f3.length; have := encLs_len x.f3; have := encU_len x.f4.length; have := encHs_len x.f4; have := encU_len x.f5.length; have := encDs_len x.f5; have := show bulkS x = 90 + bulkL x.f3 + bulkHs x.f4 + bulkDs x.f5 from rfl; (try simp only [List.length_append]); omega)).mono ?_
  rintro e w5 ⟨rfl, hk, hb, ho⟩
  have K5 := Aside0.mk hk
  have B5 := Aside0.mk (B4.out.trans hb)
  have O5 := Aside0.mk (O4.out.trans ho)
  have R5 := Aside0.mk (ho.row R4.out (by decide) (by decide))
  have X5 := Aside0.mk (ho.row X4.out (by decide) (by decide))
  clear hk hb ho cx c3
  have cx := X5.out.cell 0 _ rfl
  have c4 := R5.out.cell 4 _ rfl
  go_wp2_with fail
  go_at_call 82
  refine (w_putHelds K5.out X5.out (HW0.out.trans (B5.out.mono HB0.out)) HB0.out Ah ch x.f4 HCh.out H4.out (by have := HLL.out; have := encI_len x.f0; have := encI_len x.f1; have := encI_len x.f2; have := encU_len x.f3.length; have := encLs_len x.f3; have := encU_len x.f4.length; have := encHs_len x.f4; have := encU_len x.f5.length; have := encDs_len x.f5; have := show bulkS x = 90 + bulkL x.f3 + bulkHs x.f4 + bulkDs x.f5 from rfl; (try simp only [List.length_append]); omega)).mono ?_
  rintro e w6 ⟨rfl, hk, hb, ho⟩
  have K6 := Aside0.mk hk
  have B6 := Aside0.mk (B5.out.trans hb)
  have O6 := Aside0.mk (O5.out.trans ho)
  have R6 := Aside0.mk (ho.row R5.out (by decide) (by decide))
  have X6 := Aside0.mk (ho.row X5.out (by decide) (by decide))
  clear hk hb ho cx c4
  have cx := X6.out.cell 0 _ rfl
  have c5 := R6.out.cell 5 _ rfl
  go_wp2_with fail
  go_at_call 85
  refine (w_putDones K6.out X6.out (HW0.out.trans (B6.out.mono HB0.out)) HB0.out Ad cd x.f5 HCd.out H5.out (by have := HLL.out; have := encI_len x.f0; have := encI_len x.f1; have := encI_len x.f2; have := encU_len x.f3.length; have := encLs_len x.f3; have := encU_len x.f4.length; have := encHs_len x.f4; have := encU_len x.f5.length; have := encDs_len x.f5; have := show bulkS x = 90 + bulkL x.f3 + bulkHs x.f4 + bulkDs x.f5 from rfl; (try simp only [List.length_append]); omega)).mono ?_
  rintro e w7 ⟨rfl, hk, hb, ho⟩
  have K7 := Aside0.mk hk
  have B7 := Aside0.mk (B6.out.trans hb)
  have O7 := Aside0.mk (O6.out.trans ho)
  have R7 := Aside0.mk (ho.row R6.out (by decide) (by decide))
  have X7 := Aside0.mk (ho.row X6.out (by decide) (by decide))
  clear hk hb ho cx c5
  go_wp2_with fail
  go_end0
  have e : xs ++ encS x = xs ++ encI x.f0 ++ encI x.f1 ++ encI x.f2 ++ (encU x.f3.length ++ encLs x.f3) ++ (encU x.f4.length ++ encHs x.f4) ++ (encU x.f5.length ++ encDs x.f5) := by
    unfold encS
    simp only [List.append_assoc]
  rw [e]
  exact ⟨rfl, K7.out, B7.out, O7.out⟩
theorem put_state (key : Int) (most br : Nat) (ys : List Int) (W : World) (hm : most ≤ 1000000000)
    (hF : ∀ g W', WrAt g W.heap.size [key] W' → Below W.heap.size W W' → Calls Try.prog 81 #[ptr g, ptr br] W' fun e w' => e = .returned (.tuple #[]) ∧ WrAt g W.heap.size ([key] ++ ys) w' ∧ Below W.heap.size W' w' ∧ Others W' w') :
    Calls Try.prog 50 #[.int .u8 key, .int .i64 (most : Int), .func (.func 81) #[] #[ptr br]] W fun e w' => ∃ v, e = .returned (.tuple #[v, .int .i64 (putCode most (key :: ys))]) ∧ (Kd.int .u8).R 5 w' W.heap.size (fun _ => True) v (putOut most (key :: ys)) ∧ Below W.heap.size W w' := by
  have HF := Aside0.mk hF
  have HM := Aside0.mk hm
  clear hF hm
  go_enter Try.func50, Try.ntmps50
  go_upto_region 2 with fail
  have ha1 : (W.alloc (.cells #[.int .u8 key] 5)).heap[W.heap.size]? = some (.cells #[.int .u8 key] 5 (0, 0)) := heap_alloc_new W _
  have hs1 : (W.alloc (.cells #[.int .u8 key] 5)).heap.size = W.heap.size + 1 := by simp
  have hb1 : Below W.heap.size W (W.alloc (.cells #[.int .u8 key] 5)) := below_alloc (Below.refl _ _) _
  obtain ⟨B, hB⟩ : ∃ B, W.heap.size = B := ⟨_, rfl⟩
  have HB := Aside0.mk hB
  rw [hB] at ha1 hs1 hb1 ⊢
  generalize W.alloc (.cells #[.int .u8 key] 5) = wx at *
  have hr2 : Rt 146 wx.heap.size [.slice (some ⟨B, 0, none⟩) 1 1] (wx.alloc (.cells #[.slice (some ⟨B, 0, none⟩) 1 1] 146)) := heap_alloc_new wx _
  have hb2 : Below wx.heap.size wx (wx.alloc (.cells #[.slice (some ⟨B, 0, none⟩) 1 1] 146)) := below_alloc (Below.refl _ _) _
  have hk := key_row (B := B) ((hb2.block B (by omega)).trans ha1) (Nat.le_refl _)
  have K1 := Aside0.mk (show WrAt (B + 1) B [key] (wx.alloc (.cells #[.slice (some ⟨B, 0, none⟩) 1 1] 146)) from ⟨⟨_, by rw [hs1] at hr2; exact hr2, hk⟩, Nat.le_succ _⟩)
  have B1 := Aside0.mk (show Below B W (wx.alloc (.cells #[.slice (some ⟨B, 0, none⟩) 1 1] 146)) from hb1.trans (hb2.mono (by omega)))
  clear ha1 hs1 hb1 hr2 hb2 hk hB
  generalize wx.alloc (.cells #[.slice (some ⟨B, 0, none⟩) 1 1] 146) = w1 at *
  obtain ⟨g, hg⟩ : ∃ g, B + 1 = g := ⟨_, rfl⟩
  have k1 := K1.out
  rw [hg] at k1 ⊢
  have K1 := Aside0.mk k1
  have HFN := HF.out g w1 (by rw [HB.out]; exact K1.out) (by rw [HB.out]; exact B1.out)
  rw [HB.out] at HFN
  have HFN := Aside0.mk HFN
  clear k1 hg HF
  go_wp2_with fail
  go_at_call 81
  refine HFN.out.mono ?_
  rintro e w2 ⟨rfl, hk, hb, ho⟩
  obtain ⟨ys2, hys⟩ : ∃ ys2, [key] ++ ys = ys2 := ⟨_, rfl⟩
  rw [hys] at hk
  have HYS := Aside0.mk (show key :: ys = ys2 from hys)
  obtain ⟨v, hr, hR⟩ := hk.ex
  have B2 := Aside0.mk (B1.out.trans hb)
  obtain ⟨Av, cv, rfl⟩ := Kd.R_slice hR
  obtain ⟨m, hm2⟩ : ∃ m, ys2.length = m := ⟨_, rfl⟩
  have HRR := Aside0.mk hR
  have HM2 := Aside0.mk hm2
  rw [hm2] at hr
  have c0 := hr.cell 0 _ rfl
  clear hk hb ho hr hR hm2 hys HFN K1 B1
  by_cases hmo : most < m
  · have d1 : decide ((most : Int) < (m : Int)) = true := decide_eq_true (by omega)
    have d2 : decide (most < m) = true := decide_eq_true hmo
    have HMO := Aside0.mk hmo
    clear hmo
    go_wp2_with fail
    go_ret2
    rw [HYS.out, HB.out]
    refine ⟨.slice none 0 0, ?_, ?_, B2.out⟩
    · unfold putCode
      rw [HM2.out, if_pos HMO.out]
      rfl
    · unfold putOut
      rw [HM2.out, if_pos HMO.out]
      exact Kd.R_nil _ _ _ _ _
  · have d1 : decide ((most : Int) < (m : Int)) = false := decide_eq_false (by omega)
    have d2 : decide (most < m) = false := decide_eq_false hmo
    have HMO := Aside0.mk hmo
    clear hmo
    go_wp2_with fail
    go_ret2
    rw [HYS.out, HB.out]
    refine ⟨.slice Av m cv, ?_, ?_, B2.out⟩
    · unfold putCode
      rw [HM2.out, if_neg HMO.out]
      rfl
    · unfold putOut
      rw [HM2.out, if_neg HMO.out, ← HM2.out]
      exact HRR.out
theorem PutState_at (x : StD) (W : World) (Al : Option Addr) (cl : Nat) (hCl : Kd.C k28 W Al x.f3.length x.f3) (Ah : Option Addr) (ch : Nat) (hCh : Kd.C k121 W Ah x.f4.length x.f4) (Ad : Option Addr) (cd : Nat) (hCd : Kd.C k123 W Ad x.f5.length x.f5) (h0 : Int64 x.f0) (h1 : Int64 x.f1) (h2 : Int64 x.f2) (h3 : LevOk x.f3) (h4 : HeldsOk x.f4) (h5 : DonesOk x.f5) (hl : bulkS x + 3000 < 140737488355328) :
    Calls Try.prog 34 #[.agg #[.int .i64 x.f0, .int .i64 x.f1, .int .i64 x.f2, .slice Al x.f3.length cl, .slice Ah x.f4.length ch, .slice Ad x.f5.length cd]] W fun e w' => ∃ v, e = .returned (.tuple #[v, .int .i64 (putCode 131072 (84 :: encS x))]) ∧ (Kd.int .u8).R 5 w' W.heap.size (fun _ => True) v (putOut 131072 (84 :: encS x)) ∧ Below W.heap.size W w' := by
  have HL := Aside0.mk hl
  have HCl := Aside0.mk hCl
  have HCh := Aside0.mk hCh
  have HCd := Aside0.mk hCd
  have H0 := Aside0.mk h0
  have H1 := Aside0.mk h1
  have H2 := Aside0.mk h2
  have H3 := Aside0.mk h3
  have H4 := Aside0.mk h4
  have H5 := Aside0.mk h5
  have hr1 : Rt 58 W.heap.size [.int .i64 x.f0, .int .i64 x.f1, .int .i64 x.f2, .slice Al x.f3.length cl, .slice Ah x.f4.length ch, .slice Ad x.f5.length cd] (W.alloc (.cells #[.int .i64 x.f0, .int .i64 x.f1, .int .i64 x.f2, .slice Al x.f3.length cl, .slice Ah x.f4.length ch, .slice Ad x.f5.length cd] 58)) := heap_alloc_new W _
  have hb1 : Below W.heap.size W (W.alloc (.cells #[.int .i64 x.f0, .int .i64 x.f1, .int .i64 x.f2, .slice Al x.f3.length cl, .slice Ah x.f4.length ch, .slice Ad x.f5.length cd] 58)) := below_alloc (Below.refl _ _) _
  have hmf : ∀ (fn : Fn) (first cap : Array Value) (w : World), (Instr.makeFunc fn first cap).run Try.prog w = .ok (.func fn first cap) w := fun _ _ _ _ => rfl
  clear hl hCl hCh hCd h0 h1 h2 h3 h4 h5
  go_enter Try.func34, Try.ntmps34
  go_upto_region 1 with fail
  obtain ⟨b, hb⟩ : ∃ b, W.heap.size = b := ⟨_, rfl⟩
  have HB := Aside0.mk hb1
  have HBE := Aside0.mk hb
  rw [hb] at hr1 ⊢
  have HR := Aside0.mk hr1
  clear hr1 hb1 hb
  generalize W.alloc (.cells #[.int .i64 x.f0, .int .i64 x.f1, .int .i64 x.f2, .slice Al x.f3.length cl, .slice Ah x.f4.length ch, .slice Ad x.f5.length cd] 58) = w1 at *
  have HPUT := Aside0.mk (put_state 84 131072 b (encS x) w1 (by decide) (fun g W' hk hb => w_state hk (HB.out.trans (hb.mono HB.out.size)) HB.out.size x Al cl HCl.out Ah ch HCh.out Ad cd HCd.out H0.out H1.out H2.out H3.out H4.out H5.out (HR.out.below hb) (by have := HL.out; simp only [List.length_singleton]; omega)))
  go_wp2_with fail
  go_at_call 50
  refine HPUT.out.mono ?_
  rintro e w2 ⟨v, rfl, hR, hb⟩
  have HRR := Aside0.mk (show (Kd.int .u8).R 5 w2 W.heap.size (fun _ => True) v (putOut 131072 (84 :: encS x)) from Kd.R_lower hR HB.out.size)
  have HBB := Aside0.mk (HB.out.trans (hb.mono HB.out.size))
  obtain ⟨Av, cv, ev⟩ := Kd.R_slice hR
  obtain ⟨m, hm⟩ : ∃ m, (putOut 131072 (84 :: encS x)).length = m := ⟨_, rfl⟩
  rw [hm] at ev
  subst ev
  clear hR hb hm hmf HPUT
  go_wp2_with fail
  go_ret2
  rw [HBE.out] at *
  exact ⟨_, rfl, HRR.out, HBB.out⟩
end Go.Proofs.Ytafmoglaockepaa.Cd
end
section
namespace Go.Proofs.Ytafmoglaockepaa.Cd
open Go Go.RowKit Go.Proofs.Ytafmoglaockepaa.Num Go.Proofs.Ytafmoglaockepaa.PG Go.Proofs.YtafmoglaockepaaW.PrintWords Go.Proofs.YtafmoglaockepaaW.PrintLast Go.Proofs.YtafmoglaockepaaW.PrintMore
set_option linter.unusedVariables false
set_option linter.unusedSimpArgs false
theorem bulkN_count : ∀ l : List S110, 20 * l.length ≤ bulkN l
  | [] => by simp [bulkN]
  | x :: l => by
    have := bulkN_count l
    simp only [bulkN, List.map_cons, List.sum_cons, List.length_cons] at this ⊢
    omega
theorem bulkHs_count : ∀ l : List S121, 20 * l.length ≤ bulkHs l
  | [] => by simp [bulkHs]
  | x :: l => by
    have := bulkHs_count l
    have := bulkH_ge x
    simp only [bulkHs, List.map_cons, List.sum_cons, List.length_cons] at *
    omega
theorem bulkDs_count : ∀ l : List S123, 20 * l.length ≤ bulkDs l
  | [] => by simp [bulkDs]
  | x :: l => by
    have := bulkDs_count l
    have := bulkD_ge x
    simp only [bulkDs, List.map_cons, List.sum_cons, List.length_cons] at *
    omega
theorem bulkN_cons (x : S110) (l : List S110) : bulkN (x :: l) = 20 + x.f0.size + bulkN l := by simp [bulkN]
theorem encNs_cons (x : S110) (l : List S110) : encNs (x :: l) = encN x ++ encNs l := by simp [encNs]
theorem bulkHs_cons (x : S121) (l : List S121) : bulkHs (x :: l) = bulkH x + bulkHs l := by simp [bulkHs]
theorem encHs_cons (x : S121) (l : List S121) : encHs (x :: l) = encH x ++ encHs l := by simp [encHs]
theorem bulkDs_cons (x : S123) (l : List S123) : bulkDs (x :: l) = bulkD x + bulkDs l := by simp [bulkDs]
theorem encDs_cons (x : S123) (l : List S123) : encDs (x :: l) = encD x ++ encDs l := by simp [encDs]
theorem lines_l0 (l : List S110) (hlo : LinOk l) (hll : l.length < 9223372036854775807) : ∀ (d i k : Nat) (x0 : List Int), d + 12 ≤ k → i + d = l.length → x0.length + bulkN (l.drop i) + 100 < 140737488355328 → larderref09_lines.l0 k x0 l (i : Int) = some (x0 ++ encNs (l.drop i))
  | 0, i, k, x0, hk, h, hb => by
    obtain ⟨k, rfl⟩ : ∃ q, k = q + 1 := ⟨k - 1, by omega⟩
    unfold larderref09_lines.l0
    rw [if_neg (by omega), List.drop_of_length_le (by omega)]
    simp [encNs]
  | d + 1, i, k, x0, hk, h, hb => by
    obtain ⟨k, rfl⟩ : ∃ q, k = q + 1 := ⟨k - 1, by omega⟩
    obtain ⟨x, hx⟩ : ∃ x, l[i]? = some x := ⟨_, List.getElem?_eq_getElem (by omega)⟩
    have hrd : rd_T110 l (i : Int) = x := by unfold rd_T110; rw [Int.toNat_natCast, List.getD_eq_getElem?_getD, hx]; rfl
    have he := drop_at hx
    have hm := hlo x (List.mem_of_getElem? hx)
    have ih := lines_l0 l hlo hll d (i + 1) k (x0 ++ encT x.f0 ++ encI x.f1) (by omega) (by omega)
    rw [he, bulkN_cons] at hb
    rw [he, encNs_cons]
    have t0 := encT_len x.f0
    have t1 := encI_len x.f1
    unfold larderref09_lines.l0
    have hl2 := (List.getElem?_eq_some_iff.1 hx).1
    have hi63 : i < 9223372036854775807 := by omega
    rw [if_pos (by omega), if_pos (by omega), hrd, refPutText_ok _ (by omega) _ _ (by omega), Option.bind_some, refPutInt' _ (by omega) _ _ hm (by rw [List.length_append]; omega), Option.bind_some, w64n hi63]
    rw [ih (by simp only [List.length_append]; omega)]
    unfold encN
    simp only [List.append_assoc]
theorem lines_ok (l : List S110) (hlo : LinOk l) (x0 : List Int) (hb : x0.length + bulkN l + 200 < 140737488355328) (k : Nat) (hk : l.length + 12 ≤ k) : larderref09_lines.f k x0 l = some (x0 ++ (encU l.length ++ encNs l)) := by
  have hc := bulkN_count l
  have hu := encU_len l.length
  unfold larderref09_lines.f
  rw [count_ok _ (by omega) _ _ (by omega) (by omega), Option.bind_some]
  have := lines_l0 l hlo (by omega) l.length 0 k (x0 ++ encU l.length) hk (by omega) (by rw [List.drop_zero, List.length_append]; omega)
  rw [List.drop_zero] at this
  have e0 : ((0 : Nat) : Int) = 0 := rfl
  rw [e0] at this
  rw [this, List.append_assoc]
theorem levels_l0' (l : List S28) (hlo : LevOk l) (hll : l.length < 9223372036854775807) : ∀ (d i k : Nat) (x0 : List Int), d + 12 ≤ k → i + d = l.length → x0.length + bulkL (l.drop i) + 100 < 140737488355328 → larderref09_levels.l0 k x0 l (i : Int) = some (x0 ++ encLs (l.drop i))
  | 0, i, k, x0, hk, h, hb => by
    obtain ⟨k, rfl⟩ : ∃ q, k = q + 1 := ⟨k - 1, by omega⟩
    unfold larderref09_levels.l0
    rw [if_neg (by omega), List.drop_of_length_le (by omega)]
    simp [encLs]
  | d + 1, i, k, x0, hk, h, hb => by
    obtain ⟨k, rfl⟩ : ∃ q, k = q + 1 := ⟨k - 1, by omega⟩
    obtain ⟨x, hx⟩ : ∃ x, l[i]? = some x := ⟨_, List.getElem?_eq_getElem (by omega)⟩
    have hrd : rd_T28 l (i : Int) = x := by unfold rd_T28; rw [Int.toNat_natCast, List.getD_eq_getElem?_getD, hx]; rfl
    have he := drop_at hx
    have hm := hlo x (List.mem_of_getElem? hx)
    have ih := levels_l0' l hlo hll d (i + 1) k (x0 ++ encT x.f0 ++ encI x.f1 ++ encI x.f2) (by omega) (by omega)
    rw [he, bulkL_cons] at hb
    rw [he, encLs_cons]
    have t0 := encT_len x.f0
    have t1 := encI_len x.f1
    have t2 := encI_len x.f2
    unfold larderref09_levels.l0
    have hl2 := (List.getElem?_eq_some_iff.1 hx).1
    have hi63 : i < 9223372036854775807 := by omega
    rw [if_pos (by omega), if_pos (by omega), hrd, refPutText_ok _ (by omega) _ _ (by omega), Option.bind_some, refPutInt' _ (by omega) _ _ hm.1 (by rw [List.length_append]; omega), Option.bind_some, refPutInt' _ (by omega) _ _ hm.2 (by rw [List.length_append, List.length_append]; omega), Option.bind_some, w64n hi63]
    rw [ih (by simp only [List.length_append]; omega)]
    unfold encL
    simp only [List.append_assoc]
theorem levels_ok' (l : List S28) (hlo : LevOk l) (x0 : List Int) (hb : x0.length + bulkL l + 200 < 140737488355328) (k : Nat) (hk : l.length + 12 ≤ k) : larderref09_levels.f k x0 l = some (x0 ++ (encU l.length ++ encLs l)) := by
  have hc := bulkL_count l
  have hu := encU_len l.length
  unfold larderref09_levels.f
  rw [count_ok _ (by omega) _ _ (by omega) (by omega), Option.bind_some]
  have := levels_l0' l hlo (by omega) l.length 0 k (x0 ++ encU l.length) hk (by omega) (by rw [List.drop_zero, List.length_append]; omega)
  rw [List.drop_zero] at this
  have e0 : ((0 : Nat) : Int) = 0 := rfl
  rw [e0] at this
  rw [this, List.append_assoc]
theorem fields_ok (q : S40) (hq : ReqOk q) (x0 : List Int) (hb : x0.length + bulkQ q + 300 < 140737488355328) (k : Nat) (hk : q.f2.length + 12 ≤ k) : larderref09_fields.f k x0 q.f0 q.f1 q.f2 q.f3 q.f4 q.f5 = some (x0 ++ encQ q) := by
  obtain ⟨h1, h2, h3, h4⟩ := hq
  have t0 := encT_len q.f0
  have t1 := encI_len q.f1
  have t3 := encU_len q.f2.length
  have t4 := encNs_len q.f2
  have t5 := encT_len q.f3
  have t6 := encI_len q.f4
  have t7 := encI_len q.f5
  have t8 := show bulkQ q = 60 + q.f0.size + q.f3.size + bulkN q.f2 from rfl
  unfold larderref09_fields.f
  rw [refPutText_ok _ (by omega) _ _ (by omega), Option.bind_some, refPutInt' _ (by omega) _ _ h1 (by simp only [List.length_append]; omega), Option.bind_some,
    lines_ok q.f2 h2 _ (by simp only [List.length_append]; omega) k hk, Option.bind_some, refPutText_ok _ (by omega) _ _ (by simp only [List.length_append]; omega), Option.bind_some,
    refPutInt' _ (by omega) _ _ h3 (by simp only [List.length_append]; omega), Option.bind_some, refPutInt' _ (by omega) _ _ h4 (by simp only [List.length_append]; omega), Option.bind_some]
  unfold encQ encReq
  simp only [List.append_assoc]
theorem done_l1 (l : List S123) (hlo : DonesOk l) (hll : l.length < 9223372036854775807) (M : Nat) (hM : ∀ x ∈ l, x.f0.f2.length ≤ M) (z0 z1 z2 : Int) (z3 : List S28) (z4 : List S121) : ∀ (d i k : Nat) (x0 : List Int), d + M + 14 ≤ k → i + d = l.length → x0.length + bulkDs (l.drop i) + 500 < 140737488355328 →
    larderref09_PutState.l1 k x0 (i : Int) z0 z1 z2 z3 z4 l = some (putOut 131072 (x0 ++ encDs (l.drop i)), putCode 131072 (x0 ++ encDs (l.drop i)))
  | 0, i, k, x0, hk, h, hb => by
    obtain ⟨k, rfl⟩ : ∃ q, k = q + 1 := ⟨k - 1, by omega⟩
    unfold larderref09_PutState.l1
    have hw := within_ok x0 131072
    rw [if_neg (by omega), List.drop_of_length_le (by omega), show (131072 : Int) = ((131072 : Nat) : Int) from rfl, hw]
    simp [encDs]
  | d + 1, i, k, x0, hk, h, hb => by
    obtain ⟨k, rfl⟩ : ∃ q, k = q + 1 := ⟨k - 1, by omega⟩
    obtain ⟨x, hx⟩ : ∃ x, l[i]? = some x := ⟨_, List.getElem?_eq_getElem (by omega)⟩
    have hrd : rd_T123 l (i : Int) = x := by unfold rd_T123; rw [Int.toNat_natCast, List.getD_eq_getElem?_getD, hx]; rfl
    have he := drop_at hx
    have hmem := List.mem_of_getElem? hx
    have hm := hlo x hmem
    have hmm := hM x hmem
    have ih := done_l1 l hlo hll M hM z0 z1 z2 z3 z4 d (i + 1) k (x0 ++ encQ x.f0 ++ encI x.f1) (by omega) (by omega)
    rw [he, bulkDs_cons] at hb
    rw [he, encDs_cons]
    have t0 := encQ_len x.f0
    have t1 := encI_len x.f1
    have t2 := show bulkD x = 20 + bulkQ x.f0 from rfl
    unfold larderref09_PutState.l1
    have hl2 := (List.getElem?_eq_some_iff.1 hx).1
    have hi63 : i < 9223372036854775807 := by omega
    rw [if_pos (by omega), if_pos (by omega), hrd, fields_ok x.f0 hm.1 _ (by omega) k (by omega), Option.bind_some, refPutInt' _ (by omega) _ _ hm.2 (by rw [List.length_append]; omega), Option.bind_some, w64n hi63]
    rw [ih (by simp only [List.length_append]; omega)]
    unfold encD
    simp only [List.append_assoc]
theorem held_l0 (l : List S121) (hlo : HeldsOk l) (hll : l.length < 9223372036854775807) (l5 : List S123) (hlo5 : DonesOk l5) (M : Nat) (hM : ∀ x ∈ l, x.f1.length ≤ M) (hM5 : ∀ x ∈ l5, x.f0.f2.length ≤ M) (z0 z1 z2 : Int) (z3 : List S28) : ∀ (d i k : Nat) (x0 : List Int), d + l5.length + M + 20 ≤ k → i + d = l.length → x0.length + bulkHs (l.drop i) + bulkDs l5 + 900 < 140737488355328 →
    larderref09_PutState.l0 k x0 (i : Int) z0 z1 z2 z3 l l5 = some (putOut 131072 (x0 ++ encHs (l.drop i) ++ (encU l5.length ++ encDs l5)), putCode 131072 (x0 ++ encHs (l.drop i) ++ (encU l5.length ++ encDs l5)))
  | 0, i, k, x0, hk, h, hb => by
    obtain ⟨k, rfl⟩ : ∃ q, k = q + 1 := ⟨k - 1, by omega⟩
    have hc := bulkDs_count l5
    have hu := encU_len l5.length
    unfold larderref09_PutState.l0
    have := done_l1 l5 hlo5 (by omega) M hM5 z0 z1 z2 z3 l l5.length 0 k (x0 ++ encU l5.length) (by omega) (by omega) (by rw [List.drop_zero, List.length_append]; omega)
    rw [List.drop_zero] at this
    have e0 : ((0 : Nat) : Int) = 0 := rfl
    rw [e0] at this
    rw [if_neg (by omega), List.drop_of_length_le (by omega), count_ok _ (by omega) _ _ (by omega) (by omega), Option.bind_some, this]
    simp [encHs]
  | d + 1, i, k, x0, hk, h, hb => by
    obtain ⟨k, rfl⟩ : ∃ q, k = q + 1 := ⟨k - 1, by omega⟩
    obtain ⟨x, hx⟩ : ∃ x, l[i]? = some x := ⟨_, List.getElem?_eq_getElem (by omega)⟩
    have hrd : rd_T121 l (i : Int) = x := by unfold rd_T121; rw [Int.toNat_natCast, List.getD_eq_getElem?_getD, hx]; rfl
    have he := drop_at hx
    have hmem := List.mem_of_getElem? hx
    have hm := hlo x hmem
    have hmm := hM x hmem
    have ih := held_l0 l hlo hll l5 hlo5 M hM hM5 z0 z1 z2 z3 d (i + 1) k (x0 ++ encT x.f0 ++ (encU x.f1.length ++ encNs x.f1) ++ encI x.f2) (by omega) (by omega)
    rw [he, bulkHs_cons] at hb
    rw [he, encHs_cons]
    have t0 := encT_len x.f0
    have t1 := encI_len x.f2
    have t2 := encU_len x.f1.length
    have t3 := encNs_len x.f1
    have t4 := show bulkH x = 40 + x.f0.size + bulkN x.f1 from rfl
    unfold larderref09_PutState.l0
    have hl2 := (List.getElem?_eq_some_iff.1 hx).1
    have hi63 : i < 9223372036854775807 := by omega
    rw [if_pos (by omega), if_pos (by omega), hrd, refPutText_ok _ (by omega) _ _ (by omega), Option.bind_some, lines_ok x.f1 hm.1 _ (by rw [List.length_append]; omega) k (by omega), Option.bind_some, refPutInt' _ (by omega) _ _ hm.2 (by simp only [List.length_append]; omega), Option.bind_some, w64n hi63]
    rw [ih (by simp only [List.length_append]; omega)]
    unfold encH
    simp only [List.append_assoc]
theorem refPutState_ok (x : StD) (h0 : Int64 x.f0) (h1 : Int64 x.f1) (h2 : Int64 x.f2) (h3 : LevOk x.f3) (h4 : HeldsOk x.f4) (h5 : DonesOk x.f5) (hb : bulkS x + 2000 < 140737488355328) (M : Nat) (hM3 : x.f3.length ≤ M) (hM4 : ∀ y ∈ x.f4, y.f1.length ≤ M) (hM5 : ∀ y ∈ x.f5, y.f0.f2.length ≤ M) (k : Nat) (hk : x.f4.length + x.f5.length + M + 20 ≤ k) :
    larderref09_PutState.f k x.f0 x.f1 x.f2 x.f3 x.f4 x.f5 = some (putOut 131072 (84 :: encS x), putCode 131072 (84 :: encS x)) := by
  have t0 := encI_len x.f0
  have t1 := encI_len x.f1
  have t2 := encI_len x.f2
  have t3 := encU_len x.f3.length
  have t4 := encLs_len x.f3
  have t5 := encU_len x.f4.length
  have t6 := show bulkS x = 90 + bulkL x.f3 + bulkHs x.f4 + bulkDs x.f5 from rfl
  have hc := bulkHs_count x.f4
  unfold larderref09_PutState.f
  rw [refPutInt' _ (by omega) _ _ h0 (by simp only [List.length_singleton]; omega), Option.bind_some, refPutInt' _ (by omega) _ _ h1 (by simp only [List.length_append, List.length_singleton]; omega), Option.bind_some, refPutInt' _ (by omega) _ _ h2 (by simp only [List.length_append, List.length_singleton]; omega), Option.bind_some,
    levels_ok' x.f3 h3 _ (by simp only [List.length_append, List.length_singleton]; omega) k (by omega), Option.bind_some, count_ok _ (by omega) _ _ (by omega) (by simp only [List.length_append, List.length_singleton]; omega), Option.bind_some]
  have := held_l0 x.f4 h4 (by omega) x.f5 h5 M hM4 hM5 x.f0 x.f1 x.f2 x.f3 x.f4.length 0 k ([84] ++ encI x.f0 ++ encI x.f1 ++ encI x.f2 ++ (encU x.f3.length ++ encLs x.f3) ++ encU x.f4.length) (by omega) (by omega) (by rw [List.drop_zero]; simp only [List.length_append, List.length_singleton]; omega)
  rw [List.drop_zero] at this
  have e0 : ((0 : Nat) : Int) = 0 := rfl
  rw [e0] at this
  rw [this]
  unfold encS
  simp only [List.append_assoc, List.cons_append, List.nil_append]
end Go.Proofs.Ytafmoglaockepaa.Cd
end
section
namespace Go.Proofs.Ytafmoglaockepaa.Cd
open Go Go.RowKit Go.Proofs.Ytafmoglaockepaa.Num Go.Proofs.Ytafmoglaockepaa.PG Go.Proofs.YtafmoglaockepaaW.PrintWords Go.Proofs.YtafmoglaockepaaW.PrintLast Go.Proofs.YtafmoglaockepaaW.PrintMore
set_option linter.unusedVariables false
set_option linter.unusedSimpArgs false
set_option maxHeartbeats 4000000
set_option maxRecDepth 100000
structure QAt (g B : Nat) (A : Option Addr) (n c : Nat) (xs : List Int) (most m : Nat) (e p : Int) (W : World) : Prop where
  row : Rt 137 g [Value.slice A n c, .int .i64 (m : Int), .int .i64 (most : Int), .int .i64 e, .int .i64 p] W
  foot : ∀ W', Below B W W' → Kd.C (Kd.int .u8) W' A n xs
  b : B ≤ g
  nc : n ≤ c
  le : e = 0 → m ≤ n
  big : n < 1000000000
  mb : most < 1000000000
  by_ : IsBytes xs
def QSt {α : Type} (g B : Nat) (A : Option Addr) (n c : Nat) (xs : List Int) (most : Nat) (r : Res α) (W : World) : Prop :=
  match r with
  | .ok _ m => QAt g B A n c xs most m 0 0 W
  | .fail e p => e ≠ 0 ∧ ∃ m, QAt g B A n c xs most m e p W
def OutQ {α : Type} (g B : Nat) (A : Option Addr) (n c : Nat) (xs : List Int) (most : Nat) (enc : α → Value → World → Prop) (r : Res α) (e : Ending) (w' : World) : Prop :=
  ∃ x v, e = .returned v ∧ enc x v w' ∧ (∀ y m, r = .ok y m → y = x) ∧ QSt g B A n c xs most r w'
variable {g B : Nat} {A : Option Addr} {n c : Nat} {xs : List Int} {most : Nat}
theorem QAt.len {m : Nat} {e p : Int} {W : World} (k : QAt g B A n c xs most m e p W) : xs.length = n := Kd.C_len (k.foot W (Below.refl _ _))
theorem QAt.size {m : Nat} {e p : Int} {W : World} (k : QAt g B A n c xs most m e p W) : B ≤ W.heap.size := Nat.le_of_lt (Nat.lt_of_le_of_lt k.b k.row.lt)
theorem QAt.aside {m : Nat} {e p : Int} {W W' : World} (k : QAt g B A n c xs most m e p W) (hb : Below B W W') (hg : W'.heap[g]? = W.heap[g]?) : QAt g B A n c xs most m e p W' :=
  { k with row := hg.trans k.row, foot := fun W2 hb2 => k.foot W2 (hb.trans hb2) }
theorem QAt.below {m : Nat} {e p : Int} {W W' : World} (k : QAt g B A n c xs most m e p W) (hb : Below W.heap.size W W') : QAt g B A n c xs most m e p W' := k.aside (hb.mono k.size) (hb.block g k.row.lt)
theorem QAt.put {m : Nat} {e p : Int} {W : World} (k : QAt g B A n c xs most m e p W) (m' : Nat) (e' p' : Int) (h : e' = 0 → m' ≤ n) :
    QAt g B A n c xs most m' e' p' (W.setRow g [Value.slice A n c, .int .i64 (m' : Int), .int .i64 (most : Int), .int .i64 e', .int .i64 p'].toArray) ∧ Below B W (W.setRow g [Value.slice A n c, .int .i64 (m' : Int), .int .i64 (most : Int), .int .i64 e', .int .i64 p'].toArray) ∧ Kept W (W.setRow g [Value.slice A n c, .int .i64 (m' : Int), .int .i64 (most : Int), .int .i64 e', .int .i64 p'].toArray) (fun j => j = g) := by
  have hb : Below B W (W.setRow g [Value.slice A n c, .int .i64 (m' : Int), .int .i64 (most : Int), .int .i64 e', .int .i64 p'].toArray) := below_setRow' (Below.refl _ _) k.b _
  refine ⟨{ k with row := k.row.row _, foot := fun W2 hb2 => k.foot W2 (hb.trans hb2), le := h }, hb, ?_⟩
  exact ⟨by rw [setRow_size]; exact Nat.le_refl _, fun j hj hn => setRow_other _ _ _ _ hn⟩
theorem QAt.rest {m : Nat} {W : World} {p : Int} (k : QAt g B A n c xs most m 0 p W) {W' : World} (hb : Below B W W') : Kd.C (Kd.int .u8) W' (if c = m then A else A.map (·.add m)) (xs.drop m).length (xs.drop m) := by
  have hl := k.len
  have hC := k.foot W' hb
  rw [← hl] at hC
  have h1 := k.le rfl
  have h2 := k.nc
  have := Kd.C_drop (m := m) (c := c) hC (by omega) (by omega)
  rwa [show m * (Kd.int .u8).sz = m from Nat.mul_one m] at this
theorem QAt.dl {m : Nat} {e p : Int} {W : World} (k : QAt g B A n c xs most m e p W) : (xs.drop m).length = n - m := by rw [List.length_drop, k.len]
theorem QSt.aside {α : Type} {r : Res α} {W W' : World} (k : QSt g B A n c xs most r W) (hb : Below B W W') (hg : W'.heap[g]? = W.heap[g]?) : QSt g B A n c xs most r W' := by
  cases r with
  | ok x m => exact QAt.aside k hb hg
  | fail e p => exact ⟨k.1, k.2.choose, k.2.choose_spec.aside hb hg⟩
theorem QSt.lt {α : Type} {r : Res α} {W : World} (k : QSt g B A n c xs most r W) : g < W.heap.size := by
  cases r with
  | ok x m => exact (QAt.row k).lt
  | fail e p => exact k.2.choose_spec.row.lt
theorem QSt.b {α : Type} {r : Res α} {W : World} (k : QSt g B A n c xs most r W) : B ≤ g := by
  cases r with
  | ok x m => exact (QAt.b k)
  | fail e p => exact k.2.choose_spec.b
theorem QSt.size {α : Type} {r : Res α} {W : World} (k : QSt g B A n c xs most r W) : B ≤ W.heap.size := Nat.le_of_lt (Nat.lt_of_le_of_lt k.b k.lt)
theorem QSt.below {α : Type} {r : Res α} {W W' : World} (k : QSt g B A n c xs most r W) (hb : Below W.heap.size W W') : QSt g B A n c xs most r W' := k.aside (hb.mono k.size) (hb.block g k.lt)
theorem q_fail {m : Nat} {W : World} (k : QAt g B A n c xs most m 0 0 W) (e p : Int) (he : e ≠ 0) :
    Calls Try.prog 120 #[ptr g, .int .i64 e, .int .i64 p] W fun x w' => x = .returned (.tuple #[]) ∧ QAt g B A n c xs most m e p w' ∧ Below B W w' ∧ Kept W w' (fun j => j = g) := by
  have HK := Aside0.mk k
  have HM := Aside0.mk (k.put m e p (fun h => absurd h he))
  have c3 := k.row.cell 3 _ rfl
  have f3 := k.row.free 3
  have f4 := k.row.free 4
  have c4 := k.row.cell 4 _ rfl
  clear k he
  go_enter Try.func120, Try.ntmps120
  go_upto_region 2 with fail
  have e3 := HK.out.row.set 3 (.int .i64 e)
  have R3 := HK.out.row.row [Value.slice A n c, .int .i64 (m : Int), .int .i64 (most : Int), .int .i64 e, .int .i64 0]
  rw [e3, show [Value.slice A n c, .int .i64 (m : Int), .int .i64 (most : Int), .int .i64 0, .int .i64 0].set 3 (.int .i64 e) = [Value.slice A n c, .int .i64 (m : Int), .int .i64 (most : Int), .int .i64 e, .int .i64 0] from rfl]
  clear e3 c3 f3 c4 f4
  have e4 := R3.set 4 (.int .i64 p)
  rw [setRow_again, show [Value.slice A n c, .int .i64 (m : Int), .int .i64 (most : Int), .int .i64 e, .int .i64 0].set 4 (.int .i64 p) = [Value.slice A n c, .int .i64 (m : Int), .int .i64 (most : Int), .int .i64 e, .int .i64 p] from rfl] at e4
  have c4 := R3.cell 4 _ rfl
  have f4 := R3.free 4
  have HE := Aside0.mk e4
  clear e4
  clear R3
  generalize W.setRow g [Value.slice A n c, .int .i64 (m : Int), .int .i64 (most : Int), .int .i64 e, .int .i64 0].toArray = w1 at *
  go_wp2_with fail
  go_end0
  rw [HE.out]
  exact ⟨rfl, HM.out⟩
theorem q_int_no {m : Nat} {W : World} {e0 p0 : Int} (k : QAt g B A n c xs most m e0 p0 W) (h0 : e0 ≠ 0) :
    Calls Try.prog 66 #[ptr g] W fun e w' => e = .returned (.int .i64 0) ∧ w' = W := by
  have c3 := k.row.cell 3 _ rfl
  have h1 : (e0 == 0) = false := by simpa using h0
  have h2 : decide (e0 = 0) = false := decide_eq_false h0
  have h3 : (e0 != 0) = true := by simpa using h0
  have h4 : decide (e0 ≠ 0) = true := decide_eq_true h0
  clear k
  go_enter Try.func66, Try.ntmps66
  go_wp2_with fail
  go_ret
  exact ⟨rfl, rfl⟩
theorem q_int_ok {m : Nat} {W : World} (k : QAt g B A n c xs most m 0 0 W) :
    Calls Try.prog 66 #[ptr g] W fun e w' => Below B W w' ∧ Kept W w' (fun j => j = g) ∧ OutQ g B A n c xs most (fun x v _ => v = .int .i64 x) (pI xs m) e w' := by
  have HK := Aside0.mk k
  have c1 : (m : Int) ≤ (n : Int) := by have := k.le rfl; omega
  have c2 : (n : Int) ≤ (c : Int) := by have := k.nc; omega
  have c3 : (0 : Int) ≤ (m : Int) := by omega
  have MKS := Aside0.mk (show ∀ w', Below W.heap.size W w' → (fun w' => w'.cell? ⟨g, 0, none⟩ = some (Value.slice A n c) ∧ w'.cell? ⟨g, 1, none⟩ = some (.int .i64 (m : Int)) ∧ w'.cell? ⟨g, 2, none⟩ = some (.int .i64 (most : Int))) w' from fun w' hb => by
    have r := HK.out.row.below hb
    exact ⟨r.cell 0 _ rfl, r.cell 1 _ rfl, r.cell 2 _ rfl⟩)
  have ce := k.row.cell 3 _ rfl
  clear k
  have hdl := HK.out.dl
  obtain ⟨q, hq⟩ : ∃ q, ig (ug 0 0 (xs.drop m)) = q := ⟨_, rfl⟩
  have HQ := Aside0.mk hq
  have hpl := (show 0 ≤ (ig (ug 0 0 (xs.drop m))).2.1 ∧ (ig (ug 0 0 (xs.drop m))).2.1 ≤ ((n - m : Nat) : Int) from ug_place xs m n HK.out.len (HK.out.le rfl))
  have HF := Aside0.mk (show ∀ w', Below W.heap.size W w' → Calls Try.prog 122 #[.slice (if c = m then A else A.map (·.add m)) (n - m) (c - m)] w' fun e w2 => e = .returned (.tuple #[.int .i64 q.1, .int .i64 q.2.1, .int .i64 q.2.2]) ∧ Drawn0 w' w2 from fun w' hb => by
    have := larderref01_Int.calls (3 * (xs.drop m).length + 30) (if c = m then A else A.map (·.add m)) (c - m) (xs.drop m) q.1 q.2.1 q.2.2 w' (HK.out.rest (hb.mono HK.out.size)) (by rw [hdl]; have := HK.out.nc; omega) (by rw [ref_int _ (HK.out.by_.drop m) (by rw [hdl]; have := HK.out.big; omega) _ (by omega), hq])
    rwa [hdl] at this)
  rw [hq] at hpl
  obtain ⟨v, d, er⟩ := q
  obtain ⟨dn, hdn⟩ : ∃ dn : Nat, d = (dn : Int) := ⟨d.toNat, by have h1 : 0 ≤ d := hpl.1; omega⟩
  subst hdn
  have HPL := Aside0.mk (show m + dn ≤ n by have h1 : (dn : Int) ≤ ((n - m : Nat) : Int) := hpl.2; have := HK.out.le rfl; omega)
  have hw : wrap64 ((m : Int) + (dn : Int)) = ((m + dn : Nat) : Int) := by have := HK.out.big; have := HPL.out; unfold wrap64; omega
  clear hdl hq hpl
  go_enter Try.func66, Try.ntmps66
  go_upto_region 3 with fail
  refine wp_region_held_drew (S := fun w' => w'.cell? ⟨g, 0, none⟩ = some (Value.slice A n c) ∧ w'.cell? ⟨g, 1, none⟩ = some (.int .i64 (m : Int)) ∧ w'.cell? ⟨g, 2, none⟩ = some (.int .i64 (most : Int))) (by kernel_rfl) (MKS.out _ (below_drew (Below.refl _ _))) (fun hHeld => ?_)
  refine tk (i := 0) (oi := { dst := some 12, op := Op.move (Operand.tmp 0), type := 106, pos := "ref.go:121", after := #[], guard := none }) (v := ?_) (.inl ⟨by rfl, ?_⟩) hHeld ?_
  rotate_left
  · intro w' hS; obtain ⟨hS0, hS1, hS2⟩ := hS; go_simp; all_goals (with_reducible rfl)
  (try simp only [pz])
  refine tk (i := 1) (oi := { dst := some 13, op := Op.nilCheck (Operand.tmp 12), type := 0, pos := "ref.go:121", after := #[(eD 0)], guard := none }) (v := ?_) (.inl ⟨by rfl, ?_⟩) hHeld ?_
  rotate_left
  · intro w' hS; obtain ⟨hS0, hS1, hS2⟩ := hS; go_simp; all_goals (with_reducible rfl)
  (try simp only [pz])
  refine tk (i := 2) (oi := { dst := some 14, op := Op.fieldAddr 137 (Operand.tmp 13) 0, type := 0, pos := "ref.go:121", after := #[(eD 1)], guard := none }) (v := ?_) (.inl ⟨by rfl, ?_⟩) hHeld ?_
  rotate_left
  · intro w' hS; obtain ⟨hS0, hS1, hS2⟩ := hS; go_simp; all_goals (with_reducible rfl)
  (try simp only [pz])
  refine tk (i := 3) (oi := { dst := some 15, op := Op.load 26 (Operand.tmp 14), type := 26, pos := "ref.go:121", after := #[(eD 2)], guard := none }) (v := ?_) (.inl ⟨by rfl, ?_⟩) hHeld ?_
  rotate_left
  · intro w' hS; obtain ⟨hS0, hS1, hS2⟩ := hS; go_simp; all_goals (with_reducible rfl)
  (try simp only [pz])
  refine tk (i := 4) (oi := { dst := some 16, op := Op.move (Operand.tmp 0), type := 106, pos := "ref.go:121", after := #[], guard := none }) (v := ?_) (.inl ⟨by rfl, ?_⟩) hHeld ?_
  rotate_left
  · intro w' hS; obtain ⟨hS0, hS1, hS2⟩ := hS; go_simp; all_goals (with_reducible rfl)
  (try simp only [pz])
  refine tk (i := 5) (oi := { dst := some 17, op := Op.nilCheck (Operand.tmp 16), type := 0, pos := "ref.go:121", after := #[(eD 4)], guard := none }) (v := ?_) (.inl ⟨by rfl, ?_⟩) hHeld ?_
  rotate_left
  · intro w' hS; obtain ⟨hS0, hS1, hS2⟩ := hS; go_simp; all_goals (with_reducible rfl)
  (try simp only [pz])
  refine tk (i := 6) (oi := { dst := some 18, op := Op.fieldAddr 137 (Operand.tmp 17) 1, type := 0, pos := "ref.go:121", after := #[(eD 5)], guard := none }) (v := ?_) (.inl ⟨by rfl, ?_⟩) hHeld ?_
  rotate_left
  · intro w' hS; obtain ⟨hS0, hS1, hS2⟩ := hS; go_simp; all_goals (with_reducible rfl)
  (try simp only [pz])
  refine tk (i := 7) (oi := { dst := some 19, op := Op.load 3 (Operand.tmp 18), type := 3, pos := "ref.go:121", after := #[(eD 6)], guard := none }) (v := ?_) (.inl ⟨by rfl, ?_⟩) hHeld ?_
  rotate_left
  · intro w' hS; obtain ⟨hS0, hS1, hS2⟩ := hS; go_simp; all_goals (with_reducible rfl)
  (try simp only [pz])
  refine tk (i := 8) (oi := { dst := some 20, op := Op.slice 26 (Operand.tmp 15) (some (Operand.tmp 19)) none none, type := 26, pos := "ref.go:121", after := #[(eD 3), (eD 7)], guard := none }) (v := ?_) (.inl ⟨by rfl, ?_⟩) hHeld ?_
  rotate_left
  · intro w' hS; obtain ⟨hS0, hS1, hS2⟩ := hS; go_simp; all_goals (with_reducible rfl)
  (try simp only [pz])
  refine wpAnyH_ready (rs := [9]) (by kernel_rfl) (by simp) ?_
  refine AllReadyH.cons (o := { dst := some 21, op := Op.call { callee := Callee.value (Operand.func 122), args := #[Operand.tmp 20], argTypes := #[26] }, type := 162, pos := "ref.go:121", after := #[(eD 8)], guard := none }) rfl (fun K hK => ?_) AllReadyH.nil
  go_simp
  go_at_call 122
  refine (HF.out _ (below_drew (Below.refl _ _))).mono ?_
  rintro e wa ⟨rfl, hd⟩
  have HB1 := Aside0.mk (show Below W.heap.size W wa from by
    obtain ⟨md, rfl⟩ := hd
    exact pw_below_drewN (below_drew (Below.refl _ _)) md)
  clear hd
  refine hK.out _ _ (MKS.out _ HB1.out) (fun hHeld => ?_)
  clear hK K
  (try simp only [pz])
  refine tk (i := 10) (oi := { dst := some 11, op := Op.move (Operand.tmp 21), type := 162, pos := "ref.go:121", after := #[(eD 9)], guard := none }) (v := ?_) (.inl ⟨by rfl, ?_⟩) hHeld ?_
  rotate_left
  · intro w' hS; obtain ⟨hS0, hS1, hS2⟩ := hS; go_simp; all_goals (with_reducible rfl)
  (try simp only [pz])
  refine tk (i := 11) (oi := { dst := some 22, op := Op.extract (Operand.tmp 11) 0, type := 3, pos := "ref.go:121", after := #[(eD 10)], guard := none }) (v := ?_) (.inl ⟨by rfl, ?_⟩) hHeld ?_
  rotate_left
  · intro w' hS; obtain ⟨hS0, hS1, hS2⟩ := hS; go_simp; all_goals (with_reducible rfl)
  (try simp only [pz])
  refine tk (i := 12) (oi := { dst := some 23, op := Op.extract (Operand.tmp 11) 1, type := 3, pos := "ref.go:121", after := #[(eD 10), (eM 14)], guard := none }) (v := ?_) (.inl ⟨by rfl, ?_⟩) hHeld ?_
  rotate_left
  · intro w' hS; obtain ⟨hS0, hS1, hS2⟩ := hS; go_simp; all_goals (with_reducible rfl)
  (try simp only [pz])
  refine tk (i := 13) (oi := { dst := some 24, op := Op.extract (Operand.tmp 11) 2, type := 22, pos := "ref.go:121", after := #[(eD 10), (eM 15)], guard := none }) (v := ?_) (.inl ⟨by rfl, ?_⟩) hHeld ?_
  rotate_left
  · intro w' hS; obtain ⟨hS0, hS1, hS2⟩ := hS; go_simp; all_goals (with_reducible rfl)
  (try simp only [pz])
  refine tk (i := 14) (oi := { dst := some 3, op := Op.assign (Operand.tmp 22), type := 3, pos := "ref.go:121", after := #[(eD 11), (eC 9), (eP 0), (eP 1), (eP 2), (eP 3), (eP 4), (eP 5), (eP 6), (eP 7), (eP 8), (eP 9), (eP 10), (eP 11), (eL 12), (eL 13)], guard := none }) (v := ?_) (.inl ⟨by rfl, ?_⟩) hHeld ?_
  rotate_left
  · intro w' hS; obtain ⟨hS0, hS1, hS2⟩ := hS; go_simp; all_goals (with_reducible rfl)
  (try simp only [pz])
  refine tk (i := 15) (oi := { dst := some 4, op := Op.assign (Operand.tmp 23), type := 3, pos := "ref.go:121", after := #[(eD 12), (eC 14), (eP 0), (eP 1), (eP 2), (eP 3), (eP 4), (eP 5), (eP 6), (eP 7), (eP 8), (eP 9), (eP 10), (eP 11), (eP 12), (eL 13), (eP 14)], guard := none }) (v := ?_) (.inl ⟨by rfl, ?_⟩) hHeld ?_
  rotate_left
  · intro w' hS; obtain ⟨hS0, hS1, hS2⟩ := hS; go_simp; all_goals (with_reducible rfl)
  (try simp only [pz])
  refine tk (i := 16) (oi := { dst := some 5, op := Op.assign (Operand.tmp 24), type := 22, pos := "ref.go:121", after := #[(eD 13), (eC 15), (eP 0), (eP 1), (eP 2), (eP 3), (eP 4), (eP 5), (eP 6), (eP 7), (eP 8), (eP 9), (eP 10), (eP 11), (eP 12), (eP 13), (eP 14), (eP 15)], guard := none }) (v := ?_) (.inl ⟨by rfl, ?_⟩) hHeld ?_
  rotate_left
  · intro w' hS; obtain ⟨hS0, hS1, hS2⟩ := hS; go_simp; all_goals (with_reducible rfl)
  (try simp only [pz])
  refine wpAnyH_done (by kernel_rfl) ?_ _
  (try simp only [pz])
  clear HF
  generalize (if c = m then A else Option.map (fun x => x.add m) A) = Am at *
  have K1 := Aside0.mk (HK.out.below HB1.out)
  have B1 := Aside0.mk (HB1.out.mono HK.out.size)
  have P1 := Aside0.mk (Kept.of_below HB1.out (fun j => j = g))
  have c1 := K1.out.row.cell 1 _ rfl
  have f1 := K1.out.row.free 1
  by_cases he : er = 0
  rotate_left
  · have HP := Aside0.mk (show pI xs m = Res.fail er ((m : Int) + (dn : Int)) from by
      unfold pI took
      rw [HQ.out, if_neg he])
    have HE := Aside0.mk he
    have h1 : (er == 0) = false := by simpa using he
    have h2 : decide (er = 0) = false := decide_eq_false he
    clear he
    go_wp2_with fail
    go_at_call 120
    refine (q_fail K1.out er _ HE.out).mono ?_
    rintro e w2 ⟨rfl, hk, hb, hkp⟩
    have K2 := Aside0.mk hk
    have B2 := Aside0.mk (B1.out.trans hb)
    have P2 := Aside0.mk (P1.out.then_ hkp (fun _ h => .inl h))
    clear hk hb hkp
    go_wp2_with fail
    go_ret
    refine ⟨B2.out, P2.out, ?_⟩
    rw [HP.out]
    exact ⟨0, _, rfl, rfl, fun y m h => by simp at h, HE.out, m, K2.out⟩
  subst he
  have HP := Aside0.mk (show pI xs m = Res.ok v (m + dn) from by unfold pI took; rw [HQ.out, if_pos rfl]; rfl)
  have HM := Aside0.mk (K1.out.put (m + dn) 0 0 (fun _ => HPL.out))
  go_wp2_with fail
  go_ret
  have e1 := K1.out.row.set 1 (.int .i64 ((m + dn : Nat) : Int))
  rw [show [Value.slice A n c, .int .i64 (m : Int), .int .i64 (most : Int), .int .i64 0, .int .i64 0].set 1 (.int .i64 ((m + dn : Nat) : Int)) = [Value.slice A n c, .int .i64 ((m + dn : Nat) : Int), .int .i64 (most : Int), .int .i64 0, .int .i64 0] from rfl] at e1
  rw [show (m : Int) + (dn : Int) = ((m + dn : Nat) : Int) from by omega, e1]
  refine ⟨B1.out.trans HM.out.2.1, P1.out.then_ HM.out.2.2 (fun _ h => .inl h), ?_⟩
  rw [HP.out]
  exact ⟨v, _, rfl, rfl, fun y m h => by cases h; rfl, HM.out.1⟩
theorem q_int {α : Type} {r : Res α} {W : World} (k : QSt g B A n c xs most r W) :
    Calls Try.prog 66 #[ptr g] W fun e w' => Below B W w' ∧ Kept W w' (fun j => j = g) ∧ OutQ g B A n c xs most (fun x v _ => v = .int .i64 x) (r.bind fun _ m => pI xs m) e w' := by
  cases r with
  | ok x m => exact q_int_ok k
  | fail e p =>
    obtain ⟨he, m, hk⟩ := k
    refine (q_int_no hk he).mono ?_
    rintro e' w' ⟨rfl, rfl⟩
    exact ⟨Below.refl _ _, ⟨Nat.le_refl _, fun _ _ _ => rfl⟩, 0, _, rfl, rfl, (fun y m h => by cases h), he, m, hk⟩
theorem q_text_no {m : Nat} {W : World} {e0 p0 : Int} (k : QAt g B A n c xs most m e0 p0 W) (h0 : e0 ≠ 0) :
    Calls Try.prog 65 #[ptr g] W fun e w' => e = .returned (.string ⟨#[]⟩) ∧ w' = W := by
  have c3 := k.row.cell 3 _ rfl
  have h1 : (e0 == 0) = false := by simpa using h0
  have h2 : decide (e0 = 0) = false := decide_eq_false h0
  have h3 : (e0 != 0) = true := by simpa using h0
  have h4 : decide (e0 ≠ 0) = true := decide_eq_true h0
  clear k
  go_enter Try.func65, Try.ntmps65
  go_wp2_with fail
  go_ret
  exact ⟨rfl, rfl⟩
theorem q_text_ok {m : Nat} {W : World} (k : QAt g B A n c xs most m 0 0 W) :
    Calls Try.prog 65 #[ptr g] W fun e w' => Below B W w' ∧ Kept W w' (fun j => j = g) ∧ OutQ g B A n c xs most (fun x v _ => v = .string x) (pT xs most m) e w' := by
  have HK := Aside0.mk k
  have c1 : (m : Int) ≤ (n : Int) := by have := k.le rfl; omega
  have c2 : (n : Int) ≤ (c : Int) := by have := k.nc; omega
  have c3 : (0 : Int) ≤ (m : Int) := by omega
  have MKS := Aside0.mk (show ∀ w', Below W.heap.size W w' → (fun w' => w'.cell? ⟨g, 0, none⟩ = some (Value.slice A n c) ∧ w'.cell? ⟨g, 1, none⟩ = some (.int .i64 (m : Int)) ∧ w'.cell? ⟨g, 2, none⟩ = some (.int .i64 (most : Int))) w' from fun w' hb => by
    have r := HK.out.row.below hb
    exact ⟨r.cell 0 _ rfl, r.cell 1 _ rfl, r.cell 2 _ rfl⟩)
  have ce := k.row.cell 3 _ rfl
  clear k
  have hdl := HK.out.dl
  obtain ⟨q, hq⟩ : ∃ q, tx (most : Int) (xs.drop m) = q := ⟨_, rfl⟩
  have HQ := Aside0.mk hq
  have hpl := (show 0 ≤ (tx (most : Int) (xs.drop m)).2.1 ∧ (tx (most : Int) (xs.drop m)).2.1 ≤ ((n - m : Nat) : Int) from by have := tx_place (most : Int) (xs.drop m) (HK.out.by_.drop m); rwa [hdl] at this)
  have HF := Aside0.mk (show ∀ w', Below W.heap.size W w' → Calls Try.prog 121 #[.slice (if c = m then A else A.map (·.add m)) (n - m) (c - m), .int .i64 (most : Int)] w' fun e w2 => e = .returned (.tuple #[.string q.1, .int .i64 q.2.1, .int .i64 q.2.2]) ∧ Drawn0 w' w2 from fun w' hb => by
    have := larderref01_Text.calls (3 * (xs.drop m).length + 30) (if c = m then A else A.map (·.add m)) (c - m) (xs.drop m) (most : Int) q.1 q.2.1 q.2.2 w' (HK.out.rest (hb.mono HK.out.size)) (by rw [hdl]; have := HK.out.nc; omega) (by rw [(text_ok (3 * (xs.drop m).length + 30) _ most (HK.out.by_.drop m) (by rw [hdl]; have := HK.out.big; omega) (by omega) (by have := HK.out.mb; omega)).2, hq])
    rwa [hdl] at this)
  rw [hq] at hpl
  obtain ⟨v, d, er⟩ := q
  obtain ⟨dn, hdn⟩ : ∃ dn : Nat, d = (dn : Int) := ⟨d.toNat, by have h1 : 0 ≤ d := hpl.1; omega⟩
  subst hdn
  have HPL := Aside0.mk (show m + dn ≤ n by have h1 : (dn : Int) ≤ ((n - m : Nat) : Int) := hpl.2; have := HK.out.le rfl; omega)
  have hw : wrap64 ((m : Int) + (dn : Int)) = ((m + dn : Nat) : Int) := by have := HK.out.big; have := HPL.out; unfold wrap64; omega
  clear hdl hq hpl
  go_enter Try.func65, Try.ntmps65
  go_upto_region 3 with fail
  refine wp_region_held_drew (S := fun w' => w'.cell? ⟨g, 0, none⟩ = some (Value.slice A n c) ∧ w'.cell? ⟨g, 1, none⟩ = some (.int .i64 (m : Int)) ∧ w'.cell? ⟨g, 2, none⟩ = some (.int .i64 (most : Int))) (by kernel_rfl) (MKS.out _ (below_drew (Below.refl _ _))) (fun hHeld => ?_)
  refine tk (i := 0) (oi := { dst := some 12, op := Op.move (Operand.tmp 0), type := 106, pos := "ref.go:135", after := #[], guard := none }) (v := ?_) (.inl ⟨by rfl, ?_⟩) hHeld ?_
  rotate_left
  · intro w' hS; obtain ⟨hS0, hS1, hS2⟩ := hS; go_simp; all_goals (with_reducible rfl)
  (try simp only [pz])
  refine tk (i := 1) (oi := { dst := some 13, op := Op.nilCheck (Operand.tmp 12), type := 0, pos := "ref.go:135", after := #[(eD 0)], guard := none }) (v := ?_) (.inl ⟨by rfl, ?_⟩) hHeld ?_
  rotate_left
  · intro w' hS; obtain ⟨hS0, hS1, hS2⟩ := hS; go_simp; all_goals (with_reducible rfl)
  (try simp only [pz])
  refine tk (i := 2) (oi := { dst := some 14, op := Op.fieldAddr 137 (Operand.tmp 13) 0, type := 0, pos := "ref.go:135", after := #[(eD 1)], guard := none }) (v := ?_) (.inl ⟨by rfl, ?_⟩) hHeld ?_
  rotate_left
  · intro w' hS; obtain ⟨hS0, hS1, hS2⟩ := hS; go_simp; all_goals (with_reducible rfl)
  (try simp only [pz])
  refine tk (i := 3) (oi := { dst := some 15, op := Op.load 26 (Operand.tmp 14), type := 26, pos := "ref.go:135", after := #[(eD 2)], guard := none }) (v := ?_) (.inl ⟨by rfl, ?_⟩) hHeld ?_
  rotate_left
  · intro w' hS; obtain ⟨hS0, hS1, hS2⟩ := hS; go_simp; all_goals (with_reducible rfl)
  (try simp only [pz])
  refine tk (i := 4) (oi := { dst := some 16, op := Op.move (Operand.tmp 0), type := 106, pos := "ref.go:135", after := #[], guard := none }) (v := ?_) (.inl ⟨by rfl, ?_⟩) hHeld ?_
  rotate_left
  · intro w' hS; obtain ⟨hS0, hS1, hS2⟩ := hS; go_simp; all_goals (with_reducible rfl)
  (try simp only [pz])
  refine tk (i := 5) (oi := { dst := some 17, op := Op.nilCheck (Operand.tmp 16), type := 0, pos := "ref.go:135", after := #[(eD 4)], guard := none }) (v := ?_) (.inl ⟨by rfl, ?_⟩) hHeld ?_
  rotate_left
  · intro w' hS; obtain ⟨hS0, hS1, hS2⟩ := hS; go_simp; all_goals (with_reducible rfl)
  (try simp only [pz])
  refine tk (i := 6) (oi := { dst := some 18, op := Op.fieldAddr 137 (Operand.tmp 17) 1, type := 0, pos := "ref.go:135", after := #[(eD 5)], guard := none }) (v := ?_) (.inl ⟨by rfl, ?_⟩) hHeld ?_
  rotate_left
  · intro w' hS; obtain ⟨hS0, hS1, hS2⟩ := hS; go_simp; all_goals (with_reducible rfl)
  (try simp only [pz])
  refine tk (i := 7) (oi := { dst := some 19, op := Op.load 3 (Operand.tmp 18), type := 3, pos := "ref.go:135", after := #[(eD 6)], guard := none }) (v := ?_) (.inl ⟨by rfl, ?_⟩) hHeld ?_
  rotate_left
  · intro w' hS; obtain ⟨hS0, hS1, hS2⟩ := hS; go_simp; all_goals (with_reducible rfl)
  (try simp only [pz])
  refine tk (i := 8) (oi := { dst := some 20, op := Op.slice 26 (Operand.tmp 15) (some (Operand.tmp 19)) none none, type := 26, pos := "ref.go:135", after := #[(eD 3), (eD 7)], guard := none }) (v := ?_) (.inl ⟨by rfl, ?_⟩) hHeld ?_
  rotate_left
  · intro w' hS; obtain ⟨hS0, hS1, hS2⟩ := hS; go_simp; all_goals (with_reducible rfl)
  (try simp only [pz])
  refine tk (i := 9) (oi := { dst := some 21, op := Op.move (Operand.tmp 0), type := 106, pos := "ref.go:135", after := #[], guard := none }) (v := ?_) (.inl ⟨by rfl, ?_⟩) hHeld ?_
  rotate_left
  · intro w' hS; obtain ⟨hS0, hS1, hS2⟩ := hS; go_simp; all_goals (with_reducible rfl)
  (try simp only [pz])
  refine tk (i := 10) (oi := { dst := some 22, op := Op.nilCheck (Operand.tmp 21), type := 0, pos := "ref.go:135", after := #[(eD 9)], guard := none }) (v := ?_) (.inl ⟨by rfl, ?_⟩) hHeld ?_
  rotate_left
  · intro w' hS; obtain ⟨hS0, hS1, hS2⟩ := hS; go_simp; all_goals (with_reducible rfl)
  (try simp only [pz])
  refine tk (i := 11) (oi := { dst := some 23, op := Op.fieldAddr 137 (Operand.tmp 22) 2, type := 0, pos := "ref.go:135", after := #[(eD 10)], guard := none }) (v := ?_) (.inl ⟨by rfl, ?_⟩) hHeld ?_
  rotate_left
  · intro w' hS; obtain ⟨hS0, hS1, hS2⟩ := hS; go_simp; all_goals (with_reducible rfl)
  (try simp only [pz])
  refine tk (i := 12) (oi := { dst := some 24, op := Op.load 3 (Operand.tmp 23), type := 3, pos := "ref.go:135", after := #[(eD 11)], guard := none }) (v := ?_) (.inl ⟨by rfl, ?_⟩) hHeld ?_
  rotate_left
  · intro w' hS; obtain ⟨hS0, hS1, hS2⟩ := hS; go_simp; all_goals (with_reducible rfl)
  (try simp only [pz])
  refine wpAnyH_ready (rs := [13]) (by kernel_rfl) (by simp) ?_
  refine AllReadyH.cons (o := { dst := some 25, op := Op.call { callee := Callee.value (Operand.func 121), args := #[Operand.tmp 20, Operand.tmp 24], argTypes := #[26, 3] }, type := 159, pos := "ref.go:135", after := #[(eD 8), (eD 12)], guard := none }) rfl (fun K hK => ?_) AllReadyH.nil
  go_simp
  go_at_call 121
  refine (HF.out _ (below_drew (Below.refl _ _))).mono ?_
  rintro e wa ⟨rfl, hd⟩
  have HB1 := Aside0.mk (show Below W.heap.size W wa from by
    obtain ⟨md, rfl⟩ := hd
    exact pw_below_drewN (below_drew (Below.refl _ _)) md)
  clear hd
  refine hK.out _ _ (MKS.out _ HB1.out) (fun hHeld => ?_)
  clear hK K
  (try simp only [pz])
  refine tk (i := 14) (oi := { dst := some 11, op := Op.move (Operand.tmp 25), type := 159, pos := "ref.go:135", after := #[(eD 13)], guard := none }) (v := ?_) (.inl ⟨by rfl, ?_⟩) hHeld ?_
  rotate_left
  · intro w' hS; obtain ⟨hS0, hS1, hS2⟩ := hS; go_simp; all_goals (with_reducible rfl)
  (try simp only [pz])
  refine tk (i := 15) (oi := { dst := some 26, op := Op.extract (Operand.tmp 11) 0, type := 9, pos := "ref.go:135", after := #[(eD 14)], guard := none }) (v := ?_) (.inl ⟨by rfl, ?_⟩) hHeld ?_
  rotate_left
  · intro w' hS; obtain ⟨hS0, hS1, hS2⟩ := hS; go_simp; all_goals (with_reducible rfl)
  (try simp only [pz])
  refine tk (i := 16) (oi := { dst := some 27, op := Op.extract (Operand.tmp 11) 1, type := 3, pos := "ref.go:135", after := #[(eD 14), (eM 18)], guard := none }) (v := ?_) (.inl ⟨by rfl, ?_⟩) hHeld ?_
  rotate_left
  · intro w' hS; obtain ⟨hS0, hS1, hS2⟩ := hS; go_simp; all_goals (with_reducible rfl)
  (try simp only [pz])
  refine tk (i := 17) (oi := { dst := some 28, op := Op.extract (Operand.tmp 11) 2, type := 22, pos := "ref.go:135", after := #[(eD 14), (eM 19)], guard := none }) (v := ?_) (.inl ⟨by rfl, ?_⟩) hHeld ?_
  rotate_left
  · intro w' hS; obtain ⟨hS0, hS1, hS2⟩ := hS; go_simp; all_goals (with_reducible rfl)
  (try simp only [pz])
  refine tk (i := 18) (oi := { dst := some 3, op := Op.assign (Operand.tmp 26), type := 9, pos := "ref.go:135", after := #[(eD 15), (eC 13), (eP 0), (eP 1), (eP 2), (eP 3), (eP 4), (eP 5), (eP 6), (eP 7), (eP 8), (eP 9), (eP 10), (eP 11), (eP 12), (eP 13), (eP 14), (eP 15), (eL 16), (eL 17)], guard := none }) (v := ?_) (.inl ⟨by rfl, ?_⟩) hHeld ?_
  rotate_left
  · intro w' hS; obtain ⟨hS0, hS1, hS2⟩ := hS; go_simp; all_goals (with_reducible rfl)
  (try simp only [pz])
  refine tk (i := 19) (oi := { dst := some 4, op := Op.assign (Operand.tmp 27), type := 3, pos := "ref.go:135", after := #[(eD 16), (eC 18), (eP 0), (eP 1), (eP 2), (eP 3), (eP 4), (eP 5), (eP 6), (eP 7), (eP 8), (eP 9), (eP 10), (eP 11), (eP 12), (eP 13), (eP 14), (eP 15), (eP 16), (eL 17), (eP 18)], guard := none }) (v := ?_) (.inl ⟨by rfl, ?_⟩) hHeld ?_
  rotate_left
  · intro w' hS; obtain ⟨hS0, hS1, hS2⟩ := hS; go_simp; all_goals (with_reducible rfl)
  (try simp only [pz])
  refine tk (i := 20) (oi := { dst := some 5, op := Op.assign (Operand.tmp 28), type := 22, pos := "ref.go:135", after := #[(eD 17), (eC 19), (eP 0), (eP 1), (eP 2), (eP 3), (eP 4), (eP 5), (eP 6), (eP 7), (eP 8), (eP 9), (eP 10), (eP 11), (eP 12), (eP 13), (eP 14), (eP 15), (eP 16), (eP 17), (eP 18), (eP 19)], guard := none }) (v := ?_) (.inl ⟨by rfl, ?_⟩) hHeld ?_
  rotate_left
  · intro w' hS; obtain ⟨hS0, hS1, hS2⟩ := hS; go_simp; all_goals (with_reducible rfl)
  (try simp only [pz])
  refine wpAnyH_done (by kernel_rfl) ?_ _
  (try simp only [pz])
  clear HF
  generalize (if c = m then A else Option.map (fun x => x.add m) A) = Am at *
  have K1 := Aside0.mk (HK.out.below HB1.out)
  have B1 := Aside0.mk (HB1.out.mono HK.out.size)
  have P1 := Aside0.mk (Kept.of_below HB1.out (fun j => j = g))
  have c1 := K1.out.row.cell 1 _ rfl
  have f1 := K1.out.row.free 1
  by_cases he : er = 0
  rotate_left
  · have HP := Aside0.mk (show pT xs most m = Res.fail er ((m : Int) + (dn : Int)) from by
      unfold pT took
      rw [HQ.out, if_neg he])
    have HE := Aside0.mk he
    have h1 : (er == 0) = false := by simpa using he
    have h2 : decide (er = 0) = false := decide_eq_false he
    clear he
    go_wp2_with fail
    go_at_call 120
    refine (q_fail K1.out er _ HE.out).mono ?_
    rintro e w2 ⟨rfl, hk, hb, hkp⟩
    have K2 := Aside0.mk hk
    have B2 := Aside0.mk (B1.out.trans hb)
    have P2 := Aside0.mk (P1.out.then_ hkp (fun _ h => .inl h))
    clear hk hb hkp
    go_wp2_with fail
    go_ret
    refine ⟨B2.out, P2.out, ?_⟩
    rw [HP.out]
    exact ⟨⟨#[]⟩, _, rfl, rfl, fun y m h => by simp at h, HE.out, m, K2.out⟩
  subst he
  have HP := Aside0.mk (show pT xs most m = Res.ok v (m + dn) from by unfold pT took; rw [HQ.out, if_pos rfl]; rfl)
  have HM := Aside0.mk (K1.out.put (m + dn) 0 0 (fun _ => HPL.out))
  go_wp2_with fail
  go_ret
  have e1 := K1.out.row.set 1 (.int .i64 ((m + dn : Nat) : Int))
  rw [show [Value.slice A n c, .int .i64 (m : Int), .int .i64 (most : Int), .int .i64 0, .int .i64 0].set 1 (.int .i64 ((m + dn : Nat) : Int)) = [Value.slice A n c, .int .i64 ((m + dn : Nat) : Int), .int .i64 (most : Int), .int .i64 0, .int .i64 0] from rfl] at e1
  rw [show (m : Int) + (dn : Int) = ((m + dn : Nat) : Int) from by omega, e1]
  refine ⟨B1.out.trans HM.out.2.1, P1.out.then_ HM.out.2.2 (fun _ h => .inl h), ?_⟩
  rw [HP.out]
  exact ⟨v, _, rfl, rfl, fun y m h => by cases h; rfl, HM.out.1⟩
theorem q_text {α : Type} {r : Res α} {W : World} (k : QSt g B A n c xs most r W) :
    Calls Try.prog 65 #[ptr g] W fun e w' => Below B W w' ∧ Kept W w' (fun j => j = g) ∧ OutQ g B A n c xs most (fun x v _ => v = .string x) (r.bind fun _ m => pT xs most m) e w' := by
  cases r with
  | ok x m => exact q_text_ok k
  | fail e p =>
    obtain ⟨he, m, hk⟩ := k
    refine (q_text_no hk he).mono ?_
    rintro e' w' ⟨rfl, rfl⟩
    exact ⟨Below.refl _ _, ⟨Nat.le_refl _, fun _ _ _ => rfl⟩, ⟨#[]⟩, _, rfl, rfl, (fun y m h => by cases h), he, m, hk⟩
theorem q_many_no {m : Nat} {W : World} {e0 p0 : Int} (k : QAt g B A n c xs most m e0 p0 W) (h0 : e0 ≠ 0) :
    Calls Try.prog 96 #[ptr g] W fun e w' => e = .returned (.int .i64 0) ∧ w' = W := by
  have c3 := k.row.cell 3 _ rfl
  have h1 : (e0 == 0) = false := by simpa using h0
  have h2 : decide (e0 = 0) = false := decide_eq_false h0
  have h3 : (e0 != 0) = true := by simpa using h0
  have h4 : decide (e0 ≠ 0) = true := decide_eq_true h0
  clear k
  go_enter Try.func96, Try.ntmps96
  go_wp2_with fail
  go_ret
  exact ⟨rfl, rfl⟩
theorem q_many_ok {m : Nat} {W : World} (k : QAt g B A n c xs most m 0 0 W) :
    Calls Try.prog 96 #[ptr g] W fun e w' => Below B W w' ∧ Kept W w' (fun j => j = g) ∧ OutQ g B A n c xs most (fun x v _ => v = .int .i64 ((x : Nat) : Int)) (pU xs most m) e w' := by
  have HK := Aside0.mk k
  have c1 : (m : Int) ≤ (n : Int) := by have := k.le rfl; omega
  have c2 : (n : Int) ≤ (c : Int) := by have := k.nc; omega
  have c3 : (0 : Int) ≤ (m : Int) := by omega
  have MKS := Aside0.mk (show ∀ w', Below W.heap.size W w' → (fun w' => w'.cell? ⟨g, 0, none⟩ = some (Value.slice A n c) ∧ w'.cell? ⟨g, 1, none⟩ = some (.int .i64 (m : Int)) ∧ w'.cell? ⟨g, 2, none⟩ = some (.int .i64 (most : Int))) w' from fun w' hb => by
    have r := HK.out.row.below hb
    exact ⟨r.cell 0 _ rfl, r.cell 1 _ rfl, r.cell 2 _ rfl⟩)
  have ce := k.row.cell 3 _ rfl
  clear k
  have hdl := HK.out.dl
  obtain ⟨q, hq⟩ : ∃ q, ug 0 0 (xs.drop m) = q := ⟨_, rfl⟩
  have HQ := Aside0.mk hq
  have hpl := ug_place xs m n HK.out.len (HK.out.le rfl)
  have hul := ug_lt (xs.drop m) 0 0 (by omega) (by decide) (HK.out.by_.drop m)
  have HF := Aside0.mk (show ∀ w', Below W.heap.size W w' → Calls Try.prog 132 #[.slice (if c = m then A else A.map (·.add m)) (n - m) (c - m)] w' fun e w2 => e = .returned (.tuple #[.int .u64 q.1, .int .i64 q.2.1, .int .i64 q.2.2]) ∧ Drawn0 w' w2 from fun w' hb => by
    have := larderref01_Uint.calls (3 * (xs.drop m).length + 30) (if c = m then A else A.map (·.add m)) (c - m) (xs.drop m) q.1 q.2.1 q.2.2 w' (HK.out.rest (hb.mono HK.out.size)) (by rw [hdl]; have := HK.out.nc; omega) (by rw [ref_uint _ (HK.out.by_.drop m) (by rw [hdl]; have := HK.out.big; omega) _ (by omega), hq])
    rwa [hdl] at this)
  rw [hq] at hpl hul
  obtain ⟨v, d, er⟩ := q
  obtain ⟨dn, hdn⟩ : ∃ dn : Nat, d = (dn : Int) := ⟨d.toNat, by have h1 : 0 ≤ d := hpl.1; omega⟩
  subst hdn
  obtain ⟨u, hu⟩ : ∃ u : Nat, v = (u : Int) := ⟨v.toNat, by have h1 : 0 ≤ v := hul.1; omega⟩
  subst hu
  have HUL := Aside0.mk (show u < 18446744073709551616 by have h1 : (u : Int) < 18446744073709551616 := hul.2; omega)
  clear hul
  have HPL := Aside0.mk (show m + dn ≤ n by have h1 : (dn : Int) ≤ ((n - m : Nat) : Int) := hpl.2; have := HK.out.le rfl; omega)
  have hw : wrap64 ((m : Int) + (dn : Int)) = ((m + dn : Nat) : Int) := by have := HK.out.big; have := HPL.out; unfold wrap64; omega
  clear hdl hq hpl
  go_enter Try.func96, Try.ntmps96
  go_upto_region 3 with fail
  refine wp_region_held_drew (S := fun w' => w'.cell? ⟨g, 0, none⟩ = some (Value.slice A n c) ∧ w'.cell? ⟨g, 1, none⟩ = some (.int .i64 (m : Int)) ∧ w'.cell? ⟨g, 2, none⟩ = some (.int .i64 (most : Int))) (by kernel_rfl) (MKS.out _ (below_drew (Below.refl _ _))) (fun hHeld => ?_)
  refine tk (i := 0) (oi := { dst := some 12, op := Op.move (Operand.tmp 0), type := 106, pos := "ref.go:149", after := #[], guard := none }) (v := ?_) (.inl ⟨by rfl, ?_⟩) hHeld ?_
  rotate_left
  · intro w' hS; obtain ⟨hS0, hS1, hS2⟩ := hS; go_simp; all_goals (with_reducible rfl)
  (try simp only [pz])
  refine tk (i := 1) (oi := { dst := some 13, op := Op.nilCheck (Operand.tmp 12), type := 0, pos := "ref.go:149", after := #[(eD 0)], guard := none }) (v := ?_) (.inl ⟨by rfl, ?_⟩) hHeld ?_
  rotate_left
  · intro w' hS; obtain ⟨hS0, hS1, hS2⟩ := hS; go_simp; all_goals (with_reducible rfl)
  (try simp only [pz])
  refine tk (i := 2) (oi := { dst := some 14, op := Op.fieldAddr 137 (Operand.tmp 13) 0, type := 0, pos := "ref.go:149", after := #[(eD 1)], guard := none }) (v := ?_) (.inl ⟨by rfl, ?_⟩) hHeld ?_
  rotate_left
  · intro w' hS; obtain ⟨hS0, hS1, hS2⟩ := hS; go_simp; all_goals (with_reducible rfl)
  (try simp only [pz])
  refine tk (i := 3) (oi := { dst := some 15, op := Op.load 26 (Operand.tmp 14), type := 26, pos := "ref.go:149", after := #[(eD 2)], guard := none }) (v := ?_) (.inl ⟨by rfl, ?_⟩) hHeld ?_
  rotate_left
  · intro w' hS; obtain ⟨hS0, hS1, hS2⟩ := hS; go_simp; all_goals (with_reducible rfl)
  (try simp only [pz])
  refine tk (i := 4) (oi := { dst := some 16, op := Op.move (Operand.tmp 0), type := 106, pos := "ref.go:149", after := #[], guard := none }) (v := ?_) (.inl ⟨by rfl, ?_⟩) hHeld ?_
  rotate_left
  · intro w' hS; obtain ⟨hS0, hS1, hS2⟩ := hS; go_simp; all_goals (with_reducible rfl)
  (try simp only [pz])
  refine tk (i := 5) (oi := { dst := some 17, op := Op.nilCheck (Operand.tmp 16), type := 0, pos := "ref.go:149", after := #[(eD 4)], guard := none }) (v := ?_) (.inl ⟨by rfl, ?_⟩) hHeld ?_
  rotate_left
  · intro w' hS; obtain ⟨hS0, hS1, hS2⟩ := hS; go_simp; all_goals (with_reducible rfl)
  (try simp only [pz])
  refine tk (i := 6) (oi := { dst := some 18, op := Op.fieldAddr 137 (Operand.tmp 17) 1, type := 0, pos := "ref.go:149", after := #[(eD 5)], guard := none }) (v := ?_) (.inl ⟨by rfl, ?_⟩) hHeld ?_
  rotate_left
  · intro w' hS; obtain ⟨hS0, hS1, hS2⟩ := hS; go_simp; all_goals (with_reducible rfl)
  (try simp only [pz])
  refine tk (i := 7) (oi := { dst := some 19, op := Op.load 3 (Operand.tmp 18), type := 3, pos := "ref.go:149", after := #[(eD 6)], guard := none }) (v := ?_) (.inl ⟨by rfl, ?_⟩) hHeld ?_
  rotate_left
  · intro w' hS; obtain ⟨hS0, hS1, hS2⟩ := hS; go_simp; all_goals (with_reducible rfl)
  (try simp only [pz])
  refine tk (i := 8) (oi := { dst := some 20, op := Op.slice 26 (Operand.tmp 15) (some (Operand.tmp 19)) none none, type := 26, pos := "ref.go:149", after := #[(eD 3), (eD 7)], guard := none }) (v := ?_) (.inl ⟨by rfl, ?_⟩) hHeld ?_
  rotate_left
  · intro w' hS; obtain ⟨hS0, hS1, hS2⟩ := hS; go_simp; all_goals (with_reducible rfl)
  (try simp only [pz])
  refine wpAnyH_ready (rs := [9]) (by kernel_rfl) (by simp) ?_
  refine AllReadyH.cons (o := { dst := some 21, op := Op.call { callee := Callee.value (Operand.func 132), args := #[Operand.tmp 20], argTypes := #[26] }, type := 169, pos := "ref.go:149", after := #[(eD 8)], guard := none }) rfl (fun K hK => ?_) AllReadyH.nil
  go_simp
  go_at_call 132
  refine (HF.out _ (below_drew (Below.refl _ _))).mono ?_
  rintro e wa ⟨rfl, hd⟩
  have HB1 := Aside0.mk (show Below W.heap.size W wa from by
    obtain ⟨md, rfl⟩ := hd
    exact pw_below_drewN (below_drew (Below.refl _ _)) md)
  clear hd
  refine hK.out _ _ (MKS.out _ HB1.out) (fun hHeld => ?_)
  clear hK K
  (try simp only [pz])
  refine tk (i := 10) (oi := { dst := some 11, op := Op.move (Operand.tmp 21), type := 169, pos := "ref.go:149", after := #[(eD 9)], guard := none }) (v := ?_) (.inl ⟨by rfl, ?_⟩) hHeld ?_
  rotate_left
  · intro w' hS; obtain ⟨hS0, hS1, hS2⟩ := hS; go_simp; all_goals (with_reducible rfl)
  (try simp only [pz])
  refine tk (i := 11) (oi := { dst := some 22, op := Op.extract (Operand.tmp 11) 0, type := 151, pos := "ref.go:149", after := #[(eD 10)], guard := none }) (v := ?_) (.inl ⟨by rfl, ?_⟩) hHeld ?_
  rotate_left
  · intro w' hS; obtain ⟨hS0, hS1, hS2⟩ := hS; go_simp; all_goals (with_reducible rfl)
  (try simp only [pz])
  refine tk (i := 12) (oi := { dst := some 23, op := Op.extract (Operand.tmp 11) 1, type := 3, pos := "ref.go:149", after := #[(eD 10), (eM 14)], guard := none }) (v := ?_) (.inl ⟨by rfl, ?_⟩) hHeld ?_
  rotate_left
  · intro w' hS; obtain ⟨hS0, hS1, hS2⟩ := hS; go_simp; all_goals (with_reducible rfl)
  (try simp only [pz])
  refine tk (i := 13) (oi := { dst := some 24, op := Op.extract (Operand.tmp 11) 2, type := 22, pos := "ref.go:149", after := #[(eD 10), (eM 15)], guard := none }) (v := ?_) (.inl ⟨by rfl, ?_⟩) hHeld ?_
  rotate_left
  · intro w' hS; obtain ⟨hS0, hS1, hS2⟩ := hS; go_simp; all_goals (with_reducible rfl)
  (try simp only [pz])
  refine tk (i := 14) (oi := { dst := some 3, op := Op.assign (Operand.tmp 22), type := 151, pos := "ref.go:149", after := #[(eD 11), (eC 9), (eP 0), (eP 1), (eP 2), (eP 3), (eP 4), (eP 5), (eP 6), (eP 7), (eP 8), (eP 9), (eP 10), (eP 11), (eL 12), (eL 13)], guard := none }) (v := ?_) (.inl ⟨by rfl, ?_⟩) hHeld ?_
  rotate_left
  · intro w' hS; obtain ⟨hS0, hS1, hS2⟩ := hS; go_simp; all_goals (with_reducible rfl)
  (try simp only [pz])
  refine tk (i := 15) (oi := { dst := some 4, op := Op.assign (Operand.tmp 23), type := 3, pos := "ref.go:149", after := #[(eD 12), (eC 14), (eP 0), (eP 1), (eP 2), (eP 3), (eP 4), (eP 5), (eP 6), (eP 7), (eP 8), (eP 9), (eP 10), (eP 11), (eP 12), (eL 13), (eP 14)], guard := none }) (v := ?_) (.inl ⟨by rfl, ?_⟩) hHeld ?_
  rotate_left
  · intro w' hS; obtain ⟨hS0, hS1, hS2⟩ := hS; go_simp; all_goals (with_reducible rfl)
  (try simp only [pz])
  refine tk (i := 16) (oi := { dst := some 5, op := Op.assign (Operand.tmp 24), type := 22, pos := "ref.go:149", after := #[(eD 13), (eC 15), (eP 0), (eP 1), (eP 2), (eP 3), (eP 4), (eP 5), (eP 6), (eP 7), (eP 8), (eP 9), (eP 10), (eP 11), (eP 12), (eP 13), (eP 14), (eP 15)], guard := none }) (v := ?_) (.inl ⟨by rfl, ?_⟩) hHeld ?_
  rotate_left
  · intro w' hS; obtain ⟨hS0, hS1, hS2⟩ := hS; go_simp; all_goals (with_reducible rfl)
  (try simp only [pz])
  refine wpAnyH_done (by kernel_rfl) ?_ _
  (try simp only [pz])
  clear HF
  generalize (if c = m then A else Option.map (fun x => x.add m) A) = Am at *
  have K1 := Aside0.mk (HK.out.below HB1.out)
  have B1 := Aside0.mk (HB1.out.mono HK.out.size)
  have P1 := Aside0.mk (Kept.of_below HB1.out (fun j => j = g))
  have c1 := K1.out.row.cell 1 _ rfl
  have f1 := K1.out.row.free 1
  by_cases he : er = 0
  rotate_left
  · have HP := Aside0.mk (show pU xs most m = Res.fail er ((m : Int) + (dn : Int)) from by
      unfold pU took
      rw [HQ.out, if_neg he]
      rfl)
    have HE := Aside0.mk he
    have h1 : (er == 0) = false := by simpa using he
    have h2 : decide (er = 0) = false := decide_eq_false he
    clear he
    go_wp2_with fail
    go_at_call 120
    refine (q_fail K1.out er _ HE.out).mono ?_
    rintro e w2 ⟨rfl, hk, hb, hkp⟩
    have K2 := Aside0.mk hk
    have B2 := Aside0.mk (B1.out.trans hb)
    have P2 := Aside0.mk (P1.out.then_ hkp (fun _ h => .inl h))
    clear hk hb hkp
    go_wp2_with fail
    go_ret
    refine ⟨B2.out, P2.out, ?_⟩
    rw [HP.out]
    exact ⟨0, _, rfl, rfl, fun y m h => by simp at h, HE.out, m, K2.out⟩
  subst he
  have hm2 := K1.out.row.cell 2 _ rfl
  have hw64 : IntKind.u64.wrap (most : Int) = (most : Int) := by have := HK.out.mb; rw [IntKind.wrap_u64]; omega
  by_cases hu : most < u
  · have HP := Aside0.mk (show pU xs most m = Res.fail 91 (m : Int) from by
      unfold pU took
      rw [HQ.out, if_pos rfl]
      simp only [Res.bind]
      rw [if_pos (by omega)])
    have d1 : decide ((most : Int) < (u : Int)) = true := decide_eq_true (by omega)
    have d2 : decide (most < u) = true := decide_eq_true hu
    clear hu
    go_wp2_with fail
    go_at_call 120
    refine (q_fail K1.out 91 _ (by decide)).mono ?_
    rintro e w2 ⟨rfl, hk, hb, hkp⟩
    have K2 := Aside0.mk hk
    have B2 := Aside0.mk (B1.out.trans hb)
    have P2 := Aside0.mk (P1.out.then_ hkp (fun _ h => .inl h))
    clear hk hb hkp
    go_wp2_with fail
    go_ret
    refine ⟨B2.out, P2.out, ?_⟩
    rw [HP.out]
    exact ⟨0, _, rfl, rfl, fun y m h => by simp at h, by decide, m, K2.out⟩
  have HP := Aside0.mk (show pU xs most m = Res.ok u (m + dn) from by
    unfold pU took
    rw [HQ.out, if_pos rfl]
    simp only [Res.bind]
    rw [if_neg (by omega), Int.toNat_natCast, Int.toNat_natCast])
  have d1 : decide ((most : Int) < (u : Int)) = false := decide_eq_false (by omega)
  have d2 : decide (most < u) = false := decide_eq_false hu
  have hwu : wrap64 (u : Int) = (u : Int) := by have := HK.out.mb; unfold wrap64; omega
  clear hu
  have HM := Aside0.mk (K1.out.put (m + dn) 0 0 (fun _ => HPL.out))
  go_wp2_with fail
  go_ret
  have e1 := K1.out.row.set 1 (.int .i64 ((m + dn : Nat) : Int))
  rw [show [Value.slice A n c, .int .i64 (m : Int), .int .i64 (most : Int), .int .i64 0, .int .i64 0].set 1 (.int .i64 ((m + dn : Nat) : Int)) = [Value.slice A n c, .int .i64 ((m + dn : Nat) : Int), .int .i64 (most : Int), .int .i64 0, .int .i64 0] from rfl] at e1
  rw [show (m : Int) + (dn : Int) = ((m + dn : Nat) : Int) from by omega, e1]
  refine ⟨B1.out.trans HM.out.2.1, P1.out.then_ HM.out.2.2 (fun _ h => .inl h), ?_⟩
  rw [HP.out]
  exact ⟨u, _, rfl, rfl, fun y m h => by cases h; rfl, HM.out.1⟩
theorem q_many {α : Type} {r : Res α} {W : World} (k : QSt g B A n c xs most r W) :
    Calls Try.prog 96 #[ptr g] W fun e w' => Below B W w' ∧ Kept W w' (fun j => j = g) ∧ OutQ g B A n c xs most (fun x v _ => v = .int .i64 ((x : Nat) : Int)) (r.bind fun _ m => pU xs most m) e w' := by
  cases r with
  | ok x m => exact q_many_ok k
  | fail e p =>
    obtain ⟨he, m, hk⟩ := k
    refine (q_many_no hk he).mono ?_
    rintro e' w' ⟨rfl, rfl⟩
    exact ⟨Below.refl _ _, ⟨Nat.le_refl _, fun _ _ _ => rfl⟩, 0, _, rfl, rfl, (fun y m h => by cases h), he, m, hk⟩
variable {g B : Nat} {A : Option Addr} {n c : Nat} {xs : List Int} {most : Nat}
theorem QSt.cell3 {α : Type} {r : Res α} {W : World} (k : QSt g B A n c xs most r W) : ∃ e, W.cell? ⟨g, 3, none⟩ = some (.int .i64 e) ∧ ((∃ x m, r = .ok x m) ∧ e = 0 ∨ (∃ p, r = .fail e p) ∧ e ≠ 0) := by
  cases r with
  | ok x m => exact ⟨0, (QAt.row k).cell 3 _ rfl, .inl ⟨⟨x, m, rfl⟩, rfl⟩⟩
  | fail e p => exact ⟨e, k.2.choose_spec.row.cell 3 _ rfl, .inr ⟨⟨p, rfl⟩, k.1⟩⟩
theorem pU_le {m k m' : Nat} (h : pU xs most m = .ok k m') : k ≤ most := by
  unfold pU at h
  cases hr : took m (ug 0 0 (xs.drop m)) with
  | fail e p => rw [hr] at h; simp [Res.bind] at h
  | ok u m2 =>
    rw [hr] at h
    simp only [Res.bind] at h
    split at h
    · simp at h
    · injection h with h1 h2
      omega
def oneMore (xs : List Int) (most m : Nat) (l : List S28) : Res (List S28) := (pLevel xs most m).bind fun x m => .ok (l ++ [x]) m
theorem oneMore_is {m u i : Nat} {y : List S28} {T : Res (List S28)} {t : ByteArray} {a z : Int} {w7 : World}
    (k : QSt g B A n c xs most (((((Res.ok y m : Res (List S28)).bind fun _ m => pT xs most m)).bind fun _ m => pI xs m).bind fun _ m => pI xs m) w7)
    (h0 : ∀ y' m', ((Res.ok y m : Res (List S28)).bind fun _ m => pT xs most m) = .ok y' m' → y' = t)
    (h1 : ∀ y' m', ((((Res.ok y m : Res (List S28)).bind fun _ m => pT xs most m)).bind fun _ m => pI xs m) = .ok y' m' → y' = a)
    (h2 : ∀ y' m', (((((Res.ok y m : Res (List S28)).bind fun _ m => pT xs most m)).bind fun _ m => pI xs m).bind fun _ m => pI xs m) = .ok y' m' → y' = z)
    (hT : (Res.ok y m).bind (fun l m => pN (pLevel xs most) (u - i) l m) = T) (ci : i < u) :
    QSt g B A n c xs most (oneMore xs most m y) w7 ∧ (∀ l m2, oneMore xs most m y = .ok l m2 → l = y ++ [⟨t, a, z⟩]) ∧ (oneMore xs most m y).bind (fun l m => pN (pLevel xs most) (u - (i + 1)) l m) = T := by
  rw [show u - i = (u - (i + 1)) + 1 from by omega] at hT
  simp only [Res.bind, pN] at hT
  unfold oneMore
  revert k h0 h1 h2 hT
  unfold pLevel
  simp only [Res.bind]
  cases pT xs most m with
  | fail e p => exact fun k _ _ _ hT => ⟨k, fun l m2 h => by simp at h, hT⟩
  | ok t' m1 =>
    simp only
    cases pI xs m1 with
    | fail e p => exact fun k _ _ _ hT => ⟨k, fun l m2 h => by simp at h, hT⟩
    | ok a' m2 =>
      simp only
      cases pI xs m2 with
      | fail e p => exact fun k _ _ _ hT => ⟨k, fun l m2 h => by simp at h, hT⟩
      | ok z' m3 =>
        intro k h0 h1 h2 hT
        refine ⟨k, fun l m4 h => ?_, hT⟩
        injection h with h3 h4
        rw [← h3, h0 _ _ rfl, h1 _ _ rfl, h2 _ _ rfl]
theorem q_levels {α : Type} {r : Res α} {W : World} (k : QSt g B A n c xs most r W) (hmb : most < 1000000000) :
    Calls Try.prog 67 #[ptr g] W fun e w' => Below B W w' ∧ Kept W w' (fun j => j = g) ∧ OutQ g B A n c xs most (fun l v w' => k28.R 28 w' W.heap.size (fun _ => True) v l) (r.bind fun _ m => pList xs most (pLevel xs most) m) e w' := by
  have HK := Aside0.mk k
  have HMB := Aside0.mk hmb
  have HMY := Aside0.mk (q_many k)
  clear k hmb
  go_enter Try.func67, Try.ntmps67
  go_wp2_with fail
  go_at_call 96
  refine HMY.out.mono ?_
  rintro e w1 ⟨hb, hp, u, v, rfl, rfl, hu, hq⟩
  obtain ⟨S0, hS0⟩ : ∃ S0, W.heap.size = S0 := ⟨_, rfl⟩
  have HS0 := Aside0.mk hS0
  have HLT := Aside0.mk (show g < S0 ∧ B ≤ S0 by have := HK.out.lt; have := HK.out.size; omega)
  obtain ⟨T, hT⟩ : ∃ T, (r.bind fun _ m => pList xs most (pLevel xs most) m) = T := ⟨_, rfl⟩
  have HT := Aside0.mk hT
  have B1 := Aside0.mk hb
  have P1 := Aside0.mk hp
  have HI := Aside0.mk (show ∃ st : Res (List S28), QSt g B A n c xs most st w1 ∧ (∀ y m, st = .ok y m → y = [] ∧ u ≤ most) ∧ st.bind (fun l m => pN (pLevel xs most) (u - 0) l m) = T from by
    cases r with
    | fail e p =>
      simp only [Res.bind] at hT hq ⊢
      exact ⟨.fail e p, hq, fun y m h => by simp at h, hT⟩
    | ok x m =>
      cases hpu : pU xs most m with
      | fail e p =>
        simp only [Res.bind, hpu] at hq
        refine ⟨.fail e p, hq, fun y m h => by simp at h, ?_⟩
        simp only [Res.bind, pList, hpu] at hT ⊢
        exact hT
      | ok k m2 =>
        simp only [Res.bind, hpu] at hq hu
        obtain rfl := hu k m2 rfl
        refine ⟨.ok [] m2, hq, fun y m h => by cases h; exact ⟨rfl, pU_le hpu⟩, ?_⟩
        simp only [Res.bind, pList, hpu, Nat.sub_zero] at hT ⊢
        exact hT)
  clear hb hp hu hq hT hS0 HMY
  go_wp2_with fail
  go_loopw [3, 5] (fun v p wr => ∃ (i : Nat) (l : List S28) (st : Res (List S28)), p = .int .i64 (i : Int) ∧ Aside0 (l.length = i) ∧ Aside0 (QSt g B A n c xs most st wr) ∧ Aside0 (∀ y m, st = .ok y m → y = l ∧ i ≤ u ∧ u ≤ most) ∧ Aside0 (st.bind (fun l m => pN (pLevel xs most) (u - i) l m) = T) ∧ Aside0 (k28.R 28 wr S0 (fun _ => True) v l) ∧ Aside0 (Below B W wr) ∧ Aside0 (Kept W wr (fun j => j = g))) (fun _ p _ => u - (intOf p).toNat)
  · obtain ⟨st, h1, h2, h3⟩ := HI.out
    exact ⟨0, [], st, rfl, ⟨rfl⟩, ⟨h1⟩, ⟨fun y m h => ⟨(h2 y m h).1, Nat.zero_le _, (h2 y m h).2⟩⟩, ⟨h3⟩, ⟨Kd.R_nil _ _ _ _ _⟩, B1, P1⟩
  · obtain ⟨i, l, st, rfl, HLN, HQ, HST, HPN, HR, HBr, HPr⟩ := hrel
    by_cases ci : i < u
    rotate_left
    · have ci1 : decide ((i : Int) < (u : Int)) = false := decide_eq_false (by omega)
      have HE := Aside0.mk (show QSt g B A n c xs most T wr ∧ ∀ y m, T = .ok y m → y = l from by
        have h := HPN.out
        rw [show u - i = 0 from by omega] at h
        cases st with
        | fail e p =>
          simp only [Res.bind] at h
          subst h
          exact ⟨HQ.out, fun y m h => by simp at h⟩
        | ok y m =>
          simp only [Res.bind, pN] at h
          subst h
          exact ⟨HQ.out, fun z m2 h => by
            injection h with h1 _
            rw [← h1]
            exact (HST.out y m rfl).1⟩)
      have ci2 : ((i : Int) < (u : Int)) = False := eq_false (by omega)
      have ci3 : decide (i < u) = false := decide_eq_false ci
      have ci4 : (i < u) = False := eq_false ci
      obtain ⟨e, hc3, hcs⟩ := HQ.out.cell3
      clear ci hcs
      go_wp2_with fail
      go_ret
      rw [HT.out, HS0.out]
      exact ⟨HBr.out, HPr.out, l, _, rfl, HR.out, HE.out.2, HE.out.1⟩
    have ci1 : decide ((i : Int) < (u : Int)) = true := decide_eq_true (by omega)
    obtain ⟨e, hc3, hcs⟩ := HQ.out.cell3
    rcases hcs with ⟨⟨y, m, hst⟩, rfl⟩ | ⟨⟨p, hst⟩, he⟩
    rotate_left
    · subst hst
      have h1 : (e == 0) = false := by simpa using he
      have h2 : decide (e = 0) = false := decide_eq_false he
      clear he
      go_wp2_with fail
      go_ret
      rw [HT.out, HS0.out]
      have hT : Res.fail e p = T := HPN.out
      subst hT
      exact ⟨HBr.out, HPr.out, l, _, rfl, HR.out, fun y m h => by simp at h, HQ.out⟩
    subst hst
    obtain ⟨rfl, hiu, hum⟩ := HST.out _ _ rfl
    have HUM := Aside0.mk (And.intro hiu hum)
    have hw1 : wrap64 ((i : Int) + 1) = ((i + 1 : Nat) : Int) := by have := HMB.out; unfold wrap64; omega
    clear hiu hum
    go_upto_region 7 with fail
    have hr1 : Rt 28 wr.heap.size [.string ⟨#[]⟩, .int .i64 0, .int .i64 0] (wr.alloc (.cells #[.string ⟨#[]⟩, .int .i64 0, .int .i64 0] 28)) := heap_alloc_new wr _
    have hb1 : Below wr.heap.size wr (wr.alloc (.cells #[.string ⟨#[]⟩, .int .i64 0, .int .i64 0] 28)) := below_alloc (Below.refl _ _) _
    obtain ⟨b, hbe⟩ : ∃ b, wr.heap.size = b := ⟨_, rfl⟩
    have HBL := Aside0.mk (show g < b ∧ B ≤ b ∧ S0 ≤ b by have := HPr.out.1; have := HS0.out; have := HLT.out; omega)
    have HBE := Aside0.mk hbe
    have K1 := Aside0.mk (HQ.out.below hb1)
    have B1' := Aside0.mk (HBr.out.trans (hb1.mono HQ.out.size))
    have P1' := Aside0.mk (HPr.out.then_ (Kept.of_below hb1 (fun j => j = g)) (fun _ h => .inl h))
    have L1 := Aside0.mk (show k28.R 28 (wr.alloc (.cells #[.string ⟨#[]⟩, .int .i64 0, .int .i64 0] 28)) S0 (fun j => j ≠ b) u3 y from Kd.R_mono (Kd.R_below (Kd.R_bound HR.out) hb1) (fun j hj e => by have := hj.2.2; omega))
    rw [hbe] at hr1 ⊢
    have R1 := Aside0.mk hr1
    clear hr1 hb1 hbe hc3
    generalize wr.alloc (.cells #[.string ⟨#[]⟩, .int .i64 0, .int .i64 0] 28) = w1 at *
    have cr := R1.out.cell 0 _ rfl
    have fr := R1.out.free 0
    go_wp2_with fail
    go_at_call 65
    refine (q_text K1.out).mono ?_
    rintro e w2 ⟨hb, hp, t, v, rfl, rfl, hx, hq⟩
    have X0 := Aside0.mk hx
    have K2 := Aside0.mk hq
    have B2' := Aside0.mk (B1'.out.trans hb)
    have P2' := Aside0.mk (P1'.out.then_ hp (fun _ h => .inl h))
    have R2 := Aside0.mk (show Rt 28 b [Value.string ⟨#[]⟩, .int .i64 0, .int .i64 0] w2 from (hp.2 b R1.out.lt (by have := HBL.out; show b ≠ g; omega)).trans R1.out)
    have L2 := Aside0.mk (show k28.R 28 w2 S0 (fun j => j ≠ b) u3 y from Kd.R_mono (Kd.R_kept (Kd.R_bound L1.out) hp (fun j hj e => by have := hj.2.1; have := HLT.out; omega)) (fun j hj => hj.1))
    clear hb hp hx hq cr fr
    have cr := R2.out.cell 0 _ rfl
    have fr := R2.out.free 0
    go_upto_region 8 with fail
    have e1 := R2.out.set 0 (.string t)
    rw [e1]
    clear e1 cr fr
    have hl : [Value.string ⟨#[]⟩, .int .i64 0, .int .i64 0].set 0 (.string t) = [Value.string t, .int .i64 0, .int .i64 0] := rfl
    rw [hl]
    clear hl
    have K3 := Aside0.mk (K2.out.aside (W' := w2.setRow b [Value.string t, .int .i64 0, .int .i64 0].toArray) (below_setRow' (Below.refl _ _) HBL.out.2.1 _) (setRow_other _ _ _ _ (by have := HBL.out; omega)))
    have B3' := Aside0.mk (show Below B W (w2.setRow b [Value.string t, .int .i64 0, .int .i64 0].toArray) from below_setRow' B2'.out HBL.out.2.1 _)
    have P3' := Aside0.mk (show Kept W (w2.setRow b [Value.string t, .int .i64 0, .int .i64 0].toArray) (fun j => j = g) from ⟨by rw [setRow_size]; exact P2'.out.1, fun j hj hn => (setRow_other _ _ _ _ (by have := HBL.out; have := HS0.out; omega)).trans (P2'.out.2 j hj hn)⟩)
    have R3 := Aside0.mk (show Rt 28 b [Value.string t, .int .i64 0, .int .i64 0] (w2.setRow b [Value.string t, .int .i64 0, .int .i64 0].toArray) from R2.out.row _)
    have L3 := Aside0.mk (show k28.R 28 (w2.setRow b [Value.string t, .int .i64 0, .int .i64 0].toArray) S0 (fun j => j ≠ b) u3 y from Kd.R_step L2.out (fun j hne _ => setRow_other _ _ _ _ hne))
    generalize w2.setRow b [Value.string t, .int .i64 0, .int .i64 0].toArray = w3 at *
    have cr := R3.out.cell 1 _ rfl
    have fr := R3.out.free 1
    go_wp2_with fail
    go_at_call 66
    refine (q_int K3.out).mono ?_
    rintro e w4 ⟨hb, hp, a, v, rfl, rfl, hx, hq⟩
    have X1 := Aside0.mk hx
    have K4 := Aside0.mk hq
    have B4' := Aside0.mk (B3'.out.trans hb)
    have P4' := Aside0.mk (P3'.out.then_ hp (fun _ h => .inl h))
    have R4 := Aside0.mk (show Rt 28 b [Value.string t, .int .i64 0, .int .i64 0] w4 from (hp.2 b R3.out.lt (by have := HBL.out; show b ≠ g; omega)).trans R3.out)
    have L4 := Aside0.mk (show k28.R 28 w4 S0 (fun j => j ≠ b) u3 y from Kd.R_mono (Kd.R_kept (Kd.R_bound L3.out) hp (fun j hj e => by have := hj.2.1; have := HLT.out; omega)) (fun j hj => hj.1))
    clear hb hp hx hq cr fr
    have cr := R4.out.cell 1 _ rfl
    have fr := R4.out.free 1
    go_upto_region 9 with fail
    have e1 := R4.out.set 1 (.int .i64 a)
    rw [e1]
    clear e1 cr fr
    have hl : [Value.string t, .int .i64 0, .int .i64 0].set 1 (.int .i64 a) = [Value.string t, .int .i64 a, .int .i64 0] := rfl
    rw [hl]
    clear hl
    have K5 := Aside0.mk (K4.out.aside (W' := w4.setRow b [Value.string t, .int .i64 a, .int .i64 0].toArray) (below_setRow' (Below.refl _ _) HBL.out.2.1 _) (setRow_other _ _ _ _ (by have := HBL.out; omega)))
    have B5' := Aside0.mk (show Below B W (w4.setRow b [Value.string t, .int .i64 a, .int .i64 0].toArray) from below_setRow' B4'.out HBL.out.2.1 _)
    have P5' := Aside0.mk (show Kept W (w4.setRow b [Value.string t, .int .i64 a, .int .i64 0].toArray) (fun j => j = g) from ⟨by rw [setRow_size]; exact P4'.out.1, fun j hj hn => (setRow_other _ _ _ _ (by have := HBL.out; have := HS0.out; omega)).trans (P4'.out.2 j hj hn)⟩)
    have R5 := Aside0.mk (show Rt 28 b [Value.string t, .int .i64 a, .int .i64 0] (w4.setRow b [Value.string t, .int .i64 a, .int .i64 0].toArray) from R4.out.row _)
    have L5 := Aside0.mk (show k28.R 28 (w4.setRow b [Value.string t, .int .i64 a, .int .i64 0].toArray) S0 (fun j => j ≠ b) u3 y from Kd.R_step L4.out (fun j hne _ => setRow_other _ _ _ _ hne))
    generalize w4.setRow b [Value.string t, .int .i64 a, .int .i64 0].toArray = w5 at *
    have cr := R5.out.cell 2 _ rfl
    have fr := R5.out.free 2
    go_wp2_with fail
    go_at_call 66
    refine (q_int K5.out).mono ?_
    rintro e w6 ⟨hb, hp, z, v, rfl, rfl, hx, hq⟩
    have X2 := Aside0.mk hx
    have K6 := Aside0.mk hq
    have B6' := Aside0.mk (B5'.out.trans hb)
    have P6' := Aside0.mk (P5'.out.then_ hp (fun _ h => .inl h))
    have R6 := Aside0.mk (show Rt 28 b [Value.string t, .int .i64 a, .int .i64 0] w6 from (hp.2 b R5.out.lt (by have := HBL.out; show b ≠ g; omega)).trans R5.out)
    have L6 := Aside0.mk (show k28.R 28 w6 S0 (fun j => j ≠ b) u3 y from Kd.R_mono (Kd.R_kept (Kd.R_bound L5.out) hp (fun j hj e => by have := hj.2.1; have := HLT.out; omega)) (fun j hj => hj.1))
    clear hb hp hx hq cr fr
    have cr := R6.out.cell 2 _ rfl
    have fr := R6.out.free 2
    go_upto_region 10 with fail
    have e1 := R6.out.set 2 (.int .i64 z)
    rw [e1]
    clear e1 cr fr
    have hl : [Value.string t, .int .i64 a, .int .i64 0].set 2 (.int .i64 z) = [Value.string t, .int .i64 a, .int .i64 z] := rfl
    rw [hl]
    clear hl
    have K7 := Aside0.mk (K6.out.aside (W' := w6.setRow b [Value.string t, .int .i64 a, .int .i64 z].toArray) (below_setRow' (Below.refl _ _) HBL.out.2.1 _) (setRow_other _ _ _ _ (by have := HBL.out; omega)))
    have B7' := Aside0.mk (show Below B W (w6.setRow b [Value.string t, .int .i64 a, .int .i64 z].toArray) from below_setRow' B6'.out HBL.out.2.1 _)
    have P7' := Aside0.mk (show Kept W (w6.setRow b [Value.string t, .int .i64 a, .int .i64 z].toArray) (fun j => j = g) from ⟨by rw [setRow_size]; exact P6'.out.1, fun j hj hn => (setRow_other _ _ _ _ (by have := HBL.out; have := HS0.out; omega)).trans (P6'.out.2 j hj hn)⟩)
    have R7 := Aside0.mk (show Rt 28 b [Value.string t, .int .i64 a, .int .i64 z] (w6.setRow b [Value.string t, .int .i64 a, .int .i64 z].toArray) from R6.out.row _)
    have L7 := Aside0.mk (show k28.R 28 (w6.setRow b [Value.string t, .int .i64 a, .int .i64 z].toArray) S0 (fun j => j ≠ b) u3 y from Kd.R_step L6.out (fun j hne _ => setRow_other _ _ _ _ hne))
    generalize w6.setRow b [Value.string t, .int .i64 a, .int .i64 z].toArray = w7 at *
    have HN := Aside0.mk (oneMore_is K7.out X0.out X1.out X2.out HPN.out ci)
    have S7 := Aside0.mk (show S0 ≤ w7.heap.size by have := P7'.out.1; have := HS0.out; omega)
    have HSZ := Aside0.mk (show (y.length + 1) * 32 ≤ 140737488355328 by have := HLN.out; have := HUM.out; have := HMB.out; omega)
    have x0 := R7.out.cell 0 _ rfl
    have x1 := R7.out.cell 1 _ rfl
    have x2 := R7.out.cell 2 _ rfl
    have RX := Aside0.mk (show k28.R 28 w7 S0 (fun _ => True) u3 y from Kd.R_mono L7.out (fun _ _ => trivial))
    go_wp2_with (first | (
      (with_reducible refine gate_builtin (b := .append) (xs := #[.tmp 31, .tmp 33]) rfl ?_)
      at_builtin
      refine Kd.R_append k28 (w0 := w7) S0 rfl (.tmp 31) (.tmp 33) 23 28 (.agg #[.string ⟨#[]⟩, .int .i64 0, .int .i64 0]) 32 rfl Try.underlying23 info28 rfl (by decide) (by decide) _ y ⟨t, a, z⟩ [.string t, .int .i64 a, .int .i64 z] (fun _ => True) (fun _ => False) rfl rfl (k28_mkM _ _ _ ⟨t, a, z⟩) (fun _ h => h.elim) (fun _ _ => trivial) RX.out (Below.refl _ _) S7.out HSZ.out ?_
      intro v1 w8 ho hb hg hat
      have HO8 := Aside0.mk ho
      have K8 := Aside0.mk (HN.out.1.aside (hb.mono HLT.out.2) (hb.block g HLT.out.1))
      have B8' := Aside0.mk (B7'.out.trans (hb.mono HLT.out.2))
      have P8' := Aside0.mk (show Kept W w8 (fun j => j = g) from ⟨Nat.le_trans P7'.out.1 hb.size, fun j hj hn => (hb.block j (by have := HS0.out; omega)).trans (P7'.out.2 j hj hn)⟩)
      clear ho hb hg hat))
    refine ⟨⟨i + 1, y ++ [⟨t, a, z⟩], oneMore xs most m y, congrArg (Value.int .i64) (by omega), ⟨by rw [List.length_append, HLN.out]; rfl⟩, K8, ⟨fun l m2 h => ⟨HN.out.2.1 l m2 h, ci, HUM.out.2⟩⟩, ⟨HN.out.2.2⟩, HO8, B8', P8'⟩, ?_⟩
    rw [hw1]
    show u - (((i + 1 : Nat) : Int)).toNat < u - ((i : Nat) : Int).toNat
    omega
end Go.Proofs.Ytafmoglaockepaa.Cd
end
