/- A codec's reader: levels, walked. A codec's reader: lists of levels, walked. A codec's reader: a reply's fields, walked. -/
import Derived.Test.YtafmoglaockepaaRe1
import Derived.Deep.RegionHeld3
import Derived.Deep.RegionLaw
namespace Go.Proofs.Ytafmoglaockepaa.Cd
open Go Go.RowKit Go.Proofs.Ytafmoglaockepaa.Num Go.Proofs.Ytafmoglaockepaa.PG Go.Proofs.YtafmoglaockepaaW.PrintWords Go.Proofs.YtafmoglaockepaaW.PrintLast Go.Proofs.YtafmoglaockepaaW.PrintMore
set_option linter.unusedVariables false
set_option linter.unusedSimpArgs false
set_option maxHeartbeats 4000000
set_option maxRecDepth 100000
theorem info28 : (Try.prog.info? 28).map (fun i => (i.zero, i.size, i.bytes)) = some (some (.agg #[.string ⟨#[]⟩, .int .i64 0, .int .i64 0]), 3, 32) := by kernel_rfl
theorem CrAt.aside {g B : Nat} {A : Option Addr} {n c : Nat} {xs : List Int} {m most : Nat} {W W' : World} (k : CrAt g B A n c xs m most W) (hb : Below B W W') (hg : W'.heap[g]? = W.heap[g]?) : CrAt g B A n c xs m most W' :=
  { k with row := hg.trans k.row, foot := fun W2 hb2 => k.foot W2 (hb.trans hb2) }
abbrev lev (x : S28) : Value := .agg #[.string x.f0, .int .i64 x.f1, .int .i64 x.f2]
theorem r_level {g B gb : Nat} {A : Option Addr} {n c : Nat} {xs : List Int} {m most : Nat} {W : World} (k : CrAt g B A n c xs m most W) (hbx : Rt 101 gb [ptr g] W) :
    Calls Try.prog 119 #[ptr gb] W fun e w' => Below B W w' ∧ Kept W w' (fun j => j = g) ∧ Out g B A n c xs most lev (pLevel xs most m) e w' := by
  have HK := Aside0.mk k
  have HBX := Aside0.mk hbx
  have HNE := Aside0.mk (show gb ≠ g from fun e => by
    have h2 := hbx
    rw [e] at h2
    have := blk_types h2 k.row
    omega)
  clear k hbx
  go_enter Try.func119, Try.ntmps119
  go_upto_region 1 with fail
  have hr1 : Rt 28 W.heap.size [.string ⟨#[]⟩, .int .i64 0, .int .i64 0] (W.alloc (.cells #[.string ⟨#[]⟩, .int .i64 0, .int .i64 0] 28)) := heap_alloc_new W _
  have hb1 : Below W.heap.size W (W.alloc (.cells #[.string ⟨#[]⟩, .int .i64 0, .int .i64 0] 28)) := below_alloc (Below.refl _ _) _
  obtain ⟨b, hbe⟩ : ∃ b, W.heap.size = b := ⟨_, rfl⟩
  have K1 := Aside0.mk (HK.out.below hb1)
  have X1 := Aside0.mk (HBX.out.below hb1)
  have B1 := Aside0.mk (hb1.mono HK.out.size)
  have P1 := Aside0.mk (Kept.of_below hb1 (fun j => j = g))
  have HBE := Aside0.mk hbe
  have HLT := Aside0.mk (show g < b ∧ gb < b ∧ B ≤ b by have := HK.out.row.lt; have := HBX.out.lt; have := HK.out.size; omega)
  rw [hbe] at hr1 ⊢
  have R1 := Aside0.mk hr1
  clear hr1 hb1 hbe
  generalize W.alloc (.cells #[.string ⟨#[]⟩, .int .i64 0, .int .i64 0] 28) = w1 at *
  have cx := X1.out.cell 0 _ rfl
  have cr := R1.out.cell 0 _ rfl
  have fr := R1.out.free 0
  go_wp2_with fail
  go_at_call 61
  refine (r_text K1.out).mono ?_
  rintro e w2 ⟨hb, hp, ho⟩
  have hbt := B1.out.trans hb
  have hpt := P1.out.then_ hp (fun _ h => .inl h)
  rcases hq : pT xs most m with ⟨t, m1⟩ | ⟨er, p⟩
  rotate_left
  · rw [hq] at ho
    have ho : e = gaveUp er p := ho
    subst ho
    refine ⟨rfl, hbt, hpt, ?_⟩
    have e9 : pLevel xs most m = Res.fail er p := by
      unfold pLevel
      simp only [Res.bind, hq]
    rw [e9]
    rfl
  rw [hq] at ho
  obtain ⟨he, hk⟩ : e = .returned (.string t) ∧ CrAt g B A n c xs m1 most w2 := ho
  subst he
  have HQ0 := Aside0.mk hq
  have K2 := Aside0.mk hk
  have B2 := Aside0.mk hbt
  have P2 := Aside0.mk hpt
  have X2 := Aside0.mk (show Rt 101 gb [ptr g] w2 from (hp.2 gb X1.out.lt HNE.out).trans X1.out)
  have R2 := Aside0.mk (show Rt 28 b [.string ⟨#[]⟩, .int .i64 0, .int .i64 0] w2 from (hp.2 b R1.out.lt (by have := HLT.out; show b ≠ g; omega)).trans R1.out)
  clear hb hp hbt hpt hq hk cx cr fr
  try clear ho
  have cr := R2.out.cell 0 _ rfl
  have fr := R2.out.free 0
  go_upto_region 2 with fail
  have e1 := R2.out.set 0 (.string t)
  rw [e1]
  clear e1 cr fr
  have hl : [Value.string ⟨#[]⟩, .int .i64 0, .int .i64 0].set 0 (.string t) = [Value.string t, .int .i64 0, .int .i64 0] := rfl
  rw [hl]
  clear hl
  have hbs : Below B W (w2.setRow b [Value.string t, .int .i64 0, .int .i64 0].toArray) := below_setRow' B2.out HLT.out.2.2 _
  have K3 := Aside0.mk (show CrAt g B A n c xs m1 most (w2.setRow b [Value.string t, .int .i64 0, .int .i64 0].toArray) from K2.out.aside (below_setRow' (Below.refl _ _) HLT.out.2.2 _) (setRow_other _ _ _ _ (by have := HLT.out; omega)))
  have B3 := Aside0.mk hbs
  have P3 := Aside0.mk (show Kept W (w2.setRow b [Value.string t, .int .i64 0, .int .i64 0].toArray) (fun j => j = g) from ⟨by rw [setRow_size]; exact P2.out.1, fun j hj hn => (setRow_other _ _ _ _ (by have := HBE.out; omega)).trans (P2.out.2 j hj hn)⟩)
  have X3 := Aside0.mk (show Rt 101 gb [ptr g] (w2.setRow b [Value.string t, .int .i64 0, .int .i64 0].toArray) from (setRow_other _ _ _ _ (by have := HLT.out; omega)).trans X2.out)
  have R3 := Aside0.mk (show Rt 28 b [Value.string t, .int .i64 0, .int .i64 0] (w2.setRow b [Value.string t, .int .i64 0, .int .i64 0].toArray) from R2.out.row _)
  clear hbs
  generalize w2.setRow b [Value.string t, .int .i64 0, .int .i64 0].toArray = w3 at *
  have cx := X3.out.cell 0 _ rfl
  have cr := R3.out.cell 1 _ rfl
  have fr := R3.out.free 1
  go_wp2_with fail
  go_at_call 62
  refine (r_int K3.out).mono ?_
  rintro e w4 ⟨hb, hp, ho⟩
  have hbt := B3.out.trans hb
  have hpt := P3.out.then_ hp (fun _ h => .inl h)
  rcases hq : pI xs m1 with ⟨a, m2⟩ | ⟨er, p⟩
  rotate_left
  · rw [hq] at ho
    have ho : e = gaveUp er p := ho
    subst ho
    refine ⟨rfl, hbt, hpt, ?_⟩
    have e9 : pLevel xs most m = Res.fail er p := by
      unfold pLevel
      simp only [Res.bind, HQ0.out, hq]
    rw [e9]
    rfl
  rw [hq] at ho
  obtain ⟨he, hk⟩ : e = .returned (.int .i64 a) ∧ CrAt g B A n c xs m2 most w4 := ho
  subst he
  have HQ1 := Aside0.mk hq
  have K4 := Aside0.mk hk
  have B4 := Aside0.mk hbt
  have P4 := Aside0.mk hpt
  have X4 := Aside0.mk (show Rt 101 gb [ptr g] w4 from (hp.2 gb X3.out.lt HNE.out).trans X3.out)
  have R4 := Aside0.mk (show Rt 28 b [.string t, .int .i64 0, .int .i64 0] w4 from (hp.2 b R3.out.lt (by have := HLT.out; show b ≠ g; omega)).trans R3.out)
  clear hb hp hbt hpt hq hk cx cr fr
  try clear ho
  have cr := R4.out.cell 1 _ rfl
  have fr := R4.out.free 1
  go_upto_region 3 with fail
  have e1 := R4.out.set 1 (.int .i64 a)
  rw [e1]
  clear e1 cr fr
  have hl : [Value.string t, .int .i64 0, .int .i64 0].set 1 (.int .i64 a) = [Value.string t, .int .i64 a, .int .i64 0] := rfl
  rw [hl]
  clear hl
  have hbs : Below B W (w4.setRow b [Value.string t, .int .i64 a, .int .i64 0].toArray) := below_setRow' B4.out HLT.out.2.2 _
  have K5 := Aside0.mk (show CrAt g B A n c xs m2 most (w4.setRow b [Value.string t, .int .i64 a, .int .i64 0].toArray) from K4.out.aside (below_setRow' (Below.refl _ _) HLT.out.2.2 _) (setRow_other _ _ _ _ (by have := HLT.out; omega)))
  have B5 := Aside0.mk hbs
  have P5 := Aside0.mk (show Kept W (w4.setRow b [Value.string t, .int .i64 a, .int .i64 0].toArray) (fun j => j = g) from ⟨by rw [setRow_size]; exact P4.out.1, fun j hj hn => (setRow_other _ _ _ _ (by have := HBE.out; omega)).trans (P4.out.2 j hj hn)⟩)
  have X5 := Aside0.mk (show Rt 101 gb [ptr g] (w4.setRow b [Value.string t, .int .i64 a, .int .i64 0].toArray) from (setRow_other _ _ _ _ (by have := HLT.out; omega)).trans X4.out)
  have R5 := Aside0.mk (show Rt 28 b [Value.string t, .int .i64 a, .int .i64 0] (w4.setRow b [Value.string t, .int .i64 a, .int .i64 0].toArray) from R4.out.row _)
  clear hbs
  generalize w4.setRow b [Value.string t, .int .i64 a, .int .i64 0].toArray = w5 at *
  have cx := X5.out.cell 0 _ rfl
  have cr := R5.out.cell 2 _ rfl
  have fr := R5.out.free 2
  go_wp2_with fail
  go_at_call 62
  refine (r_int K5.out).mono ?_
  rintro e w6 ⟨hb, hp, ho⟩
  have hbt := B5.out.trans hb
  have hpt := P5.out.then_ hp (fun _ h => .inl h)
  rcases hq : pI xs m2 with ⟨z, m3⟩ | ⟨er, p⟩
  rotate_left
  · rw [hq] at ho
    have ho : e = gaveUp er p := ho
    subst ho
    refine ⟨rfl, hbt, hpt, ?_⟩
    have e9 : pLevel xs most m = Res.fail er p := by
      unfold pLevel
      simp only [Res.bind, HQ0.out, HQ1.out, hq]
    rw [e9]
    rfl
  rw [hq] at ho
  obtain ⟨he, hk⟩ : e = .returned (.int .i64 z) ∧ CrAt g B A n c xs m3 most w6 := ho
  subst he
  have HQ2 := Aside0.mk hq
  have K6 := Aside0.mk hk
  have B6 := Aside0.mk hbt
  have P6 := Aside0.mk hpt
  have X6 := Aside0.mk (show Rt 101 gb [ptr g] w6 from (hp.2 gb X5.out.lt HNE.out).trans X5.out)
  have R6 := Aside0.mk (show Rt 28 b [.string t, .int .i64 a, .int .i64 0] w6 from (hp.2 b R5.out.lt (by have := HLT.out; show b ≠ g; omega)).trans R5.out)
  clear hb hp hbt hpt hq hk cx cr fr
  try clear ho
  have cr := R6.out.cell 2 _ rfl
  have fr := R6.out.free 2
  go_upto_region 4 with fail
  have e1 := R6.out.set 2 (.int .i64 z)
  rw [e1]
  clear e1 cr fr
  have hl : [Value.string t, .int .i64 a, .int .i64 0].set 2 (.int .i64 z) = [Value.string t, .int .i64 a, .int .i64 z] := rfl
  rw [hl]
  clear hl
  have hbs : Below B W (w6.setRow b [Value.string t, .int .i64 a, .int .i64 z].toArray) := below_setRow' B6.out HLT.out.2.2 _
  have K7 := Aside0.mk (show CrAt g B A n c xs m3 most (w6.setRow b [Value.string t, .int .i64 a, .int .i64 z].toArray) from K6.out.aside (below_setRow' (Below.refl _ _) HLT.out.2.2 _) (setRow_other _ _ _ _ (by have := HLT.out; omega)))
  have B7 := Aside0.mk hbs
  have P7 := Aside0.mk (show Kept W (w6.setRow b [Value.string t, .int .i64 a, .int .i64 z].toArray) (fun j => j = g) from ⟨by rw [setRow_size]; exact P6.out.1, fun j hj hn => (setRow_other _ _ _ _ (by have := HBE.out; omega)).trans (P6.out.2 j hj hn)⟩)
  have X7 := Aside0.mk (show Rt 101 gb [ptr g] (w6.setRow b [Value.string t, .int .i64 a, .int .i64 z].toArray) from (setRow_other _ _ _ _ (by have := HLT.out; omega)).trans X6.out)
  have R7 := Aside0.mk (show Rt 28 b [Value.string t, .int .i64 a, .int .i64 z] (w6.setRow b [Value.string t, .int .i64 a, .int .i64 z].toArray) from R6.out.row _)
  clear hbs
  generalize w6.setRow b [Value.string t, .int .i64 a, .int .i64 z].toArray = w7 at *
  have c0 := R7.out.cell 0 _ rfl
  have c1 := R7.out.cell 1 _ rfl
  have c2 := R7.out.cell 2 _ rfl
  have f0 := R7.out.free 0
  have f1 := R7.out.free 1
  have f2 := R7.out.free 2
  go_wp2_with fail
  rw [R7.out.same 0 _ rfl, R7.out.same 1 _ rfl, R7.out.same 2 _ rfl]
  refine bodyPost_ret (results_cell_row rfl _ _ b 28 _ (0, 0) _ rfl R7.out Try.underlying28 rfl (by kernel_rfl)) rfl ?_
  refine ⟨B7.out, P7.out, ?_⟩
  have e9 : pLevel xs most m = Res.ok ⟨t, a, z⟩ m3 := by
    unfold pLevel
    simp only [Res.bind, HQ0.out, HQ1.out, HQ2.out]
  rw [e9]
  exact ⟨rfl, K7.out⟩
end Go.Proofs.Ytafmoglaockepaa.Cd
namespace Go.Proofs.Ytafmoglaockepaa.Cd
open Go Go.RowKit Go.Proofs.Ytafmoglaockepaa.Num Go.Proofs.Ytafmoglaockepaa.PG Go.Proofs.YtafmoglaockepaaW.PrintWords Go.Proofs.YtafmoglaockepaaW.PrintLast Go.Proofs.YtafmoglaockepaaW.PrintMore
set_option linter.unusedVariables false
set_option linter.unusedSimpArgs false
set_option maxHeartbeats 4000000
set_option maxRecDepth 100000
/-- How a reading ends whose value lies in memory. -/
def OutR {α : Type} (g B : Nat) (A : Option Addr) (n c : Nat) (xs : List Int) (most : Nat) (enc : α → Value → World → Prop) (r : Res α) (e : Ending) (w' : World) : Prop :=
  match r with
  | .ok x m' => ∃ v, e = .returned v ∧ enc x v w' ∧ CrAt g B A n c xs m' most w'
  | .fail er p => e = gaveUp er p
theorem r_levelList {g B gb : Nat} {A : Option Addr} {n c : Nat} {xs : List Int} {m most : Nat} {W : World} (k : CrAt g B A n c xs m most W) (hbx : Rt 101 gb [ptr g] W) :
    Calls Try.prog 118 #[ptr g, .func (.func 119) #[] #[ptr gb]] W fun e w' => Below B W w' ∧ Kept W w' (fun j => j = g) ∧ OutR g B A n c xs most (fun l v w' => k28.R 28 w' W.heap.size (fun _ => True) v l) (pList xs most (pLevel xs most) m) e w' := by
  have HK := Aside0.mk k
  have HBX := Aside0.mk hbx
  have HNE := Aside0.mk (show gb ≠ g from fun e => by
    have h2 := hbx
    rw [e] at h2
    have := blk_types h2 k.row
    omega)
  have c1 : (m : Int) ≤ (n : Int) := by have := k.le; omega
  have c2 : (n : Int) ≤ (c : Int) := by have := k.nc; omega
  have c3 : (0 : Int) ≤ (m : Int) := by omega
  have MKS := Aside0.mk (show ∀ w', Below W.heap.size W w' → (fun w' => w'.cell? ⟨g, 0, none⟩ = some (.slice A n c) ∧ w'.cell? ⟨g, 1, none⟩ = some (.int .i64 (m : Int)) ∧ w'.cell? ⟨g, 2, none⟩ = some (.int .i64 (most : Int))) w' from fun w' hb => by
    have r := HK.out.row.below hb
    exact ⟨r.cell 0 _ rfl, r.cell 1 _ rfl, r.cell 2 _ rfl⟩)
  clear k hbx
  have hdl := HK.out.dl
  have hul := ug_lt (xs.drop m) 0 0 (by omega) (by decide) (HK.out.by_.drop m)
  obtain ⟨q, hq⟩ : ∃ q, ug 0 0 (xs.drop m) = q := ⟨_, rfl⟩
  have HQ := Aside0.mk hq
  have hpl := ug_place xs m n HK.out.len HK.out.le
  have HF := Aside0.mk (show ∀ w', Below W.heap.size W w' → Calls Try.prog 129 #[.slice (if c = m then A else A.map (·.add m)) (n - m) (c - m)] w' fun e w2 => e = .returned (.tuple #[.int .u64 q.1, .int .i64 q.2.1, .int .i64 q.2.2]) ∧ Drawn0 w' w2 from fun w' hb => by
    have := frame_Uint.calls ((xs.drop m).length + 2) (if c = m then A else A.map (·.add m)) (c - m) (xs.drop m) q.1 q.2.1 q.2.2 w' (HK.out.rest (hb.mono HK.out.size)) (by rw [hdl]; have := HK.out.nc; omega) (by rw [frame_uint _ (HK.out.by_.drop m) (by rw [hdl]; have := HK.out.big; omega) _ (by omega), hq])
    rwa [hdl] at this)
  rw [hq] at hpl hul
  obtain ⟨v, d, er⟩ := q
  obtain ⟨dn, hdn⟩ : ∃ dn : Nat, d = (dn : Int) := ⟨d.toNat, by have h1 : 0 ≤ d := hpl.1; omega⟩
  subst hdn
  obtain ⟨u, hu⟩ : ∃ u : Nat, v = (u : Int) := ⟨v.toNat, by have h1 : 0 ≤ v := hul.1; omega⟩
  subst hu
  have HPL := Aside0.mk (show m + dn ≤ n by have h1 : (dn : Int) ≤ ((n - m : Nat) : Int) := hpl.2; have := HK.out.le; omega)
  have HUL := Aside0.mk (show u < 18446744073709551616 by have h1 : (u : Int) < 18446744073709551616 := hul.2; omega)
  clear hdl hq hpl hul
  have cm := (MKS.out W (Below.refl _ _)).2.1
  go_enter Try.func118, Try.ntmps118
  go_upto_region 2 with fail
  refine wp_region_held_drew (S := fun w' => w'.cell? ⟨g, 0, none⟩ = some (.slice A n c) ∧ w'.cell? ⟨g, 1, none⟩ = some (.int .i64 (m : Int)) ∧ w'.cell? ⟨g, 2, none⟩ = some (.int .i64 (most : Int))) (by kernel_rfl) (MKS.out _ (below_drew (Below.refl _ _))) (fun hHeld => ?_)
  refine wpAnyH_take (i := 0) (oi := { dst := some 15, op := Op.move (Operand.tmp 0), type := 101, pos := "read.go:44", after := #[], guard := none }) (v := ?_) rfl (by kernel_rfl) (by kernel_rfl) (by kernel_rfl) (fun _ _ _ h => h) (Or.inl ⟨by rfl, ?_⟩) hHeld ?_
  rotate_left
  · intro w' hS; obtain ⟨hS0, hS1, hS2⟩ := hS; go_simp; all_goals (with_reducible rfl)
  (try simp only [Act.put, List.setIfInBounds_toArray, List.set_cons_zero, List.set_cons_succ])
  refine wpAnyH_take (i := 1) (oi := { dst := some 16, op := Op.nilCheck (Operand.tmp 15), type := 0, pos := "read.go:44", after := #[{ on := 0, ground := Ground.data }], guard := none }) (v := ?_) rfl (by kernel_rfl) (by kernel_rfl) (by kernel_rfl) (fun _ _ _ h => h) (Or.inl ⟨by rfl, ?_⟩) hHeld ?_
  rotate_left
  · intro w' hS; obtain ⟨hS0, hS1, hS2⟩ := hS; go_simp; all_goals (with_reducible rfl)
  (try simp only [Act.put, List.setIfInBounds_toArray, List.set_cons_zero, List.set_cons_succ])
  refine wpAnyH_take (i := 2) (oi := { dst := some 17, op := Op.fieldAddr 158 (Operand.tmp 16) 0, type := 0, pos := "read.go:44", after := #[{ on := 1, ground := Ground.data }], guard := none }) (v := ?_) rfl (by kernel_rfl) (by kernel_rfl) (by kernel_rfl) (fun _ _ _ h => h) (Or.inl ⟨by rfl, ?_⟩) hHeld ?_
  rotate_left
  · intro w' hS; obtain ⟨hS0, hS1, hS2⟩ := hS; go_simp; all_goals (with_reducible rfl)
  (try simp only [Act.put, List.setIfInBounds_toArray, List.set_cons_zero, List.set_cons_succ])
  refine wpAnyH_take (i := 3) (oi := { dst := some 18, op := Op.load 26 (Operand.tmp 17), type := 26, pos := "read.go:44", after := #[{ on := 2, ground := Ground.data }], guard := none }) (v := ?_) rfl (by kernel_rfl) (by kernel_rfl) (by kernel_rfl) (fun _ _ _ h => h) (Or.inl ⟨by rfl, ?_⟩) hHeld ?_
  rotate_left
  · intro w' hS; obtain ⟨hS0, hS1, hS2⟩ := hS; go_simp; all_goals (with_reducible rfl)
  (try simp only [Act.put, List.setIfInBounds_toArray, List.set_cons_zero, List.set_cons_succ])
  refine wpAnyH_take (i := 4) (oi := { dst := some 19, op := Op.move (Operand.tmp 0), type := 101, pos := "read.go:44", after := #[], guard := none }) (v := ?_) rfl (by kernel_rfl) (by kernel_rfl) (by kernel_rfl) (fun _ _ _ h => h) (Or.inl ⟨by rfl, ?_⟩) hHeld ?_
  rotate_left
  · intro w' hS; obtain ⟨hS0, hS1, hS2⟩ := hS; go_simp; all_goals (with_reducible rfl)
  (try simp only [Act.put, List.setIfInBounds_toArray, List.set_cons_zero, List.set_cons_succ])
  refine wpAnyH_take (i := 5) (oi := { dst := some 20, op := Op.nilCheck (Operand.tmp 19), type := 0, pos := "read.go:44", after := #[{ on := 4, ground := Ground.data }], guard := none }) (v := ?_) rfl (by kernel_rfl) (by kernel_rfl) (by kernel_rfl) (fun _ _ _ h => h) (Or.inl ⟨by rfl, ?_⟩) hHeld ?_
  rotate_left
  · intro w' hS; obtain ⟨hS0, hS1, hS2⟩ := hS; go_simp; all_goals (with_reducible rfl)
  (try simp only [Act.put, List.setIfInBounds_toArray, List.set_cons_zero, List.set_cons_succ])
  refine wpAnyH_take (i := 6) (oi := { dst := some 21, op := Op.fieldAddr 158 (Operand.tmp 20) 1, type := 0, pos := "read.go:44", after := #[{ on := 5, ground := Ground.data }], guard := none }) (v := ?_) rfl (by kernel_rfl) (by kernel_rfl) (by kernel_rfl) (fun _ _ _ h => h) (Or.inl ⟨by rfl, ?_⟩) hHeld ?_
  rotate_left
  · intro w' hS; obtain ⟨hS0, hS1, hS2⟩ := hS; go_simp; all_goals (with_reducible rfl)
  (try simp only [Act.put, List.setIfInBounds_toArray, List.set_cons_zero, List.set_cons_succ])
  refine wpAnyH_take (i := 7) (oi := { dst := some 22, op := Op.load 3 (Operand.tmp 21), type := 3, pos := "read.go:44", after := #[{ on := 6, ground := Ground.data }], guard := none }) (v := ?_) rfl (by kernel_rfl) (by kernel_rfl) (by kernel_rfl) (fun _ _ _ h => h) (Or.inl ⟨by rfl, ?_⟩) hHeld ?_
  rotate_left
  · intro w' hS; obtain ⟨hS0, hS1, hS2⟩ := hS; go_simp; all_goals (with_reducible rfl)
  (try simp only [Act.put, List.setIfInBounds_toArray, List.set_cons_zero, List.set_cons_succ])
  refine wpAnyH_take (i := 8) (oi := { dst := some 23, op := Op.slice 26 (Operand.tmp 18) (some (Operand.tmp 22)) none none, type := 26, pos := "read.go:44", after := #[{ on := 3, ground := Ground.data }, { on := 7, ground := Ground.data }], guard := none }) (v := ?_) rfl (by kernel_rfl) (by kernel_rfl) (by kernel_rfl) (fun _ _ _ h => h) (Or.inl ⟨by rfl, ?_⟩) hHeld ?_
  rotate_left
  · intro w' hS; obtain ⟨hS0, hS1, hS2⟩ := hS; go_simp; all_goals (with_reducible rfl)
  (try simp only [Act.put, List.setIfInBounds_toArray, List.set_cons_zero, List.set_cons_succ])
  refine wpAnyH_ready (rs := [9]) (by kernel_rfl) (by simp) ?_
  refine AllReadyH.cons (o := { dst := some 24, op := Op.call { callee := Callee.value (Operand.func 129), args := #[Operand.tmp 23], argTypes := #[26] }, type := 169, pos := "read.go:44", after := #[{ on := 8, ground := Ground.data }], guard := none }) rfl (fun K hK => ?_) AllReadyH.nil
  go_simp
  go_at_call 129
  refine (HF.out _ (below_drew (Below.refl _ _))).mono ?_
  rintro e wa ⟨rfl, hd⟩
  have HB1 := Aside0.mk (show Below W.heap.size W wa from by
    obtain ⟨md, rfl⟩ := hd
    exact pw_below_drewN (below_drew (Below.refl _ _)) md)
  clear hd
  refine hK.out _ _ (MKS.out _ HB1.out) (fun hHeld => ?_)
  clear hK K
  (try simp only [Act.put, List.setIfInBounds_toArray, List.set_cons_zero, List.set_cons_succ])
  refine wpAnyH_take (i := 10) (oi := { dst := some 14, op := Op.move (Operand.tmp 24), type := 169, pos := "read.go:44", after := #[{ on := 9, ground := Ground.data }], guard := none }) (v := ?_) rfl (by kernel_rfl) (by kernel_rfl) (by kernel_rfl) (fun _ _ _ h => h) (Or.inl ⟨by rfl, ?_⟩) hHeld ?_
  rotate_left
  · intro w' hS; obtain ⟨hS0, hS1, hS2⟩ := hS; go_simp; all_goals (with_reducible rfl)
  (try simp only [Act.put, List.setIfInBounds_toArray, List.set_cons_zero, List.set_cons_succ])
  refine wpAnyH_take (i := 11) (oi := { dst := some 25, op := Op.extract (Operand.tmp 14) 0, type := 151, pos := "read.go:44", after := #[{ on := 10, ground := Ground.data }], guard := none }) (v := ?_) rfl (by kernel_rfl) (by kernel_rfl) (by kernel_rfl) (fun _ _ _ h => h) (Or.inl ⟨by rfl, ?_⟩) hHeld ?_
  rotate_left
  · intro w' hS; obtain ⟨hS0, hS1, hS2⟩ := hS; go_simp; all_goals (with_reducible rfl)
  (try simp only [Act.put, List.setIfInBounds_toArray, List.set_cons_zero, List.set_cons_succ])
  refine wpAnyH_take (i := 12) (oi := { dst := some 26, op := Op.extract (Operand.tmp 14) 1, type := 3, pos := "read.go:44", after := #[{ on := 10, ground := Ground.data }, { on := 14, ground := Ground.gcOnly Departure.lateStores }], guard := none }) (v := ?_) rfl (by kernel_rfl) (by kernel_rfl) (by kernel_rfl) (fun _ _ _ h => h) (Or.inl ⟨by rfl, ?_⟩) hHeld ?_
  rotate_left
  · intro w' hS; obtain ⟨hS0, hS1, hS2⟩ := hS; go_simp; all_goals (with_reducible rfl)
  (try simp only [Act.put, List.setIfInBounds_toArray, List.set_cons_zero, List.set_cons_succ])
  refine wpAnyH_take (i := 13) (oi := { dst := some 27, op := Op.extract (Operand.tmp 14) 2, type := 22, pos := "read.go:44", after := #[{ on := 10, ground := Ground.data }, { on := 15, ground := Ground.gcOnly Departure.lateStores }], guard := none }) (v := ?_) rfl (by kernel_rfl) (by kernel_rfl) (by kernel_rfl) (fun _ _ _ h => h) (Or.inl ⟨by rfl, ?_⟩) hHeld ?_
  rotate_left
  · intro w' hS; obtain ⟨hS0, hS1, hS2⟩ := hS; go_simp; all_goals (with_reducible rfl)
  (try simp only [Act.put, List.setIfInBounds_toArray, List.set_cons_zero, List.set_cons_succ])
  refine wpAnyH_take (i := 14) (oi := { dst := some 6, op := Op.assign (Operand.tmp 25), type := 151, pos := "read.go:44", after := #[{ on := 11, ground := Ground.data }, { on := 9, ground := Ground.chain }, { on := 0, ground := Ground.phase }, { on := 1, ground := Ground.phase }, { on := 2, ground := Ground.phase }, { on := 3, ground := Ground.phase }, { on := 4, ground := Ground.phase }, { on := 5, ground := Ground.phase }, { on := 6, ground := Ground.phase }, { on := 7, ground := Ground.phase }, { on := 8, ground := Ground.phase }, { on := 9, ground := Ground.phase }, { on := 10, ground := Ground.phase }, { on := 11, ground := Ground.phase }, { on := 12, ground := Ground.textOnly Departure.lateStores }, { on := 13, ground := Ground.textOnly Departure.lateStores }], guard := none }) (v := ?_) rfl (by kernel_rfl) (by kernel_rfl) (by kernel_rfl) (fun _ _ _ h => h) (Or.inl ⟨by rfl, ?_⟩) hHeld ?_
  rotate_left
  · intro w' hS; obtain ⟨hS0, hS1, hS2⟩ := hS; go_simp; all_goals (with_reducible rfl)
  (try simp only [Act.put, List.setIfInBounds_toArray, List.set_cons_zero, List.set_cons_succ])
  refine wpAnyH_take (i := 15) (oi := { dst := some 7, op := Op.assign (Operand.tmp 26), type := 3, pos := "read.go:44", after := #[{ on := 12, ground := Ground.data }, { on := 14, ground := Ground.chain }, { on := 0, ground := Ground.phase }, { on := 1, ground := Ground.phase }, { on := 2, ground := Ground.phase }, { on := 3, ground := Ground.phase }, { on := 4, ground := Ground.phase }, { on := 5, ground := Ground.phase }, { on := 6, ground := Ground.phase }, { on := 7, ground := Ground.phase }, { on := 8, ground := Ground.phase }, { on := 9, ground := Ground.phase }, { on := 10, ground := Ground.phase }, { on := 11, ground := Ground.phase }, { on := 12, ground := Ground.phase }, { on := 13, ground := Ground.textOnly Departure.lateStores }, { on := 14, ground := Ground.phase }], guard := none }) (v := ?_) rfl (by kernel_rfl) (by kernel_rfl) (by kernel_rfl) (fun _ _ _ h => h) (Or.inl ⟨by rfl, ?_⟩) hHeld ?_
  rotate_left
  · intro w' hS; obtain ⟨hS0, hS1, hS2⟩ := hS; go_simp; all_goals (with_reducible rfl)
  (try simp only [Act.put, List.setIfInBounds_toArray, List.set_cons_zero, List.set_cons_succ])
  refine wpAnyH_take (i := 16) (oi := { dst := some 8, op := Op.assign (Operand.tmp 27), type := 22, pos := "read.go:44", after := #[{ on := 13, ground := Ground.data }, { on := 15, ground := Ground.chain }, { on := 0, ground := Ground.phase }, { on := 1, ground := Ground.phase }, { on := 2, ground := Ground.phase }, { on := 3, ground := Ground.phase }, { on := 4, ground := Ground.phase }, { on := 5, ground := Ground.phase }, { on := 6, ground := Ground.phase }, { on := 7, ground := Ground.phase }, { on := 8, ground := Ground.phase }, { on := 9, ground := Ground.phase }, { on := 10, ground := Ground.phase }, { on := 11, ground := Ground.phase }, { on := 12, ground := Ground.phase }, { on := 13, ground := Ground.phase }, { on := 14, ground := Ground.phase }, { on := 15, ground := Ground.phase }], guard := none }) (v := ?_) rfl (by kernel_rfl) (by kernel_rfl) (by kernel_rfl) (fun _ _ _ h => h) (Or.inl ⟨by rfl, ?_⟩) hHeld ?_
  rotate_left
  · intro w' hS; obtain ⟨hS0, hS1, hS2⟩ := hS; go_simp; all_goals (with_reducible rfl)
  (try simp only [Act.put, List.setIfInBounds_toArray, List.set_cons_zero, List.set_cons_succ])
  refine wpAnyH_done (by kernel_rfl) ?_ _
  (try simp only [Act.put, List.setIfInBounds_toArray, List.set_cons_zero, List.set_cons_succ])
  clear HF cm
  generalize (if c = m then A else Option.map (fun x => x.add m) A) = Am at *
  by_cases he : er = 0
  rotate_left
  · have HP := Aside0.mk (show pList xs most (pLevel xs most) m = Res.fail er ((m : Int) + (dn : Int)) from by
      unfold pList pU took
      rw [HQ.out, if_neg he]
      rfl)
    have HE := Aside0.mk he
    clear he
    go_wp2_with fail
    go_at_call 116
    refine (took_fail (HK.out.below HB1.out) (dn : Int) er (by have := HPL.out; have := HK.out.big; omega) HE.out).mono ?_
    rintro e w2 ⟨rfl, rfl⟩
    refine ⟨rfl, HB1.out.mono HK.out.size, Kept.of_below HB1.out _, ?_⟩
    rw [HP.out]
    rfl
  subst he
  go_wp2_with fail
  go_at_call 116
  refine (took_ok (HK.out.below HB1.out) dn HPL.out).mono ?_
  rintro e w2 ⟨rfl, hk, hb, hkp⟩
  have K2 := Aside0.mk hk
  have B2 := Aside0.mk ((HB1.out.mono HK.out.size).trans hb)
  have P2 := Aside0.mk ((Kept.of_below HB1.out (fun j => j = g)).then_ hkp (fun _ h => .inl h))
  have X2 := Aside0.mk (show Rt 101 gb [ptr g] w2 from (hkp.2 gb (Nat.lt_of_lt_of_le HBX.out.lt HB1.out.size) HNE.out).trans (HBX.out.below HB1.out))
  have hm2 := hk.row.cell 2 _ rfl
  have hw64 : IntKind.u64.wrap (most : Int) = (most : Int) := by have := HK.out.mb; rw [IntKind.wrap_u64]; omega
  clear hk hb hkp
  by_cases hu : most < u
  · have HP := Aside0.mk (show pList xs most (pLevel xs most) m = Res.fail 91 (m : Int) from by
      unfold pList pU took
      rw [HQ.out, if_pos rfl]
      simp only [Res.bind]
      rw [if_pos (by omega)])
    have d1 : decide ((most : Int) < (u : Int)) = true := decide_eq_true (by omega)
    have d2 : decide (most < u) = true := decide_eq_true hu
    clear hu
    go_wp2_with fail
    refine ⟨rfl, B2.out, P2.out, ?_⟩
    rw [HP.out]
    rfl
  have HP := Aside0.mk (show pList xs most (pLevel xs most) m = pN (pLevel xs most) u [] (m + dn) from by
    unfold pList pU took
    rw [HQ.out, if_pos rfl]
    simp only [Res.bind]
    rw [if_neg (by omega), Int.toNat_natCast, Int.toNat_natCast])
  have HU := Aside0.mk (show u ≤ most by omega)
  have d1 : decide ((most : Int) < (u : Int)) = false := decide_eq_false (by omega)
  have d2 : decide (most < u) = false := decide_eq_false hu
  clear hu
  go_wp2_with fail
  clear hm2 hw64 d1 d2 c1 c2 c3
  obtain ⟨S0, hS0⟩ : ∃ S0, W.heap.size = S0 := ⟨_, rfl⟩
  have HS0 := Aside0.mk hS0
  have HLT := Aside0.mk (show g < S0 ∧ gb < S0 ∧ B ≤ S0 by have := HK.out.row.lt; have := HBX.out.lt; have := HK.out.size; omega)
  clear hS0
  go_loopw [9, 43] (fun v p wr => ∃ (i m' : Nat) (l : List S28), p = .int .u64 (i : Int) ∧ Aside0 (i ≤ u) ∧ Aside0 (l.length = i) ∧ Aside0 (pN (pLevel xs most) u [] (m + dn) = pN (pLevel xs most) (u - i) l m') ∧ Aside0 (k28.R 28 wr S0 (fun _ => True) v l) ∧ Aside0 (CrAt g B A n c xs m' most wr) ∧ Aside0 (Below B W wr) ∧ Aside0 (Kept W wr (fun j => j = g)) ∧ Aside0 (Rt 101 gb [ptr g] wr)) (fun _ p _ => u - (intOf p).toNat)
  · exact ⟨0, m + dn, [], rfl, ⟨Nat.zero_le _⟩, ⟨rfl⟩, ⟨rfl⟩, ⟨Kd.R_nil _ _ _ _ _⟩, K2, B2, P2, X2⟩
  · obtain ⟨i, m', l, rfl, HI, HLN, HPN, HR, HKr, HBr, HPr, HXr⟩ := hrel
    by_cases ci : i < u
    · have ci1 : decide ((i : Int) < (u : Int)) = true := decide_eq_true (by omega)
      have hw1 : IntKind.u64.wrap ((i : Int) + 1) = ((i + 1 : Nat) : Int) := by rw [IntKind.wrap_u64]; have := HUL.out; omega
      go_wp2_with fail
      go_at_call 119
      refine (r_level HKr.out HXr.out).mono ?_
      rintro e w5 ⟨hb, hp, ho⟩
      have hbt := HBr.out.trans hb
      have hpt := HPr.out.then_ hp (fun _ h => .inl h)
      have hpn : pN (pLevel xs most) (u - i) l m' = (pLevel xs most m').bind fun x mm => pN (pLevel xs most) (u - (i + 1)) (l ++ [x]) mm := by
        rw [show u - i = (u - (i + 1)) + 1 from by omega]
        rfl
      rcases hq : pLevel xs most m' with ⟨x, m2⟩ | ⟨er, p⟩
      rotate_left
      · rw [hq] at ho hpn
        have ho : e = gaveUp er p := ho
        subst ho
        refine ⟨rfl, hbt, hpt, ?_⟩
        rw [HP.out, HPN.out, hpn]
        rfl
      rw [hq] at ho hpn
      obtain ⟨he, hk⟩ : e = .returned (lev x) ∧ CrAt g B A n c xs m2 most w5 := ho
      subst he
      have K5 := Aside0.mk hk
      have B5 := Aside0.mk hbt
      have P5 := Aside0.mk hpt
      have X5 := Aside0.mk (show Rt 101 gb [ptr g] w5 from (hp.2 gb HXr.out.lt HNE.out).trans HXr.out)
      have R5 := Aside0.mk (show k28.R 28 w5 S0 (fun _ => True) _ l from Kd.R_mono (Kd.R_kept (Kd.R_bound HR.out) hp (fun j hj e => by have := hj.2.1; have := HLT.out; omega)) (fun _ _ => trivial))
      have HPN2 := Aside0.mk (HPN.out.trans hpn)
      have S5 := Aside0.mk (show S0 ≤ w5.heap.size by have := hpt.1; have := HS0.out; omega)
      have HSZ := Aside0.mk (show (l.length + 1) * 32 ≤ 140737488355328 by have := HLN.out; have := HI.out; have := HU.out; have := HK.out.mb; omega)
      clear hb hp hbt hpt hpn hq hk
      try clear ho
      go_wp2_with (first | (
        (with_reducible refine gate_builtin (b := .append) (xs := #[.tmp 45, .tmp 48]) rfl ?_)
        at_builtin
        refine Kd.R_append k28 (w0 := w5) S0 rfl (.tmp 45) (.tmp 48) 23 28 (.agg #[.string ⟨#[]⟩, .int .i64 0, .int .i64 0]) 32 rfl Try.underlying23 info28 rfl (by decide) (by decide) _ l x [.string x.f0, .int .i64 x.f1, .int .i64 x.f2] (fun _ => True) (fun _ => False) rfl rfl (k28_mkM _ _ _ x) (fun _ h => h.elim) (fun _ _ => trivial) R5.out (Below.refl _ _) S5.out HSZ.out ?_
        intro v1 w6 ho hb hg hat
        have HO6 := Aside0.mk ho
        have K6 := Aside0.mk (K5.out.aside (hb.mono HLT.out.2.2) (hb.block g HLT.out.1))
        have B6 := Aside0.mk (B5.out.trans (hb.mono HLT.out.2.2))
        have P6 := Aside0.mk (show Kept W w6 (fun j => j = g) from ⟨Nat.le_trans P5.out.1 hb.size, fun j hj hn => (hb.block j (by have := HS0.out; omega)).trans (P5.out.2 j hj hn)⟩)
        have X6 := Aside0.mk (show Rt 101 gb [ptr g] w6 from (hb.block gb HLT.out.2.1).trans X5.out)
        clear ho hb hg hat))
      refine ⟨⟨i + 1, m2, l ++ [x], congrArg (Value.int .u64) (by omega), ⟨ci⟩, ⟨by rw [List.length_append, HLN.out]; rfl⟩, HPN2, HO6, K6, B6, P6, X6⟩, ?_⟩
      simp only [intOf]
      omega
    · have ci1 : decide ((i : Int) < (u : Int)) = false := decide_eq_false (by omega)
      obtain rfl : i = u := by have := HI.out; omega
      go_wp2_with fail
      go_ret
      refine ⟨HBr.out, HPr.out, ?_⟩
      rw [HP.out, HPN.out, Nat.sub_self, HS0.out]
      exact ⟨_, rfl, HR.out, HKr.out⟩
end Go.Proofs.Ytafmoglaockepaa.Cd
namespace Go.Proofs.Ytafmoglaockepaa.Cd
open Go Go.RowKit Go.Proofs.Ytafmoglaockepaa.Num Go.Proofs.Ytafmoglaockepaa.PG Go.Proofs.YtafmoglaockepaaW.PrintWords Go.Proofs.YtafmoglaockepaaW.PrintLast Go.Proofs.YtafmoglaockepaaW.PrintMore
set_option linter.unusedVariables false
set_option linter.unusedSimpArgs false
set_option maxHeartbeats 4000000
set_option maxRecDepth 100000
theorem r_levels {g B : Nat} {A : Option Addr} {n c : Nat} {xs : List Int} {m most : Nat} {W : World} (k : CrAt g B A n c xs m most W) :
    Calls Try.prog 63 #[ptr g] W fun e w' => Below B W w' ∧ Kept W w' (fun j => j = g) ∧ OutR g B A n c xs most (fun l v w' => k28.R 28 w' W.heap.size (fun _ => True) v l) (pList xs most (pLevel xs most) m) e w' := by
  have HK := Aside0.mk k
  have hr2 : Rt 101 W.heap.size [ptr g] (W.alloc (.cells #[ptr g] 101)) := heap_alloc_new W _
  have hb1 : Below W.heap.size W (W.alloc (.cells #[ptr g] 101)) := below_alloc (Below.refl _ _) _
  have hmf : ∀ (fn : Fn) (first cap : Array Value) (w : World), (Instr.makeFunc fn first cap).run Try.prog w = .ok (.func fn first cap) w := fun _ _ _ _ => rfl
  have HSZ := Aside0.mk hb1.size
  clear k
  go_enter Try.func63, Try.ntmps63
  go_upto_region 1 with fail
  obtain ⟨b2, hb2⟩ : ∃ b2, W.heap.size = b2 := ⟨_, rfl⟩
  have HBE := Aside0.mk hb2
  have K1 := Aside0.mk (HK.out.below hb1)
  have B1 := Aside0.mk (hb1.mono HK.out.size)
  have P1 := Aside0.mk (Kept.of_below hb1 (fun j => j = g))
  rw [hb2] at hr2 ⊢
  have R1 := Aside0.mk hr2
  clear hr2 hb1 hb2
  generalize W.alloc (.cells #[ptr g] 101) = w1 at *
  have c0 := R1.out.cell 0 _ rfl
  go_wp2_with fail
  go_at_call 118
  refine (r_levelList K1.out R1.out).mono ?_
  rintro e w2 ⟨hb, hp, ho⟩
  have hbt := B1.out.trans hb
  have hpt := P1.out.then_ hp (fun _ h => .inl h)
  rcases hq : pList xs most (pLevel xs most) m with ⟨l, m2⟩ | ⟨er, p⟩
  · rw [hq] at ho
    obtain ⟨v, he, hR, hk⟩ : ∃ v, e = .returned v ∧ k28.R 28 w2 w1.heap.size (fun _ => True) v l ∧ CrAt g B A n c xs m2 most w2 := ho
    subst he
    have HR := Aside0.mk (show k28.R 28 w2 W.heap.size (fun _ => True) v l from Kd.R_lower hR HSZ.out)
    have K2 := Aside0.mk hk
    have B2 := Aside0.mk hbt
    have P2 := Aside0.mk hpt
    have HQ := Aside0.mk hq
    clear hb hp hbt hpt hR hk hq c0 hmf
    try clear ho
    go_wp2_with fail
    go_ret
    rw [HBE.out] at *
    refine ⟨B2.out, P2.out, ?_⟩
    rw [HQ.out]
    exact ⟨v, rfl, HR.out, K2.out⟩
  · rw [hq] at ho
    have ho : e = gaveUp er p := ho
    subst ho
    refine ⟨rfl, hbt, hpt, ?_⟩
    rw [hq]
    rfl
/-- A reply, and its fields as they are read. -/
structure RepD where
  id : ByteArray
  er : Int
  line : Int
  levs : List S28
  now : Int
def pReply (xs : List Int) (most : Nat) (m : Nat) : Res RepD :=
  (pT xs most m).bind fun id m => (pI xs m).bind fun er m => (pI xs m).bind fun line m => (pList xs most (pLevel xs most) m).bind fun l m => (pI xs m).bind fun now m => .ok ⟨id, er, line, l, now⟩ m
def encRep (S0 : Nat) (x : RepD) (v : Value) (w : World) : Prop := ∃ A n c, v = .agg #[.string x.id, .int .i64 x.er, .int .i64 x.line, .slice A n c, .int .i64 x.now] ∧ k28.R 28 w S0 (fun _ => True) (.slice A n c) x.levs
theorem r_replyF {g B : Nat} {A : Option Addr} {n c : Nat} {xs : List Int} {m most : Nat} {W : World} (k : CrAt g B A n c xs m most W) :
    Calls Try.prog 60 #[ptr g] W fun e w' => Below B W w' ∧ Kept W w' (fun j => j = g) ∧ OutR g B A n c xs most (encRep W.heap.size) (pReply xs most m) e w' := by
  have HK := Aside0.mk k
  clear k
  go_enter Try.func60, Try.ntmps60
  go_upto_region 1 with fail
  have hr1 : Rt 25 W.heap.size [.string ⟨#[]⟩, .int .i64 0, .int .i64 0, .slice none 0 0, .int .i64 0] (W.alloc (.cells #[.string ⟨#[]⟩, .int .i64 0, .int .i64 0, .slice none 0 0, .int .i64 0] 25)) := heap_alloc_new W _
  have hb1 : Below W.heap.size W (W.alloc (.cells #[.string ⟨#[]⟩, .int .i64 0, .int .i64 0, .slice none 0 0, .int .i64 0] 25)) := below_alloc (Below.refl _ _) _
  obtain ⟨b, hbe⟩ : ∃ b, W.heap.size = b := ⟨_, rfl⟩
  have K1 := Aside0.mk (HK.out.below hb1)
  have B1 := Aside0.mk (hb1.mono HK.out.size)
  have P1 := Aside0.mk (Kept.of_below hb1 (fun j => j = g))
  have HBE := Aside0.mk hbe
  have HLT := Aside0.mk (show g < b ∧ B ≤ b by have := HK.out.row.lt; have := HK.out.size; omega)
  rw [hbe] at hr1 ⊢
  have R1 := Aside0.mk hr1
  clear hr1 hb1 hbe
  generalize W.alloc (.cells #[.string ⟨#[]⟩, .int .i64 0, .int .i64 0, .slice none 0 0, .int .i64 0] 25) = w1 at *
  have cr := R1.out.cell 0 _ rfl
  have fr := R1.out.free 0
  go_wp2_with fail
  go_at_call 61
  refine (r_text K1.out).mono ?_
  rintro e w2 ⟨hb, hp, ho⟩
  have hbt := B1.out.trans hb
  have hpt := P1.out.then_ hp (fun _ h => .inl h)
  rcases hq : pT xs most m with ⟨t, m1⟩ | ⟨er, p⟩
  rotate_left
  · rw [hq] at ho
    have ho : e = gaveUp er p := ho
    subst ho
    refine ⟨rfl, hbt, hpt, ?_⟩
    have e9 : pReply xs most m = Res.fail er p := by
      unfold pReply
      simp only [Res.bind, hq]
    rw [e9]
    rfl
  rw [hq] at ho
  obtain ⟨he, hk⟩ : e = .returned (.string t) ∧ CrAt g B A n c xs m1 most w2 := ho
  subst he
  have HQ0 := Aside0.mk hq
  have K2 := Aside0.mk hk
  have B2 := Aside0.mk hbt
  have P2 := Aside0.mk hpt
  have R2 := Aside0.mk (show Rt 25 b [.string ⟨#[]⟩, .int .i64 0, .int .i64 0, .slice none 0 0, .int .i64 0] w2 from (hp.2 b R1.out.lt (by have := HLT.out; show b ≠ g; omega)).trans R1.out)
  clear hb hp hbt hpt hq hk cr fr
  try clear ho
  have cr := R2.out.cell 0 _ rfl
  have fr := R2.out.free 0
  go_upto_region 2 with fail
  have e1 := R2.out.set 0 (.string t)
  rw [e1]
  clear e1 cr fr
  have hl : [Value.string ⟨#[]⟩, .int .i64 0, .int .i64 0, .slice none 0 0, .int .i64 0].set 0 (.string t) = [Value.string t, .int .i64 0, .int .i64 0, .slice none 0 0, .int .i64 0] := rfl
  rw [hl]
  clear hl
  have K3 := Aside0.mk (show CrAt g B A n c xs m1 most (w2.setRow b [Value.string t, .int .i64 0, .int .i64 0, .slice none 0 0, .int .i64 0].toArray) from K2.out.aside (below_setRow' (Below.refl _ _) HLT.out.2 _) (setRow_other _ _ _ _ (by have := HLT.out; omega)))
  have B3 := Aside0.mk (show Below B W (w2.setRow b [Value.string t, .int .i64 0, .int .i64 0, .slice none 0 0, .int .i64 0].toArray) from below_setRow' B2.out HLT.out.2 _)
  have P3 := Aside0.mk (show Kept W (w2.setRow b [Value.string t, .int .i64 0, .int .i64 0, .slice none 0 0, .int .i64 0].toArray) (fun j => j = g) from ⟨by rw [setRow_size]; exact P2.out.1, fun j hj hn => (setRow_other _ _ _ _ (by have := HBE.out; omega)).trans (P2.out.2 j hj hn)⟩)
  have R3 := Aside0.mk (show Rt 25 b [Value.string t, .int .i64 0, .int .i64 0, .slice none 0 0, .int .i64 0] (w2.setRow b [Value.string t, .int .i64 0, .int .i64 0, .slice none 0 0, .int .i64 0].toArray) from R2.out.row _)
  generalize w2.setRow b [Value.string t, .int .i64 0, .int .i64 0, .slice none 0 0, .int .i64 0].toArray = w3 at *
  have cr := R3.out.cell 1 _ rfl
  have fr := R3.out.free 1
  go_wp2_with fail
  go_at_call 62
  refine (r_int K3.out).mono ?_
  rintro e w4 ⟨hb, hp, ho⟩
  have hbt := B3.out.trans hb
  have hpt := P3.out.then_ hp (fun _ h => .inl h)
  rcases hq : pI xs m1 with ⟨a, m2⟩ | ⟨er, p⟩
  rotate_left
  · rw [hq] at ho
    have ho : e = gaveUp er p := ho
    subst ho
    refine ⟨rfl, hbt, hpt, ?_⟩
    have e9 : pReply xs most m = Res.fail er p := by
      unfold pReply
      simp only [Res.bind, HQ0.out, hq]
    rw [e9]
    rfl
  rw [hq] at ho
  obtain ⟨he, hk⟩ : e = .returned (.int .i64 a) ∧ CrAt g B A n c xs m2 most w4 := ho
  subst he
  have HQ1 := Aside0.mk hq
  have K4 := Aside0.mk hk
  have B4 := Aside0.mk hbt
  have P4 := Aside0.mk hpt
  have R4 := Aside0.mk (show Rt 25 b [.string t, .int .i64 0, .int .i64 0, .slice none 0 0, .int .i64 0] w4 from (hp.2 b R3.out.lt (by have := HLT.out; show b ≠ g; omega)).trans R3.out)
  clear hb hp hbt hpt hq hk cr fr
  try clear ho
  have cr := R4.out.cell 1 _ rfl
  have fr := R4.out.free 1
  go_upto_region 3 with fail
  have e1 := R4.out.set 1 (.int .i64 a)
  rw [e1]
  clear e1 cr fr
  have hl : [Value.string t, .int .i64 0, .int .i64 0, .slice none 0 0, .int .i64 0].set 1 (.int .i64 a) = [Value.string t, .int .i64 a, .int .i64 0, .slice none 0 0, .int .i64 0] := rfl
  rw [hl]
  clear hl
  have K5 := Aside0.mk (show CrAt g B A n c xs m2 most (w4.setRow b [Value.string t, .int .i64 a, .int .i64 0, .slice none 0 0, .int .i64 0].toArray) from K4.out.aside (below_setRow' (Below.refl _ _) HLT.out.2 _) (setRow_other _ _ _ _ (by have := HLT.out; omega)))
  have B5 := Aside0.mk (show Below B W (w4.setRow b [Value.string t, .int .i64 a, .int .i64 0, .slice none 0 0, .int .i64 0].toArray) from below_setRow' B4.out HLT.out.2 _)
  have P5 := Aside0.mk (show Kept W (w4.setRow b [Value.string t, .int .i64 a, .int .i64 0, .slice none 0 0, .int .i64 0].toArray) (fun j => j = g) from ⟨by rw [setRow_size]; exact P4.out.1, fun j hj hn => (setRow_other _ _ _ _ (by have := HBE.out; omega)).trans (P4.out.2 j hj hn)⟩)
  have R5 := Aside0.mk (show Rt 25 b [Value.string t, .int .i64 a, .int .i64 0, .slice none 0 0, .int .i64 0] (w4.setRow b [Value.string t, .int .i64 a, .int .i64 0, .slice none 0 0, .int .i64 0].toArray) from R4.out.row _)
  generalize w4.setRow b [Value.string t, .int .i64 a, .int .i64 0, .slice none 0 0, .int .i64 0].toArray = w5 at *
  have cr := R5.out.cell 2 _ rfl
  have fr := R5.out.free 2
  go_wp2_with fail
  go_at_call 62
  refine (r_int K5.out).mono ?_
  rintro e w6 ⟨hb, hp, ho⟩
  have hbt := B5.out.trans hb
  have hpt := P5.out.then_ hp (fun _ h => .inl h)
  rcases hq : pI xs m2 with ⟨z, m3⟩ | ⟨er, p⟩
  rotate_left
  · rw [hq] at ho
    have ho : e = gaveUp er p := ho
    subst ho
    refine ⟨rfl, hbt, hpt, ?_⟩
    have e9 : pReply xs most m = Res.fail er p := by
      unfold pReply
      simp only [Res.bind, HQ0.out, HQ1.out, hq]
    rw [e9]
    rfl
  rw [hq] at ho
  obtain ⟨he, hk⟩ : e = .returned (.int .i64 z) ∧ CrAt g B A n c xs m3 most w6 := ho
  subst he
  have HQ2 := Aside0.mk hq
  have K6 := Aside0.mk hk
  have B6 := Aside0.mk hbt
  have P6 := Aside0.mk hpt
  have R6 := Aside0.mk (show Rt 25 b [.string t, .int .i64 a, .int .i64 0, .slice none 0 0, .int .i64 0] w6 from (hp.2 b R5.out.lt (by have := HLT.out; show b ≠ g; omega)).trans R5.out)
  clear hb hp hbt hpt hq hk cr fr
  try clear ho
  have cr := R6.out.cell 2 _ rfl
  have fr := R6.out.free 2
  go_upto_region 4 with fail
  have e1 := R6.out.set 2 (.int .i64 z)
  rw [e1]
  clear e1 cr fr
  have hl : [Value.string t, .int .i64 a, .int .i64 0, .slice none 0 0, .int .i64 0].set 2 (.int .i64 z) = [Value.string t, .int .i64 a, .int .i64 z, .slice none 0 0, .int .i64 0] := rfl
  rw [hl]
  clear hl
  have K7 := Aside0.mk (show CrAt g B A n c xs m3 most (w6.setRow b [Value.string t, .int .i64 a, .int .i64 z, .slice none 0 0, .int .i64 0].toArray) from K6.out.aside (below_setRow' (Below.refl _ _) HLT.out.2 _) (setRow_other _ _ _ _ (by have := HLT.out; omega)))
  have B7 := Aside0.mk (show Below B W (w6.setRow b [Value.string t, .int .i64 a, .int .i64 z, .slice none 0 0, .int .i64 0].toArray) from below_setRow' B6.out HLT.out.2 _)
  have P7 := Aside0.mk (show Kept W (w6.setRow b [Value.string t, .int .i64 a, .int .i64 z, .slice none 0 0, .int .i64 0].toArray) (fun j => j = g) from ⟨by rw [setRow_size]; exact P6.out.1, fun j hj hn => (setRow_other _ _ _ _ (by have := HBE.out; omega)).trans (P6.out.2 j hj hn)⟩)
  have R7 := Aside0.mk (show Rt 25 b [Value.string t, .int .i64 a, .int .i64 z, .slice none 0 0, .int .i64 0] (w6.setRow b [Value.string t, .int .i64 a, .int .i64 z, .slice none 0 0, .int .i64 0].toArray) from R6.out.row _)
  generalize w6.setRow b [Value.string t, .int .i64 a, .int .i64 z, .slice none 0 0, .int .i64 0].toArray = w7 at *
  have cr := R7.out.cell 3 _ rfl
  have fr := R7.out.free 3
  go_wp2_with fail
  go_at_call 63
  refine (r_levels K7.out).mono ?_
  rintro e w8 ⟨hb, hp, ho⟩
  have hbt := B7.out.trans hb
  have hpt := P7.out.then_ hp (fun _ h => .inl h)
  rcases hq : pList xs most (pLevel xs most) m3 with ⟨l, m4⟩ | ⟨er, p⟩
  rotate_left
  · rw [hq] at ho
    have ho : e = gaveUp er p := ho
    subst ho
    refine ⟨rfl, hbt, hpt, ?_⟩
    have e9 : pReply xs most m = Res.fail er p := by
      unfold pReply
      simp only [Res.bind, HQ0.out, HQ1.out, HQ2.out, hq]
    rw [e9]
    rfl
  rw [hq] at ho
  obtain ⟨v, he, hRl, hk⟩ : ∃ v, e = .returned v ∧ k28.R 28 w8 w7.heap.size (fun _ => True) v l ∧ CrAt g B A n c xs m4 most w8 := ho
  obtain ⟨Al, cl, ev⟩ := Kd.R_slice hRl
  obtain ⟨nl, hnl⟩ : ∃ nl, l.length = nl := ⟨_, rfl⟩
  rw [hnl] at ev
  subst ev
  have L8 := Aside0.mk (show k28.R 28 w8 (b + 1) (fun _ => True) (.slice Al nl cl) l from Kd.R_lower hRl R7.out.lt)
  clear hRl hnl
  subst he
  have HQ3 := Aside0.mk hq
  have K8 := Aside0.mk hk
  have B8 := Aside0.mk hbt
  have P8 := Aside0.mk hpt
  have R8 := Aside0.mk (show Rt 25 b [.string t, .int .i64 a, .int .i64 z, .slice none 0 0, .int .i64 0] w8 from (hp.2 b R7.out.lt (by have := HLT.out; show b ≠ g; omega)).trans R7.out)
  clear hb hp hbt hpt hq hk cr fr
  try clear ho
  have cr := R8.out.cell 3 _ rfl
  have fr := R8.out.free 3
  go_upto_region 5 with fail
  have e1 := R8.out.set 3 (.slice Al nl cl)
  rw [e1]
  clear e1 cr fr
  have hl : [Value.string t, .int .i64 a, .int .i64 z, .slice none 0 0, .int .i64 0].set 3 (.slice Al nl cl) = [Value.string t, .int .i64 a, .int .i64 z, .slice Al nl cl, .int .i64 0] := rfl
  rw [hl]
  clear hl
  have K9 := Aside0.mk (show CrAt g B A n c xs m4 most (w8.setRow b [Value.string t, .int .i64 a, .int .i64 z, .slice Al nl cl, .int .i64 0].toArray) from K8.out.aside (below_setRow' (Below.refl _ _) HLT.out.2 _) (setRow_other _ _ _ _ (by have := HLT.out; omega)))
  have B9 := Aside0.mk (show Below B W (w8.setRow b [Value.string t, .int .i64 a, .int .i64 z, .slice Al nl cl, .int .i64 0].toArray) from below_setRow' B8.out HLT.out.2 _)
  have P9 := Aside0.mk (show Kept W (w8.setRow b [Value.string t, .int .i64 a, .int .i64 z, .slice Al nl cl, .int .i64 0].toArray) (fun j => j = g) from ⟨by rw [setRow_size]; exact P8.out.1, fun j hj hn => (setRow_other _ _ _ _ (by have := HBE.out; omega)).trans (P8.out.2 j hj hn)⟩)
  have R9 := Aside0.mk (show Rt 25 b [Value.string t, .int .i64 a, .int .i64 z, .slice Al nl cl, .int .i64 0] (w8.setRow b [Value.string t, .int .i64 a, .int .i64 z, .slice Al nl cl, .int .i64 0].toArray) from R8.out.row _)
  have L9 := Aside0.mk (show k28.R 28 (w8.setRow b [Value.string t, .int .i64 a, .int .i64 z, .slice Al nl cl, .int .i64 0].toArray) (b + 1) (fun _ => True) (.slice Al nl cl) l from Kd.R_mono (Kd.R_step (Kd.R_bound L8.out) (fun j hj _ => setRow_other _ _ _ _ (by have := hj.2.1; omega))) (fun _ _ => trivial))
  generalize w8.setRow b [Value.string t, .int .i64 a, .int .i64 z, .slice Al nl cl, .int .i64 0].toArray = w9 at *
  have cr := R9.out.cell 4 _ rfl
  have fr := R9.out.free 4
  go_wp2_with fail
  go_at_call 62
  refine (r_int K9.out).mono ?_
  rintro e w10 ⟨hb, hp, ho⟩
  have hbt := B9.out.trans hb
  have hpt := P9.out.then_ hp (fun _ h => .inl h)
  rcases hq : pI xs m4 with ⟨y, m5⟩ | ⟨er, p⟩
  rotate_left
  · rw [hq] at ho
    have ho : e = gaveUp er p := ho
    subst ho
    refine ⟨rfl, hbt, hpt, ?_⟩
    have e9 : pReply xs most m = Res.fail er p := by
      unfold pReply
      simp only [Res.bind, HQ0.out, HQ1.out, HQ2.out, HQ3.out, hq]
    rw [e9]
    rfl
  rw [hq] at ho
  obtain ⟨he, hk⟩ : e = .returned (.int .i64 y) ∧ CrAt g B A n c xs m5 most w10 := ho
  subst he
  have HQ4 := Aside0.mk hq
  have K10 := Aside0.mk hk
  have B10 := Aside0.mk hbt
  have P10 := Aside0.mk hpt
  have R10 := Aside0.mk (show Rt 25 b [.string t, .int .i64 a, .int .i64 z, .slice Al nl cl, .int .i64 0] w10 from (hp.2 b R9.out.lt (by have := HLT.out; show b ≠ g; omega)).trans R9.out)
  have L10 := Aside0.mk (show k28.R 28 w10 (b + 1) (fun _ => True) (.slice Al nl cl) l from Kd.R_mono (Kd.R_kept (Kd.R_bound L9.out) hp (fun j hj e => by have := hj.2.1; have := HLT.out; omega)) (fun _ _ => trivial))
  clear hb hp hbt hpt hq hk cr fr
  try clear ho
  have cr := R10.out.cell 4 _ rfl
  have fr := R10.out.free 4
  go_upto_region 6 with fail
  have e1 := R10.out.set 4 (.int .i64 y)
  rw [e1]
  clear e1 cr fr
  have hl : [Value.string t, .int .i64 a, .int .i64 z, .slice Al nl cl, .int .i64 0].set 4 (.int .i64 y) = [Value.string t, .int .i64 a, .int .i64 z, .slice Al nl cl, .int .i64 y] := rfl
  rw [hl]
  clear hl
  have K11 := Aside0.mk (show CrAt g B A n c xs m5 most (w10.setRow b [Value.string t, .int .i64 a, .int .i64 z, .slice Al nl cl, .int .i64 y].toArray) from K10.out.aside (below_setRow' (Below.refl _ _) HLT.out.2 _) (setRow_other _ _ _ _ (by have := HLT.out; omega)))
  have B11 := Aside0.mk (show Below B W (w10.setRow b [Value.string t, .int .i64 a, .int .i64 z, .slice Al nl cl, .int .i64 y].toArray) from below_setRow' B10.out HLT.out.2 _)
  have P11 := Aside0.mk (show Kept W (w10.setRow b [Value.string t, .int .i64 a, .int .i64 z, .slice Al nl cl, .int .i64 y].toArray) (fun j => j = g) from ⟨by rw [setRow_size]; exact P10.out.1, fun j hj hn => (setRow_other _ _ _ _ (by have := HBE.out; omega)).trans (P10.out.2 j hj hn)⟩)
  have R11 := Aside0.mk (show Rt 25 b [Value.string t, .int .i64 a, .int .i64 z, .slice Al nl cl, .int .i64 y] (w10.setRow b [Value.string t, .int .i64 a, .int .i64 z, .slice Al nl cl, .int .i64 y].toArray) from R10.out.row _)
  have L11 := Aside0.mk (show k28.R 28 (w10.setRow b [Value.string t, .int .i64 a, .int .i64 z, .slice Al nl cl, .int .i64 y].toArray) (b + 1) (fun _ => True) (.slice Al nl cl) l from Kd.R_mono (Kd.R_step (Kd.R_bound L10.out) (fun j hj _ => setRow_other _ _ _ _ (by have := hj.2.1; omega))) (fun _ _ => trivial))
  generalize w10.setRow b [Value.string t, .int .i64 a, .int .i64 z, .slice Al nl cl, .int .i64 y].toArray = w11 at *
  have c0 := R11.out.cell 0 _ rfl
  have c1 := R11.out.cell 1 _ rfl
  have c2 := R11.out.cell 2 _ rfl
  have c3 := R11.out.cell 3 _ rfl
  have c4 := R11.out.cell 4 _ rfl
  have f0 := R11.out.free 0
  have f1 := R11.out.free 1
  have f2 := R11.out.free 2
  have f3 := R11.out.free 3
  have f4 := R11.out.free 4
  go_wp2_with fail
  rw [R11.out.same 0 _ rfl, R11.out.same 1 _ rfl, R11.out.same 2 _ rfl, R11.out.same 3 _ rfl, R11.out.same 4 _ rfl]
  refine bodyPost_ret (results_cell_row rfl _ _ b 25 _ (0, 0) _ rfl R11.out Try.underlying25 rfl (by kernel_rfl)) rfl ?_
  refine ⟨B11.out, P11.out, ?_⟩
  have e9 : pReply xs most m = Res.ok ⟨t, a, z, l, y⟩ m5 := by
    unfold pReply
    simp only [Res.bind, HQ0.out, HQ1.out, HQ2.out, HQ3.out, HQ4.out]
  rw [e9, HBE.out]
  exact ⟨_, rfl, ⟨Al, nl, cl, rfl, Kd.R_lower L11.out (Nat.le_succ _)⟩, K11.out⟩
end Go.Proofs.Ytafmoglaockepaa.Cd
