/- What the codec writes and reads: texts of this session joined, with what is not needed left out. -/
import Derived.Test.YtafmoglaockepaaCu2
import Derived.Test.YtafmoglaockepaaCu4
import Derived.Deep.RegionHeld3
import Derived.Deep.RegionLaw
import Derived.Test.YtafmoglaockepaaCu3
section
namespace Go.Proofs.Ytafmoglaockepaa.Cd
open Go Go.RowKit Go.Proofs.Ytafmoglaockepaa.Num Go.Proofs.Ytafmoglaockepaa.PG Go.Proofs.YtafmoglaockepaaW.PrintWords Go.Proofs.YtafmoglaockepaaW.PrintLast Go.Proofs.YtafmoglaockepaaW.PrintMore
set_option linter.unusedVariables false
set_option linter.unusedSimpArgs false
set_option maxHeartbeats 4000000
set_option maxRecDepth 100000
theorem r_heldList {g B gb : Nat} {A : Option Addr} {n c : Nat} {xs : List Int} {m most : Nat} {W : World} (k : CrAt g B A n c xs m most W) (hbx : Rt 101 gb [ptr g] W) :
    Calls Try.prog 91 #[ptr g, .func (.func 92) #[] #[ptr gb]] W fun e w' => Below B W w' ∧ Kept W w' (fun j => j = g) ∧ OutR g B A n c xs most (LH W.heap.size) (pList xs most (pHeld xs most) m) e w' := by
  have HK := Aside0.mk k
  have HBX := Aside0.mk hbx
  have HNE := Aside0.mk (show gb ≠ g from fun e => by
    have h2 := hbx
    rw [e] at h2
    have := blk_types h2 k.row
    omega)
  have c1 : (m : Int) ≤ (n : Int) := by have := k.le; omega
  have c2 : (n : Int) ≤ (c : Int) := by have := k.nc; omega
  have c3 : (0 : Int) ≤ (m : Int) := by omega
  have MKS := Aside0.mk (show ∀ w', Below W.heap.size W w' → (fun w' => w'.cell? ⟨g, 0, none⟩ = some (.slice A n c) ∧ w'.cell? ⟨g, 1, none⟩ = some (.int .i64 (m : Int)) ∧ w'.cell? ⟨g, 2, none⟩ = some (.int .i64 (most : Int))) w' from fun w' hb => by
    have r := HK.out.row.below hb
    exact ⟨r.cell 0 _ rfl, r.cell 1 _ rfl, r.cell 2 _ rfl⟩)
  clear k hbx
  have hdl := HK.out.dl
  have hul := ug_lt (xs.drop m) 0 0 (by omega) (by decide) (HK.out.by_.drop m)
  obtain ⟨q, hq⟩ : ∃ q, ug 0 0 (xs.drop m) = q := ⟨_, rfl⟩
  have HQ := Aside0.mk hq
  have hpl := ug_place xs m n HK.out.len HK.out.le
  have HF := Aside0.mk (show ∀ w', Below W.heap.size W w' → Calls Try.prog 129 #[.slice (if c = m then A else A.map (·.add m)) (n - m) (c - m)] w' fun e w2 => e = .returned (.tuple #[.int .u64 q.1, .int .i64 q.2.1, .int .i64 q.2.2]) ∧ Drawn0 w' w2 from fun w' hb => by
    have := frame_Uint.calls ((xs.drop m).length + 2) (if c = m then A else A.map (·.add m)) (c - m) (xs.drop m) q.1 q.2.1 q.2.2 w' (HK.out.rest (hb.mono HK.out.size)) (by rw [hdl]; have := HK.out.nc; omega) (by rw [frame_uint _ (HK.out.by_.drop m) (by rw [hdl]; have := HK.out.big; omega) _ (by omega), hq])
    rwa [hdl] at this)
  rw [hq] at hpl hul
  obtain ⟨v, d, er⟩ := q
  obtain ⟨dn, hdn⟩ : ∃ dn : Nat, d = (dn : Int) := ⟨d.toNat, by have h1 : 0 ≤ d := hpl.1; omega⟩
  subst hdn
  obtain ⟨u, hu⟩ : ∃ u : Nat, v = (u : Int) := ⟨v.toNat, by have h1 : 0 ≤ v := hul.1; omega⟩
  subst hu
  have HPL := Aside0.mk (show m + dn ≤ n by have h1 : (dn : Int) ≤ ((n - m : Nat) : Int) := hpl.2; have := HK.out.le; omega)
  have HUL := Aside0.mk (show u < 18446744073709551616 by have h1 : (u : Int) < 18446744073709551616 := hul.2; omega)
  clear hdl hq hpl hul
  have cm := (MKS.out W (Below.refl _ _)).2.1
  go_enter Try.func91, Try.ntmps91
  go_upto_region 2 with fail
  refine wp_region_held_drew (S := fun w' => w'.cell? ⟨g, 0, none⟩ = some (.slice A n c) ∧ w'.cell? ⟨g, 1, none⟩ = some (.int .i64 (m : Int)) ∧ w'.cell? ⟨g, 2, none⟩ = some (.int .i64 (most : Int))) (by kernel_rfl) (MKS.out _ (below_drew (Below.refl _ _))) (fun hHeld => ?_)
  refine wpAnyH_take (i := 0) (oi := { dst := some 15, op := Op.move (Operand.tmp 0), type := 101, pos := "read.go:44", after := #[], guard := none }) (v := ?_) rfl (by kernel_rfl) (by kernel_rfl) (by kernel_rfl) (fun _ _ _ h => h) (Or.inl ⟨by rfl, ?_⟩) hHeld ?_
  rotate_left
  · intro w' hS; obtain ⟨hS0, hS1, hS2⟩ := hS; go_simp; all_goals (with_reducible rfl)
  (try simp only [Act.put, List.setIfInBounds_toArray, List.set_cons_zero, List.set_cons_succ])
  refine wpAnyH_take (i := 1) (oi := { dst := some 16, op := Op.nilCheck (Operand.tmp 15), type := 0, pos := "read.go:44", after := #[{ on := 0, ground := Ground.data }], guard := none }) (v := ?_) rfl (by kernel_rfl) (by kernel_rfl) (by kernel_rfl) (fun _ _ _ h => h) (Or.inl ⟨by rfl, ?_⟩) hHeld ?_
  rotate_left
  · intro w' hS; obtain ⟨hS0, hS1, hS2⟩ := hS; go_simp; all_goals (with_reducible rfl)
  (try simp only [Act.put, List.setIfInBounds_toArray, List.set_cons_zero, List.set_cons_succ])
  refine wpAnyH_take (i := 2) (oi := { dst := some 17, op := Op.fieldAddr 158 (Operand.tmp 16) 0, type := 0, pos := "read.go:44", after := #[{ on := 1, ground := Ground.data }], guard := none }) (v := ?_) rfl (by kernel_rfl) (by kernel_rfl) (by kernel_rfl) (fun _ _ _ h => h) (Or.inl ⟨by rfl, ?_⟩) hHeld ?_
  rotate_left
  · intro w' hS; obtain ⟨hS0, hS1, hS2⟩ := hS; go_simp; all_goals (with_reducible rfl)
  (try simp only [Act.put, List.setIfInBounds_toArray, List.set_cons_zero, List.set_cons_succ])
  refine wpAnyH_take (i := 3) (oi := { dst := some 18, op := Op.load 26 (Operand.tmp 17), type := 26, pos := "read.go:44", after := #[{ on := 2, ground := Ground.data }], guard := none }) (v := ?_) rfl (by kernel_rfl) (by kernel_rfl) (by kernel_rfl) (fun _ _ _ h => h) (Or.inl ⟨by rfl, ?_⟩) hHeld ?_
  rotate_left
  · intro w' hS; obtain ⟨hS0, hS1, hS2⟩ := hS; go_simp; all_goals (with_reducible rfl)
  (try simp only [Act.put, List.setIfInBounds_toArray, List.set_cons_zero, List.set_cons_succ])
  refine wpAnyH_take (i := 4) (oi := { dst := some 19, op := Op.move (Operand.tmp 0), type := 101, pos := "read.go:44", after := #[], guard := none }) (v := ?_) rfl (by kernel_rfl) (by kernel_rfl) (by kernel_rfl) (fun _ _ _ h => h) (Or.inl ⟨by rfl, ?_⟩) hHeld ?_
  rotate_left
  · intro w' hS; obtain ⟨hS0, hS1, hS2⟩ := hS; go_simp; all_goals (with_reducible rfl)
  (try simp only [Act.put, List.setIfInBounds_toArray, List.set_cons_zero, List.set_cons_succ])
  refine wpAnyH_take (i := 5) (oi := { dst := some 20, op := Op.nilCheck (Operand.tmp 19), type := 0, pos := "read.go:44", after := #[{ on := 4, ground := Ground.data }], guard := none }) (v := ?_) rfl (by kernel_rfl) (by kernel_rfl) (by kernel_rfl) (fun _ _ _ h => h) (Or.inl ⟨by rfl, ?_⟩) hHeld ?_
  rotate_left
  · intro w' hS; obtain ⟨hS0, hS1, hS2⟩ := hS; go_simp; all_goals (with_reducible rfl)
  (try simp only [Act.put, List.setIfInBounds_toArray, List.set_cons_zero, List.set_cons_succ])
  refine wpAnyH_take (i := 6) (oi := { dst := some 21, op := Op.fieldAddr 158 (Operand.tmp 20) 1, type := 0, pos := "read.go:44", after := #[{ on := 5, ground := Ground.data }], guard := none }) (v := ?_) rfl (by kernel_rfl) (by kernel_rfl) (by kernel_rfl) (fun _ _ _ h => h) (Or.inl ⟨by rfl, ?_⟩) hHeld ?_
  rotate_left
  · intro w' hS; obtain ⟨hS0, hS1, hS2⟩ := hS; go_simp; all_goals (with_reducible rfl)
  (try simp only [Act.put, List.setIfInBounds_toArray, List.set_cons_zero, List.set_cons_succ])
  refine wpAnyH_take (i := 7) (oi := { dst := some 22, op := Op.load 3 (Operand.tmp 21), type := 3, pos := "read.go:44", after := #[{ on := 6, ground := Ground.data }], guard := none }) (v := ?_) rfl (by kernel_rfl) (by kernel_rfl) (by kernel_rfl) (fun _ _ _ h => h) (Or.inl ⟨by rfl, ?_⟩) hHeld ?_
  rotate_left
  · intro w' hS; obtain ⟨hS0, hS1, hS2⟩ := hS; go_simp; all_goals (with_reducible rfl)
  (try simp only [Act.put, List.setIfInBounds_toArray, List.set_cons_zero, List.set_cons_succ])
  refine wpAnyH_take (i := 8) (oi := { dst := some 23, op := Op.slice 26 (Operand.tmp 18) (some (Operand.tmp 22)) none none, type := 26, pos := "read.go:44", after := #[{ on := 3, ground := Ground.data }, { on := 7, ground := Ground.data }], guard := none }) (v := ?_) rfl (by kernel_rfl) (by kernel_rfl) (by kernel_rfl) (fun _ _ _ h => h) (Or.inl ⟨by rfl, ?_⟩) hHeld ?_
  rotate_left
  · intro w' hS; obtain ⟨hS0, hS1, hS2⟩ := hS; go_simp; all_goals (with_reducible rfl)
  (try simp only [Act.put, List.setIfInBounds_toArray, List.set_cons_zero, List.set_cons_succ])
  refine wpAnyH_ready (rs := [9]) (by kernel_rfl) (by simp) ?_
  refine AllReadyH.cons (o := { dst := some 24, op := Op.call { callee := Callee.value (Operand.func 129), args := #[Operand.tmp 23], argTypes := #[26] }, type := 169, pos := "read.go:44", after := #[{ on := 8, ground := Ground.data }], guard := none }) rfl (fun K hK => ?_) AllReadyH.nil
  go_simp
  go_at_call 129
  refine (HF.out _ (below_drew (Below.refl _ _))).mono ?_
  rintro e wa ⟨rfl, hd⟩
  have HB1 := Aside0.mk (show Below W.heap.size W wa from by
    obtain ⟨md, rfl⟩ := hd
    exact pw_below_drewN (below_drew (Below.refl _ _)) md)
  clear hd
  refine hK.out _ _ (MKS.out _ HB1.out) (fun hHeld => ?_)
  clear hK K
  (try simp only [Act.put, List.setIfInBounds_toArray, List.set_cons_zero, List.set_cons_succ])
  refine wpAnyH_take (i := 10) (oi := { dst := some 14, op := Op.move (Operand.tmp 24), type := 169, pos := "read.go:44", after := #[{ on := 9, ground := Ground.data }], guard := none }) (v := ?_) rfl (by kernel_rfl) (by kernel_rfl) (by kernel_rfl) (fun _ _ _ h => h) (Or.inl ⟨by rfl, ?_⟩) hHeld ?_
  rotate_left
  · intro w' hS; obtain ⟨hS0, hS1, hS2⟩ := hS; go_simp; all_goals (with_reducible rfl)
  (try simp only [Act.put, List.setIfInBounds_toArray, List.set_cons_zero, List.set_cons_succ])
  refine wpAnyH_take (i := 11) (oi := { dst := some 25, op := Op.extract (Operand.tmp 14) 0, type := 151, pos := "read.go:44", after := #[{ on := 10, ground := Ground.data }], guard := none }) (v := ?_) rfl (by kernel_rfl) (by kernel_rfl) (by kernel_rfl) (fun _ _ _ h => h) (Or.inl ⟨by rfl, ?_⟩) hHeld ?_
  rotate_left
  · intro w' hS; obtain ⟨hS0, hS1, hS2⟩ := hS; go_simp; all_goals (with_reducible rfl)
  (try simp only [Act.put, List.setIfInBounds_toArray, List.set_cons_zero, List.set_cons_succ])
  refine wpAnyH_take (i := 12) (oi := { dst := some 26, op := Op.extract (Operand.tmp 14) 1, type := 3, pos := "read.go:44", after := #[{ on := 10, ground := Ground.data }, { on := 14, ground := Ground.gcOnly Departure.lateStores }], guard := none }) (v := ?_) rfl (by kernel_rfl) (by kernel_rfl) (by kernel_rfl) (fun _ _ _ h => h) (Or.inl ⟨by rfl, ?_⟩) hHeld ?_
  rotate_left
  · intro w' hS; obtain ⟨hS0, hS1, hS2⟩ := hS; go_simp; all_goals (with_reducible rfl)
  (try simp only [Act.put, List.setIfInBounds_toArray, List.set_cons_zero, List.set_cons_succ])
  refine wpAnyH_take (i := 13) (oi := { dst := some 27, op := Op.extract (Operand.tmp 14) 2, type := 22, pos := "read.go:44", after := #[{ on := 10, ground := Ground.data }, { on := 15, ground := Ground.gcOnly Departure.lateStores }], guard := none }) (v := ?_) rfl (by kernel_rfl) (by kernel_rfl) (by kernel_rfl) (fun _ _ _ h => h) (Or.inl ⟨by rfl, ?_⟩) hHeld ?_
  rotate_left
  · intro w' hS; obtain ⟨hS0, hS1, hS2⟩ := hS; go_simp; all_goals (with_reducible rfl)
  (try simp only [Act.put, List.setIfInBounds_toArray, List.set_cons_zero, List.set_cons_succ])
  refine wpAnyH_take (i := 14) (oi := { dst := some 6, op := Op.assign (Operand.tmp 25), type := 151, pos := "read.go:44", after := #[{ on := 11, ground := Ground.data }, { on := 9, ground := Ground.chain }, { on := 0, ground := Ground.phase }, { on := 1, ground := Ground.phase }, { on := 2, ground := Ground.phase }, { on := 3, ground := Ground.phase }, { on := 4, ground := Ground.phase }, { on := 5, ground := Ground.phase }, { on := 6, ground := Ground.phase }, { on := 7, ground := Ground.phase }, { on := 8, ground := Ground.phase }, { on := 9, ground := Ground.phase }, { on := 10, ground := Ground.phase }, { on := 11, ground := Ground.phase }, { on := 12, ground := Ground.textOnly Departure.lateStores }, { on := 13, ground := Ground.textOnly Departure.lateStores }], guard := none }) (v := ?_) rfl (by kernel_rfl) (by kernel_rfl) (by kernel_rfl) (fun _ _ _ h => h) (Or.inl ⟨by rfl, ?_⟩) hHeld ?_
  rotate_left
  · intro w' hS; obtain ⟨hS0, hS1, hS2⟩ := hS; go_simp; all_goals (with_reducible rfl)
  (try simp only [Act.put, List.setIfInBounds_toArray, List.set_cons_zero, List.set_cons_succ])
  refine wpAnyH_take (i := 15) (oi := { dst := some 7, op := Op.assign (Operand.tmp 26), type := 3, pos := "read.go:44", after := #[{ on := 12, ground := Ground.data }, { on := 14, ground := Ground.chain }, { on := 0, ground := Ground.phase }, { on := 1, ground := Ground.phase }, { on := 2, ground := Ground.phase }, { on := 3, ground := Ground.phase }, { on := 4, ground := Ground.phase }, { on := 5, ground := Ground.phase }, { on := 6, ground := Ground.phase }, { on := 7, ground := Ground.phase }, { on := 8, ground := Ground.phase }, { on := 9, ground := Ground.phase }, { on := 10, ground := Ground.phase }, { on := 11, ground := Ground.phase }, { on := 12, ground := Ground.phase }, { on := 13, ground := Ground.textOnly Departure.lateStores }, { on := 14, ground := Ground.phase }], guard := none }) (v := ?_) rfl (by kernel_rfl) (by kernel_rfl) (by kernel_rfl) (fun _ _ _ h => h) (Or.inl ⟨by rfl, ?_⟩) hHeld ?_
  rotate_left
  · intro w' hS; obtain ⟨hS0, hS1, hS2⟩ := hS; go_simp; all_goals (with_reducible rfl)
  (try simp only [Act.put, List.setIfInBounds_toArray, List.set_cons_zero, List.set_cons_succ])
  refine wpAnyH_take (i := 16) (oi := { dst := some 8, op := Op.assign (Operand.tmp 27), type := 22, pos := "read.go:44", after := #[{ on := 13, ground := Ground.data }, { on := 15, ground := Ground.chain }, { on := 0, ground := Ground.phase }, { on := 1, ground := Ground.phase }, { on := 2, ground := Ground.phase }, { on := 3, ground := Ground.phase }, { on := 4, ground := Ground.phase }, { on := 5, ground := Ground.phase }, { on := 6, ground := Ground.phase }, { on := 7, ground := Ground.phase }, { on := 8, ground := Ground.phase }, { on := 9, ground := Ground.phase }, { on := 10, ground := Ground.phase }, { on := 11, ground := Ground.phase }, { on := 12, ground := Ground.phase }, { on := 13, ground := Ground.phase }, { on := 14, ground := Ground.phase }, { on := 15, ground := Ground.phase }], guard := none }) (v := ?_) rfl (by kernel_rfl) (by kernel_rfl) (by kernel_rfl) (fun _ _ _ h => h) (Or.inl ⟨by rfl, ?_⟩) hHeld ?_
  rotate_left
  · intro w' hS; obtain ⟨hS0, hS1, hS2⟩ := hS; go_simp; all_goals (with_reducible rfl)
  (try simp only [Act.put, List.setIfInBounds_toArray, List.set_cons_zero, List.set_cons_succ])
  refine wpAnyH_done (by kernel_rfl) ?_ _
  (try simp only [Act.put, List.setIfInBounds_toArray, List.set_cons_zero, List.set_cons_succ])
  clear HF cm
  generalize (if c = m then A else Option.map (fun x => x.add m) A) = Am at *
  by_cases he : er = 0
  rotate_left
  · have HP := Aside0.mk (show pList xs most (pHeld xs most) m = Res.fail er ((m : Int) + (dn : Int)) from by
      unfold pList pU took
      rw [HQ.out, if_neg he]
      rfl)
    have HE := Aside0.mk he
    clear he
    go_wp2_with fail
    go_at_call 116
    refine (took_fail (HK.out.below HB1.out) (dn : Int) er (by have := HPL.out; have := HK.out.big; omega) HE.out).mono ?_
    rintro e w2 ⟨rfl, rfl⟩
    refine ⟨rfl, HB1.out.mono HK.out.size, Kept.of_below HB1.out _, ?_⟩
    rw [HP.out]
    rfl
  subst he
  go_wp2_with fail
  go_at_call 116
  refine (took_ok (HK.out.below HB1.out) dn HPL.out).mono ?_
  rintro e w2 ⟨rfl, hk, hb, hkp⟩
  have K2 := Aside0.mk hk
  have B2 := Aside0.mk ((HB1.out.mono HK.out.size).trans hb)
  have P2 := Aside0.mk ((Kept.of_below HB1.out (fun j => j = g)).then_ hkp (fun _ h => .inl h))
  have X2 := Aside0.mk (show Rt 101 gb [ptr g] w2 from (hkp.2 gb (Nat.lt_of_lt_of_le HBX.out.lt HB1.out.size) HNE.out).trans (HBX.out.below HB1.out))
  have hm2 := hk.row.cell 2 _ rfl
  have hw64 : IntKind.u64.wrap (most : Int) = (most : Int) := by have := HK.out.mb; rw [IntKind.wrap_u64]; omega
  clear hk hb hkp
  by_cases hu : most < u
  · have HP := Aside0.mk (show pList xs most (pHeld xs most) m = Res.fail 91 (m : Int) from by
      unfold pList pU took
      rw [HQ.out, if_pos rfl]
      simp only [Res.bind]
      rw [if_pos (by omega)])
    have d1 : decide ((most : Int) < (u : Int)) = true := decide_eq_true (by omega)
    have d2 : decide (most < u) = true := decide_eq_true hu
    clear hu
    go_wp2_with fail
    refine ⟨rfl, B2.out, P2.out, ?_⟩
    rw [HP.out]
    rfl
  have HP := Aside0.mk (show pList xs most (pHeld xs most) m = pN (pHeld xs most) u [] (m + dn) from by
    unfold pList pU took
    rw [HQ.out, if_pos rfl]
    simp only [Res.bind]
    rw [if_neg (by omega), Int.toNat_natCast, Int.toNat_natCast])
  have HU := Aside0.mk (show u ≤ most by omega)
  have d1 : decide ((most : Int) < (u : Int)) = false := decide_eq_false (by omega)
  have d2 : decide (most < u) = false := decide_eq_false hu
  clear hu
  go_wp2_with fail
  clear hm2 hw64 d1 d2 c1 c2 c3
  obtain ⟨S0, hS0⟩ : ∃ S0, W.heap.size = S0 := ⟨_, rfl⟩
  have HS0 := Aside0.mk hS0
  have HLT := Aside0.mk (show g < S0 ∧ gb < S0 ∧ B ≤ S0 by have := HK.out.row.lt; have := HBX.out.lt; have := HK.out.size; omega)
  clear hS0
  go_loopw [9, 43] (fun v p wr => ∃ (i m' : Nat) (l : List S121), p = .int .u64 (i : Int) ∧ Aside0 (i ≤ u) ∧ Aside0 (l.length = i) ∧ Aside0 (pN (pHeld xs most) u [] (m + dn) = pN (pHeld xs most) (u - i) l m') ∧ Aside0 (LH S0 l v wr) ∧ Aside0 (CrAt g B A n c xs m' most wr) ∧ Aside0 (Below B W wr) ∧ Aside0 (Kept W wr (fun j => j = g)) ∧ Aside0 (Rt 101 gb [ptr g] wr)) (fun _ p _ => u - (intOf p).toNat)
  · exact ⟨0, m + dn, [], rfl, ⟨Nat.zero_le _⟩, ⟨rfl⟩, ⟨rfl⟩, ⟨Kd.R_nil _ _ _ _ _⟩, K2, B2, P2, X2⟩
  · obtain ⟨i, m', l, rfl, HI, HLN, HPN, HR, HKr, HBr, HPr, HXr⟩ := hrel
    by_cases ci : i < u
    · have ci1 : decide ((i : Int) < (u : Int)) = true := decide_eq_true (by omega)
      have hw1 : IntKind.u64.wrap ((i : Int) + 1) = ((i + 1 : Nat) : Int) := by rw [IntKind.wrap_u64]; have := HUL.out; omega
      have HOU := Aside0.mk (own_under HR.out)
      go_wp2_with fail
      go_at_call 92
      refine (r_held HKr.out HXr.out).mono ?_
      rintro e w5 ⟨hb, hp, ho⟩
      have hbt := HBr.out.trans hb
      have hpt := HPr.out.then_ hp (fun _ h => .inl h)
      have hpn : pN (pHeld xs most) (u - i) l m' = (pHeld xs most m').bind fun x mm => pN (pHeld xs most) (u - (i + 1)) (l ++ [x]) mm := by
        rw [show u - i = (u - (i + 1)) + 1 from by omega]
        rfl
      rcases hq : pHeld xs most m' with ⟨x, m2⟩ | ⟨er, p⟩
      rotate_left
      · rw [hq] at ho hpn
        have ho : e = gaveUp er p := ho
        subst ho
        refine ⟨rfl, hbt, hpt, ?_⟩
        rw [HP.out, HPN.out, hpn]
        rfl
      rw [hq] at ho hpn
      obtain ⟨vx, he, hx, hk⟩ : ∃ vx, e = .returned vx ∧ memHeld wr.heap.size x vx w5 ∧ CrAt g B A n c xs m2 most w5 := ho
      subst he
      have SR := Aside0.mk (show S0 ≤ wr.heap.size by have := HPr.out.1; have := HS0.out; omega)
      obtain ⟨Al, nl, cl, ev, hl⟩ := hx
      subst ev
      have MX := Aside0.mk (show k121.M w5 S0 (fun j => wr.heap.size ≤ j) x [.string x.f0, .slice Al nl cl, .int .i64 x.f2] from k121_mkM _ _ _ x (Kd.R_lower (Kd.R_mono (Kd.R_bound hl) (fun j hj => hj.2.1)) SR.out))
      have K5 := Aside0.mk hk
      have B5 := Aside0.mk hbt
      have P5 := Aside0.mk hpt
      have X5 := Aside0.mk (show Rt 101 gb [ptr g] w5 from (hp.2 gb HXr.out.lt HNE.out).trans HXr.out)
      have R5 := Aside0.mk (show LH S0 l _ w5 from LH_alive.kept HR.out hp (fun j hj e => by have := HLT.out; omega))
      have HPN2 := Aside0.mk (HPN.out.trans hpn)
      have S5 := Aside0.mk (show S0 ≤ w5.heap.size by have := hpt.1; have := HS0.out; omega)
      have HSZ := Aside0.mk (show (l.length + 1) * 48 ≤ 140737488355328 by have := HLN.out; have := HI.out; have := HU.out; have := HK.out.mb; omega)
      have SR5 := Aside0.mk hp.1
      obtain ⟨T0, hT0⟩ : ∃ T0, wr.heap.size = T0 := ⟨_, rfl⟩
      rw [hT0] at HOU SR SR5 MX
      clear hb hp hbt hpt hpn hq hk hT0
      try clear ho
      go_wp2_with (first | (
        (with_reducible refine gate_builtin (b := .append) (xs := #[.tmp 45, .tmp 48]) rfl ?_)
        at_builtin
        refine Kd.R_append k121 (w0 := w5) S0 rfl (.tmp 45) (.tmp 48) 55 121 (.agg #[.string ⟨#[]⟩, .slice none 0 0, .int .i64 0]) 48 rfl Try.underlying55 info121 rfl (by decide) (by decide) _ l x [.string x.f0, .slice Al nl cl, .int .i64 x.f2] (fun _ => True) (fun j => T0 ≤ j) rfl rfl MX.out (fun j hj => ⟨trivial, fun e => by have := HOU.out j e.symm; omega⟩) (fun _ _ => trivial) R5.out (Below.refl _ _) S5.out HSZ.out ?_
        intro v1 w6 ho hb hg hat
        have HO6 := Aside0.mk ho
        have K6 := Aside0.mk (K5.out.aside (hb.mono HLT.out.2.2) (hb.block g HLT.out.1))
        have B6 := Aside0.mk (B5.out.trans (hb.mono HLT.out.2.2))
        have P6 := Aside0.mk (show Kept W w6 (fun j => j = g) from ⟨Nat.le_trans P5.out.1 hb.size, fun j hj hn => (hb.block j (by have := HS0.out; omega)).trans (P5.out.2 j hj hn)⟩)
        have X6 := Aside0.mk (show Rt 101 gb [ptr g] w6 from (hb.block gb HLT.out.2.1).trans X5.out)
        clear ho hb hg hat))
      refine ⟨⟨i + 1, m2, l ++ [x], congrArg (Value.int .u64) (by omega), ⟨ci⟩, ⟨by rw [List.length_append, HLN.out]; rfl⟩, HPN2, HO6, K6, B6, P6, X6⟩, ?_⟩
      simp only [intOf]
      omega
    · have ci1 : decide ((i : Int) < (u : Int)) = false := decide_eq_false (by omega)
      obtain rfl : i = u := by have := HI.out; omega
      go_wp2_with fail
      go_ret
      refine ⟨HBr.out, HPr.out, ?_⟩
      rw [HP.out, HPN.out, Nat.sub_self, HS0.out]
      exact ⟨_, rfl, HR.out, HKr.out⟩
end Go.Proofs.Ytafmoglaockepaa.Cd
end
section
namespace Go.Proofs.Ytafmoglaockepaa.Cd
open Go Go.RowKit Go.Proofs.Ytafmoglaockepaa.Num Go.Proofs.Ytafmoglaockepaa.PG Go.Proofs.YtafmoglaockepaaW.PrintWords Go.Proofs.YtafmoglaockepaaW.PrintLast Go.Proofs.YtafmoglaockepaaW.PrintMore
set_option linter.unusedVariables false
set_option linter.unusedSimpArgs false
set_option maxHeartbeats 4000000
set_option maxRecDepth 100000
theorem r_doneList {g B gb : Nat} {A : Option Addr} {n c : Nat} {xs : List Int} {m most : Nat} {W : World} (k : CrAt g B A n c xs m most W) (hbx : Rt 101 gb [ptr g] W) :
    Calls Try.prog 94 #[ptr g, .func (.func 95) #[] #[ptr gb]] W fun e w' => Below B W w' ∧ Kept W w' (fun j => j = g) ∧ OutR g B A n c xs most (LD W.heap.size) (pList xs most (pDone xs most) m) e w' := by
  have HK := Aside0.mk k
  have HBX := Aside0.mk hbx
  have HNE := Aside0.mk (show gb ≠ g from fun e => by
    have h2 := hbx
    rw [e] at h2
    have := blk_types h2 k.row
    omega)
  have c1 : (m : Int) ≤ (n : Int) := by have := k.le; omega
  have c2 : (n : Int) ≤ (c : Int) := by have := k.nc; omega
  have c3 : (0 : Int) ≤ (m : Int) := by omega
  have MKS := Aside0.mk (show ∀ w', Below W.heap.size W w' → (fun w' => w'.cell? ⟨g, 0, none⟩ = some (.slice A n c) ∧ w'.cell? ⟨g, 1, none⟩ = some (.int .i64 (m : Int)) ∧ w'.cell? ⟨g, 2, none⟩ = some (.int .i64 (most : Int))) w' from fun w' hb => by
    have r := HK.out.row.below hb
    exact ⟨r.cell 0 _ rfl, r.cell 1 _ rfl, r.cell 2 _ rfl⟩)
  clear k hbx
  have hdl := HK.out.dl
  have hul := ug_lt (xs.drop m) 0 0 (by omega) (by decide) (HK.out.by_.drop m)
  obtain ⟨q, hq⟩ : ∃ q, ug 0 0 (xs.drop m) = q := ⟨_, rfl⟩
  have HQ := Aside0.mk hq
  have hpl := ug_place xs m n HK.out.len HK.out.le
  have HF := Aside0.mk (show ∀ w', Below W.heap.size W w' → Calls Try.prog 129 #[.slice (if c = m then A else A.map (·.add m)) (n - m) (c - m)] w' fun e w2 => e = .returned (.tuple #[.int .u64 q.1, .int .i64 q.2.1, .int .i64 q.2.2]) ∧ Drawn0 w' w2 from fun w' hb => by
    have := frame_Uint.calls ((xs.drop m).length + 2) (if c = m then A else A.map (·.add m)) (c - m) (xs.drop m) q.1 q.2.1 q.2.2 w' (HK.out.rest (hb.mono HK.out.size)) (by rw [hdl]; have := HK.out.nc; omega) (by rw [frame_uint _ (HK.out.by_.drop m) (by rw [hdl]; have := HK.out.big; omega) _ (by omega), hq])
    rwa [hdl] at this)
  rw [hq] at hpl hul
  obtain ⟨v, d, er⟩ := q
  obtain ⟨dn, hdn⟩ : ∃ dn : Nat, d = (dn : Int) := ⟨d.toNat, by have h1 : 0 ≤ d := hpl.1; omega⟩
  subst hdn
  obtain ⟨u, hu⟩ : ∃ u : Nat, v = (u : Int) := ⟨v.toNat, by have h1 : 0 ≤ v := hul.1; omega⟩
  subst hu
  have HPL := Aside0.mk (show m + dn ≤ n by have h1 : (dn : Int) ≤ ((n - m : Nat) : Int) := hpl.2; have := HK.out.le; omega)
  have HUL := Aside0.mk (show u < 18446744073709551616 by have h1 : (u : Int) < 18446744073709551616 := hul.2; omega)
  clear hdl hq hpl hul
  have cm := (MKS.out W (Below.refl _ _)).2.1
  go_enter Try.func94, Try.ntmps94
  go_upto_region 2 with fail
  refine wp_region_held_drew (S := fun w' => w'.cell? ⟨g, 0, none⟩ = some (.slice A n c) ∧ w'.cell? ⟨g, 1, none⟩ = some (.int .i64 (m : Int)) ∧ w'.cell? ⟨g, 2, none⟩ = some (.int .i64 (most : Int))) (by kernel_rfl) (MKS.out _ (below_drew (Below.refl _ _))) (fun hHeld => ?_)
  refine wpAnyH_take (i := 0) (oi := { dst := some 15, op := Op.move (Operand.tmp 0), type := 101, pos := "read.go:44", after := #[], guard := none }) (v := ?_) rfl (by kernel_rfl) (by kernel_rfl) (by kernel_rfl) (fun _ _ _ h => h) (Or.inl ⟨by rfl, ?_⟩) hHeld ?_
  rotate_left
  · intro w' hS; obtain ⟨hS0, hS1, hS2⟩ := hS; go_simp; all_goals (with_reducible rfl)
  (try simp only [Act.put, List.setIfInBounds_toArray, List.set_cons_zero, List.set_cons_succ])
  refine wpAnyH_take (i := 1) (oi := { dst := some 16, op := Op.nilCheck (Operand.tmp 15), type := 0, pos := "read.go:44", after := #[{ on := 0, ground := Ground.data }], guard := none }) (v := ?_) rfl (by kernel_rfl) (by kernel_rfl) (by kernel_rfl) (fun _ _ _ h => h) (Or.inl ⟨by rfl, ?_⟩) hHeld ?_
  rotate_left
  · intro w' hS; obtain ⟨hS0, hS1, hS2⟩ := hS; go_simp; all_goals (with_reducible rfl)
  (try simp only [Act.put, List.setIfInBounds_toArray, List.set_cons_zero, List.set_cons_succ])
  refine wpAnyH_take (i := 2) (oi := { dst := some 17, op := Op.fieldAddr 158 (Operand.tmp 16) 0, type := 0, pos := "read.go:44", after := #[{ on := 1, ground := Ground.data }], guard := none }) (v := ?_) rfl (by kernel_rfl) (by kernel_rfl) (by kernel_rfl) (fun _ _ _ h => h) (Or.inl ⟨by rfl, ?_⟩) hHeld ?_
  rotate_left
  · intro w' hS; obtain ⟨hS0, hS1, hS2⟩ := hS; go_simp; all_goals (with_reducible rfl)
  (try simp only [Act.put, List.setIfInBounds_toArray, List.set_cons_zero, List.set_cons_succ])
  refine wpAnyH_take (i := 3) (oi := { dst := some 18, op := Op.load 26 (Operand.tmp 17), type := 26, pos := "read.go:44", after := #[{ on := 2, ground := Ground.data }], guard := none }) (v := ?_) rfl (by kernel_rfl) (by kernel_rfl) (by kernel_rfl) (fun _ _ _ h => h) (Or.inl ⟨by rfl, ?_⟩) hHeld ?_
  rotate_left
  · intro w' hS; obtain ⟨hS0, hS1, hS2⟩ := hS; go_simp; all_goals (with_reducible rfl)
  (try simp only [Act.put, List.setIfInBounds_toArray, List.set_cons_zero, List.set_cons_succ])
  refine wpAnyH_take (i := 4) (oi := { dst := some 19, op := Op.move (Operand.tmp 0), type := 101, pos := "read.go:44", after := #[], guard := none }) (v := ?_) rfl (by kernel_rfl) (by kernel_rfl) (by kernel_rfl) (fun _ _ _ h => h) (Or.inl ⟨by rfl, ?_⟩) hHeld ?_
  rotate_left
  · intro w' hS; obtain ⟨hS0, hS1, hS2⟩ := hS; go_simp; all_goals (with_reducible rfl)
  (try simp only [Act.put, List.setIfInBounds_toArray, List.set_cons_zero, List.set_cons_succ])
  refine wpAnyH_take (i := 5) (oi := { dst := some 20, op := Op.nilCheck (Operand.tmp 19), type := 0, pos := "read.go:44", after := #[{ on := 4, ground := Ground.data }], guard := none }) (v := ?_) rfl (by kernel_rfl) (by kernel_rfl) (by kernel_rfl) (fun _ _ _ h => h) (Or.inl ⟨by rfl, ?_⟩) hHeld ?_
  rotate_left
  · intro w' hS; obtain ⟨hS0, hS1, hS2⟩ := hS; go_simp; all_goals (with_reducible rfl)
  (try simp only [Act.put, List.setIfInBounds_toArray, List.set_cons_zero, List.set_cons_succ])
  refine wpAnyH_take (i := 6) (oi := { dst := some 21, op := Op.fieldAddr 158 (Operand.tmp 20) 1, type := 0, pos := "read.go:44", after := #[{ on := 5, ground := Ground.data }], guard := none }) (v := ?_) rfl (by kernel_rfl) (by kernel_rfl) (by kernel_rfl) (fun _ _ _ h => h) (Or.inl ⟨by rfl, ?_⟩) hHeld ?_
  rotate_left
  · intro w' hS; obtain ⟨hS0, hS1, hS2⟩ := hS; go_simp; all_goals (with_reducible rfl)
  (try simp only [Act.put, List.setIfInBounds_toArray, List.set_cons_zero, List.set_cons_succ])
  refine wpAnyH_take (i := 7) (oi := { dst := some 22, op := Op.load 3 (Operand.tmp 21), type := 3, pos := "read.go:44", after := #[{ on := 6, ground := Ground.data }], guard := none }) (v := ?_) rfl (by kernel_rfl) (by kernel_rfl) (by kernel_rfl) (fun _ _ _ h => h) (Or.inl ⟨by rfl, ?_⟩) hHeld ?_
  rotate_left
  · intro w' hS; obtain ⟨hS0, hS1, hS2⟩ := hS; go_simp; all_goals (with_reducible rfl)
  (try simp only [Act.put, List.setIfInBounds_toArray, List.set_cons_zero, List.set_cons_succ])
  refine wpAnyH_take (i := 8) (oi := { dst := some 23, op := Op.slice 26 (Operand.tmp 18) (some (Operand.tmp 22)) none none, type := 26, pos := "read.go:44", after := #[{ on := 3, ground := Ground.data }, { on := 7, ground := Ground.data }], guard := none }) (v := ?_) rfl (by kernel_rfl) (by kernel_rfl) (by kernel_rfl) (fun _ _ _ h => h) (Or.inl ⟨by rfl, ?_⟩) hHeld ?_
  rotate_left
  · intro w' hS; obtain ⟨hS0, hS1, hS2⟩ := hS; go_simp; all_goals (with_reducible rfl)
  (try simp only [Act.put, List.setIfInBounds_toArray, List.set_cons_zero, List.set_cons_succ])
  refine wpAnyH_ready (rs := [9]) (by kernel_rfl) (by simp) ?_
  refine AllReadyH.cons (o := { dst := some 24, op := Op.call { callee := Callee.value (Operand.func 129), args := #[Operand.tmp 23], argTypes := #[26] }, type := 169, pos := "read.go:44", after := #[{ on := 8, ground := Ground.data }], guard := none }) rfl (fun K hK => ?_) AllReadyH.nil
  go_simp
  go_at_call 129
  refine (HF.out _ (below_drew (Below.refl _ _))).mono ?_
  rintro e wa ⟨rfl, hd⟩
  have HB1 := Aside0.mk (show Below W.heap.size W wa from by
    obtain ⟨md, rfl⟩ := hd
    exact pw_below_drewN (below_drew (Below.refl _ _)) md)
  clear hd
  refine hK.out _ _ (MKS.out _ HB1.out) (fun hHeld => ?_)
  clear hK K
  (try simp only [Act.put, List.setIfInBounds_toArray, List.set_cons_zero, List.set_cons_succ])
  refine wpAnyH_take (i := 10) (oi := { dst := some 14, op := Op.move (Operand.tmp 24), type := 169, pos := "read.go:44", after := #[{ on := 9, ground := Ground.data }], guard := none }) (v := ?_) rfl (by kernel_rfl) (by kernel_rfl) (by kernel_rfl) (fun _ _ _ h => h) (Or.inl ⟨by rfl, ?_⟩) hHeld ?_
  rotate_left
  · intro w' hS; obtain ⟨hS0, hS1, hS2⟩ := hS; go_simp; all_goals (with_reducible rfl)
  (try simp only [Act.put, List.setIfInBounds_toArray, List.set_cons_zero, List.set_cons_succ])
  refine wpAnyH_take (i := 11) (oi := { dst := some 25, op := Op.extract (Operand.tmp 14) 0, type := 151, pos := "read.go:44", after := #[{ on := 10, ground := Ground.data }], guard := none }) (v := ?_) rfl (by kernel_rfl) (by kernel_rfl) (by kernel_rfl) (fun _ _ _ h => h) (Or.inl ⟨by rfl, ?_⟩) hHeld ?_
  rotate_left
  · intro w' hS; obtain ⟨hS0, hS1, hS2⟩ := hS; go_simp; all_goals (with_reducible rfl)
  (try simp only [Act.put, List.setIfInBounds_toArray, List.set_cons_zero, List.set_cons_succ])
  refine wpAnyH_take (i := 12) (oi := { dst := some 26, op := Op.extract (Operand.tmp 14) 1, type := 3, pos := "read.go:44", after := #[{ on := 10, ground := Ground.data }, { on := 14, ground := Ground.gcOnly Departure.lateStores }], guard := none }) (v := ?_) rfl (by kernel_rfl) (by kernel_rfl) (by kernel_rfl) (fun _ _ _ h => h) (Or.inl ⟨by rfl, ?_⟩) hHeld ?_
  rotate_left
  · intro w' hS; obtain ⟨hS0, hS1, hS2⟩ := hS; go_simp; all_goals (with_reducible rfl)
  (try simp only [Act.put, List.setIfInBounds_toArray, List.set_cons_zero, List.set_cons_succ])
  refine wpAnyH_take (i := 13) (oi := { dst := some 27, op := Op.extract (Operand.tmp 14) 2, type := 22, pos := "read.go:44", after := #[{ on := 10, ground := Ground.data }, { on := 15, ground := Ground.gcOnly Departure.lateStores }], guard := none }) (v := ?_) rfl (by kernel_rfl) (by kernel_rfl) (by kernel_rfl) (fun _ _ _ h => h) (Or.inl ⟨by rfl, ?_⟩) hHeld ?_
  rotate_left
  · intro w' hS; obtain ⟨hS0, hS1, hS2⟩ := hS; go_simp; all_goals (with_reducible rfl)
  (try simp only [Act.put, List.setIfInBounds_toArray, List.set_cons_zero, List.set_cons_succ])
  refine wpAnyH_take (i := 14) (oi := { dst := some 6, op := Op.assign (Operand.tmp 25), type := 151, pos := "read.go:44", after := #[{ on := 11, ground := Ground.data }, { on := 9, ground := Ground.chain }, { on := 0, ground := Ground.phase }, { on := 1, ground := Ground.phase }, { on := 2, ground := Ground.phase }, { on := 3, ground := Ground.phase }, { on := 4, ground := Ground.phase }, { on := 5, ground := Ground.phase }, { on := 6, ground := Ground.phase }, { on := 7, ground := Ground.phase }, { on := 8, ground := Ground.phase }, { on := 9, ground := Ground.phase }, { on := 10, ground := Ground.phase }, { on := 11, ground := Ground.phase }, { on := 12, ground := Ground.textOnly Departure.lateStores }, { on := 13, ground := Ground.textOnly Departure.lateStores }], guard := none }) (v := ?_) rfl (by kernel_rfl) (by kernel_rfl) (by kernel_rfl) (fun _ _ _ h => h) (Or.inl ⟨by rfl, ?_⟩) hHeld ?_
  rotate_left
  · intro w' hS; obtain ⟨hS0, hS1, hS2⟩ := hS; go_simp; all_goals (with_reducible rfl)
  (try simp only [Act.put, List.setIfInBounds_toArray, List.set_cons_zero, List.set_cons_succ])
  refine wpAnyH_take (i := 15) (oi := { dst := some 7, op := Op.assign (Operand.tmp 26), type := 3, pos := "read.go:44", after := #[{ on := 12, ground := Ground.data }, { on := 14, ground := Ground.chain }, { on := 0, ground := Ground.phase }, { on := 1, ground := Ground.phase }, { on := 2, ground := Ground.phase }, { on := 3, ground := Ground.phase }, { on := 4, ground := Ground.phase }, { on := 5, ground := Ground.phase }, { on := 6, ground := Ground.phase }, { on := 7, ground := Ground.phase }, { on := 8, ground := Ground.phase }, { on := 9, ground := Ground.phase }, { on := 10, ground := Ground.phase }, { on := 11, ground := Ground.phase }, { on := 12, ground := Ground.phase }, { on := 13, ground := Ground.textOnly Departure.lateStores }, { on := 14, ground := Ground.phase }], guard := none }) (v := ?_) rfl (by kernel_rfl) (by kernel_rfl) (by kernel_rfl) (fun _ _ _ h => h) (Or.inl ⟨by rfl, ?_⟩) hHeld ?_
  rotate_left
  · intro w' hS; obtain ⟨hS0, hS1, hS2⟩ := hS; go_simp; all_goals (with_reducible rfl)
  (try simp only [Act.put, List.setIfInBounds_toArray, List.set_cons_zero, List.set_cons_succ])
  refine wpAnyH_take (i := 16) (oi := { dst := some 8, op := Op.assign (Operand.tmp 27), type := 22, pos := "read.go:44", after := #[{ on := 13, ground := Ground.data }, { on := 15, ground := Ground.chain }, { on := 0, ground := Ground.phase }, { on := 1, ground := Ground.phase }, { on := 2, ground := Ground.phase }, { on := 3, ground := Ground.phase }, { on := 4, ground := Ground.phase }, { on := 5, ground := Ground.phase }, { on := 6, ground := Ground.phase }, { on := 7, ground := Ground.phase }, { on := 8, ground := Ground.phase }, { on := 9, ground := Ground.phase }, { on := 10, ground := Ground.phase }, { on := 11, ground := Ground.phase }, { on := 12, ground := Ground.phase }, { on := 13, ground := Ground.phase }, { on := 14, ground := Ground.phase }, { on := 15, ground := Ground.phase }], guard := none }) (v := ?_) rfl (by kernel_rfl) (by kernel_rfl) (by kernel_rfl) (fun _ _ _ h => h) (Or.inl ⟨by rfl, ?_⟩) hHeld ?_
  rotate_left
  · intro w' hS; obtain ⟨hS0, hS1, hS2⟩ := hS; go_simp; all_goals (with_reducible rfl)
  (try simp only [Act.put, List.setIfInBounds_toArray, List.set_cons_zero, List.set_cons_succ])
  refine wpAnyH_done (by kernel_rfl) ?_ _
  (try simp only [Act.put, List.setIfInBounds_toArray, List.set_cons_zero, List.set_cons_succ])
  clear HF cm
  generalize (if c = m then A else Option.map (fun x => x.add m) A) = Am at *
  by_cases he : er = 0
  rotate_left
  · have HP := Aside0.mk (show pList xs most (pDone xs most) m = Res.fail er ((m : Int) + (dn : Int)) from by
      unfold pList pU took
      rw [HQ.out, if_neg he]
      rfl)
    have HE := Aside0.mk he
    clear he
    go_wp2_with fail
    go_at_call 116
    refine (took_fail (HK.out.below HB1.out) (dn : Int) er (by have := HPL.out; have := HK.out.big; omega) HE.out).mono ?_
    rintro e w2 ⟨rfl, rfl⟩
    refine ⟨rfl, HB1.out.mono HK.out.size, Kept.of_below HB1.out _, ?_⟩
    rw [HP.out]
    rfl
  subst he
  go_wp2_with fail
  go_at_call 116
  refine (took_ok (HK.out.below HB1.out) dn HPL.out).mono ?_
  rintro e w2 ⟨rfl, hk, hb, hkp⟩
  have K2 := Aside0.mk hk
  have B2 := Aside0.mk ((HB1.out.mono HK.out.size).trans hb)
  have P2 := Aside0.mk ((Kept.of_below HB1.out (fun j => j = g)).then_ hkp (fun _ h => .inl h))
  have X2 := Aside0.mk (show Rt 101 gb [ptr g] w2 from (hkp.2 gb (Nat.lt_of_lt_of_le HBX.out.lt HB1.out.size) HNE.out).trans (HBX.out.below HB1.out))
  have hm2 := hk.row.cell 2 _ rfl
  have hw64 : IntKind.u64.wrap (most : Int) = (most : Int) := by have := HK.out.mb; rw [IntKind.wrap_u64]; omega
  clear hk hb hkp
  by_cases hu : most < u
  · have HP := Aside0.mk (show pList xs most (pDone xs most) m = Res.fail 91 (m : Int) from by
      unfold pList pU took
      rw [HQ.out, if_pos rfl]
      simp only [Res.bind]
      rw [if_pos (by omega)])
    have d1 : decide ((most : Int) < (u : Int)) = true := decide_eq_true (by omega)
    have d2 : decide (most < u) = true := decide_eq_true hu
    clear hu
    go_wp2_with fail
    refine ⟨rfl, B2.out, P2.out, ?_⟩
    rw [HP.out]
    rfl
  have HP := Aside0.mk (show pList xs most (pDone xs most) m = pN (pDone xs most) u [] (m + dn) from by
    unfold pList pU took
    rw [HQ.out, if_pos rfl]
    simp only [Res.bind]
    rw [if_neg (by omega), Int.toNat_natCast, Int.toNat_natCast])
  have HU := Aside0.mk (show u ≤ most by omega)
  have d1 : decide ((most : Int) < (u : Int)) = false := decide_eq_false (by omega)
  have d2 : decide (most < u) = false := decide_eq_false hu
  clear hu
  go_wp2_with fail
  clear hm2 hw64 d1 d2 c1 c2 c3
  obtain ⟨S0, hS0⟩ : ∃ S0, W.heap.size = S0 := ⟨_, rfl⟩
  have HS0 := Aside0.mk hS0
  have HLT := Aside0.mk (show g < S0 ∧ gb < S0 ∧ B ≤ S0 by have := HK.out.row.lt; have := HBX.out.lt; have := HK.out.size; omega)
  clear hS0
  go_loopw [9, 43] (fun v p wr => ∃ (i m' : Nat) (l : List S123), p = .int .u64 (i : Int) ∧ Aside0 (i ≤ u) ∧ Aside0 (l.length = i) ∧ Aside0 (pN (pDone xs most) u [] (m + dn) = pN (pDone xs most) (u - i) l m') ∧ Aside0 (LD S0 l v wr) ∧ Aside0 (CrAt g B A n c xs m' most wr) ∧ Aside0 (Below B W wr) ∧ Aside0 (Kept W wr (fun j => j = g)) ∧ Aside0 (Rt 101 gb [ptr g] wr)) (fun _ p _ => u - (intOf p).toNat)
  · exact ⟨0, m + dn, [], rfl, ⟨Nat.zero_le _⟩, ⟨rfl⟩, ⟨rfl⟩, ⟨Kd.R_nil _ _ _ _ _⟩, K2, B2, P2, X2⟩
  · obtain ⟨i, m', l, rfl, HI, HLN, HPN, HR, HKr, HBr, HPr, HXr⟩ := hrel
    by_cases ci : i < u
    · have ci1 : decide ((i : Int) < (u : Int)) = true := decide_eq_true (by omega)
      have hw1 : IntKind.u64.wrap ((i : Int) + 1) = ((i + 1 : Nat) : Int) := by rw [IntKind.wrap_u64]; have := HUL.out; omega
      have HOU := Aside0.mk (own_under HR.out)
      go_wp2_with fail
      go_at_call 95
      refine (r_done HKr.out HXr.out).mono ?_
      rintro e w5 ⟨hb, hp, ho⟩
      have hbt := HBr.out.trans hb
      have hpt := HPr.out.then_ hp (fun _ h => .inl h)
      have hpn : pN (pDone xs most) (u - i) l m' = (pDone xs most m').bind fun x mm => pN (pDone xs most) (u - (i + 1)) (l ++ [x]) mm := by
        rw [show u - i = (u - (i + 1)) + 1 from by omega]
        rfl
      rcases hq : pDone xs most m' with ⟨x, m2⟩ | ⟨er, p⟩
      rotate_left
      · rw [hq] at ho hpn
        have ho : e = gaveUp er p := ho
        subst ho
        refine ⟨rfl, hbt, hpt, ?_⟩
        rw [HP.out, HPN.out, hpn]
        rfl
      rw [hq] at ho hpn
      obtain ⟨vx, he, hx, hk⟩ : ∃ vx, e = .returned vx ∧ memDone wr.heap.size x vx w5 ∧ CrAt g B A n c xs m2 most w5 := ho
      subst he
      have SR := Aside0.mk (show S0 ≤ wr.heap.size by have := HPr.out.1; have := HS0.out; omega)
      obtain ⟨Aq, nq, cq, ev, hq⟩ := hx
      subst ev
      have MX := Aside0.mk (show k123.M w5 S0 (fun j => wr.heap.size ≤ j) x [.string x.f0.f0, .int .i64 x.f0.f1, .slice Aq nq cq, .string x.f0.f3, .int .i64 x.f0.f4, .int .i64 x.f0.f5, .int .i64 x.f1] from k123_mkM _ _ _ x (Kd.R_lower (Kd.R_mono (Kd.R_bound hq) (fun j hj => hj.2.1)) SR.out))
      have K5 := Aside0.mk hk
      have B5 := Aside0.mk hbt
      have P5 := Aside0.mk hpt
      have X5 := Aside0.mk (show Rt 101 gb [ptr g] w5 from (hp.2 gb HXr.out.lt HNE.out).trans HXr.out)
      have R5 := Aside0.mk (show LD S0 l _ w5 from LD_alive.kept HR.out hp (fun j hj e => by have := HLT.out; omega))
      have HPN2 := Aside0.mk (HPN.out.trans hpn)
      have S5 := Aside0.mk (show S0 ≤ w5.heap.size by have := hpt.1; have := HS0.out; omega)
      have HSZ := Aside0.mk (show (l.length + 1) * 88 ≤ 140737488355328 by have := HLN.out; have := HI.out; have := HU.out; have := HK.out.mb; omega)
      have SR5 := Aside0.mk hp.1
      obtain ⟨T0, hT0⟩ : ∃ T0, wr.heap.size = T0 := ⟨_, rfl⟩
      rw [hT0] at HOU SR SR5 MX
      clear hb hp hbt hpt hpn hq hk hT0
      try clear ho
      go_wp2_with (first | (
        (with_reducible refine gate_builtin (b := .append) (xs := #[.tmp 45, .tmp 48]) rfl ?_)
        at_builtin
        refine Kd.R_append k123 (w0 := w5) S0 rfl (.tmp 45) (.tmp 48) 56 123 (.agg #[.string ⟨#[]⟩, .int .i64 0, .slice none 0 0, .string ⟨#[]⟩, .int .i64 0, .int .i64 0, .int .i64 0]) 88 rfl Try.underlying56 info123 rfl (by decide) (by decide) _ l x [.string x.f0.f0, .int .i64 x.f0.f1, .slice Aq nq cq, .string x.f0.f3, .int .i64 x.f0.f4, .int .i64 x.f0.f5, .int .i64 x.f1] (fun _ => True) (fun j => T0 ≤ j) rfl rfl MX.out (fun j hj => ⟨trivial, fun e => by have := HOU.out j e.symm; omega⟩) (fun _ _ => trivial) R5.out (Below.refl _ _) S5.out HSZ.out ?_
        intro v1 w6 ho hb hg hat
        have HO6 := Aside0.mk ho
        have K6 := Aside0.mk (K5.out.aside (hb.mono HLT.out.2.2) (hb.block g HLT.out.1))
        have B6 := Aside0.mk (B5.out.trans (hb.mono HLT.out.2.2))
        have P6 := Aside0.mk (show Kept W w6 (fun j => j = g) from ⟨Nat.le_trans P5.out.1 hb.size, fun j hj hn => (hb.block j (by have := HS0.out; omega)).trans (P5.out.2 j hj hn)⟩)
        have X6 := Aside0.mk (show Rt 101 gb [ptr g] w6 from (hb.block gb HLT.out.2.1).trans X5.out)
        clear ho hb hg hat))
      refine ⟨⟨i + 1, m2, l ++ [x], congrArg (Value.int .u64) (by omega), ⟨ci⟩, ⟨by rw [List.length_append, HLN.out]; rfl⟩, HPN2, HO6, K6, B6, P6, X6⟩, ?_⟩
      simp only [intOf]
      omega
    · have ci1 : decide ((i : Int) < (u : Int)) = false := decide_eq_false (by omega)
      obtain rfl : i = u := by have := HI.out; omega
      go_wp2_with fail
      go_ret
      refine ⟨HBr.out, HPr.out, ?_⟩
      rw [HP.out, HPN.out, Nat.sub_self, HS0.out]
      exact ⟨_, rfl, HR.out, HKr.out⟩
end Go.Proofs.Ytafmoglaockepaa.Cd
end
section
namespace Go.Proofs.Ytafmoglaockepaa.Cd
open Go Go.RowKit Go.Proofs.Ytafmoglaockepaa.Num Go.Proofs.Ytafmoglaockepaa.PG Go.Proofs.YtafmoglaockepaaW.PrintWords Go.Proofs.YtafmoglaockepaaW.PrintLast Go.Proofs.YtafmoglaockepaaW.PrintMore
set_option linter.unusedVariables false
set_option linter.unusedSimpArgs false
set_option maxHeartbeats 4000000
set_option maxRecDepth 100000
structure StD where
  f0 : Int
  f1 : Int
  f2 : Int
  f3 : List S28
  f4 : List S121
  f5 : List S123
def pSt (xs : List Int) (most : Nat) (m : Nat) : Res StD :=
  (pI xs m).bind fun a m => (pI xs m).bind fun y m => (pI xs m).bind fun z m => (pList xs most (pLevel xs most) m).bind fun l m => (pList xs most (pHeld xs most) m).bind fun h m => (pList xs most (pDone xs most) m).bind fun d m => .ok ⟨a, y, z, l, h, d⟩ m
def memSt (S : Nat) (x : StD) (v : Value) (w : World) : Prop := ∃ Al nl cl Ah nh ch Ad nd cd, v = .agg #[.int .i64 x.f0, .int .i64 x.f1, .int .i64 x.f2, .slice Al nl cl, .slice Ah nh ch, .slice Ad nd cd] ∧ LL S x.f3 (.slice Al nl cl) w ∧ LH S x.f4 (.slice Ah nh ch) w ∧ LD S x.f5 (.slice Ad nd cd) w
theorem r_state {g B : Nat} {A : Option Addr} {n c : Nat} {xs : List Int} {m most : Nat} {W : World} (k : CrAt g B A n c xs m most W) :
    Calls Try.prog 90 #[ptr g] W fun e w' => Below B W w' ∧ Kept W w' (fun j => j = g) ∧ OutR g B A n c xs most (memSt W.heap.size) (pSt xs most m) e w' := by
  have HK := Aside0.mk k
  clear k
  have hmf : ∀ (fn : Fn) (first cap : Array Value) (w : World), (Instr.makeFunc fn first cap).run Try.prog w = .ok (.func fn first cap) w := fun _ _ _ _ => rfl
  go_enter Try.func90, Try.ntmps90
  go_upto_region 1 with fail
  have hrx : Rt 101 W.heap.size [ptr g] (W.alloc (.cells #[ptr g] 101)) := heap_alloc_new W _
  have hbx : Below W.heap.size W (W.alloc (.cells #[ptr g] 101)) := below_alloc (Below.refl _ _) _
  obtain ⟨gb, hgb⟩ : ∃ gb, W.heap.size = gb := ⟨_, rfl⟩
  have HGB := Aside0.mk hgb
  have K0 := Aside0.mk (HK.out.below hbx)
  have B0 := Aside0.mk (hbx.mono HK.out.size)
  have P0 := Aside0.mk (Kept.of_below hbx (fun j => j = g))
  have HNE := Aside0.mk (show gb ≠ g by have := HK.out.row.lt; omega)
  have hs0 : (W.alloc (.cells #[ptr g] 101)).heap.size = W.heap.size + 1 := by simp
  rw [hgb] at hrx hs0 ⊢
  have X0 := Aside0.mk hrx
  have HS0 := Aside0.mk hs0
  clear hrx hbx hgb hs0
  generalize W.alloc (.cells #[ptr g] 101) = w0 at *
  have hr1 : Rt 58 w0.heap.size [.int .i64 0, .int .i64 0, .int .i64 0, .slice none 0 0, .slice none 0 0, .slice none 0 0] (w0.alloc (.cells #[.int .i64 0, .int .i64 0, .int .i64 0, .slice none 0 0, .slice none 0 0, .slice none 0 0] 58)) := heap_alloc_new w0 _
  have hb1 : Below w0.heap.size w0 (w0.alloc (.cells #[.int .i64 0, .int .i64 0, .int .i64 0, .slice none 0 0, .slice none 0 0, .slice none 0 0] 58)) := below_alloc (Below.refl _ _) _
  obtain ⟨b, hbe⟩ : ∃ b, w0.heap.size = b := ⟨_, rfl⟩
  have K1 := Aside0.mk (K0.out.below hb1)
  have X1 := Aside0.mk (X0.out.below hb1)
  have B1 := Aside0.mk (B0.out.trans (hb1.mono K0.out.size))
  have P1 := Aside0.mk (P0.out.then_ (Kept.of_below hb1 (fun j => j = g)) (fun _ h => .inl h))
  have HBE := Aside0.mk (show W.heap.size ≤ b by have := P0.out.1; omega)
  have HLT := Aside0.mk (show g < b ∧ B ≤ b ∧ gb < b by have := K0.out.row.lt; have := K0.out.size; have := X0.out.lt; omega)
  rw [hbe] at hr1
  have hgb1 : gb + 1 = b := by have := HS0.out; omega
  rw [hgb1]
  clear hgb1
  have R1 := Aside0.mk hr1
  clear hr1 hb1 hbe
  generalize w0.alloc (.cells #[.int .i64 0, .int .i64 0, .int .i64 0, .slice none 0 0, .slice none 0 0, .slice none 0 0] 58) = w1 at *
  have cx := X1.out.cell 0 _ rfl
  have cr0 := R1.out.cell 0 _ rfl
  have fr0 := R1.out.free 0
  go_wp2_with fail
  go_at_call 62
  refine (r_int K1.out).mono ?_
  rintro e w2 ⟨hb, hp, ho⟩
  have hbt := B1.out.trans hb
  have hpt := P1.out.then_ hp (fun _ h => .inl h)
  rcases hq : pI xs m with ⟨a, m1⟩ | ⟨er, p⟩
  rotate_left
  · rw [hq] at ho
    have ho : e = gaveUp er p := ho
    subst ho
    refine ⟨rfl, hbt, hpt, ?_⟩
    have e9 : pSt xs most m = Res.fail er p := by
      unfold pSt
      simp only [Res.bind, hq]
    rw [e9]
    rfl
  rw [hq] at ho
  obtain ⟨he, hk⟩ : e = .returned (.int .i64 a) ∧ CrAt g B A n c xs m1 most w2 := ho
  subst he
  have HQ0 := Aside0.mk hq
  have K2 := Aside0.mk hk
  have B2 := Aside0.mk hbt
  have P2 := Aside0.mk hpt
  have R2 := Aside0.mk (show Rt 58 b [.int .i64 0, .int .i64 0, .int .i64 0, .slice none 0 0, .slice none 0 0, .slice none 0 0] w2 from (hp.2 b R1.out.lt (by have := HLT.out; show b ≠ g; omega)).trans R1.out)
  have X2 := Aside0.mk (show Rt 101 gb [ptr g] w2 from (hp.2 gb X1.out.lt HNE.out).trans X1.out)
  clear hb hp hbt hpt hq hk cr0 fr0
  try clear ho
  clear cx
  have cr0 := R2.out.cell 0 _ rfl
  have fr0 := R2.out.free 0
  go_upto_region 2 with fail
  have e1 := R2.out.set 0 (.int .i64 a)
  rw [e1]
  clear e1 cr0 fr0
  have hl : [Value.int .i64 0, .int .i64 0, .int .i64 0, .slice none 0 0, .slice none 0 0, .slice none 0 0].set 0 (.int .i64 a) = [Value.int .i64 a, .int .i64 0, .int .i64 0, .slice none 0 0, .slice none 0 0, .slice none 0 0] := rfl
  rw [hl]
  clear hl
  have K3 := Aside0.mk (show CrAt g B A n c xs m1 most (w2.setRow b [Value.int .i64 a, .int .i64 0, .int .i64 0, .slice none 0 0, .slice none 0 0, .slice none 0 0].toArray) from K2.out.aside (below_setRow' (Below.refl _ _) HLT.out.2.1 _) (setRow_other _ _ _ _ (by have := HLT.out; omega)))
  have B3 := Aside0.mk (show Below B W (w2.setRow b [Value.int .i64 a, .int .i64 0, .int .i64 0, .slice none 0 0, .slice none 0 0, .slice none 0 0].toArray) from below_setRow' B2.out HLT.out.2.1 _)
  have P3 := Aside0.mk (show Kept W (w2.setRow b [Value.int .i64 a, .int .i64 0, .int .i64 0, .slice none 0 0, .slice none 0 0, .slice none 0 0].toArray) (fun j => j = g) from ⟨by rw [setRow_size]; exact P2.out.1, fun j hj hn => (setRow_other _ _ _ _ (by have := HBE.out; omega)).trans (P2.out.2 j hj hn)⟩)
  have R3 := Aside0.mk (show Rt 58 b [Value.int .i64 a, .int .i64 0, .int .i64 0, .slice none 0 0, .slice none 0 0, .slice none 0 0] (w2.setRow b [Value.int .i64 a, .int .i64 0, .int .i64 0, .slice none 0 0, .slice none 0 0, .slice none 0 0].toArray) from R2.out.row _)
  have X3 := Aside0.mk (show Rt 101 gb [ptr g] (w2.setRow b [Value.int .i64 a, .int .i64 0, .int .i64 0, .slice none 0 0, .slice none 0 0, .slice none 0 0].toArray) from (setRow_other _ _ _ _ (by have := HLT.out; omega)).trans X2.out)
  generalize w2.setRow b [Value.int .i64 a, .int .i64 0, .int .i64 0, .slice none 0 0, .slice none 0 0, .slice none 0 0].toArray = w3 at *
  have cx := X3.out.cell 0 _ rfl
  have cr1 := R3.out.cell 1 _ rfl
  have fr1 := R3.out.free 1
  go_wp2_with fail
  go_at_call 62
  refine (r_int K3.out).mono ?_
  rintro e w4 ⟨hb, hp, ho⟩
  have hbt := B3.out.trans hb
  have hpt := P3.out.then_ hp (fun _ h => .inl h)
  rcases hq : pI xs m1 with ⟨y, m2⟩ | ⟨er, p⟩
  rotate_left
  · rw [hq] at ho
    have ho : e = gaveUp er p := ho
    subst ho
    refine ⟨rfl, hbt, hpt, ?_⟩
    have e9 : pSt xs most m = Res.fail er p := by
      unfold pSt
      simp only [Res.bind, HQ0.out, hq]
    rw [e9]
    rfl
  rw [hq] at ho
  obtain ⟨he, hk⟩ : e = .returned (.int .i64 y) ∧ CrAt g B A n c xs m2 most w4 := ho
  subst he
  have HQ1 := Aside0.mk hq
  have K4 := Aside0.mk hk
  have B4 := Aside0.mk hbt
  have P4 := Aside0.mk hpt
  have R4 := Aside0.mk (show Rt 58 b [.int .i64 a, .int .i64 0, .int .i64 0, .slice none 0 0, .slice none 0 0, .slice none 0 0] w4 from (hp.2 b R3.out.lt (by have := HLT.out; show b ≠ g; omega)).trans R3.out)
  have X4 := Aside0.mk (show Rt 101 gb [ptr g] w4 from (hp.2 gb X3.out.lt HNE.out).trans X3.out)
  clear hb hp hbt hpt hq hk cr1 fr1
  try clear ho
  clear cx
  have cr1 := R4.out.cell 1 _ rfl
  have fr1 := R4.out.free 1
  go_upto_region 3 with fail
  have e1 := R4.out.set 1 (.int .i64 y)
  rw [e1]
  clear e1 cr1 fr1
  have hl : [Value.int .i64 a, .int .i64 0, .int .i64 0, .slice none 0 0, .slice none 0 0, .slice none 0 0].set 1 (.int .i64 y) = [Value.int .i64 a, .int .i64 y, .int .i64 0, .slice none 0 0, .slice none 0 0, .slice none 0 0] := rfl
  rw [hl]
  clear hl
  have K5 := Aside0.mk (show CrAt g B A n c xs m2 most (w4.setRow b [Value.int .i64 a, .int .i64 y, .int .i64 0, .slice none 0 0, .slice none 0 0, .slice none 0 0].toArray) from K4.out.aside (below_setRow' (Below.refl _ _) HLT.out.2.1 _) (setRow_other _ _ _ _ (by have := HLT.out; omega)))
  have B5 := Aside0.mk (show Below B W (w4.setRow b [Value.int .i64 a, .int .i64 y, .int .i64 0, .slice none 0 0, .slice none 0 0, .slice none 0 0].toArray) from below_setRow' B4.out HLT.out.2.1 _)
  have P5 := Aside0.mk (show Kept W (w4.setRow b [Value.int .i64 a, .int .i64 y, .int .i64 0, .slice none 0 0, .slice none 0 0, .slice none 0 0].toArray) (fun j => j = g) from ⟨by rw [setRow_size]; exact P4.out.1, fun j hj hn => (setRow_other _ _ _ _ (by have := HBE.out; omega)).trans (P4.out.2 j hj hn)⟩)
  have R5 := Aside0.mk (show Rt 58 b [Value.int .i64 a, .int .i64 y, .int .i64 0, .slice none 0 0, .slice none 0 0, .slice none 0 0] (w4.setRow b [Value.int .i64 a, .int .i64 y, .int .i64 0, .slice none 0 0, .slice none 0 0, .slice none 0 0].toArray) from R4.out.row _)
  have X5 := Aside0.mk (show Rt 101 gb [ptr g] (w4.setRow b [Value.int .i64 a, .int .i64 y, .int .i64 0, .slice none 0 0, .slice none 0 0, .slice none 0 0].toArray) from (setRow_other _ _ _ _ (by have := HLT.out; omega)).trans X4.out)
  generalize w4.setRow b [Value.int .i64 a, .int .i64 y, .int .i64 0, .slice none 0 0, .slice none 0 0, .slice none 0 0].toArray = w5 at *
  have cx := X5.out.cell 0 _ rfl
  have cr2 := R5.out.cell 2 _ rfl
  have fr2 := R5.out.free 2
  go_wp2_with fail
  go_at_call 62
  refine (r_int K5.out).mono ?_
  rintro e w6 ⟨hb, hp, ho⟩
  have hbt := B5.out.trans hb
  have hpt := P5.out.then_ hp (fun _ h => .inl h)
  rcases hq : pI xs m2 with ⟨z, m3⟩ | ⟨er, p⟩
  rotate_left
  · rw [hq] at ho
    have ho : e = gaveUp er p := ho
    subst ho
    refine ⟨rfl, hbt, hpt, ?_⟩
    have e9 : pSt xs most m = Res.fail er p := by
      unfold pSt
      simp only [Res.bind, HQ0.out, HQ1.out, hq]
    rw [e9]
    rfl
  rw [hq] at ho
  obtain ⟨he, hk⟩ : e = .returned (.int .i64 z) ∧ CrAt g B A n c xs m3 most w6 := ho
  subst he
  have HQ2 := Aside0.mk hq
  have K6 := Aside0.mk hk
  have B6 := Aside0.mk hbt
  have P6 := Aside0.mk hpt
  have R6 := Aside0.mk (show Rt 58 b [.int .i64 a, .int .i64 y, .int .i64 0, .slice none 0 0, .slice none 0 0, .slice none 0 0] w6 from (hp.2 b R5.out.lt (by have := HLT.out; show b ≠ g; omega)).trans R5.out)
  have X6 := Aside0.mk (show Rt 101 gb [ptr g] w6 from (hp.2 gb X5.out.lt HNE.out).trans X5.out)
  clear hb hp hbt hpt hq hk cr2 fr2
  try clear ho
  clear cx
  have cr2 := R6.out.cell 2 _ rfl
  have fr2 := R6.out.free 2
  go_upto_region 4 with fail
  have e1 := R6.out.set 2 (.int .i64 z)
  rw [e1]
  clear e1 cr2 fr2
  have hl : [Value.int .i64 a, .int .i64 y, .int .i64 0, .slice none 0 0, .slice none 0 0, .slice none 0 0].set 2 (.int .i64 z) = [Value.int .i64 a, .int .i64 y, .int .i64 z, .slice none 0 0, .slice none 0 0, .slice none 0 0] := rfl
  rw [hl]
  clear hl
  have K7 := Aside0.mk (show CrAt g B A n c xs m3 most (w6.setRow b [Value.int .i64 a, .int .i64 y, .int .i64 z, .slice none 0 0, .slice none 0 0, .slice none 0 0].toArray) from K6.out.aside (below_setRow' (Below.refl _ _) HLT.out.2.1 _) (setRow_other _ _ _ _ (by have := HLT.out; omega)))
  have B7 := Aside0.mk (show Below B W (w6.setRow b [Value.int .i64 a, .int .i64 y, .int .i64 z, .slice none 0 0, .slice none 0 0, .slice none 0 0].toArray) from below_setRow' B6.out HLT.out.2.1 _)
  have P7 := Aside0.mk (show Kept W (w6.setRow b [Value.int .i64 a, .int .i64 y, .int .i64 z, .slice none 0 0, .slice none 0 0, .slice none 0 0].toArray) (fun j => j = g) from ⟨by rw [setRow_size]; exact P6.out.1, fun j hj hn => (setRow_other _ _ _ _ (by have := HBE.out; omega)).trans (P6.out.2 j hj hn)⟩)
  have R7 := Aside0.mk (show Rt 58 b [Value.int .i64 a, .int .i64 y, .int .i64 z, .slice none 0 0, .slice none 0 0, .slice none 0 0] (w6.setRow b [Value.int .i64 a, .int .i64 y, .int .i64 z, .slice none 0 0, .slice none 0 0, .slice none 0 0].toArray) from R6.out.row _)
  have X7 := Aside0.mk (show Rt 101 gb [ptr g] (w6.setRow b [Value.int .i64 a, .int .i64 y, .int .i64 z, .slice none 0 0, .slice none 0 0, .slice none 0 0].toArray) from (setRow_other _ _ _ _ (by have := HLT.out; omega)).trans X6.out)
  generalize w6.setRow b [Value.int .i64 a, .int .i64 y, .int .i64 z, .slice none 0 0, .slice none 0 0, .slice none 0 0].toArray = w7 at *
  have cx := X7.out.cell 0 _ rfl
  have cr3 := R7.out.cell 3 _ rfl
  have fr3 := R7.out.free 3
  go_wp2_with fail
  go_at_call 63
  refine (r_levels K7.out).mono ?_
  rintro e w8 ⟨hb, hp, ho⟩
  have hbt := B7.out.trans hb
  have hpt := P7.out.then_ hp (fun _ h => .inl h)
  rcases hq : pList xs most (pLevel xs most) m3 with ⟨l, m4⟩ | ⟨er, p⟩
  rotate_left
  · rw [hq] at ho
    have ho : e = gaveUp er p := ho
    subst ho
    refine ⟨rfl, hbt, hpt, ?_⟩
    have e9 : pSt xs most m = Res.fail er p := by
      unfold pSt
      simp only [Res.bind, HQ0.out, HQ1.out, HQ2.out, hq]
    rw [e9]
    rfl
  rw [hq] at ho
  obtain ⟨v, he, hE, hk⟩ : ∃ v, e = .returned v ∧ LL w7.heap.size l v w8 ∧ CrAt g B A n c xs m4 most w8 := ho
  obtain ⟨Al, nl, cl, ev⟩ := LL_slice hE
  subst ev
  have Ll_8 := Aside0.mk (show LL (b + 1) l (.slice Al nl cl) w8 from LL_alive.lower hE R7.out.lt)
  clear hE
  subst he
  have HQ3 := Aside0.mk hq
  have K8 := Aside0.mk hk
  have B8 := Aside0.mk hbt
  have P8 := Aside0.mk hpt
  have R8 := Aside0.mk (show Rt 58 b [.int .i64 a, .int .i64 y, .int .i64 z, .slice none 0 0, .slice none 0 0, .slice none 0 0] w8 from (hp.2 b R7.out.lt (by have := HLT.out; show b ≠ g; omega)).trans R7.out)
  have X8 := Aside0.mk (show Rt 101 gb [ptr g] w8 from (hp.2 gb X7.out.lt HNE.out).trans X7.out)
  clear hb hp hbt hpt hq hk cr3 fr3
  try clear ho
  clear cx
  have cr3 := R8.out.cell 3 _ rfl
  have fr3 := R8.out.free 3
  go_upto_region 5 with fail
  have e1 := R8.out.set 3 (.slice Al nl cl)
  rw [e1]
  clear e1 cr3 fr3
  have hl : [Value.int .i64 a, .int .i64 y, .int .i64 z, .slice none 0 0, .slice none 0 0, .slice none 0 0].set 3 (.slice Al nl cl) = [Value.int .i64 a, .int .i64 y, .int .i64 z, .slice Al nl cl, .slice none 0 0, .slice none 0 0] := rfl
  rw [hl]
  clear hl
  have K9 := Aside0.mk (show CrAt g B A n c xs m4 most (w8.setRow b [Value.int .i64 a, .int .i64 y, .int .i64 z, .slice Al nl cl, .slice none 0 0, .slice none 0 0].toArray) from K8.out.aside (below_setRow' (Below.refl _ _) HLT.out.2.1 _) (setRow_other _ _ _ _ (by have := HLT.out; omega)))
  have B9 := Aside0.mk (show Below B W (w8.setRow b [Value.int .i64 a, .int .i64 y, .int .i64 z, .slice Al nl cl, .slice none 0 0, .slice none 0 0].toArray) from below_setRow' B8.out HLT.out.2.1 _)
  have P9 := Aside0.mk (show Kept W (w8.setRow b [Value.int .i64 a, .int .i64 y, .int .i64 z, .slice Al nl cl, .slice none 0 0, .slice none 0 0].toArray) (fun j => j = g) from ⟨by rw [setRow_size]; exact P8.out.1, fun j hj hn => (setRow_other _ _ _ _ (by have := HBE.out; omega)).trans (P8.out.2 j hj hn)⟩)
  have R9 := Aside0.mk (show Rt 58 b [Value.int .i64 a, .int .i64 y, .int .i64 z, .slice Al nl cl, .slice none 0 0, .slice none 0 0] (w8.setRow b [Value.int .i64 a, .int .i64 y, .int .i64 z, .slice Al nl cl, .slice none 0 0, .slice none 0 0].toArray) from R8.out.row _)
  have X9 := Aside0.mk (show Rt 101 gb [ptr g] (w8.setRow b [Value.int .i64 a, .int .i64 y, .int .i64 z, .slice Al nl cl, .slice none 0 0, .slice none 0 0].toArray) from (setRow_other _ _ _ _ (by have := HLT.out; omega)).trans X8.out)
  have Ll_9 := Aside0.mk (LL_alive.row Ll_8.out (Nat.lt_succ_self b) [Value.int .i64 a, .int .i64 y, .int .i64 z, .slice Al nl cl, .slice none 0 0, .slice none 0 0].toArray)
  generalize w8.setRow b [Value.int .i64 a, .int .i64 y, .int .i64 z, .slice Al nl cl, .slice none 0 0, .slice none 0 0].toArray = w9 at *
  have cx := X9.out.cell 0 _ rfl
  have cr4 := R9.out.cell 4 _ rfl
  have fr4 := R9.out.free 4
  go_wp2_with fail
  go_at_call 91
  refine (r_heldList K9.out X9.out).mono ?_
  rintro e w10 ⟨hb, hp, ho⟩
  have hbt := B9.out.trans hb
  have hpt := P9.out.then_ hp (fun _ h => .inl h)
  rcases hq : pList xs most (pHeld xs most) m4 with ⟨h, m5⟩ | ⟨er, p⟩
  rotate_left
  · rw [hq] at ho
    have ho : e = gaveUp er p := ho
    subst ho
    refine ⟨rfl, hbt, hpt, ?_⟩
    have e9 : pSt xs most m = Res.fail er p := by
      unfold pSt
      simp only [Res.bind, HQ0.out, HQ1.out, HQ2.out, HQ3.out, hq]
    rw [e9]
    rfl
  rw [hq] at ho
  obtain ⟨v, he, hE, hk⟩ : ∃ v, e = .returned v ∧ LH w9.heap.size h v w10 ∧ CrAt g B A n c xs m5 most w10 := ho
  obtain ⟨Ah, nh, ch, ev⟩ := LH_slice hE
  subst ev
  have Lh_10 := Aside0.mk (show LH (b + 1) h (.slice Ah nh ch) w10 from LH_alive.lower hE R9.out.lt)
  clear hE
  subst he
  have HQ4 := Aside0.mk hq
  have K10 := Aside0.mk hk
  have B10 := Aside0.mk hbt
  have P10 := Aside0.mk hpt
  have R10 := Aside0.mk (show Rt 58 b [.int .i64 a, .int .i64 y, .int .i64 z, .slice Al nl cl, .slice none 0 0, .slice none 0 0] w10 from (hp.2 b R9.out.lt (by have := HLT.out; show b ≠ g; omega)).trans R9.out)
  have X10 := Aside0.mk (show Rt 101 gb [ptr g] w10 from (hp.2 gb X9.out.lt HNE.out).trans X9.out)
  have Ll_10 := Aside0.mk (LL_alive.kept Ll_9.out hp (fun j hj e => by have := HLT.out; omega))
  clear hb hp hbt hpt hq hk cr4 fr4
  try clear ho
  clear cx
  have cr4 := R10.out.cell 4 _ rfl
  have fr4 := R10.out.free 4
  go_upto_region 6 with fail
  have e1 := R10.out.set 4 (.slice Ah nh ch)
  rw [e1]
  clear e1 cr4 fr4
  have hl : [Value.int .i64 a, .int .i64 y, .int .i64 z, .slice Al nl cl, .slice none 0 0, .slice none 0 0].set 4 (.slice Ah nh ch) = [Value.int .i64 a, .int .i64 y, .int .i64 z, .slice Al nl cl, .slice Ah nh ch, .slice none 0 0] := rfl
  rw [hl]
  clear hl
  have K11 := Aside0.mk (show CrAt g B A n c xs m5 most (w10.setRow b [Value.int .i64 a, .int .i64 y, .int .i64 z, .slice Al nl cl, .slice Ah nh ch, .slice none 0 0].toArray) from K10.out.aside (below_setRow' (Below.refl _ _) HLT.out.2.1 _) (setRow_other _ _ _ _ (by have := HLT.out; omega)))
  have B11 := Aside0.mk (show Below B W (w10.setRow b [Value.int .i64 a, .int .i64 y, .int .i64 z, .slice Al nl cl, .slice Ah nh ch, .slice none 0 0].toArray) from below_setRow' B10.out HLT.out.2.1 _)
  have P11 := Aside0.mk (show Kept W (w10.setRow b [Value.int .i64 a, .int .i64 y, .int .i64 z, .slice Al nl cl, .slice Ah nh ch, .slice none 0 0].toArray) (fun j => j = g) from ⟨by rw [setRow_size]; exact P10.out.1, fun j hj hn => (setRow_other _ _ _ _ (by have := HBE.out; omega)).trans (P10.out.2 j hj hn)⟩)
  have R11 := Aside0.mk (show Rt 58 b [Value.int .i64 a, .int .i64 y, .int .i64 z, .slice Al nl cl, .slice Ah nh ch, .slice none 0 0] (w10.setRow b [Value.int .i64 a, .int .i64 y, .int .i64 z, .slice Al nl cl, .slice Ah nh ch, .slice none 0 0].toArray) from R10.out.row _)
  have X11 := Aside0.mk (show Rt 101 gb [ptr g] (w10.setRow b [Value.int .i64 a, .int .i64 y, .int .i64 z, .slice Al nl cl, .slice Ah nh ch, .slice none 0 0].toArray) from (setRow_other _ _ _ _ (by have := HLT.out; omega)).trans X10.out)
  have Ll_11 := Aside0.mk (LL_alive.row Ll_10.out (Nat.lt_succ_self b) [Value.int .i64 a, .int .i64 y, .int .i64 z, .slice Al nl cl, .slice Ah nh ch, .slice none 0 0].toArray)
  have Lh_11 := Aside0.mk (LH_alive.row Lh_10.out (Nat.lt_succ_self b) [Value.int .i64 a, .int .i64 y, .int .i64 z, .slice Al nl cl, .slice Ah nh ch, .slice none 0 0].toArray)
  generalize w10.setRow b [Value.int .i64 a, .int .i64 y, .int .i64 z, .slice Al nl cl, .slice Ah nh ch, .slice none 0 0].toArray = w11 at *
  have cx := X11.out.cell 0 _ rfl
  have cr5 := R11.out.cell 5 _ rfl
  have fr5 := R11.out.free 5
  go_wp2_with fail
  go_at_call 94
  refine (r_doneList K11.out X11.out).mono ?_
  rintro e w12 ⟨hb, hp, ho⟩
  have hbt := B11.out.trans hb
  have hpt := P11.out.then_ hp (fun _ h => .inl h)
  rcases hq : pList xs most (pDone xs most) m5 with ⟨d, m6⟩ | ⟨er, p⟩
  rotate_left
  · rw [hq] at ho
    have ho : e = gaveUp er p := ho
    subst ho
    refine ⟨rfl, hbt, hpt, ?_⟩
    have e9 : pSt xs most m = Res.fail er p := by
      unfold pSt
      simp only [Res.bind, HQ0.out, HQ1.out, HQ2.out, HQ3.out, HQ4.out, hq]
    rw [e9]
    rfl
  rw [hq] at ho
  obtain ⟨v, he, hE, hk⟩ : ∃ v, e = .returned v ∧ LD w11.heap.size d v w12 ∧ CrAt g B A n c xs m6 most w12 := ho
  obtain ⟨Ad, nd, cd, ev⟩ := LD_slice hE
  subst ev
  have Ld_12 := Aside0.mk (show LD (b + 1) d (.slice Ad nd cd) w12 from LD_alive.lower hE R11.out.lt)
  clear hE
  subst he
  have HQ5 := Aside0.mk hq
  have K12 := Aside0.mk hk
  have B12 := Aside0.mk hbt
  have P12 := Aside0.mk hpt
  have R12 := Aside0.mk (show Rt 58 b [.int .i64 a, .int .i64 y, .int .i64 z, .slice Al nl cl, .slice Ah nh ch, .slice none 0 0] w12 from (hp.2 b R11.out.lt (by have := HLT.out; show b ≠ g; omega)).trans R11.out)
  have X12 := Aside0.mk (show Rt 101 gb [ptr g] w12 from (hp.2 gb X11.out.lt HNE.out).trans X11.out)
  have Ll_12 := Aside0.mk (LL_alive.kept Ll_11.out hp (fun j hj e => by have := HLT.out; omega))
  have Lh_12 := Aside0.mk (LH_alive.kept Lh_11.out hp (fun j hj e => by have := HLT.out; omega))
  clear hb hp hbt hpt hq hk cr5 fr5
  try clear ho
  clear cx
  have cr5 := R12.out.cell 5 _ rfl
  have fr5 := R12.out.free 5
  go_upto_region 7 with fail
  have e1 := R12.out.set 5 (.slice Ad nd cd)
  rw [e1]
  clear e1 cr5 fr5
  have hl : [Value.int .i64 a, .int .i64 y, .int .i64 z, .slice Al nl cl, .slice Ah nh ch, .slice none 0 0].set 5 (.slice Ad nd cd) = [Value.int .i64 a, .int .i64 y, .int .i64 z, .slice Al nl cl, .slice Ah nh ch, .slice Ad nd cd] := rfl
  rw [hl]
  clear hl
  have K13 := Aside0.mk (show CrAt g B A n c xs m6 most (w12.setRow b [Value.int .i64 a, .int .i64 y, .int .i64 z, .slice Al nl cl, .slice Ah nh ch, .slice Ad nd cd].toArray) from K12.out.aside (below_setRow' (Below.refl _ _) HLT.out.2.1 _) (setRow_other _ _ _ _ (by have := HLT.out; omega)))
  have B13 := Aside0.mk (show Below B W (w12.setRow b [Value.int .i64 a, .int .i64 y, .int .i64 z, .slice Al nl cl, .slice Ah nh ch, .slice Ad nd cd].toArray) from below_setRow' B12.out HLT.out.2.1 _)
  have P13 := Aside0.mk (show Kept W (w12.setRow b [Value.int .i64 a, .int .i64 y, .int .i64 z, .slice Al nl cl, .slice Ah nh ch, .slice Ad nd cd].toArray) (fun j => j = g) from ⟨by rw [setRow_size]; exact P12.out.1, fun j hj hn => (setRow_other _ _ _ _ (by have := HBE.out; omega)).trans (P12.out.2 j hj hn)⟩)
  have R13 := Aside0.mk (show Rt 58 b [Value.int .i64 a, .int .i64 y, .int .i64 z, .slice Al nl cl, .slice Ah nh ch, .slice Ad nd cd] (w12.setRow b [Value.int .i64 a, .int .i64 y, .int .i64 z, .slice Al nl cl, .slice Ah nh ch, .slice Ad nd cd].toArray) from R12.out.row _)
  have X13 := Aside0.mk (show Rt 101 gb [ptr g] (w12.setRow b [Value.int .i64 a, .int .i64 y, .int .i64 z, .slice Al nl cl, .slice Ah nh ch, .slice Ad nd cd].toArray) from (setRow_other _ _ _ _ (by have := HLT.out; omega)).trans X12.out)
  have Ll_13 := Aside0.mk (LL_alive.row Ll_12.out (Nat.lt_succ_self b) [Value.int .i64 a, .int .i64 y, .int .i64 z, .slice Al nl cl, .slice Ah nh ch, .slice Ad nd cd].toArray)
  have Lh_13 := Aside0.mk (LH_alive.row Lh_12.out (Nat.lt_succ_self b) [Value.int .i64 a, .int .i64 y, .int .i64 z, .slice Al nl cl, .slice Ah nh ch, .slice Ad nd cd].toArray)
  have Ld_13 := Aside0.mk (LD_alive.row Ld_12.out (Nat.lt_succ_self b) [Value.int .i64 a, .int .i64 y, .int .i64 z, .slice Al nl cl, .slice Ah nh ch, .slice Ad nd cd].toArray)
  generalize w12.setRow b [Value.int .i64 a, .int .i64 y, .int .i64 z, .slice Al nl cl, .slice Ah nh ch, .slice Ad nd cd].toArray = w13 at *
  have c0 := R13.out.cell 0 _ rfl
  have f0 := R13.out.free 0
  have c1 := R13.out.cell 1 _ rfl
  have f1 := R13.out.free 1
  have c2 := R13.out.cell 2 _ rfl
  have f2 := R13.out.free 2
  have c3 := R13.out.cell 3 _ rfl
  have f3 := R13.out.free 3
  have c4 := R13.out.cell 4 _ rfl
  have f4 := R13.out.free 4
  have c5 := R13.out.cell 5 _ rfl
  have f5 := R13.out.free 5
  go_wp2_with fail
  rw [R13.out.same 0 _ rfl, R13.out.same 1 _ rfl, R13.out.same 2 _ rfl, R13.out.same 3 _ rfl, R13.out.same 4 _ rfl, R13.out.same 5 _ rfl]
  refine bodyPost_ret (results_cell_row rfl _ _ b 58 _ (0, 0) _ rfl R13.out Try.underlying58 rfl (by kernel_rfl)) rfl ?_
  refine ⟨B13.out, P13.out, ?_⟩
  have e9 : pSt xs most m = Res.ok ⟨a, y, z, l, h, d⟩ m6 := by
    unfold pSt
    simp only [Res.bind, HQ0.out, HQ1.out, HQ2.out, HQ3.out, HQ4.out, HQ5.out]
  rw [e9]
  exact ⟨_, rfl, ⟨Al, nl, cl, Ah, nh, ch, Ad, nd, cd, rfl, LL_alive.lower Ll_13.out (Nat.le_succ_of_le HBE.out), LH_alive.lower Lh_13.out (Nat.le_succ_of_le HBE.out), LD_alive.lower Ld_13.out (Nat.le_succ_of_le HBE.out)⟩, K13.out⟩
end Go.Proofs.Ytafmoglaockepaa.Cd
end
section
namespace Go.Proofs.Ytafmoglaockepaa.Cd
open Go Go.RowKit Go.Proofs.Ytafmoglaockepaa.Num Go.Proofs.Ytafmoglaockepaa.PG Go.Proofs.YtafmoglaockepaaW.PrintWords Go.Proofs.YtafmoglaockepaaW.PrintLast Go.Proofs.YtafmoglaockepaaW.PrintMore
set_option linter.unusedVariables false
set_option linter.unusedSimpArgs false
set_option maxHeartbeats 4000000
set_option maxRecDepth 100000
def encS (x : StD) : List Int := encI x.f0 ++ (encI x.f1 ++ (encI x.f2 ++ ((encU x.f3.length ++ encLs x.f3) ++ ((encU x.f4.length ++ encHs x.f4) ++ (encU x.f5.length ++ encDs x.f5)))))
def bulkS (x : StD) : Nat := 90 + bulkL x.f3 + bulkHs x.f4 + bulkDs x.f5
theorem w_state {g B br : Nat} {xs : List Int} {W W0 : World} (k : WrAt g B xs W) (hW0 : Below W0.heap.size W0 W) (hB0 : W0.heap.size ≤ B) (x : StD) (Al : Option Addr) (cl : Nat) (hCl : Kd.C k28 W0 Al x.f3.length x.f3) (Ah : Option Addr) (ch : Nat) (hCh : Kd.C k121 W0 Ah x.f4.length x.f4) (Ad : Option Addr) (cd : Nat) (hCd : Kd.C k123 W0 Ad x.f5.length x.f5) (h0 : Int64 x.f0) (h1 : Int64 x.f1) (h2 : Int64 x.f2) (h3 : LevOk x.f3) (h4 : HeldsOk x.f4) (h5 : DonesOk x.f5) (hbr : Rt 58 br [.int .i64 x.f0, .int .i64 x.f1, .int .i64 x.f2, .slice Al x.f3.length cl, .slice Ah x.f4.length ch, .slice Ad x.f5.length cd] W) (hl : xs.length + bulkS x + 2000 < 140737488355328) :
    Calls Try.prog 81 #[ptr g, ptr br] W fun e w' => e = .returned (.tuple #[]) ∧ WrAt g B (xs ++ encS x) w' ∧ Below B W w' ∧ Others W w' := by
  have HLL := Aside0.mk hl
  have HW0 := Aside0.mk hW0
  have HB0 := Aside0.mk hB0
  have HS := Aside0.mk k.size
  have HCl := Aside0.mk hCl
  have HCh := Aside0.mk hCh
  have HCd := Aside0.mk hCd
  have H0 := Aside0.mk h0
  have H1 := Aside0.mk h1
  have H2 := Aside0.mk h2
  have H3 := Aside0.mk h3
  have H4 := Aside0.mk h4
  have H5 := Aside0.mk h5
  have hmf : ∀ (fn : Fn) (first cap : Array Value) (w : World), (Instr.makeFunc fn first cap).run Try.prog w = .ok (.func fn first cap) w := fun _ _ _ _ => rfl
  have hr2 : Rt 92 W.heap.size [ptr g] (W.alloc (.cells #[ptr g] 92)) := heap_alloc_new W _
  have hb1 : Below W.heap.size W (W.alloc (.cells #[ptr g] 92)) := below_alloc (Below.refl _ _) _
  obtain ⟨gb, hb2⟩ : ∃ b2, W.heap.size = b2 := ⟨_, rfl⟩
  have HB2 := Aside0.mk hb2
  have K1 := Aside0.mk (k.below hb1)
  have B1 := Aside0.mk (hb1.mono HS.out)
  have O1 := Aside0.mk (Others.of_below hb1)
  have R1 := Aside0.mk (hbr.below hb1)
  rw [hb2] at hr2
  have X1 := Aside0.mk hr2
  clear k hbr hr2 hb1 hb2 hl hW0 hB0 hCl hCh hCd h0 h1 h2 h3 h4 h5
  go_enter Try.func81, Try.ntmps81
  go_upto_region 1 with fail
  have hb2 := HB2.out
  rw [hb2]
  clear hb2
  generalize W.alloc (.cells #[ptr g] 92) = w1 at *
  have cx := X1.out.cell 0 _ rfl
  have c0 := R1.out.cell 0 _ rfl
  go_wp2_with fail
  go_at_call 53
  refine (w_int K1.out x.f0 H0.out (by have := HLL.out; have := encI_len x.f0; have := encI_len x.f1; have := encI_len x.f2; have := encU_len x.f3.length; have := encLs_len x.f3; have := encU_len x.f4.length; have := encHs_len x.f4; have := encU_len x.f5.length; have := encDs_len x.f5; have := show bulkS x = 90 + bulkL x.f3 + bulkHs x.f4 + bulkDs x.f5 from rfl; (try simp only [List.length_append]); omega)).mono ?_
  rintro e w2 ⟨rfl, hk, hb, ho⟩
  have K2 := Aside0.mk hk
  have B2 := Aside0.mk (B1.out.trans hb)
  have O2 := Aside0.mk (O1.out.trans ho)
  have R2 := Aside0.mk (ho.row R1.out (by decide) (by decide))
  have X2 := Aside0.mk (ho.row X1.out (by decide) (by decide))
  clear hk hb ho cx c0
  have cx := X2.out.cell 0 _ rfl
  have c1 := R2.out.cell 1 _ rfl
  go_wp2_with fail
  go_at_call 53
  refine (w_int K2.out x.f1 H1.out (by have := HLL.out; have := encI_len x.f0; have := encI_len x.f1; have := encI_len x.f2; have := encU_len x.f3.length; have := encLs_len x.f3; have := encU_len x.f4.length; have := encHs_len x.f4; have := encU_len x.f5.length; have := encDs_len x.f5; have := show bulkS x = 90 + bulkL x.f3 + bulkHs x.f4 + bulkDs x.f5 from rfl; (try simp only [List.length_append]); omega)).mono ?_
  rintro e w3 ⟨rfl, hk, hb, ho⟩
  have K3 := Aside0.mk hk
  have B3 := Aside0.mk (B2.out.trans hb)
  have O3 := Aside0.mk (O2.out.trans ho)
  have R3 := Aside0.mk (ho.row R2.out (by decide) (by decide))
  have X3 := Aside0.mk (ho.row X2.out (by decide) (by decide))
  clear hk hb ho cx c1
  have cx := X3.out.cell 0 _ rfl
  have c2 := R3.out.cell 2 _ rfl
  go_wp2_with fail
  go_at_call 53
  refine (w_int K3.out x.f2 H2.out (by have := HLL.out; have := encI_len x.f0; have := encI_len x.f1; have := encI_len x.f2; have := encU_len x.f3.length; have := encLs_len x.f3; have := encU_len x.f4.length; have := encHs_len x.f4; have := encU_len x.f5.length; have := encDs_len x.f5; have := show bulkS x = 90 + bulkL x.f3 + bulkHs x.f4 + bulkDs x.f5 from rfl; (try simp only [List.length_append]); omega)).mono ?_
  rintro e w4 ⟨rfl, hk, hb, ho⟩
  have K4 := Aside0.mk hk
  have B4 := Aside0.mk (B3.out.trans hb)
  have O4 := Aside0.mk (O3.out.trans ho)
  have R4 := Aside0.mk (ho.row R3.out (by decide) (by decide))
  have X4 := Aside0.mk (ho.row X3.out (by decide) (by decide))
  clear hk hb ho cx c2
  have cx := X4.out.cell 0 _ rfl
  have c3 := R4.out.cell 3 _ rfl
  go_wp2_with fail
  go_at_call 54
  refine (w_levels K4.out Al x.f3.length cl x.f3 (fun W' hb => Kd.C_below HCl.out (HW0.out.trans ((B4.out.trans hb).mono HB0.out))) H3.out (by have := HLL.out; have := encI_len x.f0; have := encI_len x.f1; have := encI_len x.f2; have := encU_len x.f3.length; have := encLs_len x.f3; have := encU_len x.f4.length; have := encHs_len x.f4; have := encU_len x.f5.length; have := encDs_len x.f5; have := show bulkS x = 90 + bulkL x.f3 + bulkHs x.f4 + bulkDs x.f5 from rfl; (try simp only [List.length_append]); omega)).mono ?_
  rintro e w5 ⟨rfl, hk, hb, ho⟩
  have K5 := Aside0.mk hk
  have B5 := Aside0.mk (B4.out.trans hb)
  have O5 := Aside0.mk (O4.out.trans ho)
  have R5 := Aside0.mk (ho.row R4.out (by decide) (by decide))
  have X5 := Aside0.mk (ho.row X4.out (by decide) (by decide))
  clear hk hb ho cx c3
  have cx := X5.out.cell 0 _ rfl
  have c4 := R5.out.cell 4 _ rfl
  go_wp2_with fail
  go_at_call 82
  refine (w_putHelds K5.out X5.out (HW0.out.trans (B5.out.mono HB0.out)) HB0.out Ah ch x.f4 HCh.out H4.out (by have := HLL.out; have := encI_len x.f0; have := encI_len x.f1; have := encI_len x.f2; have := encU_len x.f3.length; have := encLs_len x.f3; have := encU_len x.f4.length; have := encHs_len x.f4; have := encU_len x.f5.length; have := encDs_len x.f5; have := show bulkS x = 90 + bulkL x.f3 + bulkHs x.f4 + bulkDs x.f5 from rfl; (try simp only [List.length_append]); omega)).mono ?_
  rintro e w6 ⟨rfl, hk, hb, ho⟩
  have K6 := Aside0.mk hk
  have B6 := Aside0.mk (B5.out.trans hb)
  have O6 := Aside0.mk (O5.out.trans ho)
  have R6 := Aside0.mk (ho.row R5.out (by decide) (by decide))
  have X6 := Aside0.mk (ho.row X5.out (by decide) (by decide))
  clear hk hb ho cx c4
  have cx := X6.out.cell 0 _ rfl
  have c5 := R6.out.cell 5 _ rfl
  go_wp2_with fail
  go_at_call 85
  refine (w_putDones K6.out X6.out (HW0.out.trans (B6.out.mono HB0.out)) HB0.out Ad cd x.f5 HCd.out H5.out (by have := HLL.out; have := encI_len x.f0; have := encI_len x.f1; have := encI_len x.f2; have := encU_len x.f3.length; have := encLs_len x.f3; have := encU_len x.f4.length; have := encHs_len x.f4; have := encU_len x.f5.length; have := encDs_len x.f5; have := show bulkS x = 90 + bulkL x.f3 + bulkHs x.f4 + bulkDs x.f5 from rfl; (try simp only [List.length_append]); omega)).mono ?_
  rintro e w7 ⟨rfl, hk, hb, ho⟩
  have K7 := Aside0.mk hk
  have B7 := Aside0.mk (B6.out.trans hb)
  have O7 := Aside0.mk (O6.out.trans ho)
  have R7 := Aside0.mk (ho.row R6.out (by decide) (by decide))
  have X7 := Aside0.mk (ho.row X6.out (by decide) (by decide))
  clear hk hb ho cx c5
  go_wp2_with fail
  go_end0
  have e : xs ++ encS x = xs ++ encI x.f0 ++ encI x.f1 ++ encI x.f2 ++ (encU x.f3.length ++ encLs x.f3) ++ (encU x.f4.length ++ encHs x.f4) ++ (encU x.f5.length ++ encDs x.f5) := by
    unfold encS
    simp only [List.append_assoc]
  rw [e]
  exact ⟨rfl, K7.out, B7.out, O7.out⟩
theorem put_state (key : Int) (most br : Nat) (ys : List Int) (W : World) (hm : most ≤ 1000000000)
    (hF : ∀ g W', WrAt g W.heap.size [key] W' → Below W.heap.size W W' → Calls Try.prog 81 #[ptr g, ptr br] W' fun e w' => e = .returned (.tuple #[]) ∧ WrAt g W.heap.size ([key] ++ ys) w' ∧ Below W.heap.size W' w' ∧ Others W' w') :
    Calls Try.prog 50 #[.int .u8 key, .int .i64 (most : Int), .func (.func 81) #[] #[ptr br]] W fun e w' => ∃ v, e = .returned (.tuple #[v, .int .i64 (putCode most (key :: ys))]) ∧ (Kd.int .u8).R 5 w' W.heap.size (fun _ => True) v (putOut most (key :: ys)) ∧ Below W.heap.size W w' := by
  have HF := Aside0.mk hF
  have HM := Aside0.mk hm
  clear hF hm
  go_enter Try.func50, Try.ntmps50
  go_upto_region 2 with fail
  have ha1 : (W.alloc (.cells #[.int .u8 key] 5)).heap[W.heap.size]? = some (.cells #[.int .u8 key] 5 (0, 0)) := heap_alloc_new W _
  have hs1 : (W.alloc (.cells #[.int .u8 key] 5)).heap.size = W.heap.size + 1 := by simp
  have hb1 : Below W.heap.size W (W.alloc (.cells #[.int .u8 key] 5)) := below_alloc (Below.refl _ _) _
  obtain ⟨B, hB⟩ : ∃ B, W.heap.size = B := ⟨_, rfl⟩
  have HB := Aside0.mk hB
  rw [hB] at ha1 hs1 hb1 ⊢
  generalize W.alloc (.cells #[.int .u8 key] 5) = wx at *
  have hr2 : Rt 146 wx.heap.size [.slice (some ⟨B, 0, none⟩) 1 1] (wx.alloc (.cells #[.slice (some ⟨B, 0, none⟩) 1 1] 146)) := heap_alloc_new wx _
  have hb2 : Below wx.heap.size wx (wx.alloc (.cells #[.slice (some ⟨B, 0, none⟩) 1 1] 146)) := below_alloc (Below.refl _ _) _
  have hk := key_row (B := B) ((hb2.block B (by omega)).trans ha1) (Nat.le_refl _)
  have K1 := Aside0.mk (show WrAt (B + 1) B [key] (wx.alloc (.cells #[.slice (some ⟨B, 0, none⟩) 1 1] 146)) from ⟨⟨_, by rw [hs1] at hr2; exact hr2, hk⟩, Nat.le_succ _⟩)
  have B1 := Aside0.mk (show Below B W (wx.alloc (.cells #[.slice (some ⟨B, 0, none⟩) 1 1] 146)) from hb1.trans (hb2.mono (by omega)))
  clear ha1 hs1 hb1 hr2 hb2 hk hB
  generalize wx.alloc (.cells #[.slice (some ⟨B, 0, none⟩) 1 1] 146) = w1 at *
  obtain ⟨g, hg⟩ : ∃ g, B + 1 = g := ⟨_, rfl⟩
  have k1 := K1.out
  rw [hg] at k1 ⊢
  have K1 := Aside0.mk k1
  have HFN := HF.out g w1 (by rw [HB.out]; exact K1.out) (by rw [HB.out]; exact B1.out)
  rw [HB.out] at HFN
  have HFN := Aside0.mk HFN
  clear k1 hg HF
  go_wp2_with fail
  go_at_call 81
  refine HFN.out.mono ?_
  rintro e w2 ⟨rfl, hk, hb, ho⟩
  obtain ⟨ys2, hys⟩ : ∃ ys2, [key] ++ ys = ys2 := ⟨_, rfl⟩
  rw [hys] at hk
  have HYS := Aside0.mk (show key :: ys = ys2 from hys)
  obtain ⟨v, hr, hR⟩ := hk.ex
  have B2 := Aside0.mk (B1.out.trans hb)
  obtain ⟨Av, cv, rfl⟩ := Kd.R_slice hR
  obtain ⟨m, hm2⟩ : ∃ m, ys2.length = m := ⟨_, rfl⟩
  have HRR := Aside0.mk hR
  have HM2 := Aside0.mk hm2
  rw [hm2] at hr
  have c0 := hr.cell 0 _ rfl
  clear hk hb ho hr hR hm2 hys HFN K1 B1
  by_cases hmo : most < m
  · have d1 : decide ((most : Int) < (m : Int)) = true := decide_eq_true (by omega)
    have d2 : decide (most < m) = true := decide_eq_true hmo
    have HMO := Aside0.mk hmo
    clear hmo
    go_wp2_with fail
    go_ret2
    rw [HYS.out, HB.out]
    refine ⟨.slice none 0 0, ?_, ?_, B2.out⟩
    · unfold putCode
      rw [HM2.out, if_pos HMO.out]
      rfl
    · unfold putOut
      rw [HM2.out, if_pos HMO.out]
      exact Kd.R_nil _ _ _ _ _
  · have d1 : decide ((most : Int) < (m : Int)) = false := decide_eq_false (by omega)
    have d2 : decide (most < m) = false := decide_eq_false hmo
    have HMO := Aside0.mk hmo
    clear hmo
    go_wp2_with fail
    go_ret2
    rw [HYS.out, HB.out]
    refine ⟨.slice Av m cv, ?_, ?_, B2.out⟩
    · unfold putCode
      rw [HM2.out, if_neg HMO.out]
      rfl
    · unfold putOut
      rw [HM2.out, if_neg HMO.out, ← HM2.out]
      exact HRR.out
theorem PutState_at (x : StD) (W : World) (Al : Option Addr) (cl : Nat) (hCl : Kd.C k28 W Al x.f3.length x.f3) (Ah : Option Addr) (ch : Nat) (hCh : Kd.C k121 W Ah x.f4.length x.f4) (Ad : Option Addr) (cd : Nat) (hCd : Kd.C k123 W Ad x.f5.length x.f5) (h0 : Int64 x.f0) (h1 : Int64 x.f1) (h2 : Int64 x.f2) (h3 : LevOk x.f3) (h4 : HeldsOk x.f4) (h5 : DonesOk x.f5) (hl : bulkS x + 3000 < 140737488355328) :
    Calls Try.prog 34 #[.agg #[.int .i64 x.f0, .int .i64 x.f1, .int .i64 x.f2, .slice Al x.f3.length cl, .slice Ah x.f4.length ch, .slice Ad x.f5.length cd]] W fun e w' => ∃ v, e = .returned (.tuple #[v, .int .i64 (putCode 131072 (84 :: encS x))]) ∧ (Kd.int .u8).R 5 w' W.heap.size (fun _ => True) v (putOut 131072 (84 :: encS x)) ∧ Below W.heap.size W w' := by
  have HL := Aside0.mk hl
  have HCl := Aside0.mk hCl
  have HCh := Aside0.mk hCh
  have HCd := Aside0.mk hCd
  have H0 := Aside0.mk h0
  have H1 := Aside0.mk h1
  have H2 := Aside0.mk h2
  have H3 := Aside0.mk h3
  have H4 := Aside0.mk h4
  have H5 := Aside0.mk h5
  have hr1 : Rt 58 W.heap.size [.int .i64 x.f0, .int .i64 x.f1, .int .i64 x.f2, .slice Al x.f3.length cl, .slice Ah x.f4.length ch, .slice Ad x.f5.length cd] (W.alloc (.cells #[.int .i64 x.f0, .int .i64 x.f1, .int .i64 x.f2, .slice Al x.f3.length cl, .slice Ah x.f4.length ch, .slice Ad x.f5.length cd] 58)) := heap_alloc_new W _
  have hb1 : Below W.heap.size W (W.alloc (.cells #[.int .i64 x.f0, .int .i64 x.f1, .int .i64 x.f2, .slice Al x.f3.length cl, .slice Ah x.f4.length ch, .slice Ad x.f5.length cd] 58)) := below_alloc (Below.refl _ _) _
  have hmf : ∀ (fn : Fn) (first cap : Array Value) (w : World), (Instr.makeFunc fn first cap).run Try.prog w = .ok (.func fn first cap) w := fun _ _ _ _ => rfl
  clear hl hCl hCh hCd h0 h1 h2 h3 h4 h5
  go_enter Try.func34, Try.ntmps34
  go_upto_region 1 with fail
  obtain ⟨b, hb⟩ : ∃ b, W.heap.size = b := ⟨_, rfl⟩
  have HB := Aside0.mk hb1
  have HBE := Aside0.mk hb
  rw [hb] at hr1 ⊢
  have HR := Aside0.mk hr1
  clear hr1 hb1 hb
  generalize W.alloc (.cells #[.int .i64 x.f0, .int .i64 x.f1, .int .i64 x.f2, .slice Al x.f3.length cl, .slice Ah x.f4.length ch, .slice Ad x.f5.length cd] 58) = w1 at *
  have HPUT := Aside0.mk (put_state 84 131072 b (encS x) w1 (by decide) (fun g W' hk hb => w_state hk (HB.out.trans (hb.mono HB.out.size)) HB.out.size x Al cl HCl.out Ah ch HCh.out Ad cd HCd.out H0.out H1.out H2.out H3.out H4.out H5.out (HR.out.below hb) (by have := HL.out; simp only [List.length_singleton]; omega)))
  go_wp2_with fail
  go_at_call 50
  refine HPUT.out.mono ?_
  rintro e w2 ⟨v, rfl, hR, hb⟩
  have HRR := Aside0.mk (show (Kd.int .u8).R 5 w2 W.heap.size (fun _ => True) v (putOut 131072 (84 :: encS x)) from Kd.R_lower hR HB.out.size)
  have HBB := Aside0.mk (HB.out.trans (hb.mono HB.out.size))
  obtain ⟨Av, cv, ev⟩ := Kd.R_slice hR
  obtain ⟨m, hm⟩ : ∃ m, (putOut 131072 (84 :: encS x)).length = m := ⟨_, rfl⟩
  rw [hm] at ev
  subst ev
  clear hR hb hm hmf HPUT
  go_wp2_with fail
  go_ret2
  rw [HBE.out] at *
  exact ⟨_, rfl, HRR.out, HBB.out⟩
end Go.Proofs.Ytafmoglaockepaa.Cd
end
section
namespace Go.Proofs.Ytafmoglaockepaa.Cd
open Go Go.RowKit Go.Proofs.Ytafmoglaockepaa.Num Go.Proofs.Ytafmoglaockepaa.PG Go.Proofs.YtafmoglaockepaaW.PrintWords Go.Proofs.YtafmoglaockepaaW.PrintLast Go.Proofs.YtafmoglaockepaaW.PrintMore
set_option linter.unusedVariables false
set_option linter.unusedSimpArgs false
theorem bulkHs_cons (x : S121) (l : List S121) : bulkHs (x :: l) = bulkH x + bulkHs l := by simp [bulkHs]
theorem bulkDs_cons (x : S123) (l : List S123) : bulkDs (x :: l) = bulkD x + bulkDs l := by simp [bulkDs]
end Go.Proofs.Ytafmoglaockepaa.Cd
end
section
namespace Go.Proofs.Ytafmoglaockepaa.Cd
open Go Go.RowKit Go.Proofs.Ytafmoglaockepaa.Num Go.Proofs.Ytafmoglaockepaa.PG Go.Proofs.YtafmoglaockepaaW.PrintWords Go.Proofs.YtafmoglaockepaaW.PrintLast Go.Proofs.YtafmoglaockepaaW.PrintMore
set_option linter.unusedVariables false
set_option linter.unusedSimpArgs false
theorem ug_enc (f : Nat) : ∀ (i m n : Nat) (t : List Int), i + f = 10 → m < 128 ^ f → 0 < f → m * 128 ^ i < 18446744073709551616 → (0 < i → 0 < m) →
    ug i n (enc f m ++ t) = (((n + m * 128 ^ i : Nat) : Int), ((i + (enc f m).length : Nat) : Int), 0) := by
  induction f with
  | zero => intro i m n t _ _ h; omega
  | succ f ih =>
    intro i m n t hi hm _ hb h0
    rw [enc]
    by_cases h : m < 128
    · rw [if_pos h]
      have h9 : ¬ (i = 9 ∧ ((m : Nat) : Int) > 1) := by
        rintro ⟨rfl, h1⟩
        omega
      have hz : ¬ (0 < i ∧ ((m : Nat) : Int) = 0) := fun e => by have := h0 e.1; omega
      simp only [List.cons_append, List.nil_append, List.length_singleton]
      rw [ug, if_neg h9, if_neg hz, if_pos (by omega), show ((m : Nat) : Int).toNat % 128 = m by omega]
    · rw [if_neg h]
      have hf : 0 < f := by
        rcases Nat.eq_zero_or_pos f with h1 | h1
        · subst h1; simp at hm; omega
        · exact h1
      have h2 : m / 128 < 128 ^ f := by rw [Nat.pow_succ] at hm; omega
      simp only [List.cons_append, List.length_cons]
      rw [ug, if_neg (by omega), if_neg (by omega), if_neg (by omega)]
      have e1 : ((m % 128 + 128 : Nat) : Int).toNat % 128 = m % 128 := by omega
      have e2 : m * 128 ^ i = m % 128 * 128 ^ i + m / 128 * 128 ^ (i + 1) := by
        rw [Nat.pow_succ, ← Nat.mul_assoc (m / 128), Nat.mul_right_comm, ← Nat.add_mul]
        congr 1
        omega
      rw [e1, ih (i + 1) (m / 128) _ t (by omega) h2 hf (by omega) (by omega), e2, Nat.add_assoc, Nat.add_assoc, Nat.add_comm 1]
theorem ug_enc0 (m : Nat) (h : m < 18446744073709551616) (t : List Int) : ug 0 0 (enc 10 m ++ t) = ((m : Int), ((enc 10 m).length : Int), 0) := by
  have := ug_enc 10 0 m 0 t rfl (Nat.lt_of_lt_of_le h pow10) (by decide) (by omega) (by omega)
  simpa using this
theorem pU_enc (xs : List Int) (most n u : Nat) (t : List Int) (h : xs.drop n = encU u ++ t) (hu : u ≤ most) (hm : most < 18446744073709551616) : pU xs most n = .ok u (n + (encU u).length) := by
  unfold pU took
  rw [h, show encU u = enc 10 u from rfl, ug_enc0 u (by omega) t, if_pos rfl]
  simp only [Res.bind]
  rw [if_neg (by omega), Int.toNat_natCast, Int.toNat_natCast]
theorem pI_enc (xs : List Int) (n : Nat) (a : Int) (t : List Int) (h : xs.drop n = encI a ++ t) (ha : Int64 a) : pI xs n = .ok a (n + (encI a).length) := by
  have hz : zz a < 18446744073709551616 := zz_lt ha.1 ha.2
  unfold pI took
  rw [h, show encI a = enc 10 (zz a) from rfl, ug_enc0 (zz a) hz t]
  unfold ig
  simp only [if_true]
  rw [unzz_zz, Int.toNat_natCast]
theorem drop_next {xs a t : List Int} {n : Nat} (h : xs.drop n = a ++ t) : xs.drop (n + a.length) = t := by
  rw [← List.drop_drop, h, List.drop_left]
theorem str_bytesOf (s : ByteArray) : strOfNums (bytesOf s) = s := by
  have h : (strOfNums (bytesOf s)).data.toList = s.data.toList := by
    rw [strOfNums_data, bytesOf, List.map_map]
    conv => rhs; rw [← List.map_id s.data.toList]
    refine List.map_congr_left (fun x _ => ?_)
    show UInt8.ofNat ((x.toNat : Int)).toNat = x
    rw [Int.toNat_natCast]
    exact UInt8.ofNat_toNat
  have h2 : (strOfNums (bytesOf s)).data = s.data := by
    have := congrArg List.toArray h
    simpa using this
  generalize strOfNums (bytesOf s) = t at h2
  cases s
  cases t
  simp only at h2
  rw [h2]
theorem tx_enc (most : Nat) (s : ByteArray) (t : List Int) (hs : s.size ≤ most) (hm : most < 18446744073709551616) : tx most (encT s ++ t) = (s, ((encT s).length : Int), 0) := by
  have hl : (bytesOf s).length = s.size := bytesOf_length s
  unfold tx encT
  rw [List.append_assoc, ug_enc0 s.size (by omega) (bytesOf s ++ t)]
  simp only [if_true]
  rw [if_neg (by omega), if_neg (by simp only [List.length_append]; omega)]
  have e1 : (((enc 10 s.size).length : Int) + (s.size : Int)).toNat = (enc 10 s.size ++ bytesOf s).length := by rw [List.length_append]; omega
  rw [e1, Int.toNat_natCast, ← List.append_assoc, List.take_left, List.drop_left, str_bytesOf, List.length_append, hl]
  simp
theorem pT_enc (xs : List Int) (most n : Nat) (s : ByteArray) (t : List Int) (h : xs.drop n = encT s ++ t) (hs : s.size ≤ most) (hm : most < 18446744073709551616) : pT xs most n = .ok s (n + (encT s).length) := by
  unfold pT took
  rw [h, tx_enc most s t hs hm, if_pos rfl, Int.toNat_natCast]
theorem pN_enc {α : Type} {xs : List Int} {one : Nat → Res α} {encE : α → List Int} : ∀ (l acc : List α) (n : Nat) (t : List Int), (∀ x ∈ l, ∀ n t, xs.drop n = encE x ++ t → one n = .ok x (n + (encE x).length)) → xs.drop n = l.flatMap encE ++ t → pN one l.length acc n = .ok (acc ++ l) (n + (l.flatMap encE).length)
  | [], acc, n, t, _, _ => by simp [pN]
  | x :: l, acc, n, t, ho, h => by
    rw [List.flatMap_cons, List.append_assoc] at h
    have h1 := ho x (List.mem_cons_self ..) n _ h
    have h2 := pN_enc l (acc ++ [x]) (n + (encE x).length) t (fun y hy => ho y (List.mem_cons_of_mem _ hy)) (drop_next h)
    rw [List.length_cons, pN, h1]
    simp only [Res.bind]
    rw [h2, List.append_assoc, List.flatMap_cons, List.length_append, Nat.add_assoc]
    rfl
theorem pList_enc {α : Type} {xs : List Int} {most : Nat} {one : Nat → Res α} {encE : α → List Int} (l : List α) (n : Nat) (t : List Int) (ho : ∀ x ∈ l, ∀ n t, xs.drop n = encE x ++ t → one n = .ok x (n + (encE x).length)) (hl : l.length ≤ most) (hm : most < 18446744073709551616)
    (h : xs.drop n = encU l.length ++ (l.flatMap encE ++ t)) : pList xs most one n = .ok l (n + (encU l.length).length + (l.flatMap encE).length) := by
  unfold pList
  rw [pU_enc xs most n l.length _ h hl hm]
  simp only [Res.bind]
  rw [pN_enc l [] _ t ho (drop_next h), List.nil_append]
theorem pLine_enc {xs : List Int} {most : Nat} (hm : most < 18446744073709551616) (x : S110) (h1 : x.f0.size ≤ most) (h2 : Int64 x.f1) (n : Nat) (t : List Int) (h : xs.drop n = encN x ++ t) : pLine xs most n = .ok x (n + (encN x).length) := by
  unfold encN at h ⊢
  rw [List.append_assoc] at h
  unfold pLine
  rw [pT_enc xs most n x.f0 _ h h1 hm]
  simp only [Res.bind]
  rw [pI_enc xs _ x.f1 t (drop_next h) h2]
  simp only [List.length_append, Nat.add_assoc]
theorem pLevel_enc {xs : List Int} {most : Nat} (hm : most < 18446744073709551616) (x : S28) (h1 : x.f0.size ≤ most) (h2 : Int64 x.f1 ∧ Int64 x.f2) (n : Nat) (t : List Int) (h : xs.drop n = encL x ++ t) : pLevel xs most n = .ok x (n + (encL x).length) := by
  unfold encL at h ⊢
  rw [List.append_assoc, List.append_assoc] at h
  unfold pLevel
  have h3 := drop_next h
  rw [pT_enc xs most n x.f0 _ h h1 hm]
  simp only [Res.bind]
  rw [pI_enc xs _ x.f1 _ h3 h2.1]
  simp only [Res.bind]
  rw [pI_enc xs _ x.f2 t (drop_next h3) h2.2]
  simp only [List.length_append, Nat.add_assoc]
def LinFit (most : Nat) (l : List S110) : Prop := l.length ≤ most ∧ ∀ x ∈ l, x.f0.size ≤ most
def ReqFit (most : Nat) (q : S40) : Prop := q.f0.size ≤ most ∧ LinFit most q.f2 ∧ q.f3.size ≤ most
theorem pLines_enc {xs : List Int} {most : Nat} (hm : most < 18446744073709551616) (l : List S110) (hf : LinFit most l) (ho : LinOk l) (n : Nat) (t : List Int) (h : xs.drop n = (encU l.length ++ encNs l) ++ t) : pList xs most (pLine xs most) n = .ok l (n + (encU l.length ++ encNs l).length) := by
  rw [List.append_assoc] at h
  rw [pList_enc (encE := encN) l n t (fun x hx n t h => pLine_enc hm x (hf.2 x hx) (ho x hx) n t h) hf.1 hm h, List.length_append, Nat.add_assoc]
  rfl
theorem pReq_enc {xs : List Int} {most : Nat} (hm : most < 18446744073709551616) (q : S40) (hf : ReqFit most q) (ho : ReqOk q) (n : Nat) (t : List Int) (h : xs.drop n = encQ q ++ t) : pReq xs most n = .ok q (n + (encQ q).length) := by
  obtain ⟨f0, f2, f3⟩ := hf
  obtain ⟨o1, o2, o4, o5⟩ := ho
  unfold encQ encReq at h ⊢
  simp only [List.append_assoc] at h
  have h1 := drop_next h
  have h2 := drop_next h1
  rw [← List.append_assoc (encU q.f2.length)] at h2
  have h3 := drop_next h2
  have h4 := drop_next h3
  have h5 := drop_next h4
  unfold pReq
  rw [pT_enc xs most n q.f0 _ h f0 hm]
  simp only [Res.bind]
  rw [pI_enc xs _ q.f1 _ h1 o1]
  simp only [Res.bind]
  rw [pLines_enc hm q.f2 f2 o2 _ _ h2]
  simp only [Res.bind]
  rw [pT_enc xs most _ q.f3 _ h3 f3 hm]
  simp only [Res.bind]
  rw [pI_enc xs _ q.f4 _ h4 o4]
  simp only [Res.bind]
  rw [pI_enc xs _ q.f5 t h5 o5]
  simp only [List.length_append, Nat.add_assoc]
end Go.Proofs.Ytafmoglaockepaa.Cd
end
section
namespace Go.Proofs.Ytafmoglaockepaa.Cd
open Go Go.RowKit Go.Proofs.Ytafmoglaockepaa.Num Go.Proofs.Ytafmoglaockepaa.PG Go.Proofs.YtafmoglaockepaaW.PrintWords Go.Proofs.YtafmoglaockepaaW.PrintLast Go.Proofs.YtafmoglaockepaaW.PrintMore
set_option linter.unusedVariables false
set_option linter.unusedSimpArgs false
set_option maxHeartbeats 4000000
set_option maxRecDepth 100000
theorem read_record (A : Option Addr) (n c : Nat) (xs : List Int) (W : World) (hC : Kd.C (Kd.int .u8) W A n xs) (hnc : n ≤ c) (hb : IsBytes xs) (hbig : n < 1000000000) :
    Calls Try.prog 79 #[.slice A n c, .int .u8 83, .int .i64 4096, .func (.func 80) #[] #[]] W fun e w' => Below W.heap.size W w' ∧ ∃ v, e = .returned (.tuple #[v, .int .i64 (endOf (whole 83 4096 xs (pRec xs 4096))).1, .int .i64 (endOf (whole 83 4096 xs (pRec xs 4096))).2]) ∧ RdOut memRec zero_rec W.heap.size (whole 83 4096 xs (pRec xs 4096)) v w' := by
  have HC := Aside0.mk hC
  have HNC := Aside0.mk hnc
  have HBY := Aside0.mk hb
  have HBIG := Aside0.mk hbig
  have HLEN := Aside0.mk (show xs.length = n from Kd.C_len hC)
  have hmf : ∀ (fn : Fn) (first cap : Array Value) (w : World), (Instr.makeFunc fn first cap).run Try.prog w = .ok (.func fn first cap) w := fun _ _ _ _ => rfl
  clear hC hnc hb hbig
  obtain ⟨bo, hbo⟩ : ∃ bo, W.heap.size = bo := ⟨_, rfl⟩
  have HBO := Aside0.mk hbo
  clear hbo
  go_enter_defers Try.func79, Try.ntmps79
  go_upto_region 3 with fail
  have hb1 : Below W.heap.size W (W.alloc (.cells #[.int .i64 0, .string ⟨#[]⟩, .int .i64 0, .slice none 0 0, .string ⟨#[]⟩, .int .i64 0, .int .i64 0] 49)) := below_alloc (Below.refl _ _) _
  have o1 : Rt 49 W.heap.size zero_rec (W.alloc (.cells #[.int .i64 0, .string ⟨#[]⟩, .int .i64 0, .slice none 0 0, .string ⟨#[]⟩, .int .i64 0, .int .i64 0] 49)) := heap_alloc_new W _
  have s1 : (W.alloc (.cells #[.int .i64 0, .string ⟨#[]⟩, .int .i64 0, .slice none 0 0, .string ⟨#[]⟩, .int .i64 0, .int .i64 0] 49)).heap.size = W.heap.size + 1 := by simp
  generalize W.alloc (.cells #[.int .i64 0, .string ⟨#[]⟩, .int .i64 0, .slice none 0 0, .string ⟨#[]⟩, .int .i64 0, .int .i64 0] 49) = wa at *
  have hb2 : Below wa.heap.size wa (wa.alloc (.cells #[.int .i64 0] 22)) := below_alloc (Below.refl _ _) _
  have e2 : Rt 22 wa.heap.size [.int .i64 0] (wa.alloc (.cells #[.int .i64 0] 22)) := heap_alloc_new wa _
  have o2 := o1.below hb2
  have s2 : (wa.alloc (.cells #[.int .i64 0] 22)).heap.size = wa.heap.size + 1 := by simp
  have hc2 := hb1.trans (hb2.mono hb1.size)
  generalize wa.alloc (.cells #[.int .i64 0] 22) = wb at *
  have hb3 : Below wb.heap.size wb (wb.alloc (.cells #[.int .i64 0] 3)) := below_alloc (Below.refl _ _) _
  have a3 : Rt 3 wb.heap.size [.int .i64 0] (wb.alloc (.cells #[.int .i64 0] 3)) := heap_alloc_new wb _
  have o3 := o2.below hb3
  have e3 := e2.below hb3
  have s3 : (wb.alloc (.cells #[.int .i64 0] 3)).heap.size = wb.heap.size + 1 := by simp
  have hc3 := hc2.trans (hb3.mono hc2.size)
  generalize wb.alloc (.cells #[.int .i64 0] 3) = wc at *
  have hb4 : Below wc.heap.size wc (wc.alloc (.cells #[.slice A n c, .int .i64 0, .int .i64 4096] 158)) := below_alloc (Below.refl _ _) _
  have g4 : Rt 158 wc.heap.size [.slice A n c, .int .i64 0, .int .i64 4096] (wc.alloc (.cells #[.slice A n c, .int .i64 0, .int .i64 4096] 158)) := heap_alloc_new wc _
  have o4 := o3.below hb4
  have e4 := e3.below hb4
  have a4 := a3.below hb4
  have hc4 := hc3.trans (hb4.mono hc3.size)
  have s4 : (wc.alloc (.cells #[.slice A n c, .int .i64 0, .int .i64 4096] 158)).heap.size = wc.heap.size + 1 := by simp
  generalize wc.alloc (.cells #[.slice A n c, .int .i64 0, .int .i64 4096] 158) = w4 at *
  rw [s3, s2, s1] at g4 s4
  rw [s2, s1] at a4
  rw [s1] at e4
  obtain ⟨be, hbe⟩ : ∃ be, W.heap.size + 1 = be := ⟨_, rfl⟩
  rw [hbe] at e4 a4 g4 s4 ⊢
  obtain ⟨ba, hba⟩ : ∃ ba, be + 1 = ba := ⟨_, rfl⟩
  rw [hba] at a4 g4 s4 ⊢
  obtain ⟨g, hg⟩ : ∃ g, ba + 1 = g := ⟨_, rfl⟩
  rw [hg] at g4 s4 ⊢
  rw [HBO.out] at o4 hbe ⊢
  have O4 := Aside0.mk o4
  have E4 := Aside0.mk e4
  have A4 := Aside0.mk a4
  have G4 := Aside0.mk g4
  have B4 := Aside0.mk (show Below bo W w4 by rw [← HBO.out]; exact hc4)
  have HORD := Aside0.mk (show be = bo + 1 ∧ ba = bo + 2 ∧ g = bo + 3 ∧ w4.heap.size = bo + 4 by omega)
  clear hb1 o1 s1 hb2 e2 o2 s2 hc2 hb3 a3 o3 e3 s3 hc3 hb4 o4 e4 a4 hc4 s4 hbe hba hg g4 hmf
  have HFAULT := Aside0.mk (show ∀ (er p : Int) (w : World), Rt 49 bo zero_rec w → Rt 22 be [.int .i64 0] w → Rt 3 ba [.int .i64 0] w → Below bo W w → CallsD Try.prog 124 #[ptr bo, ptr be, ptr ba] (.panicking [{ v := fault er p, recovered := false }]) w fun e u' w' =>
      e = .returned (.tuple #[]) ∧ u' = .panicking [{ v := fault er p, recovered := true }] ∧ Rt 49 bo zero_rec w' ∧ Rt 22 be [.int .i64 er] w' ∧ Rt 3 ba [.int .i64 p] w' ∧ Below bo W w' from fun er p w ho he ha hb => by
    have := HORD.out
    refine (catch_rec er p [] w ho he ha (by omega) (by omega) (by omega)).mono ?_
    rintro e u' w' ⟨h1, h2, h3, h4, h5, _, h6⟩
    exact ⟨h1, h2, h3, h4, h5, hb.trans (h6 bo (by omega) (by omega) (by have := hb.size; have := HBO.out; omega))⟩)
  by_cases hl : 4096 < n
  · have d1 : decide ((4096 : Int) < (n : Int)) = true := decide_eq_true (by omega)
    have d2 : decide (4096 < n) = true := decide_eq_true hl
    have HR := Aside0.mk (show whole 83 4096 xs (pRec xs 4096) = Res.fail 1 0 by
      unfold whole
      rw [HLEN.out, if_pos hl])
    clear hl
    go_wp2_with fail
    refine leaves_cons (f := 124) (args := #[ptr bo, ptr be, ptr ba]) (by simp) (by simp [go_sem]) ?_
    refine (HFAULT.out 1 0 w4 O4.out E4.out A4.out B4.out).mono ?_
    rintro e u' w' ⟨rfl, rfl, ho, he, ha, hb⟩
    have x0 := ho.cell 0 _ rfl
    have x1 := ho.cell 1 _ rfl
    have x2 := ho.cell 2 _ rfl
    have x3 := ho.cell 3 _ rfl
    have x4 := ho.cell 4 _ rfl
    have x5 := ho.cell 5 _ rfl
    have x6 := ho.cell 6 _ rfl
    have y0 := he.cell 0 _ rfl
    have z0 := ha.cell 0 _ rfl
    rw [HR.out]
    simp [Leaves, settle, results, Try.results79, go_sem, x0, x1, x2, x3, x4, x5, x6, x5, x6, y0, z0]
    exact ⟨by rw [HBO.out]; exact hb, _, ⟨rfl, rfl, rfl⟩, rfl⟩
  have d1 : decide ((4096 : Int) < (n : Int)) = false := decide_eq_false (by omega)
  have d2 : decide (4096 < n) = false := decide_eq_false hl
  have HL := Aside0.mk hl
  clear hl
  rcases Nat.eq_zero_or_pos n with hz | hz
  · have HR := Aside0.mk (show whole 83 4096 xs (pRec xs 4096) = Res.fail 3 0 by
      unfold whole
      rw [HLEN.out, if_neg HL.out, if_pos hz])
    have d3 : ((n : Int) == 0) = true := by simpa using hz
    have d4 : decide (n = 0) = true := decide_eq_true hz
    have d5 : (n : Int) = 0 := by omega
    go_wp2_with fail
    refine leaves_cons (f := 124) (args := #[ptr bo, ptr be, ptr ba]) (by simp) (by simp [go_sem]) ?_
    refine (HFAULT.out 3 0 w4 O4.out E4.out A4.out B4.out).mono ?_
    rintro e u' w' ⟨rfl, rfl, ho, he, ha, hb⟩
    have x0 := ho.cell 0 _ rfl
    have x1 := ho.cell 1 _ rfl
    have x2 := ho.cell 2 _ rfl
    have x3 := ho.cell 3 _ rfl
    have x4 := ho.cell 4 _ rfl
    have x5 := ho.cell 5 _ rfl
    have x6 := ho.cell 6 _ rfl
    have y0 := he.cell 0 _ rfl
    have z0 := ha.cell 0 _ rfl
    rw [HR.out]
    simp [Leaves, settle, results, Try.results79, go_sem, x0, x1, x2, x3, x4, x5, x6, x5, x6, y0, z0]
    exact ⟨by rw [HBO.out]; exact hb, _, ⟨rfl, rfl, rfl⟩, rfl⟩
  have d3 : ((n : Int) == 0) = false := by simp; omega
  have d4 : decide (n = 0) = false := decide_eq_false (by omega)
  have HZ := Aside0.mk hz
  have i0 : (0 : Int) < (n : Int) := by omega
  have hCx := Kd.C_below HC.out (show Below W.heap.size W w4 by rw [HBO.out]; exact B4.out)
  obtain ⟨ad, rfl, hcell⟩ := (Kd.reads_of_C (d := (0 : Int)) (h1 := fun _ => rfl) hCx).2.2 hz
  have k0 := hcell 0 hz
  obtain ⟨x, hx⟩ : ∃ x, xs.getD 0 0 = x := ⟨_, rfl⟩
  rw [hx] at k0
  have HX := Aside0.mk (show xs.headD 0 = x by rw [← hx]; cases xs <;> rfl)
  have k1 : w4.cell? ad = some (.int .u8 x) := by
    have e : ad.add 0 = ad := by simp [Addr.add]
    rwa [e] at k0
  clear hz hCx hcell hx
  by_cases hk : x = 83
  rotate_left
  · have HR := Aside0.mk (show whole 83 4096 xs (pRec xs 4096) = Res.fail 90 0 by
      unfold whole
      rw [HLEN.out, if_neg HL.out, if_neg (by have := HZ.out; omega), HX.out, if_pos hk])
    have d5 : (x != 83) = true := by simpa using hk
    have d6 : (x == 83) = false := by simpa using hk
    have d7 : decide (x = 83) = false := decide_eq_false hk
    clear hk
    go_wp2_with fail
    refine leaves_cons (f := 124) (args := #[ptr bo, ptr be, ptr ba]) (by simp) (by simp [go_sem]) ?_
    refine (HFAULT.out 90 0 w4 O4.out E4.out A4.out B4.out).mono ?_
    rintro e u' w' ⟨rfl, rfl, ho, he, ha, hb⟩
    have x0 := ho.cell 0 _ rfl
    have x1 := ho.cell 1 _ rfl
    have x2 := ho.cell 2 _ rfl
    have x3 := ho.cell 3 _ rfl
    have x4 := ho.cell 4 _ rfl
    have x5 := ho.cell 5 _ rfl
    have x6 := ho.cell 6 _ rfl
    have y0 := he.cell 0 _ rfl
    have z0 := ha.cell 0 _ rfl
    rw [HR.out]
    simp [Leaves, settle, results, Try.results79, go_sem, x0, x1, x2, x3, x4, x5, x6, x5, x6, y0, z0]
    exact ⟨by rw [HBO.out]; exact hb, _, ⟨rfl, rfl, rfl⟩, rfl⟩
  subst hk
  have hg1 := G4.out.cell 1 _ rfl
  have fg1 := G4.out.free 1
  go_upto_region 10 with fail
  rw [G4.out.set 1 (.int .i64 1)]
  have hl1 : [Value.slice (some ad) n c, .int .i64 0, .int .i64 4096].set 1 (.int .i64 1) = [Value.slice (some ad) n c, .int .i64 1, .int .i64 4096] := rfl
  rw [hl1]
  have K4 : CrAt g bo (some ad) n c xs 0 4096 w4 := ⟨G4.out, fun W' hb => Kd.C_below HC.out (by rw [HBO.out]; exact B4.out.trans hb), by have := HORD.out; omega, HNC.out, Nat.zero_le _, HBIG.out, by decide, HBY.out⟩
  have hmv := K4.moved (m' := 1) HZ.out
  have e1 : (((1 : Nat) : Int)) = 1 := rfl
  have e2 : (((4096 : Nat) : Int)) = 4096 := rfl
  rw [e1, e2] at hmv
  have K5 := Aside0.mk hmv.1
  have B5 := Aside0.mk (B4.out.trans hmv.2.1)
  have O5 := Aside0.mk (show Rt 49 bo zero_rec (w4.setRow g [Value.slice (some ad) n c, .int .i64 1, .int .i64 4096].toArray) from (setRow_other _ _ _ _ (by have := HORD.out; omega)).trans O4.out)
  have E5 := Aside0.mk (show Rt 22 be [.int .i64 0] (w4.setRow g [Value.slice (some ad) n c, .int .i64 1, .int .i64 4096].toArray) from (setRow_other _ _ _ _ (by have := HORD.out; omega)).trans E4.out)
  have A5 := Aside0.mk (show Rt 3 ba [.int .i64 0] (w4.setRow g [Value.slice (some ad) n c, .int .i64 1, .int .i64 4096].toArray) from (setRow_other _ _ _ _ (by have := HORD.out; omega)).trans A4.out)
  have S5 := Aside0.mk (show bo + 4 ≤ (w4.setRow g [Value.slice (some ad) n c, .int .i64 1, .int .i64 4096].toArray).heap.size by rw [setRow_size]; have := HORD.out; omega)
  clear hmv K4 hl1 e1 e2 hg1 fg1 k0 k1 d1 d2 d3 d4 i0
  generalize w4.setRow g [Value.slice (some ad) n c, .int .i64 1, .int .i64 4096].toArray = w5 at *
  have HW := Aside0.mk (show whole 83 4096 xs (pRec xs 4096) = (pRec xs 4096 1).bind fun x n => if n < xs.length then .fail 4 (n : Int) else .ok x n by
    unfold whole
    rw [HLEN.out, if_neg HL.out, if_neg (by have := HZ.out; omega), HX.out, if_neg (by decide)])
  go_wp2_with fail
  go_at_call 80
  refine (r_record K5.out).mono ?_
  rintro e w6 ⟨hb, hp, ho⟩
  have O6 := Aside0.mk (show Rt 49 bo zero_rec w6 from (hp.2 bo O5.out.lt (by have := HORD.out; show bo ≠ g; omega)).trans O5.out)
  have E6 := Aside0.mk (show Rt 22 be [.int .i64 0] w6 from (hp.2 be E5.out.lt (by have := HORD.out; show be ≠ g; omega)).trans E5.out)
  have A6 := Aside0.mk (show Rt 3 ba [.int .i64 0] w6 from (hp.2 ba A5.out.lt (by have := HORD.out; show ba ≠ g; omega)).trans A5.out)
  have B6 := Aside0.mk (B5.out.trans hb)
  rcases hq : pRec xs 4096 1 with ⟨x, m2⟩ | ⟨er, p⟩
  rotate_left
  · rw [hq] at ho
    have ho : e = gaveUp er p := ho
    subst ho
    have HR := Aside0.mk (show whole 83 4096 xs (pRec xs 4096) = Res.fail er p by rw [HW.out, hq]; rfl)
    clear hb hp hq
    simp only [gaveUp]
    refine leaves_cons (f := 124) (args := #[ptr bo, ptr be, ptr ba]) (by simp) (by simp [go_sem]) ?_
    refine (HFAULT.out er p w6 O6.out E6.out A6.out B6.out).mono ?_
    rintro e u' w' ⟨rfl, rfl, ho, he, ha, hb⟩
    have x0 := ho.cell 0 _ rfl
    have x1 := ho.cell 1 _ rfl
    have x2 := ho.cell 2 _ rfl
    have x3 := ho.cell 3 _ rfl
    have x4 := ho.cell 4 _ rfl
    have x5 := ho.cell 5 _ rfl
    have x6 := ho.cell 6 _ rfl
    have y0 := he.cell 0 _ rfl
    have z0 := ha.cell 0 _ rfl
    rw [HR.out]
    simp [Leaves, settle, results, Try.results79, go_sem, x0, x1, x2, x3, x4, x5, x6, x5, x6, y0, z0]
    exact ⟨by rw [HBO.out]; exact hb, _, ⟨rfl, rfl, rfl⟩, rfl⟩
  rw [hq] at ho
  obtain ⟨v, he, ⟨Arq, nrq, crq, hv, hrq⟩, hk⟩ : ∃ v, e = .returned v ∧ memRec w5.heap.size x v w6 ∧ CrAt g bo (some ad) n c xs m2 4096 w6 := ho
  subst he hv
  have K6 := Aside0.mk hk
  have Lrq_6 := Aside0.mk (LN_alive.lower hrq S5.out)
  have HQ := Aside0.mk hq
  clear hb hp hq hrq hk
  try clear ho
  go_upto_region 11 with fail
  have hb7 : Below w6.heap.size w6 (w6.alloc (.cells #[.int .i64 x.f0, .string x.f1.f0, .int .i64 x.f1.f1, .slice Arq nrq crq, .string x.f1.f3, .int .i64 x.f1.f4, .int .i64 x.f1.f5] 49)) := below_alloc (Below.refl _ _) _
  have r7 : Rt 49 w6.heap.size [.int .i64 x.f0, .string x.f1.f0, .int .i64 x.f1.f1, .slice Arq nrq crq, .string x.f1.f3, .int .i64 x.f1.f4, .int .i64 x.f1.f5] (w6.alloc (.cells #[.int .i64 x.f0, .string x.f1.f0, .int .i64 x.f1.f1, .slice Arq nrq crq, .string x.f1.f3, .int .i64 x.f1.f4, .int .i64 x.f1.f5] 49)) := heap_alloc_new w6 _
  obtain ⟨bx, hbx⟩ : ∃ bx, w6.heap.size = bx := ⟨_, rfl⟩
  have O7 := Aside0.mk (O6.out.below hb7)
  have E7 := Aside0.mk (E6.out.below hb7)
  have A7 := Aside0.mk (A6.out.below hb7)
  have K7 := Aside0.mk (K6.out.below hb7)
  have Lrq_7 := Aside0.mk (LN_alive.below Lrq_6.out hb7)
  have B7 := Aside0.mk (B6.out.trans (hb7.mono (by have := B6.out.size; have := HBO.out; omega)))
  have B7' := B7.out
  rw [hbx] at r7 ⊢
  have R7 := Aside0.mk r7
  clear hb7 r7 hbx B7'
  generalize w6.alloc (.cells #[.int .i64 x.f0, .string x.f1.f0, .int .i64 x.f1.f1, .slice Arq nrq crq, .string x.f1.f3, .int .i64 x.f1.f4, .int .i64 x.f1.f5] 49) = w7 at *
  have hm7 := K7.out.row.cell 1 _ rfl
  by_cases ht : m2 < n
  · have d1 : decide ((m2 : Int) < (n : Int)) = true := decide_eq_true (by omega)
    have d2 : decide (m2 < n) = true := decide_eq_true ht
    have HR := Aside0.mk (show whole 83 4096 xs (pRec xs 4096) = Res.fail 4 (m2 : Int) by
      rw [HW.out, HQ.out]
      show (if m2 < xs.length then Res.fail 4 (m2 : Int) else Res.ok x m2) = _
      rw [HLEN.out, if_pos ht])
    clear ht
    go_wp2_with fail
    refine leaves_cons (f := 124) (args := #[ptr bo, ptr be, ptr ba]) (by simp) (by simp [go_sem]) ?_
    refine (HFAULT.out 4 (m2 : Int) w7 O7.out E7.out A7.out B7.out).mono ?_
    rintro e u' w' ⟨rfl, rfl, ho, he, ha, hb⟩
    have x0 := ho.cell 0 _ rfl
    have x1 := ho.cell 1 _ rfl
    have x2 := ho.cell 2 _ rfl
    have x3 := ho.cell 3 _ rfl
    have x4 := ho.cell 4 _ rfl
    have x5 := ho.cell 5 _ rfl
    have x6 := ho.cell 6 _ rfl
    have y0 := he.cell 0 _ rfl
    have z0 := ha.cell 0 _ rfl
    rw [HR.out]
    simp [Leaves, settle, results, Try.results79, go_sem, x0, x1, x2, x3, x4, x5, x6, x5, x6, y0, z0]
    exact ⟨by rw [HBO.out]; exact hb, _, ⟨rfl, rfl, rfl⟩, rfl⟩
  have d1 : decide ((m2 : Int) < (n : Int)) = false := decide_eq_false (by omega)
  have d2 : decide (m2 < n) = false := decide_eq_false ht
  have HR := Aside0.mk (show whole 83 4096 xs (pRec xs 4096) = Res.ok x m2 by
    rw [HW.out, HQ.out]
    show (if m2 < xs.length then Res.fail 4 (m2 : Int) else Res.ok x m2) = _
    rw [HLEN.out, if_neg ht])
  clear ht
  have c0 := R7.out.cell 0 _ rfl
  have c1 := R7.out.cell 1 _ rfl
  have c2 := R7.out.cell 2 _ rfl
  have c3 := R7.out.cell 3 _ rfl
  have c4 := R7.out.cell 4 _ rfl
  have c5 := R7.out.cell 5 _ rfl
  have c6 := R7.out.cell 6 _ rfl
  have z0 := O7.out.cell 0 _ rfl
  have z1 := O7.out.cell 1 _ rfl
  have z2 := O7.out.cell 2 _ rfl
  have z3 := O7.out.cell 3 _ rfl
  have z4 := O7.out.cell 4 _ rfl
  have z5 := O7.out.cell 5 _ rfl
  have z6 := O7.out.cell 6 _ rfl
  have f0 := O7.out.free 0
  have f1 := O7.out.free 1
  have f2 := O7.out.free 2
  have f3 := O7.out.free 3
  have f4 := O7.out.free 4
  have f5 := O7.out.free 5
  have f6 := O7.out.free 6
  have y0 := E7.out.cell 0 _ rfl
  have y1 := E7.out.free 0
  have a0 := A7.out.cell 0 _ rfl
  have a1 := A7.out.free 0
  have hne1 : be ≠ bo := by have := HORD.out; omega
  have hne2 : ba ≠ bo := by have := HORD.out; omega
  have hne3 : ba ≠ be := by have := HORD.out; omega
  go_wp2_with fail
  clear c0 c1 c2 c3 c4 c5 c6 z0 z1 z2 z3 z4 z5 z6 f0 f1 f2 f3 f4 f5 f6 y0 y1 a0 a1 d1 d2 hm7
  have q := O7.out.set 0 (.int .i64 x.f0)
  rw [show ([Value.int .i64 0, .string ⟨#[]⟩, .int .i64 0, .slice none 0 0, .string ⟨#[]⟩, .int .i64 0, .int .i64 0]).set 0 (.int .i64 x.f0) = [Value.int .i64 x.f0, .string ⟨#[]⟩, .int .i64 0, .slice none 0 0, .string ⟨#[]⟩, .int .i64 0, .int .i64 0] from rfl] at q
  rw [q]
  have O8 := Aside0.mk (show Rt 49 bo [Value.int .i64 x.f0, .string ⟨#[]⟩, .int .i64 0, .slice none 0 0, .string ⟨#[]⟩, .int .i64 0, .int .i64 0] (w7.setRow bo ([Value.int .i64 x.f0, .string ⟨#[]⟩, .int .i64 0, .slice none 0 0, .string ⟨#[]⟩, .int .i64 0, .int .i64 0]).toArray) from O7.out.row _)
  have E8 := Aside0.mk (show Rt 22 be [.int .i64 0] (w7.setRow bo ([Value.int .i64 x.f0, .string ⟨#[]⟩, .int .i64 0, .slice none 0 0, .string ⟨#[]⟩, .int .i64 0, .int .i64 0]).toArray) from (setRow_other _ _ _ _ hne1).trans E7.out)
  have A8 := Aside0.mk (show Rt 3 ba [.int .i64 0] (w7.setRow bo ([Value.int .i64 x.f0, .string ⟨#[]⟩, .int .i64 0, .slice none 0 0, .string ⟨#[]⟩, .int .i64 0, .int .i64 0]).toArray) from (setRow_other _ _ _ _ hne2).trans A7.out)
  have Lrq_8 := Aside0.mk (LN_alive.row Lrq_7.out (show bo < bo + 4 by omega) ([Value.int .i64 x.f0, .string ⟨#[]⟩, .int .i64 0, .slice none 0 0, .string ⟨#[]⟩, .int .i64 0, .int .i64 0]).toArray)
  have B8 := Aside0.mk (show Below bo W (w7.setRow bo ([Value.int .i64 x.f0, .string ⟨#[]⟩, .int .i64 0, .slice none 0 0, .string ⟨#[]⟩, .int .i64 0, .int .i64 0]).toArray) from below_setRow' B7.out (Nat.le_refl _) _)
  clear q
  generalize w7.setRow bo ([Value.int .i64 x.f0, .string ⟨#[]⟩, .int .i64 0, .slice none 0 0, .string ⟨#[]⟩, .int .i64 0, .int .i64 0]).toArray = w8 at *
  have q := O8.out.set 1 (.string x.f1.f0)
  rw [show ([Value.int .i64 x.f0, .string ⟨#[]⟩, .int .i64 0, .slice none 0 0, .string ⟨#[]⟩, .int .i64 0, .int .i64 0]).set 1 (.string x.f1.f0) = [Value.int .i64 x.f0, .string x.f1.f0, .int .i64 0, .slice none 0 0, .string ⟨#[]⟩, .int .i64 0, .int .i64 0] from rfl] at q
  rw [q]
  have O9 := Aside0.mk (show Rt 49 bo [Value.int .i64 x.f0, .string x.f1.f0, .int .i64 0, .slice none 0 0, .string ⟨#[]⟩, .int .i64 0, .int .i64 0] (w8.setRow bo ([Value.int .i64 x.f0, .string x.f1.f0, .int .i64 0, .slice none 0 0, .string ⟨#[]⟩, .int .i64 0, .int .i64 0]).toArray) from O8.out.row _)
  have E9 := Aside0.mk (show Rt 22 be [.int .i64 0] (w8.setRow bo ([Value.int .i64 x.f0, .string x.f1.f0, .int .i64 0, .slice none 0 0, .string ⟨#[]⟩, .int .i64 0, .int .i64 0]).toArray) from (setRow_other _ _ _ _ hne1).trans E8.out)
  have A9 := Aside0.mk (show Rt 3 ba [.int .i64 0] (w8.setRow bo ([Value.int .i64 x.f0, .string x.f1.f0, .int .i64 0, .slice none 0 0, .string ⟨#[]⟩, .int .i64 0, .int .i64 0]).toArray) from (setRow_other _ _ _ _ hne2).trans A8.out)
  have Lrq_9 := Aside0.mk (LN_alive.row Lrq_8.out (show bo < bo + 4 by omega) ([Value.int .i64 x.f0, .string x.f1.f0, .int .i64 0, .slice none 0 0, .string ⟨#[]⟩, .int .i64 0, .int .i64 0]).toArray)
  have B9 := Aside0.mk (show Below bo W (w8.setRow bo ([Value.int .i64 x.f0, .string x.f1.f0, .int .i64 0, .slice none 0 0, .string ⟨#[]⟩, .int .i64 0, .int .i64 0]).toArray) from below_setRow' B8.out (Nat.le_refl _) _)
  clear q
  generalize w8.setRow bo ([Value.int .i64 x.f0, .string x.f1.f0, .int .i64 0, .slice none 0 0, .string ⟨#[]⟩, .int .i64 0, .int .i64 0]).toArray = w9 at *
  have q := O9.out.set 2 (.int .i64 x.f1.f1)
  rw [show ([Value.int .i64 x.f0, .string x.f1.f0, .int .i64 0, .slice none 0 0, .string ⟨#[]⟩, .int .i64 0, .int .i64 0]).set 2 (.int .i64 x.f1.f1) = [Value.int .i64 x.f0, .string x.f1.f0, .int .i64 x.f1.f1, .slice none 0 0, .string ⟨#[]⟩, .int .i64 0, .int .i64 0] from rfl] at q
  rw [q]
  have O10 := Aside0.mk (show Rt 49 bo [Value.int .i64 x.f0, .string x.f1.f0, .int .i64 x.f1.f1, .slice none 0 0, .string ⟨#[]⟩, .int .i64 0, .int .i64 0] (w9.setRow bo ([Value.int .i64 x.f0, .string x.f1.f0, .int .i64 x.f1.f1, .slice none 0 0, .string ⟨#[]⟩, .int .i64 0, .int .i64 0]).toArray) from O9.out.row _)
  have E10 := Aside0.mk (show Rt 22 be [.int .i64 0] (w9.setRow bo ([Value.int .i64 x.f0, .string x.f1.f0, .int .i64 x.f1.f1, .slice none 0 0, .string ⟨#[]⟩, .int .i64 0, .int .i64 0]).toArray) from (setRow_other _ _ _ _ hne1).trans E9.out)
  have A10 := Aside0.mk (show Rt 3 ba [.int .i64 0] (w9.setRow bo ([Value.int .i64 x.f0, .string x.f1.f0, .int .i64 x.f1.f1, .slice none 0 0, .string ⟨#[]⟩, .int .i64 0, .int .i64 0]).toArray) from (setRow_other _ _ _ _ hne2).trans A9.out)
  have Lrq_10 := Aside0.mk (LN_alive.row Lrq_9.out (show bo < bo + 4 by omega) ([Value.int .i64 x.f0, .string x.f1.f0, .int .i64 x.f1.f1, .slice none 0 0, .string ⟨#[]⟩, .int .i64 0, .int .i64 0]).toArray)
  have B10 := Aside0.mk (show Below bo W (w9.setRow bo ([Value.int .i64 x.f0, .string x.f1.f0, .int .i64 x.f1.f1, .slice none 0 0, .string ⟨#[]⟩, .int .i64 0, .int .i64 0]).toArray) from below_setRow' B9.out (Nat.le_refl _) _)
  clear q
  generalize w9.setRow bo ([Value.int .i64 x.f0, .string x.f1.f0, .int .i64 x.f1.f1, .slice none 0 0, .string ⟨#[]⟩, .int .i64 0, .int .i64 0]).toArray = w10 at *
  have q := O10.out.set 3 (.slice Arq nrq crq)
  rw [show ([Value.int .i64 x.f0, .string x.f1.f0, .int .i64 x.f1.f1, .slice none 0 0, .string ⟨#[]⟩, .int .i64 0, .int .i64 0]).set 3 (.slice Arq nrq crq) = [Value.int .i64 x.f0, .string x.f1.f0, .int .i64 x.f1.f1, .slice Arq nrq crq, .string ⟨#[]⟩, .int .i64 0, .int .i64 0] from rfl] at q
  rw [q]
  have O11 := Aside0.mk (show Rt 49 bo [Value.int .i64 x.f0, .string x.f1.f0, .int .i64 x.f1.f1, .slice Arq nrq crq, .string ⟨#[]⟩, .int .i64 0, .int .i64 0] (w10.setRow bo ([Value.int .i64 x.f0, .string x.f1.f0, .int .i64 x.f1.f1, .slice Arq nrq crq, .string ⟨#[]⟩, .int .i64 0, .int .i64 0]).toArray) from O10.out.row _)
  have E11 := Aside0.mk (show Rt 22 be [.int .i64 0] (w10.setRow bo ([Value.int .i64 x.f0, .string x.f1.f0, .int .i64 x.f1.f1, .slice Arq nrq crq, .string ⟨#[]⟩, .int .i64 0, .int .i64 0]).toArray) from (setRow_other _ _ _ _ hne1).trans E10.out)
  have A11 := Aside0.mk (show Rt 3 ba [.int .i64 0] (w10.setRow bo ([Value.int .i64 x.f0, .string x.f1.f0, .int .i64 x.f1.f1, .slice Arq nrq crq, .string ⟨#[]⟩, .int .i64 0, .int .i64 0]).toArray) from (setRow_other _ _ _ _ hne2).trans A10.out)
  have Lrq_11 := Aside0.mk (LN_alive.row Lrq_10.out (show bo < bo + 4 by omega) ([Value.int .i64 x.f0, .string x.f1.f0, .int .i64 x.f1.f1, .slice Arq nrq crq, .string ⟨#[]⟩, .int .i64 0, .int .i64 0]).toArray)
  have B11 := Aside0.mk (show Below bo W (w10.setRow bo ([Value.int .i64 x.f0, .string x.f1.f0, .int .i64 x.f1.f1, .slice Arq nrq crq, .string ⟨#[]⟩, .int .i64 0, .int .i64 0]).toArray) from below_setRow' B10.out (Nat.le_refl _) _)
  clear q
  generalize w10.setRow bo ([Value.int .i64 x.f0, .string x.f1.f0, .int .i64 x.f1.f1, .slice Arq nrq crq, .string ⟨#[]⟩, .int .i64 0, .int .i64 0]).toArray = w11 at *
  have q := O11.out.set 4 (.string x.f1.f3)
  rw [show ([Value.int .i64 x.f0, .string x.f1.f0, .int .i64 x.f1.f1, .slice Arq nrq crq, .string ⟨#[]⟩, .int .i64 0, .int .i64 0]).set 4 (.string x.f1.f3) = [Value.int .i64 x.f0, .string x.f1.f0, .int .i64 x.f1.f1, .slice Arq nrq crq, .string x.f1.f3, .int .i64 0, .int .i64 0] from rfl] at q
  rw [q]
  have O12 := Aside0.mk (show Rt 49 bo [Value.int .i64 x.f0, .string x.f1.f0, .int .i64 x.f1.f1, .slice Arq nrq crq, .string x.f1.f3, .int .i64 0, .int .i64 0] (w11.setRow bo ([Value.int .i64 x.f0, .string x.f1.f0, .int .i64 x.f1.f1, .slice Arq nrq crq, .string x.f1.f3, .int .i64 0, .int .i64 0]).toArray) from O11.out.row _)
  have E12 := Aside0.mk (show Rt 22 be [.int .i64 0] (w11.setRow bo ([Value.int .i64 x.f0, .string x.f1.f0, .int .i64 x.f1.f1, .slice Arq nrq crq, .string x.f1.f3, .int .i64 0, .int .i64 0]).toArray) from (setRow_other _ _ _ _ hne1).trans E11.out)
  have A12 := Aside0.mk (show Rt 3 ba [.int .i64 0] (w11.setRow bo ([Value.int .i64 x.f0, .string x.f1.f0, .int .i64 x.f1.f1, .slice Arq nrq crq, .string x.f1.f3, .int .i64 0, .int .i64 0]).toArray) from (setRow_other _ _ _ _ hne2).trans A11.out)
  have Lrq_12 := Aside0.mk (LN_alive.row Lrq_11.out (show bo < bo + 4 by omega) ([Value.int .i64 x.f0, .string x.f1.f0, .int .i64 x.f1.f1, .slice Arq nrq crq, .string x.f1.f3, .int .i64 0, .int .i64 0]).toArray)
  have B12 := Aside0.mk (show Below bo W (w11.setRow bo ([Value.int .i64 x.f0, .string x.f1.f0, .int .i64 x.f1.f1, .slice Arq nrq crq, .string x.f1.f3, .int .i64 0, .int .i64 0]).toArray) from below_setRow' B11.out (Nat.le_refl _) _)
  clear q
  generalize w11.setRow bo ([Value.int .i64 x.f0, .string x.f1.f0, .int .i64 x.f1.f1, .slice Arq nrq crq, .string x.f1.f3, .int .i64 0, .int .i64 0]).toArray = w12 at *
  have q := O12.out.set 5 (.int .i64 x.f1.f4)
  rw [show ([Value.int .i64 x.f0, .string x.f1.f0, .int .i64 x.f1.f1, .slice Arq nrq crq, .string x.f1.f3, .int .i64 0, .int .i64 0]).set 5 (.int .i64 x.f1.f4) = [Value.int .i64 x.f0, .string x.f1.f0, .int .i64 x.f1.f1, .slice Arq nrq crq, .string x.f1.f3, .int .i64 x.f1.f4, .int .i64 0] from rfl] at q
  rw [q]
  have O13 := Aside0.mk (show Rt 49 bo [Value.int .i64 x.f0, .string x.f1.f0, .int .i64 x.f1.f1, .slice Arq nrq crq, .string x.f1.f3, .int .i64 x.f1.f4, .int .i64 0] (w12.setRow bo ([Value.int .i64 x.f0, .string x.f1.f0, .int .i64 x.f1.f1, .slice Arq nrq crq, .string x.f1.f3, .int .i64 x.f1.f4, .int .i64 0]).toArray) from O12.out.row _)
  have E13 := Aside0.mk (show Rt 22 be [.int .i64 0] (w12.setRow bo ([Value.int .i64 x.f0, .string x.f1.f0, .int .i64 x.f1.f1, .slice Arq nrq crq, .string x.f1.f3, .int .i64 x.f1.f4, .int .i64 0]).toArray) from (setRow_other _ _ _ _ hne1).trans E12.out)
  have A13 := Aside0.mk (show Rt 3 ba [.int .i64 0] (w12.setRow bo ([Value.int .i64 x.f0, .string x.f1.f0, .int .i64 x.f1.f1, .slice Arq nrq crq, .string x.f1.f3, .int .i64 x.f1.f4, .int .i64 0]).toArray) from (setRow_other _ _ _ _ hne2).trans A12.out)
  have Lrq_13 := Aside0.mk (LN_alive.row Lrq_12.out (show bo < bo + 4 by omega) ([Value.int .i64 x.f0, .string x.f1.f0, .int .i64 x.f1.f1, .slice Arq nrq crq, .string x.f1.f3, .int .i64 x.f1.f4, .int .i64 0]).toArray)
  have B13 := Aside0.mk (show Below bo W (w12.setRow bo ([Value.int .i64 x.f0, .string x.f1.f0, .int .i64 x.f1.f1, .slice Arq nrq crq, .string x.f1.f3, .int .i64 x.f1.f4, .int .i64 0]).toArray) from below_setRow' B12.out (Nat.le_refl _) _)
  clear q
  generalize w12.setRow bo ([Value.int .i64 x.f0, .string x.f1.f0, .int .i64 x.f1.f1, .slice Arq nrq crq, .string x.f1.f3, .int .i64 x.f1.f4, .int .i64 0]).toArray = w13 at *
  have q := O13.out.set 6 (.int .i64 x.f1.f5)
  rw [show ([Value.int .i64 x.f0, .string x.f1.f0, .int .i64 x.f1.f1, .slice Arq nrq crq, .string x.f1.f3, .int .i64 x.f1.f4, .int .i64 0]).set 6 (.int .i64 x.f1.f5) = [Value.int .i64 x.f0, .string x.f1.f0, .int .i64 x.f1.f1, .slice Arq nrq crq, .string x.f1.f3, .int .i64 x.f1.f4, .int .i64 x.f1.f5] from rfl] at q
  rw [q]
  have O14 := Aside0.mk (show Rt 49 bo [Value.int .i64 x.f0, .string x.f1.f0, .int .i64 x.f1.f1, .slice Arq nrq crq, .string x.f1.f3, .int .i64 x.f1.f4, .int .i64 x.f1.f5] (w13.setRow bo ([Value.int .i64 x.f0, .string x.f1.f0, .int .i64 x.f1.f1, .slice Arq nrq crq, .string x.f1.f3, .int .i64 x.f1.f4, .int .i64 x.f1.f5]).toArray) from O13.out.row _)
  have E14 := Aside0.mk (show Rt 22 be [.int .i64 0] (w13.setRow bo ([Value.int .i64 x.f0, .string x.f1.f0, .int .i64 x.f1.f1, .slice Arq nrq crq, .string x.f1.f3, .int .i64 x.f1.f4, .int .i64 x.f1.f5]).toArray) from (setRow_other _ _ _ _ hne1).trans E13.out)
  have A14 := Aside0.mk (show Rt 3 ba [.int .i64 0] (w13.setRow bo ([Value.int .i64 x.f0, .string x.f1.f0, .int .i64 x.f1.f1, .slice Arq nrq crq, .string x.f1.f3, .int .i64 x.f1.f4, .int .i64 x.f1.f5]).toArray) from (setRow_other _ _ _ _ hne2).trans A13.out)
  have Lrq_14 := Aside0.mk (LN_alive.row Lrq_13.out (show bo < bo + 4 by omega) ([Value.int .i64 x.f0, .string x.f1.f0, .int .i64 x.f1.f1, .slice Arq nrq crq, .string x.f1.f3, .int .i64 x.f1.f4, .int .i64 x.f1.f5]).toArray)
  have B14 := Aside0.mk (show Below bo W (w13.setRow bo ([Value.int .i64 x.f0, .string x.f1.f0, .int .i64 x.f1.f1, .slice Arq nrq crq, .string x.f1.f3, .int .i64 x.f1.f4, .int .i64 x.f1.f5]).toArray) from below_setRow' B13.out (Nat.le_refl _) _)
  clear q
  generalize w13.setRow bo ([Value.int .i64 x.f0, .string x.f1.f0, .int .i64 x.f1.f1, .slice Arq nrq crq, .string x.f1.f3, .int .i64 x.f1.f4, .int .i64 x.f1.f5]).toArray = w14 at *
  rw [E14.out.same 0 _ rfl, A14.out.same 0 _ rfl]
  refine leaves_cons (f := 124) (args := #[ptr bo, ptr be, ptr ba]) (by simp) (by simp [go_sem]) ?_
  refine (idle_rec (bo := bo) (be := be) (ba := ba) w14).mono ?_
  rintro e u' w' ⟨rfl, rfl, hb⟩
  have ho := O14.out.below hb
  have he := E14.out.below hb
  have ha := A14.out.below hb
  have hrq := LN_alive.below Lrq_14.out hb
  have x0 := ho.cell 0 _ rfl
  have x1 := ho.cell 1 _ rfl
  have x2 := ho.cell 2 _ rfl
  have x3 := ho.cell 3 _ rfl
  have x4 := ho.cell 4 _ rfl
  have x5 := ho.cell 5 _ rfl
  have x6 := ho.cell 6 _ rfl
  have y0 := he.cell 0 _ rfl
  have z0 := ha.cell 0 _ rfl
  rw [HR.out]
  simp [Leaves, settle, results, Try.results79, go_sem, x0, x1, x2, x3, x4, x5, x6, y0, z0]
  refine ⟨by rw [HBO.out]; exact B14.out.trans (hb.mono (by have := B14.out.size; have := HBO.out; omega)), _, ⟨rfl, rfl, rfl⟩, Arq, nrq, crq, rfl, LN_alive.lower hrq (by have := HBO.out; omega)⟩
def zeroD_rec : RecD := ⟨0, ⟨⟨#[]⟩, 0, [], ⟨#[]⟩, 0, 0⟩⟩
theorem enc_out_rec {S0 : Nat} {r : Res RecD} {v : Value} {w : World} (h : RdOut memRec zero_rec S0 r v w) : memRec S0 (outOr zeroD_rec r) v w := by
  cases r with
  | ok x n => exact h
  | fail e p =>
    have h : v = .agg zero_rec.toArray := h
    subst h
    exact ⟨none, 0, 0, rfl, Kd.R_nil _ _ _ _ _⟩
theorem Rt.full_rec {t b : Nat} {z0 z1 z2 z3 z4 z5 z6 : Value} {W : World} (h : Rt t b [z0, z1, z2, z3, z4, z5, z6] W) (a0 a1 a2 a3 a4 a5 a6 : Value) :
    (((((((W.setCell ⟨b, 0, none⟩ a0).setCell ⟨b, 1, none⟩ a1).setCell ⟨b, 2, none⟩ a2).setCell ⟨b, 3, none⟩ a3).setCell ⟨b, 4, none⟩ a4).setCell ⟨b, 5, none⟩ a5).setCell ⟨b, 6, none⟩ a6) = W.setRow b [a0, a1, a2, a3, a4, a5, a6].toArray := by
  rw [h.set 0 a0]
  have h0 : Rt t b [a0, z1, z2, z3, z4, z5, z6] (W.setRow b ([z0, z1, z2, z3, z4, z5, z6].set 0 a0).toArray) := h.row _
  rw [h0.set 1 a1, setRow_again]
  have h1 : Rt t b [a0, a1, z2, z3, z4, z5, z6] (W.setRow b ([a0, z1, z2, z3, z4, z5, z6].set 1 a1).toArray) := h.row _
  rw [h1.set 2 a2, setRow_again]
  have h2 : Rt t b [a0, a1, a2, z3, z4, z5, z6] (W.setRow b ([a0, a1, z2, z3, z4, z5, z6].set 2 a2).toArray) := h.row _
  rw [h2.set 3 a3, setRow_again]
  have h3 : Rt t b [a0, a1, a2, a3, z4, z5, z6] (W.setRow b ([a0, a1, a2, z3, z4, z5, z6].set 3 a3).toArray) := h.row _
  rw [h3.set 4 a4, setRow_again]
  have h4 : Rt t b [a0, a1, a2, a3, a4, z5, z6] (W.setRow b ([a0, a1, a2, a3, z4, z5, z6].set 4 a4).toArray) := h.row _
  rw [h4.set 5 a5, setRow_again]
  have h5 : Rt t b [a0, a1, a2, a3, a4, a5, z6] (W.setRow b ([a0, a1, a2, a3, a4, z5, z6].set 5 a5).toArray) := h.row _
  rw [h5.set 6 a6, setRow_again]
  rfl
theorem Record_at (A : Option Addr) (n c : Nat) (xs : List Int) (W : World) (hC : Kd.C (Kd.int .u8) W A n xs) (hnc : n ≤ c) (hb : IsBytes xs) (hbig : n < 1000000000) :
    Calls Try.prog 29 #[.slice A n c] W fun e w' => Below W.heap.size W w' ∧ ∃ v, e = .returned (.tuple #[v, .int .i64 (endOf (whole 83 4096 xs (pRec xs 4096))).1, .int .i64 (endOf (whole 83 4096 xs (pRec xs 4096))).2]) ∧ memRec W.heap.size (outOr zeroD_rec (whole 83 4096 xs (pRec xs 4096))) v w' := by
  have hb1 : Below W.heap.size W (W.alloc (.cells #[.int .i64 0, .string ⟨#[]⟩, .int .i64 0, .slice none 0 0, .string ⟨#[]⟩, .int .i64 0, .int .i64 0] 49)) := below_alloc (Below.refl _ _) _
  have r1 : Rt 49 W.heap.size zero_rec (W.alloc (.cells #[.int .i64 0, .string ⟨#[]⟩, .int .i64 0, .slice none 0 0, .string ⟨#[]⟩, .int .i64 0, .int .i64 0] 49)) := heap_alloc_new W _
  have hC1 := Kd.C_below hC hb1
  have HRD := Aside0.mk (read_record A n c xs (W.alloc (.cells #[.int .i64 0, .string ⟨#[]⟩, .int .i64 0, .slice none 0 0, .string ⟨#[]⟩, .int .i64 0, .int .i64 0] 49)) hC1 hnc hb hbig)
  generalize whole 83 4096 xs (pRec xs 4096) = rr at *
  have B1 := Aside0.mk hb1
  clear hC hC1 hnc hb hbig
  go_enter Try.func29, Try.ntmps29
  go_upto_region 1 with fail
  obtain ⟨b, hbe⟩ : ∃ b, W.heap.size = b := ⟨_, rfl⟩
  have HBE := Aside0.mk hbe
  rw [hbe] at r1 ⊢
  have R1 := Aside0.mk r1
  clear hb1 r1 hbe
  generalize W.alloc (.cells #[.int .i64 0, .string ⟨#[]⟩, .int .i64 0, .slice none 0 0, .string ⟨#[]⟩, .int .i64 0, .int .i64 0] 49) = w1 at *
  go_wp2_with fail
  go_at_call 79
  refine HRD.out.mono ?_
  rintro e w2 ⟨hb, v, rfl, ho⟩
  obtain ⟨Arq, nrq, crq, hv, hrq⟩ := enc_out_rec ho
  subst hv
  obtain ⟨x, hx⟩ : ∃ x, outOr zeroD_rec rr = x := ⟨_, rfl⟩
  obtain ⟨ec, hec⟩ : ∃ ec, (endOf rr).1 = ec := ⟨_, rfl⟩
  obtain ⟨ep, hep⟩ : ∃ ep, (endOf rr).2 = ep := ⟨_, rfl⟩
  rw [hx] at hrq ⊢
  rw [hec, hep]
  have HX := Aside0.mk (And.intro hx (And.intro hec hep))
  have R2 := Aside0.mk (R1.out.below hb)
  have Lrq_2 := Aside0.mk (LN_alive.lower hrq R1.out.lt)
  have B2 := Aside0.mk (show Below W.heap.size W w2 from B1.out.trans (hb.mono B1.out.size))
  clear hb ho hrq HRD hx hec hep
  have z0 := R2.out.cell 0 _ rfl
  have f0 := R2.out.free 0
  have z1 := R2.out.cell 1 _ rfl
  have f1 := R2.out.free 1
  have z2 := R2.out.cell 2 _ rfl
  have f2 := R2.out.free 2
  have z3 := R2.out.cell 3 _ rfl
  have f3 := R2.out.free 3
  have z4 := R2.out.cell 4 _ rfl
  have f4 := R2.out.free 4
  have z5 := R2.out.cell 5 _ rfl
  have f5 := R2.out.free 5
  have z6 := R2.out.cell 6 _ rfl
  have f6 := R2.out.free 6
  go_wp2_with fail
  rw [R2.out.full_rec]
  have R3 : Rt 49 b [.int .i64 x.f0, .string x.f1.f0, .int .i64 x.f1.f1, .slice Arq nrq crq, .string x.f1.f3, .int .i64 x.f1.f4, .int .i64 x.f1.f5] (w2.setRow b [Value.int .i64 x.f0, .string x.f1.f0, .int .i64 x.f1.f1, .slice Arq nrq crq, .string x.f1.f3, .int .i64 x.f1.f4, .int .i64 x.f1.f5].toArray) := R2.out.row _
  have Lrq_3 := LN_alive.row Lrq_2.out (Nat.lt_succ_self b) [Value.int .i64 x.f0, .string x.f1.f0, .int .i64 x.f1.f1, .slice Arq nrq crq, .string x.f1.f3, .int .i64 x.f1.f4, .int .i64 x.f1.f5].toArray
  have B3 : Below W.heap.size W (w2.setRow b [Value.int .i64 x.f0, .string x.f1.f0, .int .i64 x.f1.f1, .slice Arq nrq crq, .string x.f1.f3, .int .i64 x.f1.f4, .int .i64 x.f1.f5].toArray) := below_setRow' B2.out (Nat.le_of_eq HBE.out) _
  clear z0 f0 z1 f1 z2 f2 z3 f3 z4 f4 z5 f5 z6 f6
  generalize w2.setRow b [Value.int .i64 x.f0, .string x.f1.f0, .int .i64 x.f1.f1, .slice Arq nrq crq, .string x.f1.f3, .int .i64 x.f1.f4, .int .i64 x.f1.f5].toArray = w3 at *
  have x0 := R3.cell 0 _ rfl
  have x1 := R3.cell 1 _ rfl
  have x2 := R3.cell 2 _ rfl
  have x3 := R3.cell 3 _ rfl
  have x4 := R3.cell 4 _ rfl
  have x5 := R3.cell 5 _ rfl
  have x6 := R3.cell 6 _ rfl
  refine ⟨rfl, ?_⟩
  simp [results, Try.results29, go_sem, x0, x1, x2, x3, x4, x5, x6]
  refine ⟨B3, _, ⟨rfl, HX.out.2.1.symm, HX.out.2.2.symm⟩, ?_⟩
  rw [HX.out.1]
  exact ⟨Arq, nrq, crq, rfl, LN_alive.lower Lrq_3 (by have := HBE.out; omega)⟩
end Go.Proofs.Ytafmoglaockepaa.Cd
end
section
namespace Go.Proofs.Ytafmoglaockepaa.Cd
open Go Go.RowKit Go.Proofs.Ytafmoglaockepaa.Num Go.Proofs.Ytafmoglaockepaa.PG Go.Proofs.YtafmoglaockepaaW.PrintWords Go.Proofs.YtafmoglaockepaaW.PrintLast Go.Proofs.YtafmoglaockepaaW.PrintMore
set_option linter.unusedVariables false
set_option linter.unusedSimpArgs false
set_option maxHeartbeats 4000000
set_option maxRecDepth 100000
abbrev zero_st : List Value := [.int .i64 0, .int .i64 0, .int .i64 0, .slice none 0 0, .slice none 0 0, .slice none 0 0]
theorem catch_st {bo be ba : Nat} {ve va : Value} (er p : Int) (older : List PanicEntry) (w : World) (ho : Rt 58 bo zero_st w) (he : Rt 22 be [ve] w) (ha : Rt 3 ba [va] w) (h1 : bo ≠ be) (h2 : bo ≠ ba) (h3 : be ≠ ba) :
    CallsD Try.prog 128 #[ptr bo, ptr be, ptr ba] (.panicking ({ v := fault er p, recovered := false } :: older)) w fun e u' w' =>
      e = .returned (.tuple #[]) ∧ u' = .panicking ({ v := fault er p, recovered := true } :: older) ∧ Rt 58 bo zero_st w' ∧ Rt 22 be [.int .i64 er] w' ∧ Rt 3 ba [.int .i64 p] w' ∧ Kept w w' (fun j => j = bo ∨ j = be ∨ j = ba) ∧ ∀ B, B ≤ be → B ≤ ba → B ≤ w.heap.size → Below B w w' := by
  have HO := Aside0.mk ho
  have HE := Aside0.mk he
  have HA := Aside0.mk ha
  have hu155 := Try.underlying155
  clear ho he ha
  refine callsD_of_wpS Try.func128 rfl fun c₀ cs hu => ?_
  simp only [Try.ntmps128, List.size_toArray, List.length_cons, List.length_nil, Nat.reduceAdd, Nat.reduceSub, Array.replicate_succ, Array.replicate_zero, List.push_toArray, List.append_toArray, List.nil_append, List.cons_append]
  apply wpS_seq
  refine wpS_recovers (v := fault er p) (cs' := { c₀ with mode := .panicking ({ v := fault er p, recovered := true } :: older) } :: cs) (by rfl) (by simp [go_sem]) (by simp [recoverD, hu]) ?_ ?_
  · rintro ⟨a, w, u', h, _⟩
    cases h
  simp only [Act.put, List.setIfInBounds_toArray, List.set_cons_zero, List.set_cons_succ]
  unfold fault
  have hTA : ∀ v w, (Instr.typeAssert (.iface 155 v) 20 155 true).run Try.prog w = .ok (.tuple #[v, .bool true]) w := fun v w => by
    simp [Instr.typeAssert, run_underlying hu155]
  go_wp2_with fail
  simp only [Exit.thenS]
  refine wpS_of_wp ?_
  have hb1 : Below w.heap.size w (w.alloc (.cells #[.int .i64 er, .int .i64 p] 155)) := below_alloc (Below.refl _ _) _
  have hr3 : Rt 155 w.heap.size [.int .i64 er, .int .i64 p] (w.alloc (.cells #[.int .i64 er, .int .i64 p] 155)) := heap_alloc_new w _
  obtain ⟨b3, hb3⟩ : ∃ b3, w.heap.size = b3 := ⟨_, rfl⟩
  have HB3E := Aside0.mk hb3
  have O1 := Aside0.mk (HO.out.below hb1)
  have E1 := Aside0.mk (HE.out.below hb1)
  have A1 := Aside0.mk (HA.out.below hb1)
  have P1 := Aside0.mk (Kept.of_below hb1 (fun j => j = bo ∨ j = be ∨ j = ba))
  have W1 := Aside0.mk (show Below w.heap.size w (w.alloc (.cells #[.int .i64 er, .int .i64 p] 155)) from hb1)
  rw [hb3] at hr3 ⊢
  have R1 := Aside0.mk hr3
  clear hb1 hr3 hb3 hTA hu155 hu
  generalize w.alloc (.cells #[.int .i64 er, .int .i64 p] 155) = w1 at *
  go_upto_region 3 with fail
  have hb1 : Below w1.heap.size w1 (w1.alloc (.cells #[.int .i64 0, .int .i64 0, .int .i64 0, .slice none 0 0, .slice none 0 0, .slice none 0 0] 58)) := below_alloc (Below.refl _ _) _
  have hr5 : Rt 58 w1.heap.size zero_st (w1.alloc (.cells #[.int .i64 0, .int .i64 0, .int .i64 0, .slice none 0 0, .slice none 0 0, .slice none 0 0] 58)) := heap_alloc_new w1 _
  obtain ⟨b5, hb5⟩ : ∃ b5, w1.heap.size = b5 := ⟨_, rfl⟩
  have O2 := Aside0.mk (O1.out.below hb1)
  have E2 := Aside0.mk (E1.out.below hb1)
  have A2 := Aside0.mk (A1.out.below hb1)
  have R2 := Aside0.mk (R1.out.below hb1)
  have P2 := Aside0.mk (P1.out.below hb1)
  have W2 := Aside0.mk (W1.out.trans (hb1.mono W1.out.size))
  rw [hb5] at hr5 ⊢
  have Z2 := Aside0.mk hr5
  clear hb1 hr5 hb5 O1 E1 A1 R1 P1 W1
  generalize w1.alloc (.cells #[.int .i64 0, .int .i64 0, .int .i64 0, .slice none 0 0, .slice none 0 0, .slice none 0 0] 58) = w2 at *
  have MKS := Aside0.mk (show ∀ w' : World, (∀ j t (u : Array Value), w2.heap[j]? = some (Obj.cells u t (0, 0)) → t ≠ 22 → t ≠ 3 → w'.heap[j]? = w2.heap[j]?) → (fun w' : World => (w'.cell? ⟨b5, 0, none⟩ = some (.int .i64 0) ∧ w'.cell? ⟨b5, 1, none⟩ = some (.int .i64 0) ∧ w'.cell? ⟨b5, 2, none⟩ = some (.int .i64 0) ∧ w'.cell? ⟨b5, 3, none⟩ = some (.slice none 0 0) ∧ w'.cell? ⟨b5, 4, none⟩ = some (.slice none 0 0) ∧ w'.cell? ⟨b5, 5, none⟩ = some (.slice none 0 0)) ∧ w'.cell? ⟨b3, 0, none⟩ = some (.int .i64 er) ∧ w'.cell? ⟨b3, 1, none⟩ = some (.int .i64 p)) w' from fun w' hw => by
    have z : Rt 58 b5 zero_st w' := (hw b5 58 _ Z2.out (by decide) (by decide)).trans Z2.out
    have r : Rt 155 b3 [.int .i64 er, .int .i64 p] w' := (hw b3 155 _ R2.out (by decide) (by decide)).trans R2.out
    exact ⟨⟨z.cell 0 _ rfl, z.cell 1 _ rfl, z.cell 2 _ rfl, z.cell 3 _ rfl, z.cell 4 _ rfl, z.cell 5 _ rfl⟩, r.cell 0 _ rfl, r.cell 1 _ rfl⟩)
  refine wp_region_held_drew (S := fun w' : World => (w'.cell? ⟨b5, 0, none⟩ = some (.int .i64 0) ∧ w'.cell? ⟨b5, 1, none⟩ = some (.int .i64 0) ∧ w'.cell? ⟨b5, 2, none⟩ = some (.int .i64 0) ∧ w'.cell? ⟨b5, 3, none⟩ = some (.slice none 0 0) ∧ w'.cell? ⟨b5, 4, none⟩ = some (.slice none 0 0) ∧ w'.cell? ⟨b5, 5, none⟩ = some (.slice none 0 0)) ∧ w'.cell? ⟨b3, 0, none⟩ = some (.int .i64 er) ∧ w'.cell? ⟨b3, 1, none⟩ = some (.int .i64 p)) (by kernel_rfl) (MKS.out _ (fun _ _ _ _ _ _ => rfl)) (fun hHeld => ?_)
  refine wpAnyH_take (i := 0) (oi := { dst := some 12, op := Op.load 58 (Operand.tmp 5), type := 58, pos := "read.go:88", after := #[], guard := none }) (v := ?_) rfl (by kernel_rfl) (by kernel_rfl) (by kernel_rfl) (fun _ _ _ h => h) (Or.inl ⟨by rfl, ?_⟩) hHeld ?_
  rotate_left
  · intro w' hS; obtain ⟨⟨hS0, hS1, hS2, hS3, hS4, hS5⟩, hS6, hS7⟩ := hS; go_simp; all_goals (with_reducible rfl)
  (try simp only [Act.put, List.setIfInBounds_toArray, List.set_cons_zero, List.set_cons_succ])
  refine wpAnyH_take (i := 1) (oi := { dst := some 13, op := Op.fieldAddr 155 (Operand.tmp 3) 0, type := 0, pos := "read.go:88", after := #[{ on := 5, ground := Ground.gcOnly Departure.lateStores }], guard := none }) (v := ?_) rfl (by kernel_rfl) (by kernel_rfl) (by kernel_rfl) (fun _ _ _ h => h) (Or.inl ⟨by rfl, ?_⟩) hHeld ?_
  rotate_left
  · intro w' hS; obtain ⟨⟨hS0, hS1, hS2, hS3, hS4, hS5⟩, hS6, hS7⟩ := hS; go_simp; all_goals (with_reducible rfl)
  (try simp only [Act.put, List.setIfInBounds_toArray, List.set_cons_zero, List.set_cons_succ])
  refine wpAnyH_take (i := 2) (oi := { dst := some 14, op := Op.load 22 (Operand.tmp 13), type := 22, pos := "read.go:88", after := #[{ on := 1, ground := Ground.data }, { on := 5, ground := Ground.gcOnly Departure.lateStores }], guard := none }) (v := ?_) rfl (by kernel_rfl) (by kernel_rfl) (by kernel_rfl) (fun _ _ _ h => h) (Or.inl ⟨by rfl, ?_⟩) hHeld ?_
  rotate_left
  · intro w' hS; obtain ⟨⟨hS0, hS1, hS2, hS3, hS4, hS5⟩, hS6, hS7⟩ := hS; go_simp; all_goals (with_reducible rfl)
  (try simp only [Act.put, List.setIfInBounds_toArray, List.set_cons_zero, List.set_cons_succ])
  refine wpAnyH_take (i := 3) (oi := { dst := some 15, op := Op.fieldAddr 155 (Operand.tmp 3) 1, type := 0, pos := "read.go:88", after := #[{ on := 6, ground := Ground.gcOnly Departure.lateStores }], guard := none }) (v := ?_) rfl (by kernel_rfl) (by kernel_rfl) (by kernel_rfl) (fun _ _ _ h => h) (Or.inl ⟨by rfl, ?_⟩) hHeld ?_
  rotate_left
  · intro w' hS; obtain ⟨⟨hS0, hS1, hS2, hS3, hS4, hS5⟩, hS6, hS7⟩ := hS; go_simp; all_goals (with_reducible rfl)
  (try simp only [Act.put, List.setIfInBounds_toArray, List.set_cons_zero, List.set_cons_succ])
  refine wpAnyH_take (i := 4) (oi := { dst := some 16, op := Op.load 3 (Operand.tmp 15), type := 3, pos := "read.go:88", after := #[{ on := 3, ground := Ground.data }, { on := 6, ground := Ground.gcOnly Departure.lateStores }], guard := none }) (v := ?_) rfl (by kernel_rfl) (by kernel_rfl) (by kernel_rfl) (fun _ _ _ h => h) (Or.inl ⟨by rfl, ?_⟩) hHeld ?_
  rotate_left
  · intro w' hS; obtain ⟨⟨hS0, hS1, hS2, hS3, hS4, hS5⟩, hS6, hS7⟩ := hS; go_simp; all_goals (with_reducible rfl)
  (try simp only [Act.put, List.setIfInBounds_toArray, List.set_cons_zero, List.set_cons_succ])
  refine wpAnyH_ready (rs := [5]) (by kernel_rfl) (by simp) ?_
  refine AllReadyH.cons (o := { dst := none, op := Op.store 58 (Operand.tmp 0) (Operand.tmp 12), type := 0, pos := "read.go:88", after := #[{ on := 0, ground := Ground.data }, { on := 0, ground := Ground.phase }, { on := 1, ground := Ground.textOnly Departure.lateStores }, { on := 2, ground := Ground.textOnly Departure.lateStores }, { on := 3, ground := Ground.textOnly Departure.lateStores }, { on := 4, ground := Ground.textOnly Departure.lateStores }], guard := none }) rfl (fun K hK => ?_) AllReadyH.nil
  have d0 := O2.out.cell 0 _ rfl
  have d1 := O2.out.cell 1 _ rfl
  have d2 := O2.out.cell 2 _ rfl
  have d3 := O2.out.cell 3 _ rfl
  have d4 := O2.out.cell 4 _ rfl
  have d5 := O2.out.cell 5 _ rfl
  have f0 := O2.out.free 0
  have f1 := O2.out.free 1
  have f2 := O2.out.free 2
  have f3 := O2.out.free 3
  have f4 := O2.out.free 4
  have f5 := O2.out.free 5
  go_simp
  rw [O2.out.same 0 _ rfl, O2.out.same 1 _ rfl, O2.out.same 2 _ rfl, O2.out.same 3 _ rfl, O2.out.same 4 _ rfl, O2.out.same 5 _ rfl]
  clear d0 d1 d2 d3 d4 d5 f0 f1 f2 f3 f4 f5
  refine hK.out _ _ (MKS.out _ (fun _ _ _ _ _ _ => rfl)) (fun hHeld => ?_)
  clear hK K
  (try simp only [Act.put, List.setIfInBounds_toArray, List.set_cons_zero, List.set_cons_succ])
  refine wpAnyH_ready (rs := [6]) (by kernel_rfl) (by simp) ?_
  refine AllReadyH.cons (o := { dst := none, op := Op.store 22 (Operand.tmp 1) (Operand.tmp 14), type := 0, pos := "read.go:88", after := #[{ on := 2, ground := Ground.data }, { on := 5, ground := Ground.chain }, { on := 0, ground := Ground.phase }, { on := 1, ground := Ground.phase }, { on := 2, ground := Ground.phase }, { on := 3, ground := Ground.textOnly Departure.lateStores }, { on := 4, ground := Ground.textOnly Departure.lateStores }, { on := 5, ground := Ground.phase }], guard := none }) rfl (fun K hK => ?_) AllReadyH.nil
  have d0 := E2.out.cell 0 _ rfl
  have f0 := E2.out.free 0
  go_simp
  rw [E2.out.set 0 (.int .i64 er), show [ve].set 0 (.int .i64 er) = [Value.int .i64 er] from rfl]
  have E6 := Aside0.mk (show Rt 22 be [.int .i64 er] (w2.setRow be [Value.int .i64 er].toArray) from E2.out.row _)
  have A6 := Aside0.mk (show Rt 3 ba [va] (w2.setRow be [Value.int .i64 er].toArray) from (setRow_other _ _ _ _ (Ne.symm h3)).trans A2.out)
  clear d0 f0
  refine hK.out _ _ (MKS.out _ (fun j t u hj h22 h3' => setRow_other _ _ _ _ (fun e => h22 (by rw [e] at hj; exact blk_types hj E2.out)))) (fun hHeld => ?_)
  clear hK K
  (try simp only [Act.put, List.setIfInBounds_toArray, List.set_cons_zero, List.set_cons_succ])
  refine wpAnyH_ready (rs := [7]) (by kernel_rfl) (by simp) ?_
  refine AllReadyH.cons (o := { dst := none, op := Op.store 3 (Operand.tmp 2) (Operand.tmp 16), type := 0, pos := "read.go:88", after := #[{ on := 4, ground := Ground.data }, { on := 6, ground := Ground.chain }, { on := 0, ground := Ground.phase }, { on := 1, ground := Ground.phase }, { on := 2, ground := Ground.phase }, { on := 3, ground := Ground.phase }, { on := 4, ground := Ground.phase }, { on := 5, ground := Ground.phase }, { on := 6, ground := Ground.phase }], guard := none }) rfl (fun K hK => ?_) AllReadyH.nil
  have d0 := A6.out.cell 0 _ rfl
  have f0 := A6.out.free 0
  go_simp
  rw [A6.out.set 0 (.int .i64 p), show [va].set 0 (.int .i64 p) = [Value.int .i64 p] from rfl]
  have A7 := Aside0.mk (show Rt 3 ba [.int .i64 p] ((w2.setRow be [Value.int .i64 er].toArray).setRow ba [Value.int .i64 p].toArray) from A6.out.row _)
  have E7 := Aside0.mk (show Rt 22 be [.int .i64 er] ((w2.setRow be [Value.int .i64 er].toArray).setRow ba [Value.int .i64 p].toArray) from (setRow_other _ _ _ _ h3).trans E6.out)
  have O7 := Aside0.mk (show Rt 58 bo zero_st ((w2.setRow be [Value.int .i64 er].toArray).setRow ba [Value.int .i64 p].toArray) from (setRow_other _ _ _ _ h2).trans ((setRow_other _ _ _ _ h1).trans O2.out))
  have P7 := Aside0.mk (show Kept w ((w2.setRow be [Value.int .i64 er].toArray).setRow ba [Value.int .i64 p].toArray) (fun j => j = bo ∨ j = be ∨ j = ba) from ⟨by rw [setRow_size, setRow_size]; exact P2.out.1, fun j hj hn => (setRow_other _ _ _ _ (fun e => hn (.inr (.inr e)))).trans ((setRow_other _ _ _ _ (fun e => hn (.inr (.inl e)))).trans (P2.out.2 j hj hn))⟩)
  clear d0 f0
  refine hK.out _ _ (MKS.out _ (fun j t u hj h22 h3' => (setRow_other _ _ _ _ (fun e => h3' (by rw [e] at hj; exact blk_types hj A2.out))).trans (setRow_other _ _ _ _ (fun e => h22 (by rw [e] at hj; exact blk_types hj E2.out))))) (fun hHeld => ?_)
  clear hK K
  (try simp only [Act.put, List.setIfInBounds_toArray, List.set_cons_zero, List.set_cons_succ])
  refine wpAnyH_done (by kernel_rfl) ?_ _
  (try simp only [Act.put, List.setIfInBounds_toArray, List.set_cons_zero, List.set_cons_succ])
  try simp only [Exit.then]
  refine ⟨rfl, _, rfl, ?_⟩
  refine ⟨.tuple #[], by simp [results, Try.f128, Try.results128], rfl, rfl, O7.out, E7.out, A7.out, P7.out, fun B h1 h2 h3 => ?_⟩
  exact below_drew (below_setRow' (below_setRow' (W2.out.mono (by have := HB3E.out; omega)) h1 _) h2 _)
theorem idle_st {bo be ba : Nat} (w : World) :
    CallsD Try.prog 128 #[ptr bo, ptr be, ptr ba] .returning w fun e u' w' => e = .returned (.tuple #[]) ∧ u' = .returning ∧ Below w.heap.size w w' := by
  have hu155 := Try.underlying155
  refine callsD_of_wpS Try.func128 rfl fun c₀ cs hu => ?_
  simp only [Try.ntmps128, List.size_toArray, List.length_cons, List.length_nil, Nat.reduceAdd, Nat.reduceSub, Array.replicate_succ, Array.replicate_zero, List.push_toArray, List.append_toArray, List.nil_append, List.cons_append]
  apply wpS_seq
  refine wpS_recovers_none (by rfl) (by simp [go_sem]) (by simp [recoverD, hu]) ?_ ?_
  · rintro ⟨a, w, u', h, _⟩
    cases h
  simp only [Act.put, List.setIfInBounds_toArray, List.set_cons_zero, List.set_cons_succ]
  obtain ⟨i, hi, hz, _, _⟩ : ∃ i, Try.prog.info? 155 = some i ∧ i.zero = some (.agg #[.int .i64 0, .int .i64 0]) ∧ i.size = 2 ∧ True := by
    have h : (Try.prog.info? 155).map (fun i => (i.zero, i.size)) = some (some (.agg #[.int .i64 0, .int .i64 0]), 2) := by kernel_rfl
    obtain ⟨i, hi, he⟩ := Option.map_eq_some_iff.1 h
    simp only [Prod.mk.injEq] at he
    exact ⟨i, hi, he.1, he.2, trivial⟩
  have hTA : ∀ w, (Instr.typeAssert .nilIface 20 155 true).run Try.prog w = .ok (.tuple #[.agg #[.int .i64 0, .int .i64 0], .bool false]) w := fun w => by
    simp [Instr.typeAssert, run_underlying hu155, zeroValue, typeInfo, hi, hz]
  have hb1 : Below w.heap.size w (w.alloc (.cells #[.int .i64 0, .int .i64 0] 155)) := below_alloc (Below.refl _ _) _
  have HB := Aside0.mk hb1
  clear hb1
  go_wp2_with fail
  simp only [Exit.thenS]
  refine wpS_of_wp ?_
  go_wp2_with fail
  refine ⟨rfl, .returning, ?_, .tuple #[], by simp [results, Try.f128, Try.results128], rfl, rfl, HB.out⟩
  rw [← hu]
theorem read_state (A : Option Addr) (n c : Nat) (xs : List Int) (W : World) (hC : Kd.C (Kd.int .u8) W A n xs) (hnc : n ≤ c) (hb : IsBytes xs) (hbig : n < 1000000000) :
    Calls Try.prog 89 #[.slice A n c, .int .u8 84, .int .i64 131072, .func (.func 90) #[] #[]] W fun e w' => Below W.heap.size W w' ∧ ∃ v, e = .returned (.tuple #[v, .int .i64 (endOf (whole 84 131072 xs (pSt xs 131072))).1, .int .i64 (endOf (whole 84 131072 xs (pSt xs 131072))).2]) ∧ RdOut memSt zero_st W.heap.size (whole 84 131072 xs (pSt xs 131072)) v w' := by
  have HC := Aside0.mk hC
  have HNC := Aside0.mk hnc
  have HBY := Aside0.mk hb
  have HBIG := Aside0.mk hbig
  have HLEN := Aside0.mk (show xs.length = n from Kd.C_len hC)
  have hmf : ∀ (fn : Fn) (first cap : Array Value) (w : World), (Instr.makeFunc fn first cap).run Try.prog w = .ok (.func fn first cap) w := fun _ _ _ _ => rfl
  clear hC hnc hb hbig
  obtain ⟨bo, hbo⟩ : ∃ bo, W.heap.size = bo := ⟨_, rfl⟩
  have HBO := Aside0.mk hbo
  clear hbo
  go_enter_defers Try.func89, Try.ntmps89
  go_upto_region 3 with fail
  have hb1 : Below W.heap.size W (W.alloc (.cells #[.int .i64 0, .int .i64 0, .int .i64 0, .slice none 0 0, .slice none 0 0, .slice none 0 0] 58)) := below_alloc (Below.refl _ _) _
  have o1 : Rt 58 W.heap.size zero_st (W.alloc (.cells #[.int .i64 0, .int .i64 0, .int .i64 0, .slice none 0 0, .slice none 0 0, .slice none 0 0] 58)) := heap_alloc_new W _
  have s1 : (W.alloc (.cells #[.int .i64 0, .int .i64 0, .int .i64 0, .slice none 0 0, .slice none 0 0, .slice none 0 0] 58)).heap.size = W.heap.size + 1 := by simp
  generalize W.alloc (.cells #[.int .i64 0, .int .i64 0, .int .i64 0, .slice none 0 0, .slice none 0 0, .slice none 0 0] 58) = wa at *
  have hb2 : Below wa.heap.size wa (wa.alloc (.cells #[.int .i64 0] 22)) := below_alloc (Below.refl _ _) _
  have e2 : Rt 22 wa.heap.size [.int .i64 0] (wa.alloc (.cells #[.int .i64 0] 22)) := heap_alloc_new wa _
  have o2 := o1.below hb2
  have s2 : (wa.alloc (.cells #[.int .i64 0] 22)).heap.size = wa.heap.size + 1 := by simp
  have hc2 := hb1.trans (hb2.mono hb1.size)
  generalize wa.alloc (.cells #[.int .i64 0] 22) = wb at *
  have hb3 : Below wb.heap.size wb (wb.alloc (.cells #[.int .i64 0] 3)) := below_alloc (Below.refl _ _) _
  have a3 : Rt 3 wb.heap.size [.int .i64 0] (wb.alloc (.cells #[.int .i64 0] 3)) := heap_alloc_new wb _
  have o3 := o2.below hb3
  have e3 := e2.below hb3
  have s3 : (wb.alloc (.cells #[.int .i64 0] 3)).heap.size = wb.heap.size + 1 := by simp
  have hc3 := hc2.trans (hb3.mono hc2.size)
  generalize wb.alloc (.cells #[.int .i64 0] 3) = wc at *
  have hb4 : Below wc.heap.size wc (wc.alloc (.cells #[.slice A n c, .int .i64 0, .int .i64 131072] 158)) := below_alloc (Below.refl _ _) _
  have g4 : Rt 158 wc.heap.size [.slice A n c, .int .i64 0, .int .i64 131072] (wc.alloc (.cells #[.slice A n c, .int .i64 0, .int .i64 131072] 158)) := heap_alloc_new wc _
  have o4 := o3.below hb4
  have e4 := e3.below hb4
  have a4 := a3.below hb4
  have hc4 := hc3.trans (hb4.mono hc3.size)
  have s4 : (wc.alloc (.cells #[.slice A n c, .int .i64 0, .int .i64 131072] 158)).heap.size = wc.heap.size + 1 := by simp
  generalize wc.alloc (.cells #[.slice A n c, .int .i64 0, .int .i64 131072] 158) = w4 at *
  rw [s3, s2, s1] at g4 s4
  rw [s2, s1] at a4
  rw [s1] at e4
  obtain ⟨be, hbe⟩ : ∃ be, W.heap.size + 1 = be := ⟨_, rfl⟩
  rw [hbe] at e4 a4 g4 s4 ⊢
  obtain ⟨ba, hba⟩ : ∃ ba, be + 1 = ba := ⟨_, rfl⟩
  rw [hba] at a4 g4 s4 ⊢
  obtain ⟨g, hg⟩ : ∃ g, ba + 1 = g := ⟨_, rfl⟩
  rw [hg] at g4 s4 ⊢
  rw [HBO.out] at o4 hbe ⊢
  have O4 := Aside0.mk o4
  have E4 := Aside0.mk e4
  have A4 := Aside0.mk a4
  have G4 := Aside0.mk g4
  have B4 := Aside0.mk (show Below bo W w4 by rw [← HBO.out]; exact hc4)
  have HORD := Aside0.mk (show be = bo + 1 ∧ ba = bo + 2 ∧ g = bo + 3 ∧ w4.heap.size = bo + 4 by omega)
  clear hb1 o1 s1 hb2 e2 o2 s2 hc2 hb3 a3 o3 e3 s3 hc3 hb4 o4 e4 a4 hc4 s4 hbe hba hg g4 hmf
  have HFAULT := Aside0.mk (show ∀ (er p : Int) (w : World), Rt 58 bo zero_st w → Rt 22 be [.int .i64 0] w → Rt 3 ba [.int .i64 0] w → Below bo W w → CallsD Try.prog 128 #[ptr bo, ptr be, ptr ba] (.panicking [{ v := fault er p, recovered := false }]) w fun e u' w' =>
      e = .returned (.tuple #[]) ∧ u' = .panicking [{ v := fault er p, recovered := true }] ∧ Rt 58 bo zero_st w' ∧ Rt 22 be [.int .i64 er] w' ∧ Rt 3 ba [.int .i64 p] w' ∧ Below bo W w' from fun er p w ho he ha hb => by
    have := HORD.out
    refine (catch_st er p [] w ho he ha (by omega) (by omega) (by omega)).mono ?_
    rintro e u' w' ⟨h1, h2, h3, h4, h5, _, h6⟩
    exact ⟨h1, h2, h3, h4, h5, hb.trans (h6 bo (by omega) (by omega) (by have := hb.size; have := HBO.out; omega))⟩)
  by_cases hl : 131072 < n
  · have d1 : decide ((131072 : Int) < (n : Int)) = true := decide_eq_true (by omega)
    have d2 : decide (131072 < n) = true := decide_eq_true hl
    have HR := Aside0.mk (show whole 84 131072 xs (pSt xs 131072) = Res.fail 1 0 by
      unfold whole
      rw [HLEN.out, if_pos hl])
    clear hl
    go_wp2_with fail
    refine leaves_cons (f := 128) (args := #[ptr bo, ptr be, ptr ba]) (by simp) (by simp [go_sem]) ?_
    refine (HFAULT.out 1 0 w4 O4.out E4.out A4.out B4.out).mono ?_
    rintro e u' w' ⟨rfl, rfl, ho, he, ha, hb⟩
    have x0 := ho.cell 0 _ rfl
    have x1 := ho.cell 1 _ rfl
    have x2 := ho.cell 2 _ rfl
    have x3 := ho.cell 3 _ rfl
    have x4 := ho.cell 4 _ rfl
    have x5 := ho.cell 5 _ rfl
    have y0 := he.cell 0 _ rfl
    have z0 := ha.cell 0 _ rfl
    rw [HR.out]
    simp [Leaves, settle, results, Try.results89, go_sem, x0, x1, x2, x3, x4, x5, x5, y0, z0]
    exact ⟨by rw [HBO.out]; exact hb, _, ⟨rfl, rfl, rfl⟩, rfl⟩
  have d1 : decide ((131072 : Int) < (n : Int)) = false := decide_eq_false (by omega)
  have d2 : decide (131072 < n) = false := decide_eq_false hl
  have HL := Aside0.mk hl
  clear hl
  rcases Nat.eq_zero_or_pos n with hz | hz
  · have HR := Aside0.mk (show whole 84 131072 xs (pSt xs 131072) = Res.fail 3 0 by
      unfold whole
      rw [HLEN.out, if_neg HL.out, if_pos hz])
    have d3 : ((n : Int) == 0) = true := by simpa using hz
    have d4 : decide (n = 0) = true := decide_eq_true hz
    have d5 : (n : Int) = 0 := by omega
    go_wp2_with fail
    refine leaves_cons (f := 128) (args := #[ptr bo, ptr be, ptr ba]) (by simp) (by simp [go_sem]) ?_
    refine (HFAULT.out 3 0 w4 O4.out E4.out A4.out B4.out).mono ?_
    rintro e u' w' ⟨rfl, rfl, ho, he, ha, hb⟩
    have x0 := ho.cell 0 _ rfl
    have x1 := ho.cell 1 _ rfl
    have x2 := ho.cell 2 _ rfl
    have x3 := ho.cell 3 _ rfl
    have x4 := ho.cell 4 _ rfl
    have x5 := ho.cell 5 _ rfl
    have y0 := he.cell 0 _ rfl
    have z0 := ha.cell 0 _ rfl
    rw [HR.out]
    simp [Leaves, settle, results, Try.results89, go_sem, x0, x1, x2, x3, x4, x5, x5, y0, z0]
    exact ⟨by rw [HBO.out]; exact hb, _, ⟨rfl, rfl, rfl⟩, rfl⟩
  have d3 : ((n : Int) == 0) = false := by simp; omega
  have d4 : decide (n = 0) = false := decide_eq_false (by omega)
  have HZ := Aside0.mk hz
  have i0 : (0 : Int) < (n : Int) := by omega
  have hCx := Kd.C_below HC.out (show Below W.heap.size W w4 by rw [HBO.out]; exact B4.out)
  obtain ⟨ad, rfl, hcell⟩ := (Kd.reads_of_C (d := (0 : Int)) (h1 := fun _ => rfl) hCx).2.2 hz
  have k0 := hcell 0 hz
  obtain ⟨x, hx⟩ : ∃ x, xs.getD 0 0 = x := ⟨_, rfl⟩
  rw [hx] at k0
  have HX := Aside0.mk (show xs.headD 0 = x by rw [← hx]; cases xs <;> rfl)
  have k1 : w4.cell? ad = some (.int .u8 x) := by
    have e : ad.add 0 = ad := by simp [Addr.add]
    rwa [e] at k0
  clear hz hCx hcell hx
  by_cases hk : x = 84
  rotate_left
  · have HR := Aside0.mk (show whole 84 131072 xs (pSt xs 131072) = Res.fail 90 0 by
      unfold whole
      rw [HLEN.out, if_neg HL.out, if_neg (by have := HZ.out; omega), HX.out, if_pos hk])
    have d5 : (x != 84) = true := by simpa using hk
    have d6 : (x == 84) = false := by simpa using hk
    have d7 : decide (x = 84) = false := decide_eq_false hk
    clear hk
    go_wp2_with fail
    refine leaves_cons (f := 128) (args := #[ptr bo, ptr be, ptr ba]) (by simp) (by simp [go_sem]) ?_
    refine (HFAULT.out 90 0 w4 O4.out E4.out A4.out B4.out).mono ?_
    rintro e u' w' ⟨rfl, rfl, ho, he, ha, hb⟩
    have x0 := ho.cell 0 _ rfl
    have x1 := ho.cell 1 _ rfl
    have x2 := ho.cell 2 _ rfl
    have x3 := ho.cell 3 _ rfl
    have x4 := ho.cell 4 _ rfl
    have x5 := ho.cell 5 _ rfl
    have y0 := he.cell 0 _ rfl
    have z0 := ha.cell 0 _ rfl
    rw [HR.out]
    simp [Leaves, settle, results, Try.results89, go_sem, x0, x1, x2, x3, x4, x5, x5, y0, z0]
    exact ⟨by rw [HBO.out]; exact hb, _, ⟨rfl, rfl, rfl⟩, rfl⟩
  subst hk
  have hg1 := G4.out.cell 1 _ rfl
  have fg1 := G4.out.free 1
  go_upto_region 10 with fail
  rw [G4.out.set 1 (.int .i64 1)]
  have hl1 : [Value.slice (some ad) n c, .int .i64 0, .int .i64 131072].set 1 (.int .i64 1) = [Value.slice (some ad) n c, .int .i64 1, .int .i64 131072] := rfl
  rw [hl1]
  have K4 : CrAt g bo (some ad) n c xs 0 131072 w4 := ⟨G4.out, fun W' hb => Kd.C_below HC.out (by rw [HBO.out]; exact B4.out.trans hb), by have := HORD.out; omega, HNC.out, Nat.zero_le _, HBIG.out, by decide, HBY.out⟩
  have hmv := K4.moved (m' := 1) HZ.out
  have e1 : (((1 : Nat) : Int)) = 1 := rfl
  have e2 : (((131072 : Nat) : Int)) = 131072 := rfl
  rw [e1, e2] at hmv
  have K5 := Aside0.mk hmv.1
  have B5 := Aside0.mk (B4.out.trans hmv.2.1)
  have O5 := Aside0.mk (show Rt 58 bo zero_st (w4.setRow g [Value.slice (some ad) n c, .int .i64 1, .int .i64 131072].toArray) from (setRow_other _ _ _ _ (by have := HORD.out; omega)).trans O4.out)
  have E5 := Aside0.mk (show Rt 22 be [.int .i64 0] (w4.setRow g [Value.slice (some ad) n c, .int .i64 1, .int .i64 131072].toArray) from (setRow_other _ _ _ _ (by have := HORD.out; omega)).trans E4.out)
  have A5 := Aside0.mk (show Rt 3 ba [.int .i64 0] (w4.setRow g [Value.slice (some ad) n c, .int .i64 1, .int .i64 131072].toArray) from (setRow_other _ _ _ _ (by have := HORD.out; omega)).trans A4.out)
  have S5 := Aside0.mk (show bo + 4 ≤ (w4.setRow g [Value.slice (some ad) n c, .int .i64 1, .int .i64 131072].toArray).heap.size by rw [setRow_size]; have := HORD.out; omega)
  clear hmv K4 hl1 e1 e2 hg1 fg1 k0 k1 d1 d2 d3 d4 i0
  generalize w4.setRow g [Value.slice (some ad) n c, .int .i64 1, .int .i64 131072].toArray = w5 at *
  have HW := Aside0.mk (show whole 84 131072 xs (pSt xs 131072) = (pSt xs 131072 1).bind fun x n => if n < xs.length then .fail 4 (n : Int) else .ok x n by
    unfold whole
    rw [HLEN.out, if_neg HL.out, if_neg (by have := HZ.out; omega), HX.out, if_neg (by decide)])
  go_wp2_with fail
  go_at_call 90
  refine (r_state K5.out).mono ?_
  rintro e w6 ⟨hb, hp, ho⟩
  have O6 := Aside0.mk (show Rt 58 bo zero_st w6 from (hp.2 bo O5.out.lt (by have := HORD.out; show bo ≠ g; omega)).trans O5.out)
  have E6 := Aside0.mk (show Rt 22 be [.int .i64 0] w6 from (hp.2 be E5.out.lt (by have := HORD.out; show be ≠ g; omega)).trans E5.out)
  have A6 := Aside0.mk (show Rt 3 ba [.int .i64 0] w6 from (hp.2 ba A5.out.lt (by have := HORD.out; show ba ≠ g; omega)).trans A5.out)
  have B6 := Aside0.mk (B5.out.trans hb)
  rcases hq : pSt xs 131072 1 with ⟨x, m2⟩ | ⟨er, p⟩
  rotate_left
  · rw [hq] at ho
    have ho : e = gaveUp er p := ho
    subst ho
    have HR := Aside0.mk (show whole 84 131072 xs (pSt xs 131072) = Res.fail er p by rw [HW.out, hq]; rfl)
    clear hb hp hq
    simp only [gaveUp]
    refine leaves_cons (f := 128) (args := #[ptr bo, ptr be, ptr ba]) (by simp) (by simp [go_sem]) ?_
    refine (HFAULT.out er p w6 O6.out E6.out A6.out B6.out).mono ?_
    rintro e u' w' ⟨rfl, rfl, ho, he, ha, hb⟩
    have x0 := ho.cell 0 _ rfl
    have x1 := ho.cell 1 _ rfl
    have x2 := ho.cell 2 _ rfl
    have x3 := ho.cell 3 _ rfl
    have x4 := ho.cell 4 _ rfl
    have x5 := ho.cell 5 _ rfl
    have y0 := he.cell 0 _ rfl
    have z0 := ha.cell 0 _ rfl
    rw [HR.out]
    simp [Leaves, settle, results, Try.results89, go_sem, x0, x1, x2, x3, x4, x5, x5, y0, z0]
    exact ⟨by rw [HBO.out]; exact hb, _, ⟨rfl, rfl, rfl⟩, rfl⟩
  rw [hq] at ho
  obtain ⟨v, he, ⟨Al, nl, cl, Ah, nh, ch, Ad, nd, cd, hv, hl, hh, hd⟩, hk⟩ : ∃ v, e = .returned v ∧ memSt w5.heap.size x v w6 ∧ CrAt g bo (some ad) n c xs m2 131072 w6 := ho
  subst he hv
  have K6 := Aside0.mk hk
  have Ll_6 := Aside0.mk (LL_alive.lower hl S5.out)
  have Lh_6 := Aside0.mk (LH_alive.lower hh S5.out)
  have Ld_6 := Aside0.mk (LD_alive.lower hd S5.out)
  have HQ := Aside0.mk hq
  clear hb hp hq hl hh hd hk
  try clear ho
  go_upto_region 11 with fail
  have hb7 : Below w6.heap.size w6 (w6.alloc (.cells #[.int .i64 x.f0, .int .i64 x.f1, .int .i64 x.f2, .slice Al nl cl, .slice Ah nh ch, .slice Ad nd cd] 58)) := below_alloc (Below.refl _ _) _
  have r7 : Rt 58 w6.heap.size [.int .i64 x.f0, .int .i64 x.f1, .int .i64 x.f2, .slice Al nl cl, .slice Ah nh ch, .slice Ad nd cd] (w6.alloc (.cells #[.int .i64 x.f0, .int .i64 x.f1, .int .i64 x.f2, .slice Al nl cl, .slice Ah nh ch, .slice Ad nd cd] 58)) := heap_alloc_new w6 _
  obtain ⟨bx, hbx⟩ : ∃ bx, w6.heap.size = bx := ⟨_, rfl⟩
  have O7 := Aside0.mk (O6.out.below hb7)
  have E7 := Aside0.mk (E6.out.below hb7)
  have A7 := Aside0.mk (A6.out.below hb7)
  have K7 := Aside0.mk (K6.out.below hb7)
  have Ll_7 := Aside0.mk (LL_alive.below Ll_6.out hb7)
  have Lh_7 := Aside0.mk (LH_alive.below Lh_6.out hb7)
  have Ld_7 := Aside0.mk (LD_alive.below Ld_6.out hb7)
  have B7 := Aside0.mk (B6.out.trans (hb7.mono (by have := B6.out.size; have := HBO.out; omega)))
  have B7' := B7.out
  rw [hbx] at r7 ⊢
  have R7 := Aside0.mk r7
  clear hb7 r7 hbx B7'
  generalize w6.alloc (.cells #[.int .i64 x.f0, .int .i64 x.f1, .int .i64 x.f2, .slice Al nl cl, .slice Ah nh ch, .slice Ad nd cd] 58) = w7 at *
  have hm7 := K7.out.row.cell 1 _ rfl
  by_cases ht : m2 < n
  · have d1 : decide ((m2 : Int) < (n : Int)) = true := decide_eq_true (by omega)
    have d2 : decide (m2 < n) = true := decide_eq_true ht
    have HR := Aside0.mk (show whole 84 131072 xs (pSt xs 131072) = Res.fail 4 (m2 : Int) by
      rw [HW.out, HQ.out]
      show (if m2 < xs.length then Res.fail 4 (m2 : Int) else Res.ok x m2) = _
      rw [HLEN.out, if_pos ht])
    clear ht
    go_wp2_with fail
    refine leaves_cons (f := 128) (args := #[ptr bo, ptr be, ptr ba]) (by simp) (by simp [go_sem]) ?_
    refine (HFAULT.out 4 (m2 : Int) w7 O7.out E7.out A7.out B7.out).mono ?_
    rintro e u' w' ⟨rfl, rfl, ho, he, ha, hb⟩
    have x0 := ho.cell 0 _ rfl
    have x1 := ho.cell 1 _ rfl
    have x2 := ho.cell 2 _ rfl
    have x3 := ho.cell 3 _ rfl
    have x4 := ho.cell 4 _ rfl
    have x5 := ho.cell 5 _ rfl
    have y0 := he.cell 0 _ rfl
    have z0 := ha.cell 0 _ rfl
    rw [HR.out]
    simp [Leaves, settle, results, Try.results89, go_sem, x0, x1, x2, x3, x4, x5, x5, y0, z0]
    exact ⟨by rw [HBO.out]; exact hb, _, ⟨rfl, rfl, rfl⟩, rfl⟩
  have d1 : decide ((m2 : Int) < (n : Int)) = false := decide_eq_false (by omega)
  have d2 : decide (m2 < n) = false := decide_eq_false ht
  have HR := Aside0.mk (show whole 84 131072 xs (pSt xs 131072) = Res.ok x m2 by
    rw [HW.out, HQ.out]
    show (if m2 < xs.length then Res.fail 4 (m2 : Int) else Res.ok x m2) = _
    rw [HLEN.out, if_neg ht])
  clear ht
  have c0 := R7.out.cell 0 _ rfl
  have c1 := R7.out.cell 1 _ rfl
  have c2 := R7.out.cell 2 _ rfl
  have c3 := R7.out.cell 3 _ rfl
  have c4 := R7.out.cell 4 _ rfl
  have c5 := R7.out.cell 5 _ rfl
  have z0 := O7.out.cell 0 _ rfl
  have z1 := O7.out.cell 1 _ rfl
  have z2 := O7.out.cell 2 _ rfl
  have z3 := O7.out.cell 3 _ rfl
  have z4 := O7.out.cell 4 _ rfl
  have z5 := O7.out.cell 5 _ rfl
  have f0 := O7.out.free 0
  have f1 := O7.out.free 1
  have f2 := O7.out.free 2
  have f3 := O7.out.free 3
  have f4 := O7.out.free 4
  have f5 := O7.out.free 5
  have y0 := E7.out.cell 0 _ rfl
  have y1 := E7.out.free 0
  have a0 := A7.out.cell 0 _ rfl
  have a1 := A7.out.free 0
  have hne1 : be ≠ bo := by have := HORD.out; omega
  have hne2 : ba ≠ bo := by have := HORD.out; omega
  have hne3 : ba ≠ be := by have := HORD.out; omega
  go_wp2_with fail
  clear c0 c1 c2 c3 c4 c5 z0 z1 z2 z3 z4 z5 f0 f1 f2 f3 f4 f5 y0 y1 a0 a1 d1 d2 hm7
  have q := O7.out.set 0 (.int .i64 x.f0)
  rw [show ([Value.int .i64 0, .int .i64 0, .int .i64 0, .slice none 0 0, .slice none 0 0, .slice none 0 0]).set 0 (.int .i64 x.f0) = [Value.int .i64 x.f0, .int .i64 0, .int .i64 0, .slice none 0 0, .slice none 0 0, .slice none 0 0] from rfl] at q
  rw [q]
  have O8 := Aside0.mk (show Rt 58 bo [Value.int .i64 x.f0, .int .i64 0, .int .i64 0, .slice none 0 0, .slice none 0 0, .slice none 0 0] (w7.setRow bo ([Value.int .i64 x.f0, .int .i64 0, .int .i64 0, .slice none 0 0, .slice none 0 0, .slice none 0 0]).toArray) from O7.out.row _)
  have E8 := Aside0.mk (show Rt 22 be [.int .i64 0] (w7.setRow bo ([Value.int .i64 x.f0, .int .i64 0, .int .i64 0, .slice none 0 0, .slice none 0 0, .slice none 0 0]).toArray) from (setRow_other _ _ _ _ hne1).trans E7.out)
  have A8 := Aside0.mk (show Rt 3 ba [.int .i64 0] (w7.setRow bo ([Value.int .i64 x.f0, .int .i64 0, .int .i64 0, .slice none 0 0, .slice none 0 0, .slice none 0 0]).toArray) from (setRow_other _ _ _ _ hne2).trans A7.out)
  have Ll_8 := Aside0.mk (LL_alive.row Ll_7.out (show bo < bo + 4 by omega) ([Value.int .i64 x.f0, .int .i64 0, .int .i64 0, .slice none 0 0, .slice none 0 0, .slice none 0 0]).toArray)
  have Lh_8 := Aside0.mk (LH_alive.row Lh_7.out (show bo < bo + 4 by omega) ([Value.int .i64 x.f0, .int .i64 0, .int .i64 0, .slice none 0 0, .slice none 0 0, .slice none 0 0]).toArray)
  have Ld_8 := Aside0.mk (LD_alive.row Ld_7.out (show bo < bo + 4 by omega) ([Value.int .i64 x.f0, .int .i64 0, .int .i64 0, .slice none 0 0, .slice none 0 0, .slice none 0 0]).toArray)
  have B8 := Aside0.mk (show Below bo W (w7.setRow bo ([Value.int .i64 x.f0, .int .i64 0, .int .i64 0, .slice none 0 0, .slice none 0 0, .slice none 0 0]).toArray) from below_setRow' B7.out (Nat.le_refl _) _)
  clear q
  generalize w7.setRow bo ([Value.int .i64 x.f0, .int .i64 0, .int .i64 0, .slice none 0 0, .slice none 0 0, .slice none 0 0]).toArray = w8 at *
  have q := O8.out.set 1 (.int .i64 x.f1)
  rw [show ([Value.int .i64 x.f0, .int .i64 0, .int .i64 0, .slice none 0 0, .slice none 0 0, .slice none 0 0]).set 1 (.int .i64 x.f1) = [Value.int .i64 x.f0, .int .i64 x.f1, .int .i64 0, .slice none 0 0, .slice none 0 0, .slice none 0 0] from rfl] at q
  rw [q]
  have O9 := Aside0.mk (show Rt 58 bo [Value.int .i64 x.f0, .int .i64 x.f1, .int .i64 0, .slice none 0 0, .slice none 0 0, .slice none 0 0] (w8.setRow bo ([Value.int .i64 x.f0, .int .i64 x.f1, .int .i64 0, .slice none 0 0, .slice none 0 0, .slice none 0 0]).toArray) from O8.out.row _)
  have E9 := Aside0.mk (show Rt 22 be [.int .i64 0] (w8.setRow bo ([Value.int .i64 x.f0, .int .i64 x.f1, .int .i64 0, .slice none 0 0, .slice none 0 0, .slice none 0 0]).toArray) from (setRow_other _ _ _ _ hne1).trans E8.out)
  have A9 := Aside0.mk (show Rt 3 ba [.int .i64 0] (w8.setRow bo ([Value.int .i64 x.f0, .int .i64 x.f1, .int .i64 0, .slice none 0 0, .slice none 0 0, .slice none 0 0]).toArray) from (setRow_other _ _ _ _ hne2).trans A8.out)
  have Ll_9 := Aside0.mk (LL_alive.row Ll_8.out (show bo < bo + 4 by omega) ([Value.int .i64 x.f0, .int .i64 x.f1, .int .i64 0, .slice none 0 0, .slice none 0 0, .slice none 0 0]).toArray)
  have Lh_9 := Aside0.mk (LH_alive.row Lh_8.out (show bo < bo + 4 by omega) ([Value.int .i64 x.f0, .int .i64 x.f1, .int .i64 0, .slice none 0 0, .slice none 0 0, .slice none 0 0]).toArray)
  have Ld_9 := Aside0.mk (LD_alive.row Ld_8.out (show bo < bo + 4 by omega) ([Value.int .i64 x.f0, .int .i64 x.f1, .int .i64 0, .slice none 0 0, .slice none 0 0, .slice none 0 0]).toArray)
  have B9 := Aside0.mk (show Below bo W (w8.setRow bo ([Value.int .i64 x.f0, .int .i64 x.f1, .int .i64 0, .slice none 0 0, .slice none 0 0, .slice none 0 0]).toArray) from below_setRow' B8.out (Nat.le_refl _) _)
  clear q
  generalize w8.setRow bo ([Value.int .i64 x.f0, .int .i64 x.f1, .int .i64 0, .slice none 0 0, .slice none 0 0, .slice none 0 0]).toArray = w9 at *
  have q := O9.out.set 2 (.int .i64 x.f2)
  rw [show ([Value.int .i64 x.f0, .int .i64 x.f1, .int .i64 0, .slice none 0 0, .slice none 0 0, .slice none 0 0]).set 2 (.int .i64 x.f2) = [Value.int .i64 x.f0, .int .i64 x.f1, .int .i64 x.f2, .slice none 0 0, .slice none 0 0, .slice none 0 0] from rfl] at q
  rw [q]
  have O10 := Aside0.mk (show Rt 58 bo [Value.int .i64 x.f0, .int .i64 x.f1, .int .i64 x.f2, .slice none 0 0, .slice none 0 0, .slice none 0 0] (w9.setRow bo ([Value.int .i64 x.f0, .int .i64 x.f1, .int .i64 x.f2, .slice none 0 0, .slice none 0 0, .slice none 0 0]).toArray) from O9.out.row _)
  have E10 := Aside0.mk (show Rt 22 be [.int .i64 0] (w9.setRow bo ([Value.int .i64 x.f0, .int .i64 x.f1, .int .i64 x.f2, .slice none 0 0, .slice none 0 0, .slice none 0 0]).toArray) from (setRow_other _ _ _ _ hne1).trans E9.out)
  have A10 := Aside0.mk (show Rt 3 ba [.int .i64 0] (w9.setRow bo ([Value.int .i64 x.f0, .int .i64 x.f1, .int .i64 x.f2, .slice none 0 0, .slice none 0 0, .slice none 0 0]).toArray) from (setRow_other _ _ _ _ hne2).trans A9.out)
  have Ll_10 := Aside0.mk (LL_alive.row Ll_9.out (show bo < bo + 4 by omega) ([Value.int .i64 x.f0, .int .i64 x.f1, .int .i64 x.f2, .slice none 0 0, .slice none 0 0, .slice none 0 0]).toArray)
  have Lh_10 := Aside0.mk (LH_alive.row Lh_9.out (show bo < bo + 4 by omega) ([Value.int .i64 x.f0, .int .i64 x.f1, .int .i64 x.f2, .slice none 0 0, .slice none 0 0, .slice none 0 0]).toArray)
  have Ld_10 := Aside0.mk (LD_alive.row Ld_9.out (show bo < bo + 4 by omega) ([Value.int .i64 x.f0, .int .i64 x.f1, .int .i64 x.f2, .slice none 0 0, .slice none 0 0, .slice none 0 0]).toArray)
  have B10 := Aside0.mk (show Below bo W (w9.setRow bo ([Value.int .i64 x.f0, .int .i64 x.f1, .int .i64 x.f2, .slice none 0 0, .slice none 0 0, .slice none 0 0]).toArray) from below_setRow' B9.out (Nat.le_refl _) _)
  clear q
  generalize w9.setRow bo ([Value.int .i64 x.f0, .int .i64 x.f1, .int .i64 x.f2, .slice none 0 0, .slice none 0 0, .slice none 0 0]).toArray = w10 at *
  have q := O10.out.set 3 (.slice Al nl cl)
  rw [show ([Value.int .i64 x.f0, .int .i64 x.f1, .int .i64 x.f2, .slice none 0 0, .slice none 0 0, .slice none 0 0]).set 3 (.slice Al nl cl) = [Value.int .i64 x.f0, .int .i64 x.f1, .int .i64 x.f2, .slice Al nl cl, .slice none 0 0, .slice none 0 0] from rfl] at q
  rw [q]
  have O11 := Aside0.mk (show Rt 58 bo [Value.int .i64 x.f0, .int .i64 x.f1, .int .i64 x.f2, .slice Al nl cl, .slice none 0 0, .slice none 0 0] (w10.setRow bo ([Value.int .i64 x.f0, .int .i64 x.f1, .int .i64 x.f2, .slice Al nl cl, .slice none 0 0, .slice none 0 0]).toArray) from O10.out.row _)
  have E11 := Aside0.mk (show Rt 22 be [.int .i64 0] (w10.setRow bo ([Value.int .i64 x.f0, .int .i64 x.f1, .int .i64 x.f2, .slice Al nl cl, .slice none 0 0, .slice none 0 0]).toArray) from (setRow_other _ _ _ _ hne1).trans E10.out)
  have A11 := Aside0.mk (show Rt 3 ba [.int .i64 0] (w10.setRow bo ([Value.int .i64 x.f0, .int .i64 x.f1, .int .i64 x.f2, .slice Al nl cl, .slice none 0 0, .slice none 0 0]).toArray) from (setRow_other _ _ _ _ hne2).trans A10.out)
  have Ll_11 := Aside0.mk (LL_alive.row Ll_10.out (show bo < bo + 4 by omega) ([Value.int .i64 x.f0, .int .i64 x.f1, .int .i64 x.f2, .slice Al nl cl, .slice none 0 0, .slice none 0 0]).toArray)
  have Lh_11 := Aside0.mk (LH_alive.row Lh_10.out (show bo < bo + 4 by omega) ([Value.int .i64 x.f0, .int .i64 x.f1, .int .i64 x.f2, .slice Al nl cl, .slice none 0 0, .slice none 0 0]).toArray)
  have Ld_11 := Aside0.mk (LD_alive.row Ld_10.out (show bo < bo + 4 by omega) ([Value.int .i64 x.f0, .int .i64 x.f1, .int .i64 x.f2, .slice Al nl cl, .slice none 0 0, .slice none 0 0]).toArray)
  have B11 := Aside0.mk (show Below bo W (w10.setRow bo ([Value.int .i64 x.f0, .int .i64 x.f1, .int .i64 x.f2, .slice Al nl cl, .slice none 0 0, .slice none 0 0]).toArray) from below_setRow' B10.out (Nat.le_refl _) _)
  clear q
  generalize w10.setRow bo ([Value.int .i64 x.f0, .int .i64 x.f1, .int .i64 x.f2, .slice Al nl cl, .slice none 0 0, .slice none 0 0]).toArray = w11 at *
  have q := O11.out.set 4 (.slice Ah nh ch)
  rw [show ([Value.int .i64 x.f0, .int .i64 x.f1, .int .i64 x.f2, .slice Al nl cl, .slice none 0 0, .slice none 0 0]).set 4 (.slice Ah nh ch) = [Value.int .i64 x.f0, .int .i64 x.f1, .int .i64 x.f2, .slice Al nl cl, .slice Ah nh ch, .slice none 0 0] from rfl] at q
  rw [q]
  have O12 := Aside0.mk (show Rt 58 bo [Value.int .i64 x.f0, .int .i64 x.f1, .int .i64 x.f2, .slice Al nl cl, .slice Ah nh ch, .slice none 0 0] (w11.setRow bo ([Value.int .i64 x.f0, .int .i64 x.f1, .int .i64 x.f2, .slice Al nl cl, .slice Ah nh ch, .slice none 0 0]).toArray) from O11.out.row _)
  have E12 := Aside0.mk (show Rt 22 be [.int .i64 0] (w11.setRow bo ([Value.int .i64 x.f0, .int .i64 x.f1, .int .i64 x.f2, .slice Al nl cl, .slice Ah nh ch, .slice none 0 0]).toArray) from (setRow_other _ _ _ _ hne1).trans E11.out)
  have A12 := Aside0.mk (show Rt 3 ba [.int .i64 0] (w11.setRow bo ([Value.int .i64 x.f0, .int .i64 x.f1, .int .i64 x.f2, .slice Al nl cl, .slice Ah nh ch, .slice none 0 0]).toArray) from (setRow_other _ _ _ _ hne2).trans A11.out)
  have Ll_12 := Aside0.mk (LL_alive.row Ll_11.out (show bo < bo + 4 by omega) ([Value.int .i64 x.f0, .int .i64 x.f1, .int .i64 x.f2, .slice Al nl cl, .slice Ah nh ch, .slice none 0 0]).toArray)
  have Lh_12 := Aside0.mk (LH_alive.row Lh_11.out (show bo < bo + 4 by omega) ([Value.int .i64 x.f0, .int .i64 x.f1, .int .i64 x.f2, .slice Al nl cl, .slice Ah nh ch, .slice none 0 0]).toArray)
  have Ld_12 := Aside0.mk (LD_alive.row Ld_11.out (show bo < bo + 4 by omega) ([Value.int .i64 x.f0, .int .i64 x.f1, .int .i64 x.f2, .slice Al nl cl, .slice Ah nh ch, .slice none 0 0]).toArray)
  have B12 := Aside0.mk (show Below bo W (w11.setRow bo ([Value.int .i64 x.f0, .int .i64 x.f1, .int .i64 x.f2, .slice Al nl cl, .slice Ah nh ch, .slice none 0 0]).toArray) from below_setRow' B11.out (Nat.le_refl _) _)
  clear q
  generalize w11.setRow bo ([Value.int .i64 x.f0, .int .i64 x.f1, .int .i64 x.f2, .slice Al nl cl, .slice Ah nh ch, .slice none 0 0]).toArray = w12 at *
  have q := O12.out.set 5 (.slice Ad nd cd)
  rw [show ([Value.int .i64 x.f0, .int .i64 x.f1, .int .i64 x.f2, .slice Al nl cl, .slice Ah nh ch, .slice none 0 0]).set 5 (.slice Ad nd cd) = [Value.int .i64 x.f0, .int .i64 x.f1, .int .i64 x.f2, .slice Al nl cl, .slice Ah nh ch, .slice Ad nd cd] from rfl] at q
  rw [q]
  have O13 := Aside0.mk (show Rt 58 bo [Value.int .i64 x.f0, .int .i64 x.f1, .int .i64 x.f2, .slice Al nl cl, .slice Ah nh ch, .slice Ad nd cd] (w12.setRow bo ([Value.int .i64 x.f0, .int .i64 x.f1, .int .i64 x.f2, .slice Al nl cl, .slice Ah nh ch, .slice Ad nd cd]).toArray) from O12.out.row _)
  have E13 := Aside0.mk (show Rt 22 be [.int .i64 0] (w12.setRow bo ([Value.int .i64 x.f0, .int .i64 x.f1, .int .i64 x.f2, .slice Al nl cl, .slice Ah nh ch, .slice Ad nd cd]).toArray) from (setRow_other _ _ _ _ hne1).trans E12.out)
  have A13 := Aside0.mk (show Rt 3 ba [.int .i64 0] (w12.setRow bo ([Value.int .i64 x.f0, .int .i64 x.f1, .int .i64 x.f2, .slice Al nl cl, .slice Ah nh ch, .slice Ad nd cd]).toArray) from (setRow_other _ _ _ _ hne2).trans A12.out)
  have Ll_13 := Aside0.mk (LL_alive.row Ll_12.out (show bo < bo + 4 by omega) ([Value.int .i64 x.f0, .int .i64 x.f1, .int .i64 x.f2, .slice Al nl cl, .slice Ah nh ch, .slice Ad nd cd]).toArray)
  have Lh_13 := Aside0.mk (LH_alive.row Lh_12.out (show bo < bo + 4 by omega) ([Value.int .i64 x.f0, .int .i64 x.f1, .int .i64 x.f2, .slice Al nl cl, .slice Ah nh ch, .slice Ad nd cd]).toArray)
  have Ld_13 := Aside0.mk (LD_alive.row Ld_12.out (show bo < bo + 4 by omega) ([Value.int .i64 x.f0, .int .i64 x.f1, .int .i64 x.f2, .slice Al nl cl, .slice Ah nh ch, .slice Ad nd cd]).toArray)
  have B13 := Aside0.mk (show Below bo W (w12.setRow bo ([Value.int .i64 x.f0, .int .i64 x.f1, .int .i64 x.f2, .slice Al nl cl, .slice Ah nh ch, .slice Ad nd cd]).toArray) from below_setRow' B12.out (Nat.le_refl _) _)
  clear q
  generalize w12.setRow bo ([Value.int .i64 x.f0, .int .i64 x.f1, .int .i64 x.f2, .slice Al nl cl, .slice Ah nh ch, .slice Ad nd cd]).toArray = w13 at *
  rw [E13.out.same 0 _ rfl, A13.out.same 0 _ rfl]
  refine leaves_cons (f := 128) (args := #[ptr bo, ptr be, ptr ba]) (by simp) (by simp [go_sem]) ?_
  refine (idle_st (bo := bo) (be := be) (ba := ba) w13).mono ?_
  rintro e u' w' ⟨rfl, rfl, hb⟩
  have ho := O13.out.below hb
  have he := E13.out.below hb
  have ha := A13.out.below hb
  have hl := LL_alive.below Ll_13.out hb
  have hh := LH_alive.below Lh_13.out hb
  have hd := LD_alive.below Ld_13.out hb
  have x0 := ho.cell 0 _ rfl
  have x1 := ho.cell 1 _ rfl
  have x2 := ho.cell 2 _ rfl
  have x3 := ho.cell 3 _ rfl
  have x4 := ho.cell 4 _ rfl
  have x5 := ho.cell 5 _ rfl
  have y0 := he.cell 0 _ rfl
  have z0 := ha.cell 0 _ rfl
  rw [HR.out]
  simp [Leaves, settle, results, Try.results89, go_sem, x0, x1, x2, x3, x4, x5, y0, z0]
  refine ⟨by rw [HBO.out]; exact B13.out.trans (hb.mono (by have := B13.out.size; have := HBO.out; omega)), _, ⟨rfl, rfl, rfl⟩, Al, nl, cl, Ah, nh, ch, Ad, nd, cd, rfl, LL_alive.lower hl (by have := HBO.out; omega), LH_alive.lower hh (by have := HBO.out; omega), LD_alive.lower hd (by have := HBO.out; omega)⟩
end Go.Proofs.Ytafmoglaockepaa.Cd
end
section
namespace Go.Proofs.Ytafmoglaockepaa.Cd
open Go Go.RowKit Go.Proofs.Ytafmoglaockepaa.Num Go.Proofs.Ytafmoglaockepaa.PG Go.Proofs.YtafmoglaockepaaW.PrintWords Go.Proofs.YtafmoglaockepaaW.PrintLast Go.Proofs.YtafmoglaockepaaW.PrintMore
set_option linter.unusedVariables false
set_option linter.unusedSimpArgs false
set_option maxHeartbeats 4000000
set_option maxRecDepth 100000
def zeroD_st : StD := ⟨0, 0, 0, [], [], []⟩
theorem enc_out_st {S0 : Nat} {r : Res StD} {v : Value} {w : World} (h : RdOut memSt zero_st S0 r v w) : memSt S0 (outOr zeroD_st r) v w := by
  cases r with
  | ok x n => exact h
  | fail e p =>
    have h : v = .agg zero_st.toArray := h
    subst h
    exact ⟨none, 0, 0, none, 0, 0, none, 0, 0, rfl, Kd.R_nil _ _ _ _ _, Kd.R_nil _ _ _ _ _, Kd.R_nil _ _ _ _ _⟩
theorem Rt.full_st {t b : Nat} {z0 z1 z2 z3 z4 z5 : Value} {W : World} (h : Rt t b [z0, z1, z2, z3, z4, z5] W) (a0 a1 a2 a3 a4 a5 : Value) :
    ((((((W.setCell ⟨b, 0, none⟩ a0).setCell ⟨b, 1, none⟩ a1).setCell ⟨b, 2, none⟩ a2).setCell ⟨b, 3, none⟩ a3).setCell ⟨b, 4, none⟩ a4).setCell ⟨b, 5, none⟩ a5) = W.setRow b [a0, a1, a2, a3, a4, a5].toArray := by
  rw [h.set 0 a0]
  have h0 : Rt t b [a0, z1, z2, z3, z4, z5] (W.setRow b ([z0, z1, z2, z3, z4, z5].set 0 a0).toArray) := h.row _
  rw [h0.set 1 a1, setRow_again]
  have h1 : Rt t b [a0, a1, z2, z3, z4, z5] (W.setRow b ([a0, z1, z2, z3, z4, z5].set 1 a1).toArray) := h.row _
  rw [h1.set 2 a2, setRow_again]
  have h2 : Rt t b [a0, a1, a2, z3, z4, z5] (W.setRow b ([a0, a1, z2, z3, z4, z5].set 2 a2).toArray) := h.row _
  rw [h2.set 3 a3, setRow_again]
  have h3 : Rt t b [a0, a1, a2, a3, z4, z5] (W.setRow b ([a0, a1, a2, z3, z4, z5].set 3 a3).toArray) := h.row _
  rw [h3.set 4 a4, setRow_again]
  have h4 : Rt t b [a0, a1, a2, a3, a4, z5] (W.setRow b ([a0, a1, a2, a3, z4, z5].set 4 a4).toArray) := h.row _
  rw [h4.set 5 a5, setRow_again]
  rfl
theorem State_at (A : Option Addr) (n c : Nat) (xs : List Int) (W : World) (hC : Kd.C (Kd.int .u8) W A n xs) (hnc : n ≤ c) (hb : IsBytes xs) (hbig : n < 1000000000) :
    Calls Try.prog 37 #[.slice A n c] W fun e w' => Below W.heap.size W w' ∧ ∃ v, e = .returned (.tuple #[v, .int .i64 (endOf (whole 84 131072 xs (pSt xs 131072))).1, .int .i64 (endOf (whole 84 131072 xs (pSt xs 131072))).2]) ∧ memSt W.heap.size (outOr zeroD_st (whole 84 131072 xs (pSt xs 131072))) v w' := by
  have hb1 : Below W.heap.size W (W.alloc (.cells #[.int .i64 0, .int .i64 0, .int .i64 0, .slice none 0 0, .slice none 0 0, .slice none 0 0] 58)) := below_alloc (Below.refl _ _) _
  have r1 : Rt 58 W.heap.size zero_st (W.alloc (.cells #[.int .i64 0, .int .i64 0, .int .i64 0, .slice none 0 0, .slice none 0 0, .slice none 0 0] 58)) := heap_alloc_new W _
  have hC1 := Kd.C_below hC hb1
  have HRD := Aside0.mk (read_state A n c xs (W.alloc (.cells #[.int .i64 0, .int .i64 0, .int .i64 0, .slice none 0 0, .slice none 0 0, .slice none 0 0] 58)) hC1 hnc hb hbig)
  generalize whole 84 131072 xs (pSt xs 131072) = rr at *
  have B1 := Aside0.mk hb1
  clear hC hC1 hnc hb hbig
  go_enter Try.func37, Try.ntmps37
  go_upto_region 1 with fail
  obtain ⟨b, hbe⟩ : ∃ b, W.heap.size = b := ⟨_, rfl⟩
  have HBE := Aside0.mk hbe
  rw [hbe] at r1 ⊢
  have R1 := Aside0.mk r1
  clear hb1 r1 hbe
  generalize W.alloc (.cells #[.int .i64 0, .int .i64 0, .int .i64 0, .slice none 0 0, .slice none 0 0, .slice none 0 0] 58) = w1 at *
  go_wp2_with fail
  go_at_call 89
  refine HRD.out.mono ?_
  rintro e w2 ⟨hb, v, rfl, ho⟩
  obtain ⟨Al, nl, cl, Ah, nh, ch, Ad, nd, cd, hv, hl, hh, hd⟩ := enc_out_st ho
  subst hv
  obtain ⟨x, hx⟩ : ∃ x, outOr zeroD_st rr = x := ⟨_, rfl⟩
  obtain ⟨ec, hec⟩ : ∃ ec, (endOf rr).1 = ec := ⟨_, rfl⟩
  obtain ⟨ep, hep⟩ : ∃ ep, (endOf rr).2 = ep := ⟨_, rfl⟩
  rw [hx] at hl hh hd ⊢
  rw [hec, hep]
  have HX := Aside0.mk (And.intro hx (And.intro hec hep))
  have R2 := Aside0.mk (R1.out.below hb)
  have Ll_2 := Aside0.mk (LL_alive.lower hl R1.out.lt)
  have Lh_2 := Aside0.mk (LH_alive.lower hh R1.out.lt)
  have Ld_2 := Aside0.mk (LD_alive.lower hd R1.out.lt)
  have B2 := Aside0.mk (show Below W.heap.size W w2 from B1.out.trans (hb.mono B1.out.size))
  clear hb ho hl hh hd HRD hx hec hep
  have z0 := R2.out.cell 0 _ rfl
  have f0 := R2.out.free 0
  have z1 := R2.out.cell 1 _ rfl
  have f1 := R2.out.free 1
  have z2 := R2.out.cell 2 _ rfl
  have f2 := R2.out.free 2
  have z3 := R2.out.cell 3 _ rfl
  have f3 := R2.out.free 3
  have z4 := R2.out.cell 4 _ rfl
  have f4 := R2.out.free 4
  have z5 := R2.out.cell 5 _ rfl
  have f5 := R2.out.free 5
  go_wp2_with fail
  rw [R2.out.full_st]
  have R3 : Rt 58 b [.int .i64 x.f0, .int .i64 x.f1, .int .i64 x.f2, .slice Al nl cl, .slice Ah nh ch, .slice Ad nd cd] (w2.setRow b [Value.int .i64 x.f0, .int .i64 x.f1, .int .i64 x.f2, .slice Al nl cl, .slice Ah nh ch, .slice Ad nd cd].toArray) := R2.out.row _
  have Ll_3 := LL_alive.row Ll_2.out (Nat.lt_succ_self b) [Value.int .i64 x.f0, .int .i64 x.f1, .int .i64 x.f2, .slice Al nl cl, .slice Ah nh ch, .slice Ad nd cd].toArray
  have Lh_3 := LH_alive.row Lh_2.out (Nat.lt_succ_self b) [Value.int .i64 x.f0, .int .i64 x.f1, .int .i64 x.f2, .slice Al nl cl, .slice Ah nh ch, .slice Ad nd cd].toArray
  have Ld_3 := LD_alive.row Ld_2.out (Nat.lt_succ_self b) [Value.int .i64 x.f0, .int .i64 x.f1, .int .i64 x.f2, .slice Al nl cl, .slice Ah nh ch, .slice Ad nd cd].toArray
  have B3 : Below W.heap.size W (w2.setRow b [Value.int .i64 x.f0, .int .i64 x.f1, .int .i64 x.f2, .slice Al nl cl, .slice Ah nh ch, .slice Ad nd cd].toArray) := below_setRow' B2.out (Nat.le_of_eq HBE.out) _
  clear z0 f0 z1 f1 z2 f2 z3 f3 z4 f4 z5 f5
  generalize w2.setRow b [Value.int .i64 x.f0, .int .i64 x.f1, .int .i64 x.f2, .slice Al nl cl, .slice Ah nh ch, .slice Ad nd cd].toArray = w3 at *
  have x0 := R3.cell 0 _ rfl
  have x1 := R3.cell 1 _ rfl
  have x2 := R3.cell 2 _ rfl
  have x3 := R3.cell 3 _ rfl
  have x4 := R3.cell 4 _ rfl
  have x5 := R3.cell 5 _ rfl
  refine ⟨rfl, ?_⟩
  simp [results, Try.results37, go_sem, x0, x1, x2, x3, x4, x5]
  refine ⟨B3, _, ⟨rfl, HX.out.2.1.symm, HX.out.2.2.symm⟩, ?_⟩
  rw [HX.out.1]
  exact ⟨Al, nl, cl, Ah, nh, ch, Ad, nd, cd, rfl, LL_alive.lower Ll_3 (by have := HBE.out; omega), LH_alive.lower Lh_3 (by have := HBE.out; omega), LD_alive.lower Ld_3 (by have := HBE.out; omega)⟩
end Go.Proofs.Ytafmoglaockepaa.Cd
end
section
namespace Go.Proofs.Ytafmoglaockepaa.Cd
open Go Go.RowKit Go.Proofs.Ytafmoglaockepaa.Num Go.Proofs.Ytafmoglaockepaa.PG Go.Proofs.YtafmoglaockepaaW.PrintWords Go.Proofs.YtafmoglaockepaaW.PrintLast Go.Proofs.YtafmoglaockepaaW.PrintMore
set_option linter.unusedVariables false
set_option linter.unusedSimpArgs false
variable {xs : List Int} {most : Nat}
theorem pRec_enc (hm : most < 18446744073709551616) (x : RecD) (hf : ReqFit most x.f1) (h0 : Int64 x.f0) (ho : ReqOk x.f1) (n : Nat) (t : List Int) (h : xs.drop n = encC x ++ t) : pRec xs most n = .ok x (n + (encC x).length) := by
  unfold encC at h ⊢
  rw [List.append_assoc] at h
  unfold pRec
  rw [pI_enc xs n x.f0 _ h h0]
  simp only [Res.bind]
  rw [pReq_enc hm x.f1 hf ho _ t (drop_next h)]
  simp only [List.length_append, Nat.add_assoc]
def HeldFit (most : Nat) (x : S121) : Prop := x.f0.size ≤ most ∧ LinFit most x.f1
theorem pHeld_enc (hm : most < 18446744073709551616) (x : S121) (hf : HeldFit most x) (ho : HeldOk x) (n : Nat) (t : List Int) (h : xs.drop n = encH x ++ t) : pHeld xs most n = .ok x (n + (encH x).length) := by
  unfold encH at h ⊢
  rw [List.append_assoc, List.append_assoc] at h
  have h1 := drop_next h
  have h2 := drop_next h1
  unfold pHeld
  rw [pT_enc xs most n x.f0 _ h hf.1 hm]
  simp only [Res.bind]
  rw [pLines_enc hm x.f1 hf.2 ho.1 _ _ h1]
  simp only [Res.bind]
  rw [pI_enc xs _ x.f2 t h2 ho.2]
  simp only [List.length_append, Nat.add_assoc]
theorem pDone_enc (hm : most < 18446744073709551616) (x : S123) (hf : ReqFit most x.f0) (ho : DoneOk x) (n : Nat) (t : List Int) (h : xs.drop n = encD x ++ t) : pDone xs most n = .ok x (n + (encD x).length) := by
  unfold encD at h ⊢
  rw [List.append_assoc] at h
  unfold pDone
  rw [pReq_enc hm x.f0 hf ho.1 n _ h]
  simp only [Res.bind]
  rw [pI_enc xs _ x.f1 t (drop_next h) ho.2]
  simp only [List.length_append, Nat.add_assoc]
def LevFit (most : Nat) (l : List S28) : Prop := l.length ≤ most ∧ ∀ x ∈ l, x.f0.size ≤ most
theorem pLevels_enc (hm : most < 18446744073709551616) (l : List S28) (hf : LevFit most l) (ho : LevOk l) (n : Nat) (t : List Int) (h : xs.drop n = (encU l.length ++ encLs l) ++ t) : pList xs most (pLevel xs most) n = .ok l (n + (encU l.length ++ encLs l).length) := by
  rw [List.append_assoc] at h
  rw [pList_enc (encE := encL) l n t (fun x hx n t h => pLevel_enc hm x (hf.2 x hx) (ho x hx) n t h) hf.1 hm h, List.length_append, Nat.add_assoc]
  rfl
theorem pReply_enc (hm : most < 18446744073709551616) (x : RepD) (f0 : x.id.size ≤ most) (f3 : LevFit most x.levs) (h1 : Int64 x.er) (h2 : Int64 x.line) (h4 : Int64 x.now) (ho : LevOk x.levs) (n : Nat) (t : List Int) (h : xs.drop n = encReply x.id x.er x.line x.levs x.now ++ t) : pReply xs most n = .ok x (n + (encReply x.id x.er x.line x.levs x.now).length) := by
  unfold encReply at h ⊢
  simp only [List.append_assoc] at h
  have g1 := drop_next h
  have g2 := drop_next g1
  have g3 := drop_next g2
  rw [← List.append_assoc (encU x.levs.length)] at g3
  have g4 := drop_next g3
  unfold pReply
  rw [pT_enc xs most n x.id _ h f0 hm]
  simp only [Res.bind]
  rw [pI_enc xs _ x.er _ g1 h1]
  simp only [Res.bind]
  rw [pI_enc xs _ x.line _ g2 h2]
  simp only [Res.bind]
  rw [pLevels_enc hm x.levs f3 ho _ _ g3]
  simp only [Res.bind]
  rw [pI_enc xs _ x.now t g4 h4]
  simp only [List.length_append, Nat.add_assoc]
def StFit (most : Nat) (x : StD) : Prop := LevFit most x.f3 ∧ (x.f4.length ≤ most ∧ ∀ y ∈ x.f4, HeldFit most y) ∧ (x.f5.length ≤ most ∧ ∀ y ∈ x.f5, ReqFit most y.f0)
theorem pSt_enc (hm : most < 18446744073709551616) (x : StD) (hf : StFit most x) (h0 : Int64 x.f0) (h1 : Int64 x.f1) (h2 : Int64 x.f2) (h3 : LevOk x.f3) (h4 : HeldsOk x.f4) (h5 : DonesOk x.f5) (n : Nat) (t : List Int) (h : xs.drop n = encS x ++ t) : pSt xs most n = .ok x (n + (encS x).length) := by
  obtain ⟨f3, f4, f5⟩ := hf
  unfold encS at h ⊢
  simp only [List.append_assoc] at h
  have g1 := drop_next h
  have g2 := drop_next g1
  have g3 := drop_next g2
  rw [← List.append_assoc (encU x.f3.length)] at g3
  have g4 := drop_next g3
  rw [← List.append_assoc (encU x.f4.length)] at g4
  have g5 := drop_next g4
  have e4 : pList xs most (pHeld xs most) _ = _ := pList_enc (encE := encH) x.f4 _ _ (fun y hy n t h => pHeld_enc hm y (f4.2 y hy) (h4 y hy) n t h) f4.1 hm (by rw [List.append_assoc] at g4; exact g4)
  have e5 : pList xs most (pDone xs most) _ = _ := pList_enc (encE := encD) x.f5 _ _ (fun y hy n t h => pDone_enc hm y (f5.2 y hy) (h5 y hy) n t h) f5.1 hm g5
  unfold pSt
  rw [pI_enc xs n x.f0 _ h h0]
  simp only [Res.bind]
  rw [pI_enc xs _ x.f1 _ g1 h1]
  simp only [Res.bind]
  rw [pI_enc xs _ x.f2 _ g2 h2]
  simp only [Res.bind]
  rw [pLevels_enc hm x.f3 f3 h3 _ _ g3]
  simp only [Res.bind]
  rw [e4]
  simp only [Res.bind]
  rw [show ∀ a b c : Nat, a + b + c = a + (b + c) from Nat.add_assoc, ← List.length_append]
  show (pList xs most (pDone xs most) _).bind _ = _
  rw [show x.f4.flatMap encH = encHs x.f4 from rfl, e5]
  simp only [Res.bind, List.length_append, Nat.add_assoc]
  rfl
end Go.Proofs.Ytafmoglaockepaa.Cd
end
section
namespace Go.Proofs.Ytafmoglaockepaa.Cd
open Go Go.RowKit Go.Proofs.Ytafmoglaockepaa.Num Go.Proofs.Ytafmoglaockepaa.PG Go.Proofs.YtafmoglaockepaaW.PrintWords Go.Proofs.YtafmoglaockepaaW.PrintLast Go.Proofs.YtafmoglaockepaaW.PrintMore
set_option linter.unusedVariables false
set_option linter.unusedSimpArgs false
theorem enc_pos (f n : Nat) (h : 0 < f) : 1 ≤ (enc f n).length := by
  cases f with
  | zero => omega
  | succ f =>
    rw [enc]
    split
    · simp
    · simp
theorem encT_size (s : ByteArray) : s.size + 1 ≤ (encT s).length := by
  unfold encT
  have := enc_pos 10 s.size (by decide)
  have h2 : (bytesOf s).length = s.size := bytesOf_length s
  rw [List.length_append]
  omega
theorem flat_mem {α : Type} {e : α → List Int} : ∀ {l : List α} {x : α}, x ∈ l → (e x).length ≤ (l.flatMap e).length
  | y :: l, x, h => by
    rw [List.flatMap_cons, List.length_append]
    rcases List.mem_cons.1 h with rfl | h
    · omega
    · have := flat_mem (e := e) h
      omega
theorem flat_count {α : Type} {e : α → List Int} (h : ∀ x, 1 ≤ (e x).length) : ∀ l : List α, l.length ≤ (l.flatMap e).length
  | [] => by simp
  | x :: l => by
    have := flat_count h l
    have := h x
    rw [List.flatMap_cons, List.length_append, List.length_cons]
    omega
theorem encN_size (x : S110) : x.f0.size + 1 ≤ (encN x).length := by
  have := encT_size x.f0
  unfold encN
  rw [List.length_append]
  omega
theorem encL_size (x : S28) : x.f0.size + 1 ≤ (encL x).length := by
  have := encT_size x.f0
  unfold encL
  rw [List.length_append]
  omega
theorem linFit_of {most : Nat} {l : List S110} (h : (encU l.length ++ encNs l).length ≤ most) : LinFit most l := by
  rw [List.length_append] at h
  unfold encNs at h
  refine ⟨?_, fun x hx => ?_⟩
  · have := flat_count (e := encN) (fun x => by have := encN_size x; omega) l
    omega
  · have := flat_mem (e := encN) hx
    have := encN_size x
    omega
theorem levFit_of {most : Nat} {l : List S28} (h : (encU l.length ++ encLs l).length ≤ most) : LevFit most l := by
  rw [List.length_append] at h
  unfold encLs at h
  refine ⟨?_, fun x hx => ?_⟩
  · have := flat_count (e := encL) (fun x => by have := encL_size x; omega) l
    omega
  · have := flat_mem (e := encL) hx
    have := encL_size x
    omega
theorem reqFit_of {most : Nat} {q : S40} (h : (encQ q).length ≤ most) : ReqFit most q := by
  have h0 := encT_size q.f0
  have h3 := encT_size q.f3
  unfold encQ encReq at h
  simp only [List.length_append] at h
  exact ⟨by omega, linFit_of (by rw [List.length_append]; omega), by omega⟩
theorem heldFit_of {most : Nat} {x : S121} (h : (encH x).length ≤ most) : HeldFit most x := by
  have h0 := encT_size x.f0
  unfold encH at h
  simp only [List.length_append] at h
  exact ⟨by omega, linFit_of (by rw [List.length_append]; omega)⟩
theorem encD_ge (x : S123) : (encQ x.f0).length ≤ (encD x).length := by
  unfold encD
  rw [List.length_append]
  omega
theorem stFit_of {most : Nat} {x : StD} (h : (encS x).length ≤ most) : StFit most x := by
  unfold encS at h
  simp only [List.length_append] at h
  refine ⟨levFit_of (by rw [List.length_append]; omega), ⟨?_, fun y hy => ?_⟩, ⟨?_, fun y hy => ?_⟩⟩
  · have := flat_count (e := encH) (fun x => by have := encT_size x.f0; unfold encH; rw [List.length_append]; omega) x.f4
    unfold encHs at h
    omega
  · have := flat_mem (e := encH) hy
    unfold encHs at h
    exact heldFit_of (by omega)
  · have := flat_count (e := encD) (fun x => by have := encT_size x.f0.f0; have := encD_ge x; unfold encQ encReq at this; rw [List.length_append] at this; omega) x.f5
    unfold encDs at h
    omega
  · have := flat_mem (e := encD) hy
    have := encD_ge y
    unfold encDs at h
    exact reqFit_of (by omega)
theorem whole_enc {α : Type} {key : Int} {most : Nat} {b : List Int} {p : Nat → Res α} {x : α} (hl : (key :: b).length ≤ most) (hp : p 1 = .ok x (1 + b.length)) : whole key most (key :: b) p = .ok x (1 + b.length) := by
  unfold whole
  rw [if_neg (by omega), if_neg (by simp), if_neg (by simp), hp]
  simp only [Res.bind]
  rw [if_neg (by simp only [List.length_cons]; omega)]
theorem drop1 (key : Int) (b : List Int) : (key :: b).drop 1 = b ++ [] := by simp
theorem back_req (q : S40) (ho : ReqOk q) (h : (81 :: encQ q).length ≤ 4096) : whole 81 4096 (81 :: encQ q) (pReq (81 :: encQ q) 4096) = .ok q (1 + (encQ q).length) :=
  whole_enc h (pReq_enc (by decide) q (reqFit_of (by rw [List.length_cons] at h; omega)) ho 1 [] (drop1 ..))
end Go.Proofs.Ytafmoglaockepaa.Cd
end
