/- does, its choices, and any other kind, walked. does, whatever the operation. DiskPlays, walked: true. Puts that come in as an argument, read. -/
import Derived.Test.YtpaonoaedjkekaaDoorPl10
import Derived.Test.YtpaonoaedjkekaaDoorPl14
import Derived.Deep.RegionHeld3
import Derived.Test.YtpaonoaedjkekaaDoorPl12
import Derived.Test.YtpaonoaedjkekaaDoorPl2
import Derived.Deep.Slices
import Derived.Deep.Strs
import Derived.ChangeSame
import Derived.OpenShut
import Derived.Lib.SmallJoins
namespace Go.Proofs.YtpaonoaedjkekaaDoor.Dk
open Go Go.RowKit Go.Proofs.YtpaonoaedjkekaaDoor.PD Go.Proofs.YtpaonoaedjkekaaDoorW.PrintWords Go.Proofs.YtpaonoaedjkekaaDoorW.PrintLast Go.Proofs.YtpaonoaedjkekaaDoorW.PrintMore
set_option linter.unusedVariables false
set_option linter.unusedSimpArgs false
set_option maxHeartbeats 4000000
set_option maxRecDepth 100000
theorem does_choices {gp B : Nat} {h : Hd} {r : Rd} {fs : List Int} {ops : List (Int × List Int)} {W : World} (k : Both gp B h r fs ops W) (N fill torn y : Int) (Ab Ak : Option Addr) (m cb mk ck : Nat) (ex : Bool) (hN : -9223372036854775808 ≤ N ∧ N ≤ 9223372036854775807) (bs keep : List Int) (hCb : Kd.C (Kd.int .u8) W Ab m bs) (hmb : m ≤ cb) (hCk : Kd.C (Kd.int .i64) W Ak mk keep) (hmk : mk ≤ ck) (hmk8 : (mk + 1) * 8 ≤ 140737488355328) :
    Calls Tryd.prog 35 #[ptr gp, .agg (opV 5 N fill torn y Ab Ak m cb mk ck ex).toArray] W fun e w' => e = .returned (.bool true) ∧ ∃ h' r' fs' ops', Both gp B h' r' fs' ops' w' ∧ Below B W w' := by
  have K := Aside0.mk k
  clear k
  go_enter Tryd.func35, Tryd.ntmps35
  go_upto_region 1 with fail
  have hr3 : Rt 69 W.heap.size (opV 5 N fill torn y Ab Ak m cb mk ck ex) (W.alloc (.cells (opV 5 N fill torn y Ab Ak m cb mk ck ex).toArray 69)) := heap_alloc_new W _
  have hb1 : Below W.heap.size W (W.alloc (.cells (opV 5 N fill torn y Ab Ak m cb mk ck ex).toArray 69)) := below_alloc (Below.refl _ _) _
  obtain ⟨b3, hb3⟩ : ∃ b3, W.heap.size = b3 := ⟨_, rfl⟩
  have HB3E := Aside0.mk hb3
  rw [hb3] at hr3 ⊢
  generalize W.alloc (.cells (opV 5 N fill torn y Ab Ak m cb mk ck ex).toArray 69) = w1 at *
  have HB1 := Aside0.mk hb1
  have q0 := hr3.cell 0 _ rfl
  have HR3 := Aside0.mk hr3
  clear hr3 hb1 hb3
  have KS := Aside0.mk (K.out.stay HB1.out).1
  have HBW := Aside0.mk (K.out.stay HB1.out).2
  obtain ⟨A, c, hd⟩ := KS.out.dd
  obtain ⟨A2, c2, hr⟩ := KS.out.rr
  have HD := Aside0.mk hd
  have HR := Aside0.mk hr
  have HE := Aside0.mk KS.out.en
  have HO := Aside0.mk KS.out.ok
  have HOR := Aside0.mk (show Oks r.n ops by rw [← HE.out]; exact HO.out)
  have H0 := Aside0.mk (Nat.lt_of_lt_of_le KS.out.b0 hd.size)
  clear hd hr
  have HFIN := Aside0.mk (show ∀ w', Below w1.heap.size w1 w' → ∃ h' r' fs' ops', Both gp B h' r' fs' ops' w' ∧ Below B W w' from fun w' hb => ⟨h, r, fs, ops, (KS.out.stay hb).1, HBW.out.trans (KS.out.stay hb).2⟩)
  have MKS := Aside0.mk (show ∀ w', Below w1.heap.size w1 w' → (fun w' => (w'.cell? ⟨gp, 0, none⟩ = some (ptr h.D) ∧ w'.cell? ⟨gp, 1, none⟩ = some (ptr r.D)) ∧ (w'.cell? ⟨b3, 0, none⟩ = some (.int .i64 5) ∧ w'.cell? ⟨b3, 1, none⟩ = some (.int .i64 N) ∧ w'.cell? ⟨b3, 2, none⟩ = some (.int .u8 fill) ∧ w'.cell? ⟨b3, 3, none⟩ = some (.slice Ab m cb)) ∧ (w'.cell? ⟨b3, 4, none⟩ = some (.bool ex) ∧ w'.cell? ⟨b3, 5, none⟩ = some (.slice Ak mk ck) ∧ w'.cell? ⟨b3, 6, none⟩ = some (.int .i64 torn) ∧ w'.cell? ⟨b3, 7, none⟩ = some (.int .i64 y))) w' from fun w' hb => by
    have r1 : Rt 66 gp [ptr h.D, ptr r.D] w' := (hb.block _ KS.out.row.lt).trans KS.out.row
    have r3 : Rt 69 b3 (opV 5 N fill torn y Ab Ak m cb mk ck ex) w' := (hb.block _ HR3.out.lt).trans HR3.out
    exact ⟨⟨r1.cell 0 _ rfl, r1.cell 1 _ rfl⟩, ⟨r3.cell 0 _ rfl, r3.cell 1 _ rfl, r3.cell 2 _ rfl, r3.cell 3 _ rfl⟩, r3.cell 4 _ rfl, r3.cell 5 _ rfl, r3.cell 6 _ rfl, r3.cell 7 _ rfl⟩)
  have HLEN := Aside0.mk HD.out.few
  obtain ⟨M, hM⟩ : ∃ M, momentN N ex ops.length = M := ⟨_, rfl⟩
  have HMO := Aside0.mk (show ∀ w', Below w1.heap.size w1 w' → Calls Tryd.prog 52 #[.agg (opV 5 N fill torn y Ab Ak m cb mk ck ex).toArray, .int .i64 (ops.length : Int)] w' fun e w2 => e = .returned (.int .i64 M) ∧ Below w'.heap.size w' w2 from fun w' hb => by
    have := moment_at 5 N fill torn y Ab Ak m cb mk ck ex bs keep ops.length HLEN.out hN w' (Kd.C_below hCb (HB1.out.trans (hb.mono HB1.out.size))) hmb (Kd.C_below hCk (HB1.out.trans (hb.mono HB1.out.size))) hmk
    rwa [hM] at this)
  have HCK := Aside0.mk (show Kd.C (Kd.int .i64) w1 Ak mk keep from Kd.C_below hCk HB1.out)
  have HKL := Aside0.mk (Kd.C_len hCk)
  have HMK := Aside0.mk hmk
  have HMK8 := Aside0.mk hmk8
  clear hM hN hCb hCk hmb hmk hmk8
  go_upto_region 37 with fail
  refine wp_region_held_drew (S := fun w' => (w'.cell? ⟨gp, 0, none⟩ = some (ptr h.D) ∧ w'.cell? ⟨gp, 1, none⟩ = some (ptr r.D)) ∧ (w'.cell? ⟨b3, 0, none⟩ = some (.int .i64 5) ∧ w'.cell? ⟨b3, 1, none⟩ = some (.int .i64 N) ∧ w'.cell? ⟨b3, 2, none⟩ = some (.int .u8 fill) ∧ w'.cell? ⟨b3, 3, none⟩ = some (.slice Ab m cb)) ∧ (w'.cell? ⟨b3, 4, none⟩ = some (.bool ex) ∧ w'.cell? ⟨b3, 5, none⟩ = some (.slice Ak mk ck) ∧ w'.cell? ⟨b3, 6, none⟩ = some (.int .i64 torn) ∧ w'.cell? ⟨b3, 7, none⟩ = some (.int .i64 y))) (by kernel_rfl) (MKS.out _ (below_drew (Below.refl _ _))) (fun hHeld => ?_)
  refine wpAnyH_take (i := 0) (oi := { dst := some 269, op := Op.load 69 (Operand.tmp 3), type := 69, pos := "law.go:151", after := #[], guard := none }) (v := ?_) rfl (by kernel_rfl) (by kernel_rfl) (by kernel_rfl) (fun _ _ _ h => h) (Or.inl ⟨by rfl, ?_⟩) hHeld ?_
  rotate_left
  · intro w' hS; obtain ⟨⟨hS0, hS1⟩, ⟨hS2, hS3, hS4, hS5⟩, hS6, hS7, hS8, hS9⟩ := hS; go_simp; all_goals (with_reducible rfl)
  (try simp only [Act.put, List.setIfInBounds_toArray, List.set_cons_zero, List.set_cons_succ])
  refine wpAnyH_take (i := 1) (oi := { dst := some 270, op := Op.move (Operand.tmp 0), type := 64, pos := "law.go:151", after := #[], guard := none }) (v := ?_) rfl (by kernel_rfl) (by kernel_rfl) (by kernel_rfl) (fun _ _ _ h => h) (Or.inl ⟨by rfl, ?_⟩) hHeld ?_
  rotate_left
  · intro w' hS; obtain ⟨⟨hS0, hS1⟩, ⟨hS2, hS3, hS4, hS5⟩, hS6, hS7, hS8, hS9⟩ := hS; go_simp; all_goals (with_reducible rfl)
  (try simp only [Act.put, List.setIfInBounds_toArray, List.set_cons_zero, List.set_cons_succ])
  refine wpAnyH_take (i := 2) (oi := { dst := some 271, op := Op.nilCheck (Operand.tmp 270), type := 0, pos := "law.go:151", after := #[{ on := 1, ground := Ground.data }], guard := none }) (v := ?_) rfl (by kernel_rfl) (by kernel_rfl) (by kernel_rfl) (fun _ _ _ h => h) (Or.inl ⟨by rfl, ?_⟩) hHeld ?_
  rotate_left
  · intro w' hS; obtain ⟨⟨hS0, hS1⟩, ⟨hS2, hS3, hS4, hS5⟩, hS6, hS7, hS8, hS9⟩ := hS; go_simp; all_goals (with_reducible rfl)
  (try simp only [Act.put, List.setIfInBounds_toArray, List.set_cons_zero, List.set_cons_succ])
  refine wpAnyH_take (i := 3) (oi := { dst := some 272, op := Op.fieldAddr 66 (Operand.tmp 271) 1, type := 0, pos := "law.go:151", after := #[{ on := 2, ground := Ground.data }], guard := none }) (v := ?_) rfl (by kernel_rfl) (by kernel_rfl) (by kernel_rfl) (fun _ _ _ h => h) (Or.inl ⟨by rfl, ?_⟩) hHeld ?_
  rotate_left
  · intro w' hS; obtain ⟨⟨hS0, hS1⟩, ⟨hS2, hS3, hS4, hS5⟩, hS6, hS7, hS8, hS9⟩ := hS; go_simp; all_goals (with_reducible rfl)
  (try simp only [Act.put, List.setIfInBounds_toArray, List.set_cons_zero, List.set_cons_succ])
  refine wpAnyH_take (i := 4) (oi := { dst := some 273, op := Op.load 61 (Operand.tmp 272), type := 61, pos := "law.go:151", after := #[{ on := 3, ground := Ground.data }], guard := none }) (v := ?_) rfl (by kernel_rfl) (by kernel_rfl) (by kernel_rfl) (fun _ _ _ h => h) (Or.inl ⟨by rfl, ?_⟩) hHeld ?_
  rotate_left
  · intro w' hS; obtain ⟨⟨hS0, hS1⟩, ⟨hS2, hS3, hS4, hS5⟩, hS6, hS7, hS8, hS9⟩ := hS; go_simp; all_goals (with_reducible rfl)
  (try simp only [Act.put, List.setIfInBounds_toArray, List.set_cons_zero, List.set_cons_succ])
  refine wpAnyH_ready (rs := [5]) (by kernel_rfl) (by simp) ?_
  refine AllReadyH.cons (o := { dst := some 274, op := Op.call { callee := Callee.value (Operand.func 49), args := #[Operand.tmp 273], argTypes := #[61] }, type := 3, pos := "law.go:151", after := #[{ on := 4, ground := Ground.data }], guard := none }) rfl (fun K hK => ?_) AllReadyH.nil
  go_simp
  go_at_call 49
  refine (rcount_at (HR.out.stay (below_drew (Below.refl _ _)))).mono ?_
  rintro e w' ⟨rfl, hw⟩
  subst w'
  refine hK.out _ _ (MKS.out _ (below_drew (Below.refl _ _))) (fun hHeld => ?_)
  clear hK K
  (try simp only [Act.put, List.setIfInBounds_toArray, List.set_cons_zero, List.set_cons_succ])
  refine wpAnyH_ready (rs := [6]) (by kernel_rfl) (by simp) ?_
  refine AllReadyH.cons (o := { dst := some 275, op := Op.call { callee := Callee.value (Operand.func 52), args := #[Operand.tmp 269, Operand.tmp 274], argTypes := #[69, 3] }, type := 3, pos := "law.go:151", after := #[{ on := 0, ground := Ground.data }, { on := 5, ground := Ground.data }, { on := 5, ground := Ground.chain }], guard := none }) rfl (fun K hK => ?_) AllReadyH.nil
  go_simp
  go_at_call 52
  refine (HMO.out _ (below_drew (Below.refl _ _))).mono ?_
  rintro e wa ⟨rfl, hb⟩
  have HBa := Aside0.mk (show Below w1.heap.size w1 wa from (below_drew (Below.refl _ _)).trans hb)
  clear hb
  refine hK.out _ _ (MKS.out _ HBa.out) (fun hHeld => ?_)
  clear hK K
  (try simp only [Act.put, List.setIfInBounds_toArray, List.set_cons_zero, List.set_cons_succ])
  refine wpAnyH_take (i := 7) (oi := { dst := some 25, op := Op.assign (Operand.tmp 275), type := 3, pos := "law.go:151", after := #[{ on := 6, ground := Ground.data }, { on := 6, ground := Ground.chain }, { on := 0, ground := Ground.phase }, { on := 1, ground := Ground.phase }, { on := 2, ground := Ground.phase }, { on := 3, ground := Ground.phase }, { on := 4, ground := Ground.phase }, { on := 5, ground := Ground.phase }, { on := 6, ground := Ground.phase }], guard := none }) (v := ?_) rfl (by kernel_rfl) (by kernel_rfl) (by kernel_rfl) (fun _ _ _ h => h) (Or.inl ⟨by rfl, ?_⟩) hHeld ?_
  rotate_left
  · intro w' hS; obtain ⟨⟨hS0, hS1⟩, ⟨hS2, hS3, hS4, hS5⟩, hS6, hS7, hS8, hS9⟩ := hS; go_simp; all_goals (with_reducible rfl)
  (try simp only [Act.put, List.setIfInBounds_toArray, List.set_cons_zero, List.set_cons_succ])
  refine wpAnyH_done (by kernel_rfl) ?_ _
  (try simp only [Act.put, List.setIfInBounds_toArray, List.set_cons_zero, List.set_cons_succ])
  clear HMO
  go_upto_region 38 with fail
  refine wp_region_held_drew (S := fun w' => (w'.cell? ⟨gp, 0, none⟩ = some (ptr h.D) ∧ w'.cell? ⟨gp, 1, none⟩ = some (ptr r.D)) ∧ (w'.cell? ⟨b3, 0, none⟩ = some (.int .i64 5) ∧ w'.cell? ⟨b3, 1, none⟩ = some (.int .i64 N) ∧ w'.cell? ⟨b3, 2, none⟩ = some (.int .u8 fill) ∧ w'.cell? ⟨b3, 3, none⟩ = some (.slice Ab m cb)) ∧ (w'.cell? ⟨b3, 4, none⟩ = some (.bool ex) ∧ w'.cell? ⟨b3, 5, none⟩ = some (.slice Ak mk ck) ∧ w'.cell? ⟨b3, 6, none⟩ = some (.int .i64 torn) ∧ w'.cell? ⟨b3, 7, none⟩ = some (.int .i64 y))) (by kernel_rfl) (MKS.out _ (below_drew HBa.out)) (fun hHeld => ?_)
  refine wpAnyH_take (i := 0) (oi := { dst := some 276, op := Op.move (Operand.tmp 0), type := 64, pos := "law.go:152", after := #[], guard := none }) (v := ?_) rfl (by kernel_rfl) (by kernel_rfl) (by kernel_rfl) (fun _ _ _ h => h) (Or.inl ⟨by rfl, ?_⟩) hHeld ?_
  rotate_left
  · intro w' hS; obtain ⟨⟨hS0, hS1⟩, ⟨hS2, hS3, hS4, hS5⟩, hS6, hS7, hS8, hS9⟩ := hS; go_simp; all_goals (with_reducible rfl)
  (try simp only [Act.put, List.setIfInBounds_toArray, List.set_cons_zero, List.set_cons_succ])
  refine wpAnyH_take (i := 1) (oi := { dst := some 277, op := Op.nilCheck (Operand.tmp 276), type := 0, pos := "law.go:152", after := #[{ on := 0, ground := Ground.data }], guard := none }) (v := ?_) rfl (by kernel_rfl) (by kernel_rfl) (by kernel_rfl) (fun _ _ _ h => h) (Or.inl ⟨by rfl, ?_⟩) hHeld ?_
  rotate_left
  · intro w' hS; obtain ⟨⟨hS0, hS1⟩, ⟨hS2, hS3, hS4, hS5⟩, hS6, hS7, hS8, hS9⟩ := hS; go_simp; all_goals (with_reducible rfl)
  (try simp only [Act.put, List.setIfInBounds_toArray, List.set_cons_zero, List.set_cons_succ])
  refine wpAnyH_take (i := 2) (oi := { dst := some 278, op := Op.fieldAddr 66 (Operand.tmp 277) 0, type := 0, pos := "law.go:152", after := #[{ on := 1, ground := Ground.data }], guard := none }) (v := ?_) rfl (by kernel_rfl) (by kernel_rfl) (by kernel_rfl) (fun _ _ _ h => h) (Or.inl ⟨by rfl, ?_⟩) hHeld ?_
  rotate_left
  · intro w' hS; obtain ⟨⟨hS0, hS1⟩, ⟨hS2, hS3, hS4, hS5⟩, hS6, hS7, hS8, hS9⟩ := hS; go_simp; all_goals (with_reducible rfl)
  (try simp only [Act.put, List.setIfInBounds_toArray, List.set_cons_zero, List.set_cons_succ])
  refine wpAnyH_take (i := 3) (oi := { dst := some 279, op := Op.load 25 (Operand.tmp 278), type := 25, pos := "law.go:152", after := #[{ on := 2, ground := Ground.data }], guard := none }) (v := ?_) rfl (by kernel_rfl) (by kernel_rfl) (by kernel_rfl) (fun _ _ _ h => h) (Or.inl ⟨by rfl, ?_⟩) hHeld ?_
  rotate_left
  · intro w' hS; obtain ⟨⟨hS0, hS1⟩, ⟨hS2, hS3, hS4, hS5⟩, hS6, hS7, hS8, hS9⟩ := hS; go_simp; all_goals (with_reducible rfl)
  (try simp only [Act.put, List.setIfInBounds_toArray, List.set_cons_zero, List.set_cons_succ])
  refine wpAnyH_take (i := 4) (oi := { dst := some 280, op := Op.move (Operand.tmp 25), type := 3, pos := "law.go:152", after := #[], guard := none }) (v := ?_) rfl (by kernel_rfl) (by kernel_rfl) (by kernel_rfl) (fun _ _ _ h => h) (Or.inl ⟨by rfl, ?_⟩) hHeld ?_
  rotate_left
  · intro w' hS; obtain ⟨⟨hS0, hS1⟩, ⟨hS2, hS3, hS4, hS5⟩, hS6, hS7, hS8, hS9⟩ := hS; go_simp; all_goals (with_reducible rfl)
  (try simp only [Act.put, List.setIfInBounds_toArray, List.set_cons_zero, List.set_cons_succ])
  refine wpAnyH_take (i := 5) (oi := { dst := some 281, op := Op.move (Operand.tmp 0), type := 64, pos := "law.go:152", after := #[], guard := none }) (v := ?_) rfl (by kernel_rfl) (by kernel_rfl) (by kernel_rfl) (fun _ _ _ h => h) (Or.inl ⟨by rfl, ?_⟩) hHeld ?_
  rotate_left
  · intro w' hS; obtain ⟨⟨hS0, hS1⟩, ⟨hS2, hS3, hS4, hS5⟩, hS6, hS7, hS8, hS9⟩ := hS; go_simp; all_goals (with_reducible rfl)
  (try simp only [Act.put, List.setIfInBounds_toArray, List.set_cons_zero, List.set_cons_succ])
  refine wpAnyH_take (i := 6) (oi := { dst := some 282, op := Op.nilCheck (Operand.tmp 281), type := 0, pos := "law.go:152", after := #[{ on := 5, ground := Ground.data }], guard := none }) (v := ?_) rfl (by kernel_rfl) (by kernel_rfl) (by kernel_rfl) (fun _ _ _ h => h) (Or.inl ⟨by rfl, ?_⟩) hHeld ?_
  rotate_left
  · intro w' hS; obtain ⟨⟨hS0, hS1⟩, ⟨hS2, hS3, hS4, hS5⟩, hS6, hS7, hS8, hS9⟩ := hS; go_simp; all_goals (with_reducible rfl)
  (try simp only [Act.put, List.setIfInBounds_toArray, List.set_cons_zero, List.set_cons_succ])
  refine wpAnyH_take (i := 7) (oi := { dst := some 283, op := Op.fieldAddr 66 (Operand.tmp 282) 1, type := 0, pos := "law.go:152", after := #[{ on := 6, ground := Ground.data }], guard := none }) (v := ?_) rfl (by kernel_rfl) (by kernel_rfl) (by kernel_rfl) (fun _ _ _ h => h) (Or.inl ⟨by rfl, ?_⟩) hHeld ?_
  rotate_left
  · intro w' hS; obtain ⟨⟨hS0, hS1⟩, ⟨hS2, hS3, hS4, hS5⟩, hS6, hS7, hS8, hS9⟩ := hS; go_simp; all_goals (with_reducible rfl)
  (try simp only [Act.put, List.setIfInBounds_toArray, List.set_cons_zero, List.set_cons_succ])
  refine wpAnyH_take (i := 8) (oi := { dst := some 284, op := Op.load 61 (Operand.tmp 283), type := 61, pos := "law.go:152", after := #[{ on := 7, ground := Ground.data }], guard := none }) (v := ?_) rfl (by kernel_rfl) (by kernel_rfl) (by kernel_rfl) (fun _ _ _ h => h) (Or.inl ⟨by rfl, ?_⟩) hHeld ?_
  rotate_left
  · intro w' hS; obtain ⟨⟨hS0, hS1⟩, ⟨hS2, hS3, hS4, hS5⟩, hS6, hS7, hS8, hS9⟩ := hS; go_simp; all_goals (with_reducible rfl)
  (try simp only [Act.put, List.setIfInBounds_toArray, List.set_cons_zero, List.set_cons_succ])
  refine wpAnyH_take (i := 9) (oi := { dst := some 285, op := Op.move (Operand.tmp 25), type := 3, pos := "law.go:152", after := #[], guard := none }) (v := ?_) rfl (by kernel_rfl) (by kernel_rfl) (by kernel_rfl) (fun _ _ _ h => h) (Or.inl ⟨by rfl, ?_⟩) hHeld ?_
  rotate_left
  · intro w' hS; obtain ⟨⟨hS0, hS1⟩, ⟨hS2, hS3, hS4, hS5⟩, hS6, hS7, hS8, hS9⟩ := hS; go_simp; all_goals (with_reducible rfl)
  (try simp only [Act.put, List.setIfInBounds_toArray, List.set_cons_zero, List.set_cons_succ])
  refine wpAnyH_ready (rs := [10]) (by kernel_rfl) (by simp) ?_
  refine AllReadyH.cons (o := { dst := some 286, op := Op.call { callee := Callee.value (Operand.func 55), args := #[Operand.tmp 284, Operand.tmp 285], argTypes := #[61, 3] }, type := 57, pos := "law.go:152", after := #[{ on := 8, ground := Ground.data }, { on := 9, ground := Ground.data }], guard := none }) rfl (fun K hK => ?_) AllReadyH.nil
  go_simp
  go_at_call 55
  refine (rchoices_any (HR.out.stay (below_drew HBa.out)) HOR.out M).mono ?_
  rintro e wb ⟨v, rfl, hR, hb⟩
  obtain ⟨Aw, cw, rfl⟩ := Kd.R_slice hR
  have HBb := Aside0.mk (show Below w1.heap.size w1 wb from HBa.out.trans (((below_drew (Below.refl _ _)).trans hb).mono HBa.out.size))
  have HW := Aside0.mk hR
  obtain ⟨L, hL⟩ : ∃ L, (chL (chN ops M)).length = L := ⟨_, rfl⟩
  have hR' := hR
  rw [hL] at hR' ⊢
  have HW := Aside0.mk hR'
  clear hR hR' hb hL
  refine hK.out _ _ (MKS.out _ HBb.out) (fun hHeld => ?_)
  clear hK K
  (try simp only [Act.put, List.setIfInBounds_toArray, List.set_cons_zero, List.set_cons_succ])
  refine wpAnyH_ready (rs := [11]) (by kernel_rfl) (by simp) ?_
  refine AllReadyH.cons (o := { dst := some 287, op := Op.call { callee := Callee.value (Operand.func 54), args := #[Operand.tmp 279, Operand.tmp 280, Operand.tmp 286], argTypes := #[25, 3, 57] }, type := 4, pos := "law.go:152", after := #[{ on := 3, ground := Ground.data }, { on := 4, ground := Ground.data }, { on := 10, ground := Ground.data }, { on := 10, ground := Ground.chain }], guard := none }) rfl (fun K hK => ?_) AllReadyH.nil
  go_simp
  go_at_call 54
  refine (chosen_at (HD.out.stay HBb.out) (KS.out.stay HBb.out).1.fl (Nat.lt_of_lt_of_le H0.out HBb.out.size) M Aw L cw HW.out).mono ?_
  rintro e wc ⟨rfl, hb⟩
  have HBc := Aside0.mk (HBb.out.trans (hb.mono HBb.out.size))
  clear hb
  refine hK.out _ _ (MKS.out _ HBc.out) (fun hHeld => ?_)
  clear hK K
  (try simp only [Act.put, List.setIfInBounds_toArray, List.set_cons_zero, List.set_cons_succ])
  refine wpAnyH_take (i := 12) (oi := { dst := some 4, op := Op.assign (Operand.tmp 287), type := 4, pos := "law.go:152", after := #[{ on := 11, ground := Ground.data }, { on := 11, ground := Ground.chain }, { on := 0, ground := Ground.phase }, { on := 1, ground := Ground.phase }, { on := 2, ground := Ground.phase }, { on := 3, ground := Ground.phase }, { on := 4, ground := Ground.phase }, { on := 5, ground := Ground.phase }, { on := 6, ground := Ground.phase }, { on := 7, ground := Ground.phase }, { on := 8, ground := Ground.phase }, { on := 9, ground := Ground.phase }, { on := 10, ground := Ground.phase }, { on := 11, ground := Ground.phase }], guard := none }) (v := ?_) rfl (by kernel_rfl) (by kernel_rfl) (by kernel_rfl) (fun _ _ _ h => h) (Or.inl ⟨by rfl, ?_⟩) hHeld ?_
  rotate_left
  · intro w' hS; obtain ⟨⟨hS0, hS1⟩, ⟨hS2, hS3, hS4, hS5⟩, hS6, hS7, hS8, hS9⟩ := hS; go_simp; all_goals (with_reducible rfl)
  (try simp only [Act.put, List.setIfInBounds_toArray, List.set_cons_zero, List.set_cons_succ])
  refine wpAnyH_done (by kernel_rfl) ?_ _
  (try simp only [Act.put, List.setIfInBounds_toArray, List.set_cons_zero, List.set_cons_succ])
  go_wp2_with fail
  go_ret
  obtain ⟨h2, r2, fs2, ops2, hB1, hB2⟩ := HFIN.out _ HBc.out
  exact ⟨rfl, ⟨h2, r2, fs2, ops2, hB1⟩, hB2⟩
theorem does_else {gp B : Nat} {h : Hd} {r : Rd} {fs : List Int} {ops : List (Int × List Int)} {W : World} (k : Both gp B h r fs ops W) (N fill torn y : Int) (Ab Ak : Option Addr) (m cb mk ck : Nat) (ex : Bool) (kind : Int) (hk : kind ≠ 0 ∧ kind ≠ 1 ∧ kind ≠ 2 ∧ kind ≠ 3 ∧ kind ≠ 4 ∧ kind ≠ 5 ∧ kind ≠ 6) :
    Calls Tryd.prog 35 #[ptr gp, .agg (opV kind N fill torn y Ab Ak m cb mk ck ex).toArray] W fun e w' => e = .returned (.bool true) ∧ ∃ h' r' fs' ops', Both gp B h' r' fs' ops' w' ∧ Below B W w' := by
  have K := Aside0.mk k
  obtain ⟨k0, k1, k2, k3, k4, k5, k6⟩ := hk
  have n0 : (kind == 0) = false := by simpa using k0
  have n1 : (kind == 1) = false := by simpa using k1
  have n2 : (kind == 2) = false := by simpa using k2
  have n3 : (kind == 3) = false := by simpa using k3
  have n4 : (kind == 4) = false := by simpa using k4
  have n5 : (kind == 5) = false := by simpa using k5
  have n6 : (kind == 6) = false := by simpa using k6
  have d0 : decide (kind = 0) = false := decide_eq_false k0
  have d1 : decide (kind = 1) = false := decide_eq_false k1
  have d2 : decide (kind = 2) = false := decide_eq_false k2
  have d3 : decide (kind = 3) = false := decide_eq_false k3
  have d4 : decide (kind = 4) = false := decide_eq_false k4
  have d5 : decide (kind = 5) = false := decide_eq_false k5
  have d6 : decide (kind = 6) = false := decide_eq_false k6
  clear k
  go_enter Tryd.func35, Tryd.ntmps35
  go_upto_region 1 with fail
  have hr3 : Rt 69 W.heap.size (opV kind N fill torn y Ab Ak m cb mk ck ex) (W.alloc (.cells (opV kind N fill torn y Ab Ak m cb mk ck ex).toArray 69)) := heap_alloc_new W _
  have hb1 : Below W.heap.size W (W.alloc (.cells (opV kind N fill torn y Ab Ak m cb mk ck ex).toArray 69)) := below_alloc (Below.refl _ _) _
  obtain ⟨b3, hb3⟩ : ∃ b3, W.heap.size = b3 := ⟨_, rfl⟩
  have HB3E := Aside0.mk hb3
  rw [hb3] at hr3 ⊢
  generalize W.alloc (.cells (opV kind N fill torn y Ab Ak m cb mk ck ex).toArray 69) = w1 at *
  have HB1 := Aside0.mk hb1
  have q0 := hr3.cell 0 _ rfl
  have HR3 := Aside0.mk hr3
  clear hr3 hb1 hb3
  have KS := Aside0.mk (K.out.stay HB1.out).1
  have HBW := Aside0.mk (K.out.stay HB1.out).2
  obtain ⟨A, c, hd⟩ := KS.out.dd
  obtain ⟨A2, c2, hr⟩ := KS.out.rr
  have HD := Aside0.mk hd
  have HR := Aside0.mk hr
  have HE := Aside0.mk KS.out.en
  have HO := Aside0.mk KS.out.ok
  have HOR := Aside0.mk (show Oks r.n ops by rw [← HE.out]; exact HO.out)
  have H0 := Aside0.mk (Nat.lt_of_lt_of_le KS.out.b0 hd.size)
  clear hd hr
  have HFIN := Aside0.mk (show ∀ w', Below w1.heap.size w1 w' → ∃ h' r' fs' ops', Both gp B h' r' fs' ops' w' ∧ Below B W w' from fun w' hb => ⟨h, r, fs, ops, (KS.out.stay hb).1, HBW.out.trans (KS.out.stay hb).2⟩)
  have MKS := Aside0.mk (show ∀ w', Below w1.heap.size w1 w' → (fun w' => (w'.cell? ⟨gp, 0, none⟩ = some (ptr h.D) ∧ w'.cell? ⟨gp, 1, none⟩ = some (ptr r.D)) ∧ (w'.cell? ⟨b3, 0, none⟩ = some (.int .i64 kind) ∧ w'.cell? ⟨b3, 1, none⟩ = some (.int .i64 N) ∧ w'.cell? ⟨b3, 2, none⟩ = some (.int .u8 fill) ∧ w'.cell? ⟨b3, 3, none⟩ = some (.slice Ab m cb)) ∧ (w'.cell? ⟨b3, 4, none⟩ = some (.bool ex) ∧ w'.cell? ⟨b3, 5, none⟩ = some (.slice Ak mk ck) ∧ w'.cell? ⟨b3, 6, none⟩ = some (.int .i64 torn) ∧ w'.cell? ⟨b3, 7, none⟩ = some (.int .i64 y))) w' from fun w' hb => by
    have r1 : Rt 66 gp [ptr h.D, ptr r.D] w' := (hb.block _ KS.out.row.lt).trans KS.out.row
    have r3 : Rt 69 b3 (opV kind N fill torn y Ab Ak m cb mk ck ex) w' := (hb.block _ HR3.out.lt).trans HR3.out
    exact ⟨⟨r1.cell 0 _ rfl, r1.cell 1 _ rfl⟩, ⟨r3.cell 0 _ rfl, r3.cell 1 _ rfl, r3.cell 2 _ rfl, r3.cell 3 _ rfl⟩, r3.cell 4 _ rfl, r3.cell 5 _ rfl, r3.cell 6 _ rfl, r3.cell 7 _ rfl⟩)
  go_wp2_with fail
  go_ret
  obtain ⟨h2, r2, fs2, ops2, hB1, hB2⟩ := HFIN.out _ (Below.refl _ _)
  exact ⟨rfl, ⟨h2, r2, fs2, ops2, hB1⟩, hB2⟩
end Go.Proofs.YtpaonoaedjkekaaDoor.Dk
namespace Go.Proofs.YtpaonoaedjkekaaDoor.Dk
open Go Go.RowKit Go.Proofs.YtpaonoaedjkekaaDoor.PD Go.Proofs.YtpaonoaedjkekaaDoorW.PrintWords Go.Proofs.YtpaonoaedjkekaaDoorW.PrintLast Go.Proofs.YtpaonoaedjkekaaDoorW.PrintMore
set_option linter.unusedVariables false
set_option linter.unusedSimpArgs false
theorem does_any {gp B : Nat} {h : Hd} {r : Rd} {fs : List Int} {ops : List (Int × List Int)} {W : World} (k : Both gp B h r fs ops W) (kind N fill torn y : Int) (Ab Ak : Option Addr) (m cb mk ck : Nat) (ex : Bool)
    (hN : -9223372036854775808 ≤ N ∧ N ≤ 9223372036854775807) (bs keep : List Int) (hCb : Kd.C (Kd.int .u8) W Ab m bs) (hmb : m ≤ cb) (hm8 : m ≤ 140737488355200) (hCk : Kd.C (Kd.int .i64) W Ak mk keep) (hmk : mk ≤ ck) (hmk8 : (mk + 1) * 8 ≤ 140737488355328) :
    Calls Tryd.prog 35 #[ptr gp, .agg (opV kind N fill torn y Ab Ak m cb mk ck ex).toArray] W fun e w' => e = .returned (.bool true) ∧ ∃ h' r' fs' ops', Both gp B h' r' fs' ops' w' ∧ Below B W w' := by
  by_cases k0 : kind = 0
  · subst k0; exact does_write k N fill torn y Ab Ak m cb mk ck ex bs hCb hm8
  by_cases k1 : kind = 1
  · subst k1; exact does_flush k N fill torn y Ab Ak m cb mk ck ex
  by_cases k2 : kind = 2
  · subst k2; exact does_read k N fill torn y Ab Ak m cb mk ck ex
  by_cases k3 : kind = 3
  · subst k3; exact does_asks k N fill torn y Ab Ak m cb mk ck ex
  by_cases k4 : kind = 4
  · subst k4; exact does_at k N fill torn y Ab Ak m cb mk ck ex hN bs keep hCb hmb hCk hmk hmk8
  by_cases k5 : kind = 5
  · subst k5; exact does_choices k N fill torn y Ab Ak m cb mk ck ex hN bs keep hCb hmb hCk hmk hmk8
  by_cases k6 : kind = 6
  · subst k6; exact does_again k N fill torn y Ab Ak m cb mk ck ex hN bs keep hCb hmb hCk hmk hmk8
  exact does_else k N fill torn y Ab Ak m cb mk ck ex kind ⟨k0, k1, k2, k3, k4, k5, k6⟩
end Go.Proofs.YtpaonoaedjkekaaDoor.Dk
namespace Go.Proofs.YtpaonoaedjkekaaDoor.Dk
open Go Go.RowKit Go.Proofs.YtpaonoaedjkekaaDoor.PD Go.Proofs.YtpaonoaedjkekaaDoorW.PrintWords Go.Proofs.YtpaonoaedjkekaaDoorW.PrintLast Go.Proofs.YtpaonoaedjkekaaDoorW.PrintMore
set_option linter.unusedVariables false
set_option linter.unusedSimpArgs false
set_option maxHeartbeats 8000000
set_option maxRecDepth 100000
/-- An operation in memory. -/
def OpAt (W : World) (ad : Addr) (i : Nat) : Prop := ∃ (kind N fill torn y : Int) (Ab Ak : Option Addr) (m cb mk ck : Nat) (ex : Bool) (bs keep : List Int),
  (W.cell? (ad.add (i * 8)) = some (.int .i64 kind) ∧ W.cell? ⟨(ad.add (i * 8)).block, (ad.add (i * 8)).off + 1, none⟩ = some (.int .i64 N) ∧ W.cell? ⟨(ad.add (i * 8)).block, (ad.add (i * 8)).off + 2, none⟩ = some (.int .u8 fill) ∧ W.cell? ⟨(ad.add (i * 8)).block, (ad.add (i * 8)).off + 3, none⟩ = some (.slice Ab m cb)) ∧
  (W.cell? ⟨(ad.add (i * 8)).block, (ad.add (i * 8)).off + 4, none⟩ = some (.bool ex) ∧ W.cell? ⟨(ad.add (i * 8)).block, (ad.add (i * 8)).off + 5, none⟩ = some (.slice Ak mk ck) ∧ W.cell? ⟨(ad.add (i * 8)).block, (ad.add (i * 8)).off + 6, none⟩ = some (.int .i64 torn) ∧ W.cell? ⟨(ad.add (i * 8)).block, (ad.add (i * 8)).off + 7, none⟩ = some (.int .i64 y)) ∧
  (-9223372036854775808 ≤ N ∧ N ≤ 9223372036854775807) ∧ Kd.C (Kd.int .u8) W Ab m bs ∧ m ≤ cb ∧ m ≤ 140737488355200 ∧ Kd.C (Kd.int .i64) W Ak mk keep ∧ mk ≤ ck ∧ (mk + 1) * 8 ≤ 140737488355328
theorem OpAt.below {W W' : World} {ad : Addr} {i : Nat} (h : OpAt W ad i) (hb : Below W.heap.size W W') : OpAt W' ad i := by
  obtain ⟨kind, N, fill, torn, y, Ab, Ak, m, cb, mk, ck, ex, bs, keep, ⟨a0, a1, a2, a3⟩, ⟨a4, a5, a6, a7⟩, hN, hB, hm, hm8, hK, hk, hk8⟩ := h
  have go : ∀ (p : Addr) (v : Value), W.cell? p = some v → W'.cell? p = some v := fun p v hv => (hb.cell (World.block_lt_of_cell? _ _ hv)).trans hv
  exact ⟨kind, N, fill, torn, y, Ab, Ak, m, cb, mk, ck, ex, bs, keep, ⟨go _ _ a0, go _ _ a1, go _ _ a2, go _ _ a3⟩, ⟨go _ _ a4, go _ _ a5, go _ _ a6, go _ _ a7⟩, hN, Kd.C_below hB hb, hm, hm8, Kd.C_below hK hb, hk, hk8⟩
theorem plays_walk (Ai : Option Addr) (mi ci : Nat) (img : List Int) (S : Int) (As : Option Addr) (ns cs : Nat) (W : World) (hCi : Kd.C (Kd.int .u8) W Ai mi img) (hci : mi ≤ ci) (hmi : mi + 64 < 140737488355328) (hns : ns < 9223372036854775807)
    (hOps : ∀ i, i < ns → ∃ ad, As = some ad ∧ OpAt W ad i) (hF : Fl W) (h0 : 0 < W.heap.size) :
    Calls Tryd.prog 8 #[.slice Ai mi ci, .int .i64 S, .slice As ns cs] W fun e w' => e = .returned (.bool true) ∧ Below W.heap.size W w' := by
  have hil := Kd.C_len hCi
  have HIL := Aside0.mk hil
  have HCI := Aside0.mk hCi
  have HCL := Aside0.mk hci
  have HMI := Aside0.mk hmi
  have HNS := Aside0.mk hns
  have HOPS := Aside0.mk hOps
  have HF := Aside0.mk hF
  have H0 := Aside0.mk h0
  clear hil hCi hci hmi hns hOps hF h0
  go_enter Tryd.func8, Tryd.ntmps8
  go_wp2_with fail
  go_at_call 32
  refine (room_at img (by rw [HIL.out]; exact HMI.out) Ai mi ci W HIL.out HCI.out HCL.out).mono ?_
  rintro e wb ⟨gl, cl, rfl, hm, hgl, hcl, hb⟩
  have HKL := Aside0.mk (show (img ++ tailL 64).length = mi + 64 by rw [List.length_append, tailL_len, HIL.out])
  obtain ⟨xs, hxs⟩ : ∃ xs, img ++ tailL 64 = xs := ⟨_, rfl⟩
  have HXS := Aside0.mk hxs
  rw [hxs] at hm HKL
  have HM := Aside0.mk hm
  have HGL := Aside0.mk hgl
  have HCLL := Aside0.mk hcl
  have HB := Aside0.mk hb
  have HCI1 := Aside0.mk (Kd.C_below HCI.out hb)
  have HCLI := Aside0.mk (show Kd.C (Kd.int .u8) wb (some ⟨gl, 0, none⟩) mi img from by
    have := hm.sub 0 mi (by rw [HKL.out]; omega) (by have := HMI.out; omega)
    rwa [List.drop_zero, ← HXS.out, List.take_left' HIL.out] at this)
  have sl1 : mi ≤ cl := by omega
  have sl2 : (mi : Int) ≤ (cl : Int) := by omega
  obtain ⟨n, hn⟩ : ∃ n, mi + 64 = n := ⟨_, rfl⟩
  have HN := Aside0.mk hn
  rw [hn] at HKL ⊢
  have HN63 := Aside0.mk (show n < 140737488355328 by have := HMI.out; omega)
  clear hm hgl hcl hb hn hxs
  have HKEPT := Aside0.mk (show ∀ w', Below wb.heap.size wb w' → Calls Tryd.prog 34 #[.slice (some ⟨gl, 0, none⟩) n cl, .slice Ai mi ci] w' fun e w2 => e = .returned (.bool true) ∧ Drawn0 w' w2 from fun w' hb => by
    have := kept_at img (by rw [HIL.out]; exact HMI.out) (some ⟨gl, 0, none⟩) Ai mi cl ci w' HIL.out (by rw [HXS.out]; have h := (HM.out.below hb).allN HKL.out (by have := HN63.out; omega); rwa [← HN.out] at h) HCLL.out (Kd.C_below HCI1.out hb) HCL.out
    rwa [HN.out] at this)
  by_cases hS : S < 1 ∨ 4096 < S
  · have HS := Aside0.mk hS
    clear hS
    go_wp2_with (first
      | (go_at_call 25; refine (new_arg (some ⟨gl, 0, none⟩) mi cl S wb HS.out 25 (.inl rfl)).mono ?_; rintro e w' ⟨rfl, hw⟩; subst w')
      | (go_at_call 33; refine (new_arg Ai mi ci S wb HS.out 33 (.inr rfl)).mono ?_; rintro e w' ⟨rfl, hw⟩; subst w'))
    go_at_call 34
    refine (HKEPT.out wb (Below.refl _ _)).mono ?_
    rintro e w' ⟨rfl, md, rfl⟩
    have HBE := Aside0.mk (show Below wb.heap.size wb (wb.drewN md) from pw_below_drewN (Below.refl _ _) md)
    clear HKEPT
    generalize wb.drewN md = we at *
    have HM4 := Aside0.mk (show Mem we gl xs from HM.out.below HBE.out)
    go_wp2_with fail
    go_loopw [12] (fun p wr => ∃ i : Nat, p = .int .i64 (i : Int) ∧ Aside0 (i ≤ n) ∧ Aside0 (Mem wr gl (flipL xs i)) ∧ Aside0 (Kept we wr (fun j => j = gl)) ∧ Aside0 (Below W.heap.size we wr)) (fun p _ => n - (intOf p).toNat)
    · exact ⟨0, rfl, ⟨Nat.zero_le _⟩, ⟨by unfold flipL; rw [List.take_zero, List.map_nil, List.nil_append, List.drop_zero]; exact HM4.out⟩, ⟨Kept.refl _ _⟩, ⟨Below.refl _ _⟩⟩
    · obtain ⟨i, rfl, HI, HMr, HKr, HBr⟩ := hrel
      by_cases ci : i < n
      · have ci1 : decide ((i : Int) < (n : Int)) = true := decide_eq_true (by omega)
        have ci2 : (i : Int) < (n : Int) := by omega
        have ci3 : (0 : Int) ≤ (i : Int) := by omega
        have hw1 : IntKind.i64.wrap ((i : Int) + 1) = ((i + 1 : Nat) : Int) := by rw [IntWalk.i64_in _ (by have := HN63.out; omega)]; omega
        obtain ⟨x, hx⟩ : ∃ x, xs[i]? = some x := ⟨_, List.getElem?_eq_getElem (by have := HKL.out; omega)⟩
        have hget := flipL_get xs i (by have := HKL.out; omega)
        have cj := HMr.out.cell i (by rw [flipL_len]; have := HKL.out; omega)
        rw [List.getD_eq_getElem?_getD, hget, hx] at cj
        simp only [Option.getD_some] at cj
        have fj : wr.frozen? ⟨gl, i, none⟩ = false := by
          obtain ⟨cur, h1, _⟩ := HMr.out
          simp [World.frozen?, h1]
        have HX := Aside0.mk hx
        clear hget hx
        have HNEW := Aside0.mk (show Mem (wr.setCell ⟨gl, i, none⟩ (.int .u8 ((255 - x) % 256))) gl (flipL xs (i + 1)) ∧ Kept we (wr.setCell ⟨gl, i, none⟩ (.int .u8 ((255 - x) % 256))) (fun j => j = gl) ∧ Below W.heap.size we (wr.setCell ⟨gl, i, none⟩ (.int .u8 ((255 - x) % 256))) from by
          refine ⟨?_, HKr.out.setCell (.inl rfl) _, HBr.out.setCell (p := ⟨gl, i, none⟩) HGL.out _⟩
          have := HMr.out.put i (by rw [flipL_len]; have := HKL.out; omega) ((255 - x) % 256)
          rwa [flipL_set _ _ _ HX.out] at this)
        go_wp2_with fail
        refine ⟨⟨i + 1, rfl, ⟨ci⟩, ⟨HNEW.out.1⟩, ⟨HNEW.out.2.1⟩, ⟨HNEW.out.2.2⟩⟩, ?_⟩
        simp only [intOf]
        omega
      · have ci1 : decide ((i : Int) < (n : Int)) = false := decide_eq_false (by omega)
        go_wp2_with fail
        go_ret
        exact ⟨rfl, (HB.out.trans (HBE.out.mono HB.out.size)).trans HBr.out⟩
  · obtain ⟨k, rfl⟩ : ∃ k : Nat, S = (k : Int) := ⟨S.toNat, by omega⟩
    have HK := Aside0.mk (show 1 ≤ k ∧ k ≤ 4096 by omega)
    clear hS
    by_cases hk : 128 * k < mi
    · have HKM := Aside0.mk hk
      clear hk
      go_wp2_with (first
        | (go_at_call 25; refine (new_long (some ⟨gl, 0, none⟩) mi cl k wb HK.out.1 HK.out.2 HKM.out 25 (.inl rfl)).mono ?_; rintro e w' ⟨rfl, hw⟩; subst w')
        | (go_at_call 33; refine (new_long Ai mi ci k wb HK.out.1 HK.out.2 HKM.out 33 (.inr rfl)).mono ?_; rintro e w' ⟨rfl, hw⟩; subst w'))
      go_at_call 34
      refine (HKEPT.out wb (Below.refl _ _)).mono ?_
      rintro e w' ⟨rfl, md, rfl⟩
      have HBE := Aside0.mk (show Below wb.heap.size wb (wb.drewN md) from pw_below_drewN (Below.refl _ _) md)
      clear HKEPT
      generalize wb.drewN md = we at *
      have HM4 := Aside0.mk (show Mem we gl xs from HM.out.below HBE.out)
      go_wp2_with fail
      go_loopw [12] (fun p wr => ∃ i : Nat, p = .int .i64 (i : Int) ∧ Aside0 (i ≤ n) ∧ Aside0 (Mem wr gl (flipL xs i)) ∧ Aside0 (Kept we wr (fun j => j = gl)) ∧ Aside0 (Below W.heap.size we wr)) (fun p _ => n - (intOf p).toNat)
      · exact ⟨0, rfl, ⟨Nat.zero_le _⟩, ⟨by unfold flipL; rw [List.take_zero, List.map_nil, List.nil_append, List.drop_zero]; exact HM4.out⟩, ⟨Kept.refl _ _⟩, ⟨Below.refl _ _⟩⟩
      · obtain ⟨i, rfl, HI, HMr, HKr, HBr⟩ := hrel
        by_cases ci : i < n
        · have ci1 : decide ((i : Int) < (n : Int)) = true := decide_eq_true (by omega)
          have ci2 : (i : Int) < (n : Int) := by omega
          have ci3 : (0 : Int) ≤ (i : Int) := by omega
          have hw1 : IntKind.i64.wrap ((i : Int) + 1) = ((i + 1 : Nat) : Int) := by rw [IntWalk.i64_in _ (by have := HN63.out; omega)]; omega
          obtain ⟨x, hx⟩ : ∃ x, xs[i]? = some x := ⟨_, List.getElem?_eq_getElem (by have := HKL.out; omega)⟩
          have hget := flipL_get xs i (by have := HKL.out; omega)
          have cj := HMr.out.cell i (by rw [flipL_len]; have := HKL.out; omega)
          rw [List.getD_eq_getElem?_getD, hget, hx] at cj
          simp only [Option.getD_some] at cj
          have fj : wr.frozen? ⟨gl, i, none⟩ = false := by
            obtain ⟨cur, h1, _⟩ := HMr.out
            simp [World.frozen?, h1]
          have HX := Aside0.mk hx
          clear hget hx
          have HNEW := Aside0.mk (show Mem (wr.setCell ⟨gl, i, none⟩ (.int .u8 ((255 - x) % 256))) gl (flipL xs (i + 1)) ∧ Kept we (wr.setCell ⟨gl, i, none⟩ (.int .u8 ((255 - x) % 256))) (fun j => j = gl) ∧ Below W.heap.size we (wr.setCell ⟨gl, i, none⟩ (.int .u8 ((255 - x) % 256))) from by
            refine ⟨?_, HKr.out.setCell (.inl rfl) _, HBr.out.setCell (p := ⟨gl, i, none⟩) HGL.out _⟩
            have := HMr.out.put i (by rw [flipL_len]; have := HKL.out; omega) ((255 - x) % 256)
            rwa [flipL_set _ _ _ HX.out] at this)
          go_wp2_with fail
          refine ⟨⟨i + 1, rfl, ⟨ci⟩, ⟨HNEW.out.1⟩, ⟨HNEW.out.2.1⟩, ⟨HNEW.out.2.2⟩⟩, ?_⟩
          simp only [intOf]
          omega
        · have ci1 : decide ((i : Int) < (n : Int)) = false := decide_eq_false (by omega)
          go_wp2_with fail
          go_ret
          exact ⟨rfl, (HB.out.trans (HBE.out.mono HB.out.size)).trans HBr.out⟩
    · have HKM := Aside0.mk (show mi ≤ 128 * k by omega)
      clear hk
      go_wp2_with fail
      go_at_call 25
      refine (new_at (some ⟨gl, 0, none⟩) mi cl k img wb HCLI.out HK.out.1 HK.out.2 HKM.out).mono ?_
      rintro e wc ⟨h, rfl, hhn, hd, hb⟩
      have HBC := Aside0.mk hb
      have HHN := Aside0.mk hhn
      have HD0 := Aside0.mk hd
      have HGS := Aside0.mk hd.s.lt
      have HCI2 := Aside0.mk (Kd.C_below HCI1.out hb)
      clear hhn hd hb
      go_wp2_with fail
      go_at_call 33
      refine (rnew_at Ai mi ci k img wc HCI2.out HK.out.1 HK.out.2 HKM.out).mono ?_
      rintro e wd ⟨r, rfl, hrn, hr, hb⟩
      have HRN := Aside0.mk hrn
      have HR0 := Aside0.mk hr
      have HD01 := Aside0.mk (HD0.out.stay hb)
      have HBD := Aside0.mk (HBC.out.trans (hb.mono HBC.out.size))
      clear hrn hr hb HD0
      go_wp2_with fail
      go_at_call 34
      refine (HKEPT.out wd HBD.out).mono ?_
      rintro e w' ⟨rfl, md, rfl⟩
      have hbm : Below wd.heap.size wd (wd.drewN md) := pw_below_drewN (Below.refl _ _) md
      have HBE := Aside0.mk (show Below wb.heap.size wb (wd.drewN md) from HBD.out.trans (hbm.mono HBD.out.size))
      have HD1 := Aside0.mk (HD01.out.stay hbm)
      have HR1 := Aside0.mk (HR0.out.stay hbm)
      clear hbm HKEPT HD01 HR0
      generalize wd.drewN md = we at *
      have HM4 := Aside0.mk (show Mem we gl xs from HM.out.below HBE.out)
      go_wp2_with fail
      go_loopw [12] (fun p wr => ∃ i : Nat, p = .int .i64 (i : Int) ∧ Aside0 (i ≤ n) ∧ Aside0 (Mem wr gl (flipL xs i)) ∧ Aside0 (Kept we wr (fun j => j = gl)) ∧ Aside0 (Below W.heap.size we wr)) (fun p _ => n - (intOf p).toNat)
      · exact ⟨0, rfl, ⟨Nat.zero_le _⟩, ⟨by unfold flipL; rw [List.take_zero, List.map_nil, List.nil_append, List.drop_zero]; exact HM4.out⟩, ⟨Kept.refl _ _⟩, ⟨Below.refl _ _⟩⟩
      · obtain ⟨i, rfl, HI, HMr, HKr, HBr⟩ := hrel
        by_cases ci : i < n
        · have ci1 : decide ((i : Int) < (n : Int)) = true := decide_eq_true (by omega)
          have ci2 : (i : Int) < (n : Int) := by omega
          have ci3 : (0 : Int) ≤ (i : Int) := by omega
          have hw1 : IntKind.i64.wrap ((i : Int) + 1) = ((i + 1 : Nat) : Int) := by rw [IntWalk.i64_in _ (by have := HN63.out; omega)]; omega
          obtain ⟨x, hx⟩ : ∃ x, xs[i]? = some x := ⟨_, List.getElem?_eq_getElem (by have := HKL.out; omega)⟩
          have hget := flipL_get xs i (by have := HKL.out; omega)
          have cj := HMr.out.cell i (by rw [flipL_len]; have := HKL.out; omega)
          rw [List.getD_eq_getElem?_getD, hget, hx] at cj
          simp only [Option.getD_some] at cj
          have fj : wr.frozen? ⟨gl, i, none⟩ = false := by
            obtain ⟨cur, h1, _⟩ := HMr.out
            simp [World.frozen?, h1]
          have HX := Aside0.mk hx
          clear hget hx
          have HNEW := Aside0.mk (show Mem (wr.setCell ⟨gl, i, none⟩ (.int .u8 ((255 - x) % 256))) gl (flipL xs (i + 1)) ∧ Kept we (wr.setCell ⟨gl, i, none⟩ (.int .u8 ((255 - x) % 256))) (fun j => j = gl) ∧ Below W.heap.size we (wr.setCell ⟨gl, i, none⟩ (.int .u8 ((255 - x) % 256))) from by
            refine ⟨?_, HKr.out.setCell (.inl rfl) _, HBr.out.setCell (p := ⟨gl, i, none⟩) HGL.out _⟩
            have := HMr.out.put i (by rw [flipL_len]; have := HKL.out; omega) ((255 - x) % 256)
            rwa [flipL_set _ _ _ HX.out] at this)
          go_wp2_with fail
          refine ⟨⟨i + 1, rfl, ⟨ci⟩, ⟨HNEW.out.1⟩, ⟨HNEW.out.2.1⟩, ⟨HNEW.out.2.2⟩⟩, ?_⟩
          simp only [intOf]
          omega
        · have ci1 : decide ((i : Int) < (n : Int)) = false := decide_eq_false (by omega)
          go_wp2_with fail
          have HRF := Aside0.mk (HR1.out.off (HKr.out.mono (fun j e => by have := HM.out.lt; have := HBC.out.size; show j < wc.heap.size; omega)))
          have HDF := Aside0.mk (HD1.out.off (HKr.out.mono (fun j e => by have := HM.out.lt; show j < wb.heap.size; omega)))
          have HBZ := Aside0.mk (show Below W.heap.size W wr from (HB.out.trans (HBE.out.mono HB.out.size)).trans HBr.out)
          clear HMr HKr HBr HI ci ci1 HM4 HR1 HD1 HM
          have hrp : Rt 66 wr.heap.size [ptr h.D, ptr r.D] (wr.alloc (.cells #[ptr h.D, ptr r.D] 66)) := heap_alloc_new wr _
          have hbp : Below wr.heap.size wr (wr.alloc (.cells #[ptr h.D, ptr r.D] 66)) := below_alloc (Below.refl _ _) _
          have hfin := HBZ.out.trans (hbp.mono HBZ.out.size)
          have HBOTH := Aside0.mk (show Both wr.heap.size W.heap.size h r (padded img (128 * k)) [] (wr.alloc (.cells #[ptr h.D, ptr r.D] 66)) from
            Both.fresh (HDF.out.stay hbp) (HRF.out.stay hbp) HB.out.size (Nat.le_trans HB.out.size HBC.out.size) HGS.out HHN.out HRN.out hrp HBZ.out.size H0.out (HF.out.base H0.out hfin))
          have HB6 := Aside0.mk hfin
          obtain ⟨gp, hgp⟩ : ∃ gp, wr.heap.size = gp := ⟨_, rfl⟩
          rw [hgp] at HBOTH
          rw [hgp]
          clear hrp hbp hfin hgp HDF HRF HBZ
          generalize wr.alloc (.cells #[ptr h.D, ptr r.D] 66) = w6 at *
          go_wp2_with fail
          go_loopw [14, 15] (fun p q wr => ∃ i : Nat, p = .int .i64 (i : Int) ∧ Aside0 (i ≤ ns) ∧ Aside0 (∃ h r fs ops, Both gp W.heap.size h r fs ops wr) ∧ Aside0 (Below W.heap.size W wr)) (fun p _ _ => ns - (intOf p).toNat)
          · exact ⟨0, rfl, ⟨Nat.zero_le _⟩, ⟨⟨_, _, _, _, HBOTH.out⟩⟩, HB6⟩
          · obtain ⟨i, rfl, HI, HBO, HBr⟩ := hrel
            by_cases ci : i < ns
            · have ci1 : decide ((i : Int) < (ns : Int)) = true := decide_eq_true (by omega)
              have ci2 : (i : Int) < (ns : Int) := by omega
              have ci3 : (0 : Int) ≤ (i : Int) := by omega
              have hw1 : IntKind.i64.wrap ((i : Int) + 1) = ((i + 1 : Nat) : Int) := by rw [IntWalk.i64_in _ (by have := HNS.out; omega)]; omega
              obtain ⟨ad, rfl, hop⟩ := HOPS.out i ci
              obtain ⟨kind, N, fill, torn, y, Ab, Ak, m, cb, mk, ck, ex, bs, keep, ⟨a0, a1, a2, a3⟩, ⟨a4, a5, a6, a7⟩, hN, hBs, hm, hm8, hKp, hkk, hk8⟩ := hop.below HBr.out
              obtain ⟨h', r', fs', ops', hboth⟩ := HBO.out
              have HDOES := Aside0.mk (does_any hboth kind N fill torn y Ab Ak m cb mk ck ex hN bs keep hBs hm hm8 hKp hkk hk8)
              clear hop hN hBs hm hm8 hKp hkk hk8 hboth
              go_wp2_with fail
              go_at_call 35
              refine HDOES.out.mono ?_
              rintro e w7 ⟨rfl, h2, r2, fs2, ops2, hB2, hb⟩
              have HNB := Aside0.mk (show ∃ h r fs ops, Both gp W.heap.size h r fs ops w7 from ⟨_, _, _, _, hB2⟩)
              have HB7 := Aside0.mk (HBr.out.trans hb)
              clear hB2 hb
              go_wp2_with fail
              refine ⟨⟨i + 1, rfl, ⟨ci⟩, HNB, HB7⟩, ?_⟩
              simp only [intOf]
              omega
            · have ci1 : decide ((i : Int) < (ns : Int)) = false := decide_eq_false (by omega)
              obtain ⟨h', r', fs', ops', hboth⟩ := HBO.out
              have HDOES := Aside0.mk (does_asks hboth 0 0 0 0 none none 0 0 0 0 false)
              clear hboth
              go_wp2_with fail
              go_at_call 35
              refine HDOES.out.mono ?_
              rintro e w7 ⟨rfl, h2, r2, fs2, ops2, hB2, hb⟩
              have HB7 := Aside0.mk (HBr.out.trans hb)
              clear hB2 hb
              go_wp2_with fail
              go_ret
              exact ⟨rfl, HB7.out⟩
end Go.Proofs.YtpaonoaedjkekaaDoor.Dk
namespace Go.Proofs.YtpaonoaedjkekaaDoor.Dk
open Go Go.Deep Go.ChangeShapes Go.WideShapes Go.RowKit Go.Proofs.YtpaonoaedjkekaaDoor.PD Go.Proofs.YtpaonoaedjkekaaDoorW.PrintWords Go.Proofs.YtpaonoaedjkekaaDoorW.PrintLast Go.Proofs.YtpaonoaedjkekaaDoorW.PrintMore
set_option linter.unusedVariables false
theorem putsArg {H : Type} {enc : TypeId × Value → H} {W : World} {base : Nat} {held : Bool} {a : Option Addr} {len cap : Nat} {d : DataW H} {ps : List MemPlace}
    (h : DataW.Trod enc Tryd.prog W base (fun _ => true) held 22 (.slice a len cap) d ps) : ∃ puts : List S37, Kd.C k37 W a len puts ∧ Puts puts ∧ len ≤ cap := by
  obtain ⟨fuel, hf⟩ := h
  have c3 : Tryd.prog.cellsOf 3 = 1 := by kernel_rfl
  have c4 : Tryd.prog.cellsOf 4 = 1 := by kernel_rfl
  have c5 : Tryd.prog.cellsOf 5 = 1 := by kernel_rfl
  have c37 : Tryd.prog.cellsOf 37 = 3 := by kernel_rfl
  rcases open_slice Tryd.underlying22 hf with ⟨hcs, _⟩ | ⟨ad, l, c, m, n, D, Pl, hcs, _, hl, hm, hmm, _, hr⟩
  · simp [Value.cells] at hcs
    obtain ⟨rfl, rfl, rfl⟩ := hcs
    exact ⟨[], Kd.C_nil _ _, fun _ hp => (by cases hp), Nat.le_refl _⟩
  · simp [Value.cells] at hcs
    obtain ⟨rfl, rfl, rfl⟩ := hcs
    rw [if_pos rfl] at hmm
    have hcell : ∀ i, i < len → ∃ p : S37, W.cell? (ad.add (i * 3)) = some (.int .i64 p.f0) ∧ W.cell? (ad.add (i * 3 + 1)) = some (.int .u8 p.f1) ∧ W.cell? (ad.add (i * 3 + 2)) = some (.bool p.f2) ∧ -9223372036854775808 ≤ p.f0 ∧ p.f0 ≤ 9223372036854775807 := fun i hi => by
      obtain ⟨cs, hc, ht⟩ := hr i (by omega)
      rw [c37] at hc
      obtain ⟨y0, y1, y2, n', _, hlen, h0, h1, h2⟩ := trod_struct3 Tryd.underlying37 ht
      rw [c37] at hlen
      obtain ⟨_, _, hat⟩ := World.cells?_some hc
      match cs, hlen with
      | [v0, v1, v2], _ =>
        simp only [c3, c4, c5] at h0 h1 h2
        obtain ⟨k0, e0, _, w0⟩ := DataW.trod_int Tryd.underlying3 h0
        obtain ⟨k1, e1, _, w1⟩ := DataW.trod_int Tryd.underlying5 h1
        obtain ⟨k2, e2, _⟩ := DataW.trod_bool Tryd.underlying4 h2
        simp at e0 e1 e2
        subst e0
        subst e1
        subst e2
        have g0 := hat (i := 0) (by decide)
        have g1 := hat (i := 1) (by decide)
        have g2 := hat (i := 2) (by decide)
        rw [Go.Deep.add_add, Nat.add_zero] at g0
        rw [Go.Deep.add_add] at g1 g2
        exact ⟨⟨k0, k1, k2⟩, by simpa using g0, by simpa using g1, by simpa using g2, bounds_i64 w0⟩
    obtain ⟨f, hfun⟩ : ∃ f : Nat → S37, ∀ i, i < len → W.cell? (ad.add (i * 3)) = some (.int .i64 (f i).f0) ∧ W.cell? (ad.add (i * 3 + 1)) = some (.int .u8 (f i).f1) ∧ W.cell? (ad.add (i * 3 + 2)) = some (.bool (f i).f2) ∧ -9223372036854775808 ≤ (f i).f0 ∧ (f i).f0 ≤ 9223372036854775807 :=
      ⟨fun i => if h : i < len then (hcell i h).choose else z37, fun i hi => by simp only [dif_pos hi]; exact (hcell i hi).choose_spec⟩
    refine ⟨(List.range len).map f, ⟨by simp, by simp only [maxLen] at hm; omega, fun _ => ⟨ad, rfl, fun j p hj => ?_⟩⟩, fun p hp => ?_, hl⟩
    · obtain ⟨hj1, hj2⟩ := List.getElem?_eq_some_iff.1 hj
      have hjl : j < len := by simpa using hj1
      simp only [List.getElem_map, List.getElem_range] at hj2
      subst hj2
      obtain ⟨e0, e1, e2, _⟩ := hfun j hjl
      refine ⟨_, by rfl, k37_mk W (f j), fun i u hu => ?_⟩
      show W.cell? (ad.add (j * 3 + i)) = _
      match i, hu with
      | 0, hu => simp at hu; subst hu; rw [Nat.add_zero]; exact e0
      | 1, hu => simp at hu; subst hu; exact e1
      | 2, hu => simp at hu; subst hu; exact e2
      | i + 3, hu => simp at hu
    · obtain ⟨i, hi, rfl⟩ := List.mem_map.1 hp
      exact (hfun i (List.mem_range.1 hi)).2.2.2
theorem intsArg {H : Type} {enc : TypeId × Value → H} {W : World} {base : Nat} {held : Bool} {a : Option Addr} {len cap : Nat} {d : DataW H} {ps : List MemPlace}
    (h : DataW.Trod enc Tryd.prog W base (fun _ => true) held 23 (.slice a len cap) d ps) : ∃ zs : List Int, Kd.C (Kd.int .i64) W a len zs ∧ (∀ v ∈ zs, (Lit.int .i64 v).wf = true) ∧ len ≤ cap := by
  obtain ⟨fuel, hf⟩ := h
  rcases open_ints Tryd.underlying23 Tryd.underlying3 (by kernel_rfl) hf with ⟨hcs, _⟩ | ⟨x, l, c, zs, hcs, _, hl, hm, hz, _, hcell, hwz⟩
  · simp [Value.cells] at hcs
    obtain ⟨rfl, rfl, rfl⟩ := hcs
    exact ⟨[], Kd.C_nil _ _, fun _ hp => (by cases hp), Nat.le_refl _⟩
  · simp [Value.cells] at hcs
    obtain ⟨rfl, rfl, rfl⟩ := hcs
    have hz : zs.length = cap := by simpa using hz
    refine ⟨zs.take len, Kd.C_of_reads (d := (0 : Int)) (h1 := fun _ => rfl) ⟨by rw [List.length_take]; omega, by simp only [maxLen] at hm; omega, fun _ => ⟨x, rfl, fun i hi => ?_⟩⟩, fun v hv => hwz v (List.mem_of_mem_take hv), hl⟩
    rw [hcell i (by omega)]
    congr 2
    rw [List.getD_eq_getElem?_getD, List.getD_eq_getElem?_getD, List.getElem?_take, if_pos hi]
open Go.Joins in
theorem crashArg {H : Type} {enc : TypeId × Value → H} {W : World} {base b0 : Nat} {r : Reach} {held : Bool} {v : Value} {d : DataW H} {ps : List MemPlace} (hv : Value.okWide Tryd.prog W r b0 34 v)
    (h : DataW.Trod enc Tryd.prog W base (fun _ => true) held 34 v d ps) : ∃ (a : Option Addr) (len cap : Nat) (torn y : Int) (zs : List Int), v = .agg #[.slice a len cap, .int .i64 torn, .int .i64 y] ∧ Kd.C (Kd.int .i64) W a len zs ∧ (∀ v ∈ zs, (Lit.int .i64 v).wf = true) ∧ len ≤ cap ∧ (Lit.int .i64 torn).wf = true ∧ (Lit.int .i64 y).wf = true := by
  obtain ⟨v0, v1, v2, y0, y1, y2, n, rfl, _, _, h0, h1, h2⟩ := open_agg3 Tryd.underlying34 (by kernel_rfl) (by kernel_rfl) hv h
  obtain ⟨k1, e1, _, w1⟩ := DataW.trod_int Tryd.underlying3 h1
  obtain ⟨k2, e2, _, w2⟩ := DataW.trod_int Tryd.underlying3 h2
  simp at e1 e2
  subst e1
  subst e2
  obtain ⟨a, len, cap, rfl⟩ : ∃ a len cap, v0 = .slice a len cap := by
    rcases open_slice Tryd.underlying23 h0 with ⟨hcs, _⟩ | ⟨ad, l, c, _, _, _, _, hcs, _⟩
    · simp at hcs; exact ⟨_, _, _, hcs⟩
    · simp at hcs; exact ⟨_, _, _, hcs⟩
  obtain ⟨zs, hC, hb, hl⟩ := intsArg (len := len) (cap := cap) (a := a) (d := y0.1) (ps := y0.2) ⟨n, h0⟩
  exact ⟨a, len, cap, k1, k2, zs, rfl, hC, hb, hl, w1, w2⟩
end Go.Proofs.YtpaonoaedjkekaaDoor.Dk
