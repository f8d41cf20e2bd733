/- does, its read, walked. -/
import Derived.Test.YtpaonoaedjkekaaDoorPl6
import Derived.Deep.RegionHeld3
namespace Go.Proofs.YtpaonoaedjkekaaDoor.Dk
open Go Go.RowKit Go.Proofs.YtpaonoaedjkekaaDoor.PD Go.Proofs.YtpaonoaedjkekaaDoorW.PrintWords Go.Proofs.YtpaonoaedjkekaaDoorW.PrintLast Go.Proofs.YtpaonoaedjkekaaDoorW.PrintMore
set_option linter.unusedVariables false
set_option linter.unusedSimpArgs false
set_option maxHeartbeats 4000000
set_option maxRecDepth 100000
theorem Both.stay {gp B : Nat} {h : Hd} {r : Rd} {fs : List Int} {ops : List (Int × List Int)} {W W' : World} (k : Both gp B h r fs ops W) (hb : Below W.heap.size W W') : Both gp B h r fs ops W' ∧ Below B W W' := by
  obtain ⟨A, c, hd⟩ := k.dd
  obtain ⟨A2, c2, hr⟩ := k.rr
  have hB := hb.mono hd.size
  exact ⟨{ k with row := (hb.block _ k.row.lt).trans k.row, dd := ⟨A, c, hd.stay hb⟩, rr := ⟨A2, c2, hr.stay hb⟩, fl := k.fl.base k.b0 hB }, hB⟩
theorem does_read {gp B : Nat} {h : Hd} {r : Rd} {fs : List Int} {ops : List (Int × List Int)} {W : World} (k : Both gp B h r fs ops W) (N fill torn y : Int) (Ab Ak : Option Addr) (m cb mk ck : Nat) (ex : Bool) :
    Calls Tryd.prog 35 #[ptr gp, .agg (opV 2 N fill torn y Ab Ak m cb mk ck ex).toArray] W fun e w' => e = .returned (.bool true) ∧ ∃ h' r' fs' ops', Both gp B h' r' fs' ops' w' ∧ Below B W w' := by
  have K := Aside0.mk k
  clear k
  go_enter Tryd.func35, Tryd.ntmps35
  go_upto_region 1 with fail
  have hr3 : Rt 69 W.heap.size (opV 2 N fill torn y Ab Ak m cb mk ck ex) (W.alloc (.cells (opV 2 N fill torn y Ab Ak m cb mk ck ex).toArray 69)) := heap_alloc_new W _
  have hb1 : Below W.heap.size W (W.alloc (.cells (opV 2 N fill torn y Ab Ak m cb mk ck ex).toArray 69)) := below_alloc (Below.refl _ _) _
  obtain ⟨b3, hb3⟩ : ∃ b3, W.heap.size = b3 := ⟨_, rfl⟩
  have HB3E := Aside0.mk hb3
  rw [hb3] at hr3 ⊢
  generalize W.alloc (.cells (opV 2 N fill torn y Ab Ak m cb mk ck ex).toArray 69) = w1 at *
  have HB1 := Aside0.mk hb1
  have q0 := hr3.cell 0 _ rfl
  have HR3 := Aside0.mk hr3
  clear hr3 hb1 hb3
  have KS := Aside0.mk (K.out.stay HB1.out).1
  have HBW := Aside0.mk (K.out.stay HB1.out).2
  obtain ⟨A, c, hd⟩ := KS.out.dd
  obtain ⟨A2, c2, hr⟩ := KS.out.rr
  have HD := Aside0.mk hd
  have HR := Aside0.mk hr
  have HE := Aside0.mk KS.out.en
  have HO := Aside0.mk KS.out.ok
  have HOR := Aside0.mk (show Oks r.n ops by rw [← HE.out]; exact HO.out)
  have H0 := Aside0.mk (Nat.lt_of_lt_of_le KS.out.b0 hd.size)
  clear hd hr
  have HFIN := Aside0.mk (show ∀ w', Below w1.heap.size w1 w' → ∃ h' r' fs' ops', Both gp B h' r' fs' ops' w' ∧ Below B W w' from fun w' hb => ⟨h, r, fs, ops, (KS.out.stay hb).1, HBW.out.trans (KS.out.stay hb).2⟩)
  have MKS := Aside0.mk (show ∀ w', Below w1.heap.size w1 w' → (fun w' => (w'.cell? ⟨gp, 0, none⟩ = some (ptr h.D) ∧ w'.cell? ⟨gp, 1, none⟩ = some (ptr r.D)) ∧ (w'.cell? ⟨b3, 0, none⟩ = some (.int .i64 2) ∧ w'.cell? ⟨b3, 1, none⟩ = some (.int .i64 N) ∧ w'.cell? ⟨b3, 2, none⟩ = some (.int .u8 fill) ∧ w'.cell? ⟨b3, 3, none⟩ = some (.slice Ab m cb)) ∧ (w'.cell? ⟨b3, 4, none⟩ = some (.bool ex) ∧ w'.cell? ⟨b3, 5, none⟩ = some (.slice Ak mk ck) ∧ w'.cell? ⟨b3, 6, none⟩ = some (.int .i64 torn) ∧ w'.cell? ⟨b3, 7, none⟩ = some (.int .i64 y))) w' from fun w' hb => by
    have r1 : Rt 66 gp [ptr h.D, ptr r.D] w' := (hb.block _ KS.out.row.lt).trans KS.out.row
    have r3 : Rt 69 b3 (opV 2 N fill torn y Ab Ak m cb mk ck ex) w' := (hb.block _ HR3.out.lt).trans HR3.out
    exact ⟨⟨r1.cell 0 _ rfl, r1.cell 1 _ rfl⟩, ⟨r3.cell 0 _ rfl, r3.cell 1 _ rfl, r3.cell 2 _ rfl, r3.cell 3 _ rfl⟩, r3.cell 4 _ rfl, r3.cell 5 _ rfl, r3.cell 6 _ rfl, r3.cell 7 _ rfl⟩)
  obtain ⟨q, hq⟩ := K.out.q
  have HQ := Aside0.mk (show h.n / 128 = q by omega)
  have HQ2 := Aside0.mk (show r.n / 128 = q by have := HE.out; omega)
  have HQ3 := Aside0.mk hq
  clear hq
  by_cases hN : N < 0 ∨ (q : Int) ≤ N
  · have HN := Aside0.mk hN
    clear hN
    go_upto_region 19 with fail
    refine wp_region_held_drew (S := fun w' => (w'.cell? ⟨gp, 0, none⟩ = some (ptr h.D) ∧ w'.cell? ⟨gp, 1, none⟩ = some (ptr r.D)) ∧ (w'.cell? ⟨b3, 0, none⟩ = some (.int .i64 2) ∧ w'.cell? ⟨b3, 1, none⟩ = some (.int .i64 N) ∧ w'.cell? ⟨b3, 2, none⟩ = some (.int .u8 fill) ∧ w'.cell? ⟨b3, 3, none⟩ = some (.slice Ab m cb)) ∧ (w'.cell? ⟨b3, 4, none⟩ = some (.bool ex) ∧ w'.cell? ⟨b3, 5, none⟩ = some (.slice Ak mk ck) ∧ w'.cell? ⟨b3, 6, none⟩ = some (.int .i64 torn) ∧ w'.cell? ⟨b3, 7, none⟩ = some (.int .i64 y))) (by kernel_rfl) (MKS.out _ (below_drew (Below.refl _ _))) (fun hHeld => ?_)
    refine wpAnyH_take (i := 0) (oi := { dst := some 100, op := Op.move (Operand.tmp 0), type := 64, pos := "law.go:133", after := #[], guard := none }) (v := ?_) rfl (by kernel_rfl) (by kernel_rfl) (by kernel_rfl) (fun _ _ _ h => h) (Or.inl ⟨by rfl, ?_⟩) hHeld ?_
    rotate_left
    · intro w' hS; obtain ⟨⟨hS0, hS1⟩, ⟨hS2, hS3, hS4, hS5⟩, hS6, hS7, hS8, hS9⟩ := hS; go_simp; all_goals (with_reducible rfl)
    (try simp only [Act.put, List.setIfInBounds_toArray, List.set_cons_zero, List.set_cons_succ])
    refine wpAnyH_take (i := 1) (oi := { dst := some 101, op := Op.nilCheck (Operand.tmp 100), type := 0, pos := "law.go:133", after := #[{ on := 0, ground := Ground.data }], guard := none }) (v := ?_) rfl (by kernel_rfl) (by kernel_rfl) (by kernel_rfl) (fun _ _ _ h => h) (Or.inl ⟨by rfl, ?_⟩) hHeld ?_
    rotate_left
    · intro w' hS; obtain ⟨⟨hS0, hS1⟩, ⟨hS2, hS3, hS4, hS5⟩, hS6, hS7, hS8, hS9⟩ := hS; go_simp; all_goals (with_reducible rfl)
    (try simp only [Act.put, List.setIfInBounds_toArray, List.set_cons_zero, List.set_cons_succ])
    refine wpAnyH_take (i := 2) (oi := { dst := some 102, op := Op.fieldAddr 66 (Operand.tmp 101) 0, type := 0, pos := "law.go:133", after := #[{ on := 1, ground := Ground.data }], guard := none }) (v := ?_) rfl (by kernel_rfl) (by kernel_rfl) (by kernel_rfl) (fun _ _ _ h => h) (Or.inl ⟨by rfl, ?_⟩) hHeld ?_
    rotate_left
    · intro w' hS; obtain ⟨⟨hS0, hS1⟩, ⟨hS2, hS3, hS4, hS5⟩, hS6, hS7, hS8, hS9⟩ := hS; go_simp; all_goals (with_reducible rfl)
    (try simp only [Act.put, List.setIfInBounds_toArray, List.set_cons_zero, List.set_cons_succ])
    refine wpAnyH_take (i := 3) (oi := { dst := some 103, op := Op.load 25 (Operand.tmp 102), type := 25, pos := "law.go:133", after := #[{ on := 2, ground := Ground.data }], guard := none }) (v := ?_) rfl (by kernel_rfl) (by kernel_rfl) (by kernel_rfl) (fun _ _ _ h => h) (Or.inl ⟨by rfl, ?_⟩) hHeld ?_
    rotate_left
    · intro w' hS; obtain ⟨⟨hS0, hS1⟩, ⟨hS2, hS3, hS4, hS5⟩, hS6, hS7, hS8, hS9⟩ := hS; go_simp; all_goals (with_reducible rfl)
    (try simp only [Act.put, List.setIfInBounds_toArray, List.set_cons_zero, List.set_cons_succ])
    refine wpAnyH_take (i := 4) (oi := { dst := some 104, op := Op.fieldAddr 69 (Operand.tmp 3) 1, type := 0, pos := "law.go:133", after := #[], guard := none }) (v := ?_) rfl (by kernel_rfl) (by kernel_rfl) (by kernel_rfl) (fun _ _ _ h => h) (Or.inl ⟨by rfl, ?_⟩) hHeld ?_
    rotate_left
    · intro w' hS; obtain ⟨⟨hS0, hS1⟩, ⟨hS2, hS3, hS4, hS5⟩, hS6, hS7, hS8, hS9⟩ := hS; go_simp; all_goals (with_reducible rfl)
    (try simp only [Act.put, List.setIfInBounds_toArray, List.set_cons_zero, List.set_cons_succ])
    refine wpAnyH_take (i := 5) (oi := { dst := some 105, op := Op.load 3 (Operand.tmp 104), type := 3, pos := "law.go:133", after := #[{ on := 4, ground := Ground.data }], guard := none }) (v := ?_) rfl (by kernel_rfl) (by kernel_rfl) (by kernel_rfl) (fun _ _ _ h => h) (Or.inl ⟨by rfl, ?_⟩) hHeld ?_
    rotate_left
    · intro w' hS; obtain ⟨⟨hS0, hS1⟩, ⟨hS2, hS3, hS4, hS5⟩, hS6, hS7, hS8, hS9⟩ := hS; go_simp; all_goals (with_reducible rfl)
    (try simp only [Act.put, List.setIfInBounds_toArray, List.set_cons_zero, List.set_cons_succ])
    refine wpAnyH_ready (rs := [6]) (by kernel_rfl) (by simp) ?_
    refine AllReadyH.cons (o := { dst := some 106, op := Op.call { callee := Callee.value (Operand.func 23), args := #[Operand.tmp 103, Operand.tmp 105], argTypes := #[25, 3] }, type := 31, pos := "law.go:133", after := #[{ on := 3, ground := Ground.data }, { on := 5, ground := Ground.data }], guard := none }) rfl (fun K hK => ?_) AllReadyH.nil
    go_simp
    go_at_call 23
    refine (read_place (HD.out.stay (below_drew (Below.refl _ _))) N q HQ.out HN.out).mono ?_
    rintro e w' ⟨rfl, hw⟩
    subst w'
    refine hK.out _ _ (MKS.out _ (below_drew (Below.refl _ _))) (fun hHeld => ?_)
    clear hK K
    (try simp only [Act.put, List.setIfInBounds_toArray, List.set_cons_zero, List.set_cons_succ])
    refine wpAnyH_take (i := 7) (oi := { dst := some 99, op := Op.move (Operand.tmp 106), type := 31, pos := "law.go:133", after := #[{ on := 6, ground := Ground.data }], guard := none }) (v := ?_) rfl (by kernel_rfl) (by kernel_rfl) (by kernel_rfl) (fun _ _ _ h => h) (Or.inl ⟨by rfl, ?_⟩) hHeld ?_
    rotate_left
    · intro w' hS; obtain ⟨⟨hS0, hS1⟩, ⟨hS2, hS3, hS4, hS5⟩, hS6, hS7, hS8, hS9⟩ := hS; go_simp; all_goals (with_reducible rfl)
    (try simp only [Act.put, List.setIfInBounds_toArray, List.set_cons_zero, List.set_cons_succ])
    refine wpAnyH_take (i := 8) (oi := { dst := some 107, op := Op.extract (Operand.tmp 99) 0, type := 29, pos := "law.go:133", after := #[{ on := 7, ground := Ground.data }], guard := none }) (v := ?_) rfl (by kernel_rfl) (by kernel_rfl) (by kernel_rfl) (fun _ _ _ h => h) (Or.inl ⟨by rfl, ?_⟩) hHeld ?_
    rotate_left
    · intro w' hS; obtain ⟨⟨hS0, hS1⟩, ⟨hS2, hS3, hS4, hS5⟩, hS6, hS7, hS8, hS9⟩ := hS; go_simp; all_goals (with_reducible rfl)
    (try simp only [Act.put, List.setIfInBounds_toArray, List.set_cons_zero, List.set_cons_succ])
    refine wpAnyH_take (i := 9) (oi := { dst := some 108, op := Op.extract (Operand.tmp 99) 1, type := 30, pos := "law.go:133", after := #[{ on := 7, ground := Ground.data }, { on := 10, ground := Ground.gcOnly Departure.lateStores }], guard := none }) (v := ?_) rfl (by kernel_rfl) (by kernel_rfl) (by kernel_rfl) (fun _ _ _ h => h) (Or.inl ⟨by rfl, ?_⟩) hHeld ?_
    rotate_left
    · intro w' hS; obtain ⟨⟨hS0, hS1⟩, ⟨hS2, hS3, hS4, hS5⟩, hS6, hS7, hS8, hS9⟩ := hS; go_simp; all_goals (with_reducible rfl)
    (try simp only [Act.put, List.setIfInBounds_toArray, List.set_cons_zero, List.set_cons_succ])
    refine wpAnyH_take (i := 10) (oi := { dst := some 12, op := Op.assign (Operand.tmp 107), type := 29, pos := "law.go:133", after := #[{ on := 8, ground := Ground.data }, { on := 6, ground := Ground.chain }, { on := 0, ground := Ground.phase }, { on := 1, ground := Ground.phase }, { on := 2, ground := Ground.phase }, { on := 3, ground := Ground.phase }, { on := 4, ground := Ground.phase }, { on := 5, ground := Ground.phase }, { on := 6, ground := Ground.phase }, { on := 7, ground := Ground.phase }, { on := 8, ground := Ground.phase }, { on := 9, ground := Ground.textOnly Departure.lateStores }], guard := none }) (v := ?_) rfl (by kernel_rfl) (by kernel_rfl) (by kernel_rfl) (fun _ _ _ h => h) (Or.inl ⟨by rfl, ?_⟩) hHeld ?_
    rotate_left
    · intro w' hS; obtain ⟨⟨hS0, hS1⟩, ⟨hS2, hS3, hS4, hS5⟩, hS6, hS7, hS8, hS9⟩ := hS; go_simp; all_goals (with_reducible rfl)
    (try simp only [Act.put, List.setIfInBounds_toArray, List.set_cons_zero, List.set_cons_succ])
    refine wpAnyH_take (i := 11) (oi := { dst := some 13, op := Op.assign (Operand.tmp 108), type := 30, pos := "law.go:133", after := #[{ on := 9, ground := Ground.data }, { on := 10, ground := Ground.chain }, { on := 0, ground := Ground.phase }, { on := 1, ground := Ground.phase }, { on := 2, ground := Ground.phase }, { on := 3, ground := Ground.phase }, { on := 4, ground := Ground.phase }, { on := 5, ground := Ground.phase }, { on := 6, ground := Ground.phase }, { on := 7, ground := Ground.phase }, { on := 8, ground := Ground.phase }, { on := 9, ground := Ground.phase }, { on := 10, ground := Ground.phase }], guard := none }) (v := ?_) rfl (by kernel_rfl) (by kernel_rfl) (by kernel_rfl) (fun _ _ _ h => h) (Or.inl ⟨by rfl, ?_⟩) hHeld ?_
    rotate_left
    · intro w' hS; obtain ⟨⟨hS0, hS1⟩, ⟨hS2, hS3, hS4, hS5⟩, hS6, hS7, hS8, hS9⟩ := hS; go_simp; all_goals (with_reducible rfl)
    (try simp only [Act.put, List.setIfInBounds_toArray, List.set_cons_zero, List.set_cons_succ])
    refine wpAnyH_done (by kernel_rfl) ?_ _
    (try simp only [Act.put, List.setIfInBounds_toArray, List.set_cons_zero, List.set_cons_succ])
    go_upto_region 20 with fail
    refine wp_region_held_drew (S := fun w' => (w'.cell? ⟨gp, 0, none⟩ = some (ptr h.D) ∧ w'.cell? ⟨gp, 1, none⟩ = some (ptr r.D)) ∧ (w'.cell? ⟨b3, 0, none⟩ = some (.int .i64 2) ∧ w'.cell? ⟨b3, 1, none⟩ = some (.int .i64 N) ∧ w'.cell? ⟨b3, 2, none⟩ = some (.int .u8 fill) ∧ w'.cell? ⟨b3, 3, none⟩ = some (.slice Ab m cb)) ∧ (w'.cell? ⟨b3, 4, none⟩ = some (.bool ex) ∧ w'.cell? ⟨b3, 5, none⟩ = some (.slice Ak mk ck) ∧ w'.cell? ⟨b3, 6, none⟩ = some (.int .i64 torn) ∧ w'.cell? ⟨b3, 7, none⟩ = some (.int .i64 y))) (by kernel_rfl) (MKS.out _ (below_drew (below_drew (Below.refl _ _)))) (fun hHeld => ?_)
    refine wpAnyH_take (i := 0) (oi := { dst := some 110, op := Op.move (Operand.tmp 0), type := 64, pos := "law.go:134", after := #[], guard := none }) (v := ?_) rfl (by kernel_rfl) (by kernel_rfl) (by kernel_rfl) (fun _ _ _ h => h) (Or.inl ⟨by rfl, ?_⟩) hHeld ?_
    rotate_left
    · intro w' hS; obtain ⟨⟨hS0, hS1⟩, ⟨hS2, hS3, hS4, hS5⟩, hS6, hS7, hS8, hS9⟩ := hS; go_simp; all_goals (with_reducible rfl)
    (try simp only [Act.put, List.setIfInBounds_toArray, List.set_cons_zero, List.set_cons_succ])
    refine wpAnyH_take (i := 1) (oi := { dst := some 111, op := Op.nilCheck (Operand.tmp 110), type := 0, pos := "law.go:134", after := #[{ on := 0, ground := Ground.data }], guard := none }) (v := ?_) rfl (by kernel_rfl) (by kernel_rfl) (by kernel_rfl) (fun _ _ _ h => h) (Or.inl ⟨by rfl, ?_⟩) hHeld ?_
    rotate_left
    · intro w' hS; obtain ⟨⟨hS0, hS1⟩, ⟨hS2, hS3, hS4, hS5⟩, hS6, hS7, hS8, hS9⟩ := hS; go_simp; all_goals (with_reducible rfl)
    (try simp only [Act.put, List.setIfInBounds_toArray, List.set_cons_zero, List.set_cons_succ])
    refine wpAnyH_take (i := 2) (oi := { dst := some 112, op := Op.fieldAddr 66 (Operand.tmp 111) 1, type := 0, pos := "law.go:134", after := #[{ on := 1, ground := Ground.data }], guard := none }) (v := ?_) rfl (by kernel_rfl) (by kernel_rfl) (by kernel_rfl) (fun _ _ _ h => h) (Or.inl ⟨by rfl, ?_⟩) hHeld ?_
    rotate_left
    · intro w' hS; obtain ⟨⟨hS0, hS1⟩, ⟨hS2, hS3, hS4, hS5⟩, hS6, hS7, hS8, hS9⟩ := hS; go_simp; all_goals (with_reducible rfl)
    (try simp only [Act.put, List.setIfInBounds_toArray, List.set_cons_zero, List.set_cons_succ])
    refine wpAnyH_take (i := 3) (oi := { dst := some 113, op := Op.load 61 (Operand.tmp 112), type := 61, pos := "law.go:134", after := #[{ on := 2, ground := Ground.data }], guard := none }) (v := ?_) rfl (by kernel_rfl) (by kernel_rfl) (by kernel_rfl) (fun _ _ _ h => h) (Or.inl ⟨by rfl, ?_⟩) hHeld ?_
    rotate_left
    · intro w' hS; obtain ⟨⟨hS0, hS1⟩, ⟨hS2, hS3, hS4, hS5⟩, hS6, hS7, hS8, hS9⟩ := hS; go_simp; all_goals (with_reducible rfl)
    (try simp only [Act.put, List.setIfInBounds_toArray, List.set_cons_zero, List.set_cons_succ])
    refine wpAnyH_take (i := 4) (oi := { dst := some 114, op := Op.fieldAddr 69 (Operand.tmp 3) 1, type := 0, pos := "law.go:134", after := #[], guard := none }) (v := ?_) rfl (by kernel_rfl) (by kernel_rfl) (by kernel_rfl) (fun _ _ _ h => h) (Or.inl ⟨by rfl, ?_⟩) hHeld ?_
    rotate_left
    · intro w' hS; obtain ⟨⟨hS0, hS1⟩, ⟨hS2, hS3, hS4, hS5⟩, hS6, hS7, hS8, hS9⟩ := hS; go_simp; all_goals (with_reducible rfl)
    (try simp only [Act.put, List.setIfInBounds_toArray, List.set_cons_zero, List.set_cons_succ])
    refine wpAnyH_take (i := 5) (oi := { dst := some 115, op := Op.load 3 (Operand.tmp 114), type := 3, pos := "law.go:134", after := #[{ on := 4, ground := Ground.data }], guard := none }) (v := ?_) rfl (by kernel_rfl) (by kernel_rfl) (by kernel_rfl) (fun _ _ _ h => h) (Or.inl ⟨by rfl, ?_⟩) hHeld ?_
    rotate_left
    · intro w' hS; obtain ⟨⟨hS0, hS1⟩, ⟨hS2, hS3, hS4, hS5⟩, hS6, hS7, hS8, hS9⟩ := hS; go_simp; all_goals (with_reducible rfl)
    (try simp only [Act.put, List.setIfInBounds_toArray, List.set_cons_zero, List.set_cons_succ])
    refine wpAnyH_ready (rs := [6]) (by kernel_rfl) (by simp) ?_
    refine AllReadyH.cons (o := { dst := some 116, op := Op.call { callee := Callee.value (Operand.func 46), args := #[Operand.tmp 113, Operand.tmp 115], argTypes := #[61, 3] }, type := 31, pos := "law.go:134", after := #[{ on := 3, ground := Ground.data }, { on := 5, ground := Ground.data }], guard := none }) rfl (fun K hK => ?_) AllReadyH.nil
    go_simp
    go_at_call 46
    refine (rread_place (HR.out.stay (below_drew (below_drew (Below.refl _ _)))) N q HQ2.out HN.out).mono ?_
    rintro e w' ⟨rfl, hw⟩
    subst w'
    refine hK.out _ _ (MKS.out _ (below_drew (below_drew (Below.refl _ _)))) (fun hHeld => ?_)
    clear hK K
    (try simp only [Act.put, List.setIfInBounds_toArray, List.set_cons_zero, List.set_cons_succ])
    refine wpAnyH_take (i := 7) (oi := { dst := some 109, op := Op.move (Operand.tmp 116), type := 31, pos := "law.go:134", after := #[{ on := 6, ground := Ground.data }], guard := none }) (v := ?_) rfl (by kernel_rfl) (by kernel_rfl) (by kernel_rfl) (fun _ _ _ h => h) (Or.inl ⟨by rfl, ?_⟩) hHeld ?_
    rotate_left
    · intro w' hS; obtain ⟨⟨hS0, hS1⟩, ⟨hS2, hS3, hS4, hS5⟩, hS6, hS7, hS8, hS9⟩ := hS; go_simp; all_goals (with_reducible rfl)
    (try simp only [Act.put, List.setIfInBounds_toArray, List.set_cons_zero, List.set_cons_succ])
    refine wpAnyH_take (i := 8) (oi := { dst := some 117, op := Op.extract (Operand.tmp 109) 0, type := 29, pos := "law.go:134", after := #[{ on := 7, ground := Ground.data }], guard := none }) (v := ?_) rfl (by kernel_rfl) (by kernel_rfl) (by kernel_rfl) (fun _ _ _ h => h) (Or.inl ⟨by rfl, ?_⟩) hHeld ?_
    rotate_left
    · intro w' hS; obtain ⟨⟨hS0, hS1⟩, ⟨hS2, hS3, hS4, hS5⟩, hS6, hS7, hS8, hS9⟩ := hS; go_simp; all_goals (with_reducible rfl)
    (try simp only [Act.put, List.setIfInBounds_toArray, List.set_cons_zero, List.set_cons_succ])
    refine wpAnyH_take (i := 9) (oi := { dst := some 118, op := Op.extract (Operand.tmp 109) 1, type := 30, pos := "law.go:134", after := #[{ on := 7, ground := Ground.data }, { on := 10, ground := Ground.gcOnly Departure.lateStores }], guard := none }) (v := ?_) rfl (by kernel_rfl) (by kernel_rfl) (by kernel_rfl) (fun _ _ _ h => h) (Or.inl ⟨by rfl, ?_⟩) hHeld ?_
    rotate_left
    · intro w' hS; obtain ⟨⟨hS0, hS1⟩, ⟨hS2, hS3, hS4, hS5⟩, hS6, hS7, hS8, hS9⟩ := hS; go_simp; all_goals (with_reducible rfl)
    (try simp only [Act.put, List.setIfInBounds_toArray, List.set_cons_zero, List.set_cons_succ])
    refine wpAnyH_take (i := 10) (oi := { dst := some 14, op := Op.assign (Operand.tmp 117), type := 29, pos := "law.go:134", after := #[{ on := 8, ground := Ground.data }, { on := 6, ground := Ground.chain }, { on := 0, ground := Ground.phase }, { on := 1, ground := Ground.phase }, { on := 2, ground := Ground.phase }, { on := 3, ground := Ground.phase }, { on := 4, ground := Ground.phase }, { on := 5, ground := Ground.phase }, { on := 6, ground := Ground.phase }, { on := 7, ground := Ground.phase }, { on := 8, ground := Ground.phase }, { on := 9, ground := Ground.textOnly Departure.lateStores }], guard := none }) (v := ?_) rfl (by kernel_rfl) (by kernel_rfl) (by kernel_rfl) (fun _ _ _ h => h) (Or.inl ⟨by rfl, ?_⟩) hHeld ?_
    rotate_left
    · intro w' hS; obtain ⟨⟨hS0, hS1⟩, ⟨hS2, hS3, hS4, hS5⟩, hS6, hS7, hS8, hS9⟩ := hS; go_simp; all_goals (with_reducible rfl)
    (try simp only [Act.put, List.setIfInBounds_toArray, List.set_cons_zero, List.set_cons_succ])
    refine wpAnyH_take (i := 11) (oi := { dst := some 15, op := Op.assign (Operand.tmp 118), type := 30, pos := "law.go:134", after := #[{ on := 9, ground := Ground.data }, { on := 10, ground := Ground.chain }, { on := 0, ground := Ground.phase }, { on := 1, ground := Ground.phase }, { on := 2, ground := Ground.phase }, { on := 3, ground := Ground.phase }, { on := 4, ground := Ground.phase }, { on := 5, ground := Ground.phase }, { on := 6, ground := Ground.phase }, { on := 7, ground := Ground.phase }, { on := 8, ground := Ground.phase }, { on := 9, ground := Ground.phase }, { on := 10, ground := Ground.phase }], guard := none }) (v := ?_) rfl (by kernel_rfl) (by kernel_rfl) (by kernel_rfl) (fun _ _ _ h => h) (Or.inl ⟨by rfl, ?_⟩) hHeld ?_
    rotate_left
    · intro w' hS; obtain ⟨⟨hS0, hS1⟩, ⟨hS2, hS3, hS4, hS5⟩, hS6, hS7, hS8, hS9⟩ := hS; go_simp; all_goals (with_reducible rfl)
    (try simp only [Act.put, List.setIfInBounds_toArray, List.set_cons_zero, List.set_cons_succ])
    refine wpAnyH_done (by kernel_rfl) ?_ _
    (try simp only [Act.put, List.setIfInBounds_toArray, List.set_cons_zero, List.set_cons_succ])
    have HBY := Aside0.mk (bytes_at [] (by decide) none none 0 0 0 w1.drew.drew rfl (Kd.C_nil _ _) (Nat.le_refl _) (Kd.C_nil _ _) (Nat.le_refl _))
    go_wp2_with (go_at_call 26; refine HBY.out.mono ?_; rintro e w' ⟨rfl, md, hw⟩; subst w')
    go_ret
    exact ⟨rfl, HFIN.out _ (pw_below_drewN (Below.refl _ _) _)⟩
  · obtain ⟨n, rfl⟩ : ∃ n : Nat, N = (n : Int) := ⟨N.toNat, by omega⟩
    have HN := Aside0.mk (show 128 * n + 128 ≤ h.n by have := HQ3.out; omega)
    have HN2 := Aside0.mk (show 128 * n + 128 ≤ r.n by have := HQ3.out; have := HE.out; omega)
    clear hN
    go_upto_region 19 with fail
    refine wp_region_held_drew (S := fun w' => (w'.cell? ⟨gp, 0, none⟩ = some (ptr h.D) ∧ w'.cell? ⟨gp, 1, none⟩ = some (ptr r.D)) ∧ (w'.cell? ⟨b3, 0, none⟩ = some (.int .i64 2) ∧ w'.cell? ⟨b3, 1, none⟩ = some (.int .i64 (n : Int)) ∧ w'.cell? ⟨b3, 2, none⟩ = some (.int .u8 fill) ∧ w'.cell? ⟨b3, 3, none⟩ = some (.slice Ab m cb)) ∧ (w'.cell? ⟨b3, 4, none⟩ = some (.bool ex) ∧ w'.cell? ⟨b3, 5, none⟩ = some (.slice Ak mk ck) ∧ w'.cell? ⟨b3, 6, none⟩ = some (.int .i64 torn) ∧ w'.cell? ⟨b3, 7, none⟩ = some (.int .i64 y))) (by kernel_rfl) (MKS.out _ (below_drew (Below.refl _ _))) (fun hHeld => ?_)
    refine wpAnyH_take (i := 0) (oi := { dst := some 100, op := Op.move (Operand.tmp 0), type := 64, pos := "law.go:133", after := #[], guard := none }) (v := ?_) rfl (by kernel_rfl) (by kernel_rfl) (by kernel_rfl) (fun _ _ _ h => h) (Or.inl ⟨by rfl, ?_⟩) hHeld ?_
    rotate_left
    · intro w' hS; obtain ⟨⟨hS0, hS1⟩, ⟨hS2, hS3, hS4, hS5⟩, hS6, hS7, hS8, hS9⟩ := hS; go_simp; all_goals (with_reducible rfl)
    (try simp only [Act.put, List.setIfInBounds_toArray, List.set_cons_zero, List.set_cons_succ])
    refine wpAnyH_take (i := 1) (oi := { dst := some 101, op := Op.nilCheck (Operand.tmp 100), type := 0, pos := "law.go:133", after := #[{ on := 0, ground := Ground.data }], guard := none }) (v := ?_) rfl (by kernel_rfl) (by kernel_rfl) (by kernel_rfl) (fun _ _ _ h => h) (Or.inl ⟨by rfl, ?_⟩) hHeld ?_
    rotate_left
    · intro w' hS; obtain ⟨⟨hS0, hS1⟩, ⟨hS2, hS3, hS4, hS5⟩, hS6, hS7, hS8, hS9⟩ := hS; go_simp; all_goals (with_reducible rfl)
    (try simp only [Act.put, List.setIfInBounds_toArray, List.set_cons_zero, List.set_cons_succ])
    refine wpAnyH_take (i := 2) (oi := { dst := some 102, op := Op.fieldAddr 66 (Operand.tmp 101) 0, type := 0, pos := "law.go:133", after := #[{ on := 1, ground := Ground.data }], guard := none }) (v := ?_) rfl (by kernel_rfl) (by kernel_rfl) (by kernel_rfl) (fun _ _ _ h => h) (Or.inl ⟨by rfl, ?_⟩) hHeld ?_
    rotate_left
    · intro w' hS; obtain ⟨⟨hS0, hS1⟩, ⟨hS2, hS3, hS4, hS5⟩, hS6, hS7, hS8, hS9⟩ := hS; go_simp; all_goals (with_reducible rfl)
    (try simp only [Act.put, List.setIfInBounds_toArray, List.set_cons_zero, List.set_cons_succ])
    refine wpAnyH_take (i := 3) (oi := { dst := some 103, op := Op.load 25 (Operand.tmp 102), type := 25, pos := "law.go:133", after := #[{ on := 2, ground := Ground.data }], guard := none }) (v := ?_) rfl (by kernel_rfl) (by kernel_rfl) (by kernel_rfl) (fun _ _ _ h => h) (Or.inl ⟨by rfl, ?_⟩) hHeld ?_
    rotate_left
    · intro w' hS; obtain ⟨⟨hS0, hS1⟩, ⟨hS2, hS3, hS4, hS5⟩, hS6, hS7, hS8, hS9⟩ := hS; go_simp; all_goals (with_reducible rfl)
    (try simp only [Act.put, List.setIfInBounds_toArray, List.set_cons_zero, List.set_cons_succ])
    refine wpAnyH_take (i := 4) (oi := { dst := some 104, op := Op.fieldAddr 69 (Operand.tmp 3) 1, type := 0, pos := "law.go:133", after := #[], guard := none }) (v := ?_) rfl (by kernel_rfl) (by kernel_rfl) (by kernel_rfl) (fun _ _ _ h => h) (Or.inl ⟨by rfl, ?_⟩) hHeld ?_
    rotate_left
    · intro w' hS; obtain ⟨⟨hS0, hS1⟩, ⟨hS2, hS3, hS4, hS5⟩, hS6, hS7, hS8, hS9⟩ := hS; go_simp; all_goals (with_reducible rfl)
    (try simp only [Act.put, List.setIfInBounds_toArray, List.set_cons_zero, List.set_cons_succ])
    refine wpAnyH_take (i := 5) (oi := { dst := some 105, op := Op.load 3 (Operand.tmp 104), type := 3, pos := "law.go:133", after := #[{ on := 4, ground := Ground.data }], guard := none }) (v := ?_) rfl (by kernel_rfl) (by kernel_rfl) (by kernel_rfl) (fun _ _ _ h => h) (Or.inl ⟨by rfl, ?_⟩) hHeld ?_
    rotate_left
    · intro w' hS; obtain ⟨⟨hS0, hS1⟩, ⟨hS2, hS3, hS4, hS5⟩, hS6, hS7, hS8, hS9⟩ := hS; go_simp; all_goals (with_reducible rfl)
    (try simp only [Act.put, List.setIfInBounds_toArray, List.set_cons_zero, List.set_cons_succ])
    refine wpAnyH_ready (rs := [6]) (by kernel_rfl) (by simp) ?_
    refine AllReadyH.cons (o := { dst := some 106, op := Op.call { callee := Callee.value (Operand.func 23), args := #[Operand.tmp 103, Operand.tmp 105], argTypes := #[25, 3] }, type := 31, pos := "law.go:133", after := #[{ on := 3, ground := Ground.data }, { on := 5, ground := Ground.data }], guard := none }) rfl (fun K hK => ?_) AllReadyH.nil
    go_simp
    go_at_call 23
    refine (read_at (HD.out.stay (below_drew (Below.refl _ _))) n HN.out).mono ?_
    rintro e wa ⟨ga, cga, rfl, hm, hg, hcg, hb⟩
    have HBa := Aside0.mk (show Below w1.heap.size w1 wa from (below_drew (Below.refl _ _)).trans hb)
    have HMa := Aside0.mk hm
    have HCa := Aside0.mk hcg
    clear hm hg hcg hb
    refine hK.out _ _ (MKS.out _ HBa.out) (fun hHeld => ?_)
    clear hK K
    (try simp only [Act.put, List.setIfInBounds_toArray, List.set_cons_zero, List.set_cons_succ])
    refine wpAnyH_take (i := 7) (oi := { dst := some 99, op := Op.move (Operand.tmp 106), type := 31, pos := "law.go:133", after := #[{ on := 6, ground := Ground.data }], guard := none }) (v := ?_) rfl (by kernel_rfl) (by kernel_rfl) (by kernel_rfl) (fun _ _ _ h => h) (Or.inl ⟨by rfl, ?_⟩) hHeld ?_
    rotate_left
    · intro w' hS; obtain ⟨⟨hS0, hS1⟩, ⟨hS2, hS3, hS4, hS5⟩, hS6, hS7, hS8, hS9⟩ := hS; go_simp; all_goals (with_reducible rfl)
    (try simp only [Act.put, List.setIfInBounds_toArray, List.set_cons_zero, List.set_cons_succ])
    refine wpAnyH_take (i := 8) (oi := { dst := some 107, op := Op.extract (Operand.tmp 99) 0, type := 29, pos := "law.go:133", after := #[{ on := 7, ground := Ground.data }], guard := none }) (v := ?_) rfl (by kernel_rfl) (by kernel_rfl) (by kernel_rfl) (fun _ _ _ h => h) (Or.inl ⟨by rfl, ?_⟩) hHeld ?_
    rotate_left
    · intro w' hS; obtain ⟨⟨hS0, hS1⟩, ⟨hS2, hS3, hS4, hS5⟩, hS6, hS7, hS8, hS9⟩ := hS; go_simp; all_goals (with_reducible rfl)
    (try simp only [Act.put, List.setIfInBounds_toArray, List.set_cons_zero, List.set_cons_succ])
    refine wpAnyH_take (i := 9) (oi := { dst := some 108, op := Op.extract (Operand.tmp 99) 1, type := 30, pos := "law.go:133", after := #[{ on := 7, ground := Ground.data }, { on := 10, ground := Ground.gcOnly Departure.lateStores }], guard := none }) (v := ?_) rfl (by kernel_rfl) (by kernel_rfl) (by kernel_rfl) (fun _ _ _ h => h) (Or.inl ⟨by rfl, ?_⟩) hHeld ?_
    rotate_left
    · intro w' hS; obtain ⟨⟨hS0, hS1⟩, ⟨hS2, hS3, hS4, hS5⟩, hS6, hS7, hS8, hS9⟩ := hS; go_simp; all_goals (with_reducible rfl)
    (try simp only [Act.put, List.setIfInBounds_toArray, List.set_cons_zero, List.set_cons_succ])
    refine wpAnyH_take (i := 10) (oi := { dst := some 12, op := Op.assign (Operand.tmp 107), type := 29, pos := "law.go:133", after := #[{ on := 8, ground := Ground.data }, { on := 6, ground := Ground.chain }, { on := 0, ground := Ground.phase }, { on := 1, ground := Ground.phase }, { on := 2, ground := Ground.phase }, { on := 3, ground := Ground.phase }, { on := 4, ground := Ground.phase }, { on := 5, ground := Ground.phase }, { on := 6, ground := Ground.phase }, { on := 7, ground := Ground.phase }, { on := 8, ground := Ground.phase }, { on := 9, ground := Ground.textOnly Departure.lateStores }], guard := none }) (v := ?_) rfl (by kernel_rfl) (by kernel_rfl) (by kernel_rfl) (fun _ _ _ h => h) (Or.inl ⟨by rfl, ?_⟩) hHeld ?_
    rotate_left
    · intro w' hS; obtain ⟨⟨hS0, hS1⟩, ⟨hS2, hS3, hS4, hS5⟩, hS6, hS7, hS8, hS9⟩ := hS; go_simp; all_goals (with_reducible rfl)
    (try simp only [Act.put, List.setIfInBounds_toArray, List.set_cons_zero, List.set_cons_succ])
    refine wpAnyH_take (i := 11) (oi := { dst := some 13, op := Op.assign (Operand.tmp 108), type := 30, pos := "law.go:133", after := #[{ on := 9, ground := Ground.data }, { on := 10, ground := Ground.chain }, { on := 0, ground := Ground.phase }, { on := 1, ground := Ground.phase }, { on := 2, ground := Ground.phase }, { on := 3, ground := Ground.phase }, { on := 4, ground := Ground.phase }, { on := 5, ground := Ground.phase }, { on := 6, ground := Ground.phase }, { on := 7, ground := Ground.phase }, { on := 8, ground := Ground.phase }, { on := 9, ground := Ground.phase }, { on := 10, ground := Ground.phase }], guard := none }) (v := ?_) rfl (by kernel_rfl) (by kernel_rfl) (by kernel_rfl) (fun _ _ _ h => h) (Or.inl ⟨by rfl, ?_⟩) hHeld ?_
    rotate_left
    · intro w' hS; obtain ⟨⟨hS0, hS1⟩, ⟨hS2, hS3, hS4, hS5⟩, hS6, hS7, hS8, hS9⟩ := hS; go_simp; all_goals (with_reducible rfl)
    (try simp only [Act.put, List.setIfInBounds_toArray, List.set_cons_zero, List.set_cons_succ])
    refine wpAnyH_done (by kernel_rfl) ?_ _
    (try simp only [Act.put, List.setIfInBounds_toArray, List.set_cons_zero, List.set_cons_succ])
    go_upto_region 20 with fail
    refine wp_region_held_drew (S := fun w' => (w'.cell? ⟨gp, 0, none⟩ = some (ptr h.D) ∧ w'.cell? ⟨gp, 1, none⟩ = some (ptr r.D)) ∧ (w'.cell? ⟨b3, 0, none⟩ = some (.int .i64 2) ∧ w'.cell? ⟨b3, 1, none⟩ = some (.int .i64 (n : Int)) ∧ w'.cell? ⟨b3, 2, none⟩ = some (.int .u8 fill) ∧ w'.cell? ⟨b3, 3, none⟩ = some (.slice Ab m cb)) ∧ (w'.cell? ⟨b3, 4, none⟩ = some (.bool ex) ∧ w'.cell? ⟨b3, 5, none⟩ = some (.slice Ak mk ck) ∧ w'.cell? ⟨b3, 6, none⟩ = some (.int .i64 torn) ∧ w'.cell? ⟨b3, 7, none⟩ = some (.int .i64 y))) (by kernel_rfl) (MKS.out _ (below_drew HBa.out)) (fun hHeld => ?_)
    refine wpAnyH_take (i := 0) (oi := { dst := some 110, op := Op.move (Operand.tmp 0), type := 64, pos := "law.go:134", after := #[], guard := none }) (v := ?_) rfl (by kernel_rfl) (by kernel_rfl) (by kernel_rfl) (fun _ _ _ h => h) (Or.inl ⟨by rfl, ?_⟩) hHeld ?_
    rotate_left
    · intro w' hS; obtain ⟨⟨hS0, hS1⟩, ⟨hS2, hS3, hS4, hS5⟩, hS6, hS7, hS8, hS9⟩ := hS; go_simp; all_goals (with_reducible rfl)
    (try simp only [Act.put, List.setIfInBounds_toArray, List.set_cons_zero, List.set_cons_succ])
    refine wpAnyH_take (i := 1) (oi := { dst := some 111, op := Op.nilCheck (Operand.tmp 110), type := 0, pos := "law.go:134", after := #[{ on := 0, ground := Ground.data }], guard := none }) (v := ?_) rfl (by kernel_rfl) (by kernel_rfl) (by kernel_rfl) (fun _ _ _ h => h) (Or.inl ⟨by rfl, ?_⟩) hHeld ?_
    rotate_left
    · intro w' hS; obtain ⟨⟨hS0, hS1⟩, ⟨hS2, hS3, hS4, hS5⟩, hS6, hS7, hS8, hS9⟩ := hS; go_simp; all_goals (with_reducible rfl)
    (try simp only [Act.put, List.setIfInBounds_toArray, List.set_cons_zero, List.set_cons_succ])
    refine wpAnyH_take (i := 2) (oi := { dst := some 112, op := Op.fieldAddr 66 (Operand.tmp 111) 1, type := 0, pos := "law.go:134", after := #[{ on := 1, ground := Ground.data }], guard := none }) (v := ?_) rfl (by kernel_rfl) (by kernel_rfl) (by kernel_rfl) (fun _ _ _ h => h) (Or.inl ⟨by rfl, ?_⟩) hHeld ?_
    rotate_left
    · intro w' hS; obtain ⟨⟨hS0, hS1⟩, ⟨hS2, hS3, hS4, hS5⟩, hS6, hS7, hS8, hS9⟩ := hS; go_simp; all_goals (with_reducible rfl)
    (try simp only [Act.put, List.setIfInBounds_toArray, List.set_cons_zero, List.set_cons_succ])
    refine wpAnyH_take (i := 3) (oi := { dst := some 113, op := Op.load 61 (Operand.tmp 112), type := 61, pos := "law.go:134", after := #[{ on := 2, ground := Ground.data }], guard := none }) (v := ?_) rfl (by kernel_rfl) (by kernel_rfl) (by kernel_rfl) (fun _ _ _ h => h) (Or.inl ⟨by rfl, ?_⟩) hHeld ?_
    rotate_left
    · intro w' hS; obtain ⟨⟨hS0, hS1⟩, ⟨hS2, hS3, hS4, hS5⟩, hS6, hS7, hS8, hS9⟩ := hS; go_simp; all_goals (with_reducible rfl)
    (try simp only [Act.put, List.setIfInBounds_toArray, List.set_cons_zero, List.set_cons_succ])
    refine wpAnyH_take (i := 4) (oi := { dst := some 114, op := Op.fieldAddr 69 (Operand.tmp 3) 1, type := 0, pos := "law.go:134", after := #[], guard := none }) (v := ?_) rfl (by kernel_rfl) (by kernel_rfl) (by kernel_rfl) (fun _ _ _ h => h) (Or.inl ⟨by rfl, ?_⟩) hHeld ?_
    rotate_left
    · intro w' hS; obtain ⟨⟨hS0, hS1⟩, ⟨hS2, hS3, hS4, hS5⟩, hS6, hS7, hS8, hS9⟩ := hS; go_simp; all_goals (with_reducible rfl)
    (try simp only [Act.put, List.setIfInBounds_toArray, List.set_cons_zero, List.set_cons_succ])
    refine wpAnyH_take (i := 5) (oi := { dst := some 115, op := Op.load 3 (Operand.tmp 114), type := 3, pos := "law.go:134", after := #[{ on := 4, ground := Ground.data }], guard := none }) (v := ?_) rfl (by kernel_rfl) (by kernel_rfl) (by kernel_rfl) (fun _ _ _ h => h) (Or.inl ⟨by rfl, ?_⟩) hHeld ?_
    rotate_left
    · intro w' hS; obtain ⟨⟨hS0, hS1⟩, ⟨hS2, hS3, hS4, hS5⟩, hS6, hS7, hS8, hS9⟩ := hS; go_simp; all_goals (with_reducible rfl)
    (try simp only [Act.put, List.setIfInBounds_toArray, List.set_cons_zero, List.set_cons_succ])
    refine wpAnyH_ready (rs := [6]) (by kernel_rfl) (by simp) ?_
    refine AllReadyH.cons (o := { dst := some 116, op := Op.call { callee := Callee.value (Operand.func 46), args := #[Operand.tmp 113, Operand.tmp 115], argTypes := #[61, 3] }, type := 31, pos := "law.go:134", after := #[{ on := 3, ground := Ground.data }, { on := 5, ground := Ground.data }], guard := none }) rfl (fun K hK => ?_) AllReadyH.nil
    go_simp
    go_at_call 46
    refine (rread_at (HR.out.stay (below_drew HBa.out)) HOR.out n HN2.out).mono ?_
    rintro e wb ⟨gb, cgb, rfl, hm, hg, hcg, hb⟩
    have hb2 : Below wa.heap.size wa wb := (below_drew (Below.refl _ _)).trans hb
    have HBb := Aside0.mk (show Below w1.heap.size w1 wb from HBa.out.trans (hb2.mono HBa.out.size))
    have HMb := Aside0.mk hm
    have HMa2 := Aside0.mk (HMa.out.below hb2)
    have HCb := Aside0.mk hcg
    clear hm hg hcg hb hb2
    refine hK.out _ _ (MKS.out _ HBb.out) (fun hHeld => ?_)
    clear hK K
    (try simp only [Act.put, List.setIfInBounds_toArray, List.set_cons_zero, List.set_cons_succ])
    refine wpAnyH_take (i := 7) (oi := { dst := some 109, op := Op.move (Operand.tmp 116), type := 31, pos := "law.go:134", after := #[{ on := 6, ground := Ground.data }], guard := none }) (v := ?_) rfl (by kernel_rfl) (by kernel_rfl) (by kernel_rfl) (fun _ _ _ h => h) (Or.inl ⟨by rfl, ?_⟩) hHeld ?_
    rotate_left
    · intro w' hS; obtain ⟨⟨hS0, hS1⟩, ⟨hS2, hS3, hS4, hS5⟩, hS6, hS7, hS8, hS9⟩ := hS; go_simp; all_goals (with_reducible rfl)
    (try simp only [Act.put, List.setIfInBounds_toArray, List.set_cons_zero, List.set_cons_succ])
    refine wpAnyH_take (i := 8) (oi := { dst := some 117, op := Op.extract (Operand.tmp 109) 0, type := 29, pos := "law.go:134", after := #[{ on := 7, ground := Ground.data }], guard := none }) (v := ?_) rfl (by kernel_rfl) (by kernel_rfl) (by kernel_rfl) (fun _ _ _ h => h) (Or.inl ⟨by rfl, ?_⟩) hHeld ?_
    rotate_left
    · intro w' hS; obtain ⟨⟨hS0, hS1⟩, ⟨hS2, hS3, hS4, hS5⟩, hS6, hS7, hS8, hS9⟩ := hS; go_simp; all_goals (with_reducible rfl)
    (try simp only [Act.put, List.setIfInBounds_toArray, List.set_cons_zero, List.set_cons_succ])
    refine wpAnyH_take (i := 9) (oi := { dst := some 118, op := Op.extract (Operand.tmp 109) 1, type := 30, pos := "law.go:134", after := #[{ on := 7, ground := Ground.data }, { on := 10, ground := Ground.gcOnly Departure.lateStores }], guard := none }) (v := ?_) rfl (by kernel_rfl) (by kernel_rfl) (by kernel_rfl) (fun _ _ _ h => h) (Or.inl ⟨by rfl, ?_⟩) hHeld ?_
    rotate_left
    · intro w' hS; obtain ⟨⟨hS0, hS1⟩, ⟨hS2, hS3, hS4, hS5⟩, hS6, hS7, hS8, hS9⟩ := hS; go_simp; all_goals (with_reducible rfl)
    (try simp only [Act.put, List.setIfInBounds_toArray, List.set_cons_zero, List.set_cons_succ])
    refine wpAnyH_take (i := 10) (oi := { dst := some 14, op := Op.assign (Operand.tmp 117), type := 29, pos := "law.go:134", after := #[{ on := 8, ground := Ground.data }, { on := 6, ground := Ground.chain }, { on := 0, ground := Ground.phase }, { on := 1, ground := Ground.phase }, { on := 2, ground := Ground.phase }, { on := 3, ground := Ground.phase }, { on := 4, ground := Ground.phase }, { on := 5, ground := Ground.phase }, { on := 6, ground := Ground.phase }, { on := 7, ground := Ground.phase }, { on := 8, ground := Ground.phase }, { on := 9, ground := Ground.textOnly Departure.lateStores }], guard := none }) (v := ?_) rfl (by kernel_rfl) (by kernel_rfl) (by kernel_rfl) (fun _ _ _ h => h) (Or.inl ⟨by rfl, ?_⟩) hHeld ?_
    rotate_left
    · intro w' hS; obtain ⟨⟨hS0, hS1⟩, ⟨hS2, hS3, hS4, hS5⟩, hS6, hS7, hS8, hS9⟩ := hS; go_simp; all_goals (with_reducible rfl)
    (try simp only [Act.put, List.setIfInBounds_toArray, List.set_cons_zero, List.set_cons_succ])
    refine wpAnyH_take (i := 11) (oi := { dst := some 15, op := Op.assign (Operand.tmp 118), type := 30, pos := "law.go:134", after := #[{ on := 9, ground := Ground.data }, { on := 10, ground := Ground.chain }, { on := 0, ground := Ground.phase }, { on := 1, ground := Ground.phase }, { on := 2, ground := Ground.phase }, { on := 3, ground := Ground.phase }, { on := 4, ground := Ground.phase }, { on := 5, ground := Ground.phase }, { on := 6, ground := Ground.phase }, { on := 7, ground := Ground.phase }, { on := 8, ground := Ground.phase }, { on := 9, ground := Ground.phase }, { on := 10, ground := Ground.phase }], guard := none }) (v := ?_) rfl (by kernel_rfl) (by kernel_rfl) (by kernel_rfl) (fun _ _ _ h => h) (Or.inl ⟨by rfl, ?_⟩) hHeld ?_
    rotate_left
    · intro w' hS; obtain ⟨⟨hS0, hS1⟩, ⟨hS2, hS3, hS4, hS5⟩, hS6, hS7, hS8, hS9⟩ := hS; go_simp; all_goals (with_reducible rfl)
    (try simp only [Act.put, List.setIfInBounds_toArray, List.set_cons_zero, List.set_cons_succ])
    refine wpAnyH_done (by kernel_rfl) ?_ _
    (try simp only [Act.put, List.setIfInBounds_toArray, List.set_cons_zero, List.set_cons_succ])
    have hsl : (sectorL (behindL fs ops) n).length = 128 := by
      have h1 := HD.out.ls
      have h2 := HN.out
      unfold sectorL
      rw [List.length_take, List.length_drop, h1]
      omega
    have HBY := Aside0.mk (bytes_at (sectorL (behindL fs ops) n) (by rw [hsl]; decide) (some ⟨ga, 0, none⟩) (some ⟨gb, 0, none⟩) 128 cga cgb wb hsl (HMa2.out.allN hsl (by decide)) HCa.out (HMb.out.allN hsl (by decide)) HCb.out)
    clear hsl
    go_wp2_with (go_at_call 26; refine HBY.out.mono ?_; rintro e w' ⟨rfl, md, hw⟩; subst w')
    go_ret
    exact ⟨rfl, HFIN.out _ (pw_below_drewN HBb.out _)⟩
end Go.Proofs.YtpaonoaedjkekaaDoor.Dk
