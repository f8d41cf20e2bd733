/- does, its questions, walked. A write on both disks, whatever it answers; a block beside both disks, written over. -/
import Derived.Test.YtpaonoaedjkekaaDoorPl4
import Derived.Test.YtpaonoaedjkekaaDoorPl7
import Derived.Deep.RegionHeld3
namespace Go.Proofs.YtpaonoaedjkekaaDoor.Dk
open Go Go.RowKit Go.Proofs.YtpaonoaedjkekaaDoor.PD Go.Proofs.YtpaonoaedjkekaaDoorW.PrintWords Go.Proofs.YtpaonoaedjkekaaDoorW.PrintLast Go.Proofs.YtpaonoaedjkekaaDoorW.PrintMore
set_option linter.unusedVariables false
set_option linter.unusedSimpArgs false
set_option maxHeartbeats 4000000
set_option maxRecDepth 100000
theorem ints_at (xs : List Int) (hx : xs.length < 9223372036854775807) (A0 A1 : Option Addr) (n c0 c1 : Nat) (w : World) (hn : xs.length = n) (hr0 : Kd.C (Kd.int .i64) w A0 n xs) (hc0 : n ≤ c0) (hr1 : Kd.C (Kd.int .i64) w A1 n xs) (hc1 : n ≤ c1) :
    Calls Tryd.prog 42 #[.slice A0 n c0, .slice A1 n c1] w fun e w' => e = .returned (.bool true) ∧ ∃ m, w' = w.drewN m := by
  subst hn
  have h := ints_ok xs xs hx
  rw [decide_eq_true rfl] at h
  exact (larderlaw06_ints.calls (xs.length + 1) A0 c0 xs A1 c1 xs true w hr0 hc0 hr1 hc1 h).mono fun _ _ ⟨he, m, hm⟩ => ⟨he, m, hm⟩
theorem does_asks {gp B : Nat} {h : Hd} {r : Rd} {fs : List Int} {ops : List (Int × List Int)} {W : World} (k : Both gp B h r fs ops W) (N fill torn y : Int) (Ab Ak : Option Addr) (m cb mk ck : Nat) (ex : Bool) :
    Calls Tryd.prog 35 #[ptr gp, .agg (opV 3 N fill torn y Ab Ak m cb mk ck ex).toArray] W fun e w' => e = .returned (.bool true) ∧ ∃ h' r' fs' ops', Both gp B h' r' fs' ops' w' ∧ Below B W w' := by
  have K := Aside0.mk k
  clear k
  go_enter Tryd.func35, Tryd.ntmps35
  go_upto_region 1 with fail
  have hr3 : Rt 69 W.heap.size (opV 3 N fill torn y Ab Ak m cb mk ck ex) (W.alloc (.cells (opV 3 N fill torn y Ab Ak m cb mk ck ex).toArray 69)) := heap_alloc_new W _
  have hb1 : Below W.heap.size W (W.alloc (.cells (opV 3 N fill torn y Ab Ak m cb mk ck ex).toArray 69)) := below_alloc (Below.refl _ _) _
  obtain ⟨b3, hb3⟩ : ∃ b3, W.heap.size = b3 := ⟨_, rfl⟩
  have HB3E := Aside0.mk hb3
  rw [hb3] at hr3 ⊢
  generalize W.alloc (.cells (opV 3 N fill torn y Ab Ak m cb mk ck ex).toArray 69) = w1 at *
  have HB1 := Aside0.mk hb1
  have q0 := hr3.cell 0 _ rfl
  have HR3 := Aside0.mk hr3
  clear hr3 hb1 hb3
  have KS := Aside0.mk (K.out.stay HB1.out).1
  have HBW := Aside0.mk (K.out.stay HB1.out).2
  obtain ⟨A, c, hd⟩ := KS.out.dd
  obtain ⟨A2, c2, hr⟩ := KS.out.rr
  have HD := Aside0.mk hd
  have HR := Aside0.mk hr
  have HE := Aside0.mk KS.out.en
  have HO := Aside0.mk KS.out.ok
  have HOR := Aside0.mk (show Oks r.n ops by rw [← HE.out]; exact HO.out)
  have H0 := Aside0.mk (Nat.lt_of_lt_of_le KS.out.b0 hd.size)
  clear hd hr
  have HFIN := Aside0.mk (show ∀ w', Below w1.heap.size w1 w' → ∃ h' r' fs' ops', Both gp B h' r' fs' ops' w' ∧ Below B W w' from fun w' hb => ⟨h, r, fs, ops, (KS.out.stay hb).1, HBW.out.trans (KS.out.stay hb).2⟩)
  have MKS := Aside0.mk (show ∀ w', Below w1.heap.size w1 w' → (fun w' => (w'.cell? ⟨gp, 0, none⟩ = some (ptr h.D) ∧ w'.cell? ⟨gp, 1, none⟩ = some (ptr r.D)) ∧ (w'.cell? ⟨b3, 0, none⟩ = some (.int .i64 3) ∧ w'.cell? ⟨b3, 1, none⟩ = some (.int .i64 N) ∧ w'.cell? ⟨b3, 2, none⟩ = some (.int .u8 fill) ∧ w'.cell? ⟨b3, 3, none⟩ = some (.slice Ab m cb)) ∧ (w'.cell? ⟨b3, 4, none⟩ = some (.bool ex) ∧ w'.cell? ⟨b3, 5, none⟩ = some (.slice Ak mk ck) ∧ w'.cell? ⟨b3, 6, none⟩ = some (.int .i64 torn) ∧ w'.cell? ⟨b3, 7, none⟩ = some (.int .i64 y))) w' from fun w' hb => by
    have r1 : Rt 66 gp [ptr h.D, ptr r.D] w' := (hb.block _ KS.out.row.lt).trans KS.out.row
    have r3 : Rt 69 b3 (opV 3 N fill torn y Ab Ak m cb mk ck ex) w' := (hb.block _ HR3.out.lt).trans HR3.out
    exact ⟨⟨r1.cell 0 _ rfl, r1.cell 1 _ rfl⟩, ⟨r3.cell 0 _ rfl, r3.cell 1 _ rfl, r3.cell 2 _ rfl, r3.cell 3 _ rfl⟩, r3.cell 4 _ rfl, r3.cell 5 _ rfl, r3.cell 6 _ rfl, r3.cell 7 _ rfl⟩)
  obtain ⟨q, hq⟩ := K.out.q
  have HQ := Aside0.mk (show h.n / 128 = q by omega)
  have HQ2 := Aside0.mk (show r.n / 128 = q by have := HE.out; omega)
  have HLS := Aside0.mk HD.out.ls
  have HLF := Aside0.mk (show (behindL fs (ops.take (looseN ops ops.length))).length = h.n from behindL_len _ _ HD.out.lf (HO.out.take _))
  have HBIG := Aside0.mk HD.out.big
  have HSAME := Aside0.mk HE.out
  obtain ⟨pl, hpl⟩ : ∃ pl, (ops.drop (looseN ops ops.length)).map (·.1) = pl := ⟨_, rfl⟩
  have HPLL := Aside0.mk (show pl.length ≤ 65536 by rw [← hpl, List.length_map, List.length_drop]; have := HD.out.few; omega)
  have HPE := Aside0.mk (show ∀ w', Below w1.heap.size w1 w' → Calls Tryd.prog 22 #[ptr h.D] w' fun e w2 => ∃ v, e = .returned v ∧ Kd.R (Kd.int .i64) 3 w2 w'.heap.size (fun _ => True) v pl ∧ Below w'.heap.size w' w2 from fun w' hb => by
    have := pending_at (HD.out.stay hb) (KS.out.stay hb).1.fl (Nat.lt_of_lt_of_le H0.out hb.size)
    rwa [hpl] at this)
  have HPR := Aside0.mk (show ∀ w', Below w1.heap.size w1 w' → Calls Tryd.prog 47 #[ptr r.D] w' fun e w2 => ∃ v, e = .returned v ∧ Kd.R (Kd.int .i64) 3 w2 w'.heap.size (fun _ => True) v pl ∧ Below w'.heap.size w' w2 from fun w' hb => by
    have := rpending_at (HR.out.stay hb) HOR.out
    rwa [hpl] at this)
  have HRI := Aside0.mk (show ∀ w', Below w1.heap.size w1 w' → Calls Tryd.prog 50 #[ptr r.D] w' fun e w2 => ∃ g c', e = .returned (.slice (some ⟨g, 0, none⟩) h.n c') ∧ Mem w2 g (behindL fs ops) ∧ w'.heap.size ≤ g ∧ h.n ≤ c' ∧ Below w'.heap.size w' w2 from fun w' hb => by
    have := rImage_at (HR.out.stay hb) HOR.out
    rwa [← HE.out] at this)
  have HRU := Aside0.mk (show ∀ w', Below w1.heap.size w1 w' → Calls Tryd.prog 51 #[ptr r.D] w' fun e w2 => ∃ g c', e = .returned (.slice (some ⟨g, 0, none⟩) h.n c') ∧ Mem w2 g (behindL fs (ops.take (looseN ops ops.length))) ∧ w'.heap.size ≤ g ∧ h.n ≤ c' ∧ Below w'.heap.size w' w2 from fun w' hb => by
    have := rdurable_at (HR.out.stay hb) HOR.out
    rwa [← HE.out] at this)
  clear hq hpl
  obtain ⟨⟨p0, p1⟩, _⟩ := MKS.out w1 (Below.refl _ _)
  go_upto_region 23 with fail
  go_wp2_with fail
  go_at_call 22
  refine (HPE.out w1 (Below.refl _ _)).mono ?_
  rintro e wa ⟨v, rfl, hR, hb⟩
  obtain ⟨Aa, ca, rfl, hca, hCa⟩ := Kd.R_reads hR
  have HCA := Aside0.mk hCa
  have HBa := Aside0.mk hb
  have HLA := Aside0.mk hca
  clear hR hb hCa hca p0 p1
  obtain ⟨⟨p0, p1⟩, _⟩ := MKS.out wa HBa.out
  go_wp2_with fail
  go_at_call 47
  refine (HPR.out wa HBa.out).mono ?_
  rintro e wb ⟨v, rfl, hR, hb⟩
  obtain ⟨Ab2, cb2, rfl, hcb, hCb⟩ := Kd.R_reads hR
  have HCB := Aside0.mk hCb
  have HCA2 := Aside0.mk (Kd.C_below HCA.out hb)
  have HBb := Aside0.mk (HBa.out.trans (hb.mono HBa.out.size))
  have HLB := Aside0.mk hcb
  clear hR hb hCb hcb p0 p1
  go_upto_region 25 with fail
  refine wp_region_held_drew (S := fun w' => (w'.cell? ⟨gp, 0, none⟩ = some (ptr h.D) ∧ w'.cell? ⟨gp, 1, none⟩ = some (ptr r.D)) ∧ (w'.cell? ⟨b3, 0, none⟩ = some (.int .i64 3) ∧ w'.cell? ⟨b3, 1, none⟩ = some (.int .i64 N) ∧ w'.cell? ⟨b3, 2, none⟩ = some (.int .u8 fill) ∧ w'.cell? ⟨b3, 3, none⟩ = some (.slice Ab m cb)) ∧ (w'.cell? ⟨b3, 4, none⟩ = some (.bool ex) ∧ w'.cell? ⟨b3, 5, none⟩ = some (.slice Ak mk ck) ∧ w'.cell? ⟨b3, 6, none⟩ = some (.int .i64 torn) ∧ w'.cell? ⟨b3, 7, none⟩ = some (.int .i64 y))) (by kernel_rfl) (MKS.out _ (below_drew HBb.out)) (fun hHeld => ?_)
  refine wpAnyH_take (i := 0) (oi := { dst := some 139, op := Op.move (Operand.tmp 0), type := 64, pos := "law.go:139", after := #[], guard := none }) (v := ?_) rfl (by kernel_rfl) (by kernel_rfl) (by kernel_rfl) (fun _ _ _ h => h) (Or.inl ⟨by rfl, ?_⟩) hHeld ?_
  rotate_left
  · intro w' hS; obtain ⟨⟨hS0, hS1⟩, ⟨hS2, hS3, hS4, hS5⟩, hS6, hS7, hS8, hS9⟩ := hS; go_simp; all_goals (with_reducible rfl)
  (try simp only [Act.put, List.setIfInBounds_toArray, List.set_cons_zero, List.set_cons_succ])
  refine wpAnyH_take (i := 1) (oi := { dst := some 140, op := Op.nilCheck (Operand.tmp 139), type := 0, pos := "law.go:139", after := #[{ on := 0, ground := Ground.data }], guard := none }) (v := ?_) rfl (by kernel_rfl) (by kernel_rfl) (by kernel_rfl) (fun _ _ _ h => h) (Or.inl ⟨by rfl, ?_⟩) hHeld ?_
  rotate_left
  · intro w' hS; obtain ⟨⟨hS0, hS1⟩, ⟨hS2, hS3, hS4, hS5⟩, hS6, hS7, hS8, hS9⟩ := hS; go_simp; all_goals (with_reducible rfl)
  (try simp only [Act.put, List.setIfInBounds_toArray, List.set_cons_zero, List.set_cons_succ])
  refine wpAnyH_take (i := 2) (oi := { dst := some 141, op := Op.fieldAddr 66 (Operand.tmp 140) 0, type := 0, pos := "law.go:139", after := #[{ on := 1, ground := Ground.data }], guard := none }) (v := ?_) rfl (by kernel_rfl) (by kernel_rfl) (by kernel_rfl) (fun _ _ _ h => h) (Or.inl ⟨by rfl, ?_⟩) hHeld ?_
  rotate_left
  · intro w' hS; obtain ⟨⟨hS0, hS1⟩, ⟨hS2, hS3, hS4, hS5⟩, hS6, hS7, hS8, hS9⟩ := hS; go_simp; all_goals (with_reducible rfl)
  (try simp only [Act.put, List.setIfInBounds_toArray, List.set_cons_zero, List.set_cons_succ])
  refine wpAnyH_take (i := 3) (oi := { dst := some 142, op := Op.load 25 (Operand.tmp 141), type := 25, pos := "law.go:139", after := #[{ on := 2, ground := Ground.data }], guard := none }) (v := ?_) rfl (by kernel_rfl) (by kernel_rfl) (by kernel_rfl) (fun _ _ _ h => h) (Or.inl ⟨by rfl, ?_⟩) hHeld ?_
  rotate_left
  · intro w' hS; obtain ⟨⟨hS0, hS1⟩, ⟨hS2, hS3, hS4, hS5⟩, hS6, hS7, hS8, hS9⟩ := hS; go_simp; all_goals (with_reducible rfl)
  (try simp only [Act.put, List.setIfInBounds_toArray, List.set_cons_zero, List.set_cons_succ])
  refine wpAnyH_take (i := 5) (oi := { dst := some 144, op := Op.move (Operand.tmp 0), type := 64, pos := "law.go:139", after := #[], guard := none }) (v := ?_) rfl (by kernel_rfl) (by kernel_rfl) (by kernel_rfl) (fun _ _ _ h => h) (Or.inl ⟨by rfl, ?_⟩) hHeld ?_
  rotate_left
  · intro w' hS; obtain ⟨⟨hS0, hS1⟩, ⟨hS2, hS3, hS4, hS5⟩, hS6, hS7, hS8, hS9⟩ := hS; go_simp; all_goals (with_reducible rfl)
  (try simp only [Act.put, List.setIfInBounds_toArray, List.set_cons_zero, List.set_cons_succ])
  refine wpAnyH_take (i := 6) (oi := { dst := some 145, op := Op.nilCheck (Operand.tmp 144), type := 0, pos := "law.go:139", after := #[{ on := 5, ground := Ground.data }], guard := none }) (v := ?_) rfl (by kernel_rfl) (by kernel_rfl) (by kernel_rfl) (fun _ _ _ h => h) (Or.inl ⟨by rfl, ?_⟩) hHeld ?_
  rotate_left
  · intro w' hS; obtain ⟨⟨hS0, hS1⟩, ⟨hS2, hS3, hS4, hS5⟩, hS6, hS7, hS8, hS9⟩ := hS; go_simp; all_goals (with_reducible rfl)
  (try simp only [Act.put, List.setIfInBounds_toArray, List.set_cons_zero, List.set_cons_succ])
  refine wpAnyH_take (i := 7) (oi := { dst := some 146, op := Op.fieldAddr 66 (Operand.tmp 145) 1, type := 0, pos := "law.go:139", after := #[{ on := 6, ground := Ground.data }], guard := none }) (v := ?_) rfl (by kernel_rfl) (by kernel_rfl) (by kernel_rfl) (fun _ _ _ h => h) (Or.inl ⟨by rfl, ?_⟩) hHeld ?_
  rotate_left
  · intro w' hS; obtain ⟨⟨hS0, hS1⟩, ⟨hS2, hS3, hS4, hS5⟩, hS6, hS7, hS8, hS9⟩ := hS; go_simp; all_goals (with_reducible rfl)
  (try simp only [Act.put, List.setIfInBounds_toArray, List.set_cons_zero, List.set_cons_succ])
  refine wpAnyH_take (i := 8) (oi := { dst := some 147, op := Op.load 61 (Operand.tmp 146), type := 61, pos := "law.go:139", after := #[{ on := 7, ground := Ground.data }], guard := none }) (v := ?_) rfl (by kernel_rfl) (by kernel_rfl) (by kernel_rfl) (fun _ _ _ h => h) (Or.inl ⟨by rfl, ?_⟩) hHeld ?_
  rotate_left
  · intro w' hS; obtain ⟨⟨hS0, hS1⟩, ⟨hS2, hS3, hS4, hS5⟩, hS6, hS7, hS8, hS9⟩ := hS; go_simp; all_goals (with_reducible rfl)
  (try simp only [Act.put, List.setIfInBounds_toArray, List.set_cons_zero, List.set_cons_succ])
  refine wpAnyH_ready (rs := [4]) (by kernel_rfl) (by simp) ?_
  refine AllReadyH.cons (o := { dst := some 143, op := Op.call { callee := Callee.value (Operand.func 19), args := #[Operand.tmp 142], argTypes := #[25] }, type := 3, pos := "law.go:139", after := #[{ on := 3, ground := Ground.data }], guard := none }) rfl (fun K hK => ?_) AllReadyH.nil
  go_simp
  go_at_call 19
  refine (sectors_at (HD.out.stay (below_drew HBb.out)) q HQ.out).mono ?_
  rintro e w' ⟨rfl, hw⟩
  subst w'
  refine hK.out _ _ (MKS.out _ (below_drew HBb.out)) (fun hHeld => ?_)
  clear hK K
  (try simp only [Act.put, List.setIfInBounds_toArray, List.set_cons_zero, List.set_cons_succ])
  refine wpAnyH_ready (rs := [9]) (by kernel_rfl) (by simp) ?_
  refine AllReadyH.cons (o := { dst := some 148, op := Op.call { callee := Callee.value (Operand.func 48), args := #[Operand.tmp 147], argTypes := #[61] }, type := 3, pos := "law.go:139", after := #[{ on := 8, ground := Ground.data }, { on := 4, ground := Ground.chain }], guard := none }) rfl (fun K hK => ?_) AllReadyH.nil
  go_simp
  go_at_call 48
  refine (rsectors_at (HR.out.stay (below_drew HBb.out)) q HQ2.out).mono ?_
  rintro e w' ⟨rfl, hw⟩
  subst w'
  refine hK.out _ _ (MKS.out _ (below_drew HBb.out)) (fun hHeld => ?_)
  clear hK K
  (try simp only [Act.put, List.setIfInBounds_toArray, List.set_cons_zero, List.set_cons_succ])
  refine wpAnyH_take (i := 10) (oi := { dst := some 149, op := Op.binOp BinOp.eql 3 (Operand.tmp 143) (Operand.tmp 148) 3, type := 4, pos := "law.go:139", after := #[{ on := 4, ground := Ground.data }, { on := 9, ground := Ground.data }], guard := none }) (v := ?_) rfl (by kernel_rfl) (by kernel_rfl) (by kernel_rfl) (fun _ _ _ h => h) (Or.inl ⟨by rfl, ?_⟩) hHeld ?_
  rotate_left
  · intro w' hS; obtain ⟨⟨hS0, hS1⟩, ⟨hS2, hS3, hS4, hS5⟩, hS6, hS7, hS8, hS9⟩ := hS; go_simp; all_goals (with_reducible rfl)
  (try simp only [Act.put, List.setIfInBounds_toArray, List.set_cons_zero, List.set_cons_succ])
  refine wpAnyH_take (i := 11) (oi := { dst := some 150, op := Op.move (Operand.tmp 149), type := 4, pos := "law.go:139", after := #[{ on := 10, ground := Ground.data }, { on := 9, ground := Ground.chain }], guard := none }) (v := ?_) rfl (by kernel_rfl) (by kernel_rfl) (by kernel_rfl) (fun _ _ _ h => h) (Or.inl ⟨by rfl, ?_⟩) hHeld ?_
  rotate_left
  · intro w' hS; obtain ⟨⟨hS0, hS1⟩, ⟨hS2, hS3, hS4, hS5⟩, hS6, hS7, hS8, hS9⟩ := hS; go_simp; all_goals (with_reducible rfl)
  (try simp only [Act.put, List.setIfInBounds_toArray, List.set_cons_zero, List.set_cons_succ])
  refine wpAnyH_take (i := 12) (oi := { dst := some 151, op := Op.move (Operand.tmp 0), type := 64, pos := "law.go:139", after := #[{ on := 11, ground := Ground.guard }], guard := some (11, true) }) (v := ?_) rfl (by kernel_rfl) (by kernel_rfl) (by kernel_rfl) (fun _ _ _ h => h) (Or.inl ⟨by rfl, ?_⟩) hHeld ?_
  rotate_left
  · intro w' hS; obtain ⟨⟨hS0, hS1⟩, ⟨hS2, hS3, hS4, hS5⟩, hS6, hS7, hS8, hS9⟩ := hS; go_simp; all_goals (with_reducible rfl)
  (try simp only [Act.put, List.setIfInBounds_toArray, List.set_cons_zero, List.set_cons_succ])
  refine wpAnyH_take (i := 13) (oi := { dst := some 152, op := Op.nilCheck (Operand.tmp 151), type := 0, pos := "law.go:139", after := #[{ on := 12, ground := Ground.data }, { on := 11, ground := Ground.guard }], guard := some (11, true) }) (v := ?_) rfl (by kernel_rfl) (by kernel_rfl) (by kernel_rfl) (fun _ _ _ h => h) (Or.inl ⟨by rfl, ?_⟩) hHeld ?_
  rotate_left
  · intro w' hS; obtain ⟨⟨hS0, hS1⟩, ⟨hS2, hS3, hS4, hS5⟩, hS6, hS7, hS8, hS9⟩ := hS; go_simp; all_goals (with_reducible rfl)
  (try simp only [Act.put, List.setIfInBounds_toArray, List.set_cons_zero, List.set_cons_succ])
  refine wpAnyH_take (i := 14) (oi := { dst := some 153, op := Op.fieldAddr 66 (Operand.tmp 152) 0, type := 0, pos := "law.go:139", after := #[{ on := 13, ground := Ground.data }, { on := 11, ground := Ground.guard }], guard := some (11, true) }) (v := ?_) rfl (by kernel_rfl) (by kernel_rfl) (by kernel_rfl) (fun _ _ _ h => h) (Or.inl ⟨by rfl, ?_⟩) hHeld ?_
  rotate_left
  · intro w' hS; obtain ⟨⟨hS0, hS1⟩, ⟨hS2, hS3, hS4, hS5⟩, hS6, hS7, hS8, hS9⟩ := hS; go_simp; all_goals (with_reducible rfl)
  (try simp only [Act.put, List.setIfInBounds_toArray, List.set_cons_zero, List.set_cons_succ])
  refine wpAnyH_take (i := 15) (oi := { dst := some 154, op := Op.load 25 (Operand.tmp 153), type := 25, pos := "law.go:139", after := #[{ on := 14, ground := Ground.data }, { on := 11, ground := Ground.guard }], guard := some (11, true) }) (v := ?_) rfl (by kernel_rfl) (by kernel_rfl) (by kernel_rfl) (fun _ _ _ h => h) (Or.inl ⟨by rfl, ?_⟩) hHeld ?_
  rotate_left
  · intro w' hS; obtain ⟨⟨hS0, hS1⟩, ⟨hS2, hS3, hS4, hS5⟩, hS6, hS7, hS8, hS9⟩ := hS; go_simp; all_goals (with_reducible rfl)
  (try simp only [Act.put, List.setIfInBounds_toArray, List.set_cons_zero, List.set_cons_succ])
  refine wpAnyH_take (i := 17) (oi := { dst := some 156, op := Op.move (Operand.tmp 0), type := 64, pos := "law.go:139", after := #[{ on := 11, ground := Ground.guard }], guard := some (11, true) }) (v := ?_) rfl (by kernel_rfl) (by kernel_rfl) (by kernel_rfl) (fun _ _ _ h => h) (Or.inl ⟨by rfl, ?_⟩) hHeld ?_
  rotate_left
  · intro w' hS; obtain ⟨⟨hS0, hS1⟩, ⟨hS2, hS3, hS4, hS5⟩, hS6, hS7, hS8, hS9⟩ := hS; go_simp; all_goals (with_reducible rfl)
  (try simp only [Act.put, List.setIfInBounds_toArray, List.set_cons_zero, List.set_cons_succ])
  refine wpAnyH_take (i := 18) (oi := { dst := some 157, op := Op.nilCheck (Operand.tmp 156), type := 0, pos := "law.go:139", after := #[{ on := 17, ground := Ground.data }, { on := 11, ground := Ground.guard }], guard := some (11, true) }) (v := ?_) rfl (by kernel_rfl) (by kernel_rfl) (by kernel_rfl) (fun _ _ _ h => h) (Or.inl ⟨by rfl, ?_⟩) hHeld ?_
  rotate_left
  · intro w' hS; obtain ⟨⟨hS0, hS1⟩, ⟨hS2, hS3, hS4, hS5⟩, hS6, hS7, hS8, hS9⟩ := hS; go_simp; all_goals (with_reducible rfl)
  (try simp only [Act.put, List.setIfInBounds_toArray, List.set_cons_zero, List.set_cons_succ])
  refine wpAnyH_take (i := 19) (oi := { dst := some 158, op := Op.fieldAddr 66 (Operand.tmp 157) 1, type := 0, pos := "law.go:139", after := #[{ on := 18, ground := Ground.data }, { on := 11, ground := Ground.guard }], guard := some (11, true) }) (v := ?_) rfl (by kernel_rfl) (by kernel_rfl) (by kernel_rfl) (fun _ _ _ h => h) (Or.inl ⟨by rfl, ?_⟩) hHeld ?_
  rotate_left
  · intro w' hS; obtain ⟨⟨hS0, hS1⟩, ⟨hS2, hS3, hS4, hS5⟩, hS6, hS7, hS8, hS9⟩ := hS; go_simp; all_goals (with_reducible rfl)
  (try simp only [Act.put, List.setIfInBounds_toArray, List.set_cons_zero, List.set_cons_succ])
  refine wpAnyH_take (i := 20) (oi := { dst := some 159, op := Op.load 61 (Operand.tmp 158), type := 61, pos := "law.go:139", after := #[{ on := 19, ground := Ground.data }, { on := 11, ground := Ground.guard }], guard := some (11, true) }) (v := ?_) rfl (by kernel_rfl) (by kernel_rfl) (by kernel_rfl) (fun _ _ _ h => h) (Or.inl ⟨by rfl, ?_⟩) hHeld ?_
  rotate_left
  · intro w' hS; obtain ⟨⟨hS0, hS1⟩, ⟨hS2, hS3, hS4, hS5⟩, hS6, hS7, hS8, hS9⟩ := hS; go_simp; all_goals (with_reducible rfl)
  (try simp only [Act.put, List.setIfInBounds_toArray, List.set_cons_zero, List.set_cons_succ])
  refine wpAnyH_ready (rs := [16]) (by kernel_rfl) (by simp) ?_
  refine AllReadyH.cons (o := { dst := some 155, op := Op.call { callee := Callee.value (Operand.func 18), args := #[Operand.tmp 154], argTypes := #[25] }, type := 3, pos := "law.go:139", after := #[{ on := 15, ground := Ground.data }, { on := 11, ground := Ground.chain }, { on := 11, ground := Ground.guard }], guard := some (11, true) }) rfl (fun K hK => ?_) AllReadyH.nil
  go_simp
  go_at_call 18
  refine (count_at (HD.out.stay (below_drew HBb.out))).mono ?_
  rintro e w' ⟨rfl, hw⟩
  subst w'
  refine hK.out _ _ (MKS.out _ (below_drew HBb.out)) (fun hHeld => ?_)
  clear hK K
  (try simp only [Act.put, List.setIfInBounds_toArray, List.set_cons_zero, List.set_cons_succ])
  refine wpAnyH_ready (rs := [21]) (by kernel_rfl) (by simp) ?_
  refine AllReadyH.cons (o := { dst := some 160, op := Op.call { callee := Callee.value (Operand.func 49), args := #[Operand.tmp 159], argTypes := #[61] }, type := 3, pos := "law.go:139", after := #[{ on := 20, ground := Ground.data }, { on := 16, ground := Ground.chain }, { on := 11, ground := Ground.guard }], guard := some (11, true) }) rfl (fun K hK => ?_) AllReadyH.nil
  go_simp
  go_at_call 49
  refine (rcount_at (HR.out.stay (below_drew HBb.out))).mono ?_
  rintro e w' ⟨rfl, hw⟩
  subst w'
  refine hK.out _ _ (MKS.out _ (below_drew HBb.out)) (fun hHeld => ?_)
  clear hK K
  (try simp only [Act.put, List.setIfInBounds_toArray, List.set_cons_zero, List.set_cons_succ])
  refine wpAnyH_take (i := 22) (oi := { dst := some 161, op := Op.binOp BinOp.eql 3 (Operand.tmp 155) (Operand.tmp 160) 3, type := 4, pos := "law.go:139", after := #[{ on := 16, ground := Ground.data }, { on := 21, ground := Ground.data }, { on := 11, ground := Ground.guard }], guard := some (11, true) }) (v := ?_) rfl (by kernel_rfl) (by kernel_rfl) (by kernel_rfl) (fun _ _ _ h => h) (Or.inl ⟨by rfl, ?_⟩) hHeld ?_
  rotate_left
  · intro w' hS; obtain ⟨⟨hS0, hS1⟩, ⟨hS2, hS3, hS4, hS5⟩, hS6, hS7, hS8, hS9⟩ := hS; go_simp; all_goals (with_reducible rfl)
  (try simp only [Act.put, List.setIfInBounds_toArray, List.set_cons_zero, List.set_cons_succ])
  refine wpAnyH_take (i := 23) (oi := { dst := some 162, op := Op.pick (Operand.tmp 150) (Operand.tmp 161) (Operand.const (Value.bool false)), type := 4, pos := "law.go:139", after := #[{ on := 11, ground := Ground.data }, { on := 22, ground := Ground.data }], guard := none }) (v := ?_) rfl (by kernel_rfl) (by kernel_rfl) (by kernel_rfl) (fun _ _ _ h => h) (Or.inl ⟨by rfl, ?_⟩) hHeld ?_
  rotate_left
  · intro w' hS; obtain ⟨⟨hS0, hS1⟩, ⟨hS2, hS3, hS4, hS5⟩, hS6, hS7, hS8, hS9⟩ := hS; go_simp; all_goals (with_reducible rfl)
  (try simp only [Act.put, List.setIfInBounds_toArray, List.set_cons_zero, List.set_cons_succ])
  refine wpAnyH_take (i := 24) (oi := { dst := some 163, op := Op.move (Operand.tmp 162), type := 4, pos := "law.go:139", after := #[{ on := 23, ground := Ground.data }, { on := 21, ground := Ground.chain }], guard := none }) (v := ?_) rfl (by kernel_rfl) (by kernel_rfl) (by kernel_rfl) (fun _ _ _ h => h) (Or.inl ⟨by rfl, ?_⟩) hHeld ?_
  rotate_left
  · intro w' hS; obtain ⟨⟨hS0, hS1⟩, ⟨hS2, hS3, hS4, hS5⟩, hS6, hS7, hS8, hS9⟩ := hS; go_simp; all_goals (with_reducible rfl)
  (try simp only [Act.put, List.setIfInBounds_toArray, List.set_cons_zero, List.set_cons_succ])
  refine wpAnyH_take (i := 25) (oi := { dst := some 164, op := Op.move (Operand.tmp 16), type := 23, pos := "law.go:139", after := #[{ on := 24, ground := Ground.guard }], guard := some (24, true) }) (v := ?_) rfl (by kernel_rfl) (by kernel_rfl) (by kernel_rfl) (fun _ _ _ h => h) (Or.inl ⟨by rfl, ?_⟩) hHeld ?_
  rotate_left
  · intro w' hS; obtain ⟨⟨hS0, hS1⟩, ⟨hS2, hS3, hS4, hS5⟩, hS6, hS7, hS8, hS9⟩ := hS; go_simp; all_goals (with_reducible rfl)
  (try simp only [Act.put, List.setIfInBounds_toArray, List.set_cons_zero, List.set_cons_succ])
  refine wpAnyH_take (i := 26) (oi := { dst := some 165, op := Op.move (Operand.tmp 17), type := 23, pos := "law.go:139", after := #[{ on := 24, ground := Ground.guard }], guard := some (24, true) }) (v := ?_) rfl (by kernel_rfl) (by kernel_rfl) (by kernel_rfl) (fun _ _ _ h => h) (Or.inl ⟨by rfl, ?_⟩) hHeld ?_
  rotate_left
  · intro w' hS; obtain ⟨⟨hS0, hS1⟩, ⟨hS2, hS3, hS4, hS5⟩, hS6, hS7, hS8, hS9⟩ := hS; go_simp; all_goals (with_reducible rfl)
  (try simp only [Act.put, List.setIfInBounds_toArray, List.set_cons_zero, List.set_cons_succ])
  refine wpAnyH_ready (rs := [27]) (by kernel_rfl) (by simp) ?_
  refine AllReadyH.cons (o := { dst := some 166, op := Op.call { callee := Callee.value (Operand.func 42), args := #[Operand.tmp 164, Operand.tmp 165], argTypes := #[23, 23] }, type := 4, pos := "law.go:139", after := #[{ on := 25, ground := Ground.data }, { on := 26, ground := Ground.data }, { on := 24, ground := Ground.chain }, { on := 24, ground := Ground.guard }], guard := some (24, true) }) rfl (fun K hK => ?_) AllReadyH.nil
  go_simp
  go_at_call 42
  refine (ints_at pl (by have := HPLL.out; omega) Aa Ab2 pl.length ca cb2 _ rfl (Kd.C_below HCA2.out (below_drew (Below.refl _ _))) HLA.out (Kd.C_below HCB.out (below_drew (Below.refl _ _))) HLB.out).mono ?_
  rintro e w' ⟨rfl, md, hw⟩
  subst w'
  have HBc := Aside0.mk (show Below w1.heap.size w1 (wb.drew.drewN md) from pw_below_drewN (below_drew HBb.out) md)
  generalize wb.drew.drewN md = wc at *
  refine hK.out _ _ (MKS.out _ HBc.out) (fun hHeld => ?_)
  clear hK K
  (try simp only [Act.put, List.setIfInBounds_toArray, List.set_cons_zero, List.set_cons_succ])
  refine wpAnyH_take (i := 28) (oi := { dst := some 167, op := Op.pick (Operand.tmp 163) (Operand.tmp 166) (Operand.const (Value.bool false)), type := 4, pos := "law.go:139", after := #[{ on := 24, ground := Ground.data }, { on := 27, ground := Ground.data }], guard := none }) (v := ?_) rfl (by kernel_rfl) (by kernel_rfl) (by kernel_rfl) (fun _ _ _ h => h) (Or.inl ⟨by rfl, ?_⟩) hHeld ?_
  rotate_left
  · intro w' hS; obtain ⟨⟨hS0, hS1⟩, ⟨hS2, hS3, hS4, hS5⟩, hS6, hS7, hS8, hS9⟩ := hS; go_simp; all_goals (with_reducible rfl)
  (try simp only [Act.put, List.setIfInBounds_toArray, List.set_cons_zero, List.set_cons_succ])
  refine wpAnyH_take (i := 29) (oi := { dst := some 168, op := Op.move (Operand.tmp 167), type := 4, pos := "law.go:139", after := #[{ on := 28, ground := Ground.data }, { on := 27, ground := Ground.chain }], guard := none }) (v := ?_) rfl (by kernel_rfl) (by kernel_rfl) (by kernel_rfl) (fun _ _ _ h => h) (Or.inl ⟨by rfl, ?_⟩) hHeld ?_
  rotate_left
  · intro w' hS; obtain ⟨⟨hS0, hS1⟩, ⟨hS2, hS3, hS4, hS5⟩, hS6, hS7, hS8, hS9⟩ := hS; go_simp; all_goals (with_reducible rfl)
  (try simp only [Act.put, List.setIfInBounds_toArray, List.set_cons_zero, List.set_cons_succ])
  refine wpAnyH_take (i := 30) (oi := { dst := some 169, op := Op.move (Operand.tmp 0), type := 64, pos := "law.go:139", after := #[{ on := 29, ground := Ground.guard }], guard := some (29, true) }) (v := ?_) rfl (by kernel_rfl) (by kernel_rfl) (by kernel_rfl) (fun _ _ _ h => h) (Or.inl ⟨by rfl, ?_⟩) hHeld ?_
  rotate_left
  · intro w' hS; obtain ⟨⟨hS0, hS1⟩, ⟨hS2, hS3, hS4, hS5⟩, hS6, hS7, hS8, hS9⟩ := hS; go_simp; all_goals (with_reducible rfl)
  (try simp only [Act.put, List.setIfInBounds_toArray, List.set_cons_zero, List.set_cons_succ])
  refine wpAnyH_take (i := 31) (oi := { dst := some 170, op := Op.nilCheck (Operand.tmp 169), type := 0, pos := "law.go:139", after := #[{ on := 30, ground := Ground.data }, { on := 29, ground := Ground.guard }], guard := some (29, true) }) (v := ?_) rfl (by kernel_rfl) (by kernel_rfl) (by kernel_rfl) (fun _ _ _ h => h) (Or.inl ⟨by rfl, ?_⟩) hHeld ?_
  rotate_left
  · intro w' hS; obtain ⟨⟨hS0, hS1⟩, ⟨hS2, hS3, hS4, hS5⟩, hS6, hS7, hS8, hS9⟩ := hS; go_simp; all_goals (with_reducible rfl)
  (try simp only [Act.put, List.setIfInBounds_toArray, List.set_cons_zero, List.set_cons_succ])
  refine wpAnyH_take (i := 32) (oi := { dst := some 171, op := Op.fieldAddr 66 (Operand.tmp 170) 0, type := 0, pos := "law.go:139", after := #[{ on := 31, ground := Ground.data }, { on := 29, ground := Ground.guard }], guard := some (29, true) }) (v := ?_) rfl (by kernel_rfl) (by kernel_rfl) (by kernel_rfl) (fun _ _ _ h => h) (Or.inl ⟨by rfl, ?_⟩) hHeld ?_
  rotate_left
  · intro w' hS; obtain ⟨⟨hS0, hS1⟩, ⟨hS2, hS3, hS4, hS5⟩, hS6, hS7, hS8, hS9⟩ := hS; go_simp; all_goals (with_reducible rfl)
  (try simp only [Act.put, List.setIfInBounds_toArray, List.set_cons_zero, List.set_cons_succ])
  refine wpAnyH_take (i := 33) (oi := { dst := some 172, op := Op.load 25 (Operand.tmp 171), type := 25, pos := "law.go:139", after := #[{ on := 32, ground := Ground.data }, { on := 29, ground := Ground.guard }], guard := some (29, true) }) (v := ?_) rfl (by kernel_rfl) (by kernel_rfl) (by kernel_rfl) (fun _ _ _ h => h) (Or.inl ⟨by rfl, ?_⟩) hHeld ?_
  rotate_left
  · intro w' hS; obtain ⟨⟨hS0, hS1⟩, ⟨hS2, hS3, hS4, hS5⟩, hS6, hS7, hS8, hS9⟩ := hS; go_simp; all_goals (with_reducible rfl)
  (try simp only [Act.put, List.setIfInBounds_toArray, List.set_cons_zero, List.set_cons_succ])
  refine wpAnyH_take (i := 35) (oi := { dst := some 174, op := Op.move (Operand.tmp 0), type := 64, pos := "law.go:139", after := #[{ on := 29, ground := Ground.guard }], guard := some (29, true) }) (v := ?_) rfl (by kernel_rfl) (by kernel_rfl) (by kernel_rfl) (fun _ _ _ h => h) (Or.inl ⟨by rfl, ?_⟩) hHeld ?_
  rotate_left
  · intro w' hS; obtain ⟨⟨hS0, hS1⟩, ⟨hS2, hS3, hS4, hS5⟩, hS6, hS7, hS8, hS9⟩ := hS; go_simp; all_goals (with_reducible rfl)
  (try simp only [Act.put, List.setIfInBounds_toArray, List.set_cons_zero, List.set_cons_succ])
  refine wpAnyH_take (i := 36) (oi := { dst := some 175, op := Op.nilCheck (Operand.tmp 174), type := 0, pos := "law.go:139", after := #[{ on := 35, ground := Ground.data }, { on := 29, ground := Ground.guard }], guard := some (29, true) }) (v := ?_) rfl (by kernel_rfl) (by kernel_rfl) (by kernel_rfl) (fun _ _ _ h => h) (Or.inl ⟨by rfl, ?_⟩) hHeld ?_
  rotate_left
  · intro w' hS; obtain ⟨⟨hS0, hS1⟩, ⟨hS2, hS3, hS4, hS5⟩, hS6, hS7, hS8, hS9⟩ := hS; go_simp; all_goals (with_reducible rfl)
  (try simp only [Act.put, List.setIfInBounds_toArray, List.set_cons_zero, List.set_cons_succ])
  refine wpAnyH_take (i := 37) (oi := { dst := some 176, op := Op.fieldAddr 66 (Operand.tmp 175) 1, type := 0, pos := "law.go:139", after := #[{ on := 36, ground := Ground.data }, { on := 29, ground := Ground.guard }], guard := some (29, true) }) (v := ?_) rfl (by kernel_rfl) (by kernel_rfl) (by kernel_rfl) (fun _ _ _ h => h) (Or.inl ⟨by rfl, ?_⟩) hHeld ?_
  rotate_left
  · intro w' hS; obtain ⟨⟨hS0, hS1⟩, ⟨hS2, hS3, hS4, hS5⟩, hS6, hS7, hS8, hS9⟩ := hS; go_simp; all_goals (with_reducible rfl)
  (try simp only [Act.put, List.setIfInBounds_toArray, List.set_cons_zero, List.set_cons_succ])
  refine wpAnyH_take (i := 38) (oi := { dst := some 177, op := Op.load 61 (Operand.tmp 176), type := 61, pos := "law.go:139", after := #[{ on := 37, ground := Ground.data }, { on := 29, ground := Ground.guard }], guard := some (29, true) }) (v := ?_) rfl (by kernel_rfl) (by kernel_rfl) (by kernel_rfl) (fun _ _ _ h => h) (Or.inl ⟨by rfl, ?_⟩) hHeld ?_
  rotate_left
  · intro w' hS; obtain ⟨⟨hS0, hS1⟩, ⟨hS2, hS3, hS4, hS5⟩, hS6, hS7, hS8, hS9⟩ := hS; go_simp; all_goals (with_reducible rfl)
  (try simp only [Act.put, List.setIfInBounds_toArray, List.set_cons_zero, List.set_cons_succ])
  refine wpAnyH_ready (rs := [34]) (by kernel_rfl) (by simp) ?_
  refine AllReadyH.cons (o := { dst := some 173, op := Op.call { callee := Callee.value (Operand.func 20), args := #[Operand.tmp 172], argTypes := #[25] }, type := 29, pos := "law.go:139", after := #[{ on := 33, ground := Ground.data }, { on := 29, ground := Ground.chain }, { on := 29, ground := Ground.guard }], guard := some (29, true) }) rfl (fun K hK => ?_) AllReadyH.nil
  go_simp
  go_at_call 20
  refine (image_at (HD.out.stay HBc.out)).mono ?_
  rintro e wd ⟨gd, cd, rfl, hm, hg, hcg, hb⟩
  have HBd := Aside0.mk (show Below w1.heap.size w1 wd from HBc.out.trans (hb.mono HBc.out.size))
  have HMd := Aside0.mk hm
  have HCd := Aside0.mk hcg
  clear hm hg hcg hb
  refine hK.out _ _ (MKS.out _ HBd.out) (fun hHeld => ?_)
  clear hK K
  (try simp only [Act.put, List.setIfInBounds_toArray, List.set_cons_zero, List.set_cons_succ])
  refine wpAnyH_ready (rs := [39]) (by kernel_rfl) (by simp) ?_
  refine AllReadyH.cons (o := { dst := some 178, op := Op.call { callee := Callee.value (Operand.func 50), args := #[Operand.tmp 177], argTypes := #[61] }, type := 29, pos := "law.go:139", after := #[{ on := 38, ground := Ground.data }, { on := 34, ground := Ground.chain }, { on := 29, ground := Ground.guard }], guard := some (29, true) }) rfl (fun K hK => ?_) AllReadyH.nil
  go_simp
  go_at_call 50
  refine (HRI.out _ HBd.out).mono ?_
  rintro e we ⟨ge, ce, rfl, hm, hg, hcg, hb⟩
  have HBe := Aside0.mk (show Below w1.heap.size w1 we from HBd.out.trans (hb.mono HBd.out.size))
  have HMe := Aside0.mk hm
  have HCe := Aside0.mk hcg
  have HMd2 := Aside0.mk (HMd.out.below hb)
  clear hm hg hcg hb
  refine hK.out _ _ (MKS.out _ HBe.out) (fun hHeld => ?_)
  clear hK K
  (try simp only [Act.put, List.setIfInBounds_toArray, List.set_cons_zero, List.set_cons_succ])
  refine wpAnyH_ready (rs := [40]) (by kernel_rfl) (by simp) ?_
  refine AllReadyH.cons (o := { dst := some 179, op := Op.call { callee := Callee.value (Operand.func 26), args := #[Operand.tmp 173, Operand.tmp 178], argTypes := #[29, 29] }, type := 4, pos := "law.go:139", after := #[{ on := 34, ground := Ground.data }, { on := 39, ground := Ground.data }, { on := 39, ground := Ground.chain }, { on := 29, ground := Ground.guard }], guard := some (29, true) }) rfl (fun K hK => ?_) AllReadyH.nil
  go_simp
  go_at_call 26
  refine (bytes_at (behindL fs ops) (by rw [HLS.out]; have := HBIG.out; omega) (some ⟨gd, 0, none⟩) (some ⟨ge, 0, none⟩) h.n cd ce _ HLS.out (HMd2.out.allN HLS.out (by have := HBIG.out; omega)) HCd.out (HMe.out.allN HLS.out (by have := HBIG.out; omega)) HCe.out).mono ?_
  rintro e w' ⟨rfl, md2, hw⟩
  subst w'
  have HBf := Aside0.mk (show Below w1.heap.size w1 (we.drewN md2) from pw_below_drewN HBe.out md2)
  generalize we.drewN md2 = wf at *
  refine hK.out _ _ (MKS.out _ HBf.out) (fun hHeld => ?_)
  clear hK K
  (try simp only [Act.put, List.setIfInBounds_toArray, List.set_cons_zero, List.set_cons_succ])
  refine wpAnyH_take (i := 41) (oi := { dst := some 180, op := Op.pick (Operand.tmp 168) (Operand.tmp 179) (Operand.const (Value.bool false)), type := 4, pos := "law.go:139", after := #[{ on := 29, ground := Ground.data }, { on := 40, ground := Ground.data }], guard := none }) (v := ?_) rfl (by kernel_rfl) (by kernel_rfl) (by kernel_rfl) (fun _ _ _ h => h) (Or.inl ⟨by rfl, ?_⟩) hHeld ?_
  rotate_left
  · intro w' hS; obtain ⟨⟨hS0, hS1⟩, ⟨hS2, hS3, hS4, hS5⟩, hS6, hS7, hS8, hS9⟩ := hS; go_simp; all_goals (with_reducible rfl)
  (try simp only [Act.put, List.setIfInBounds_toArray, List.set_cons_zero, List.set_cons_succ])
  refine wpAnyH_take (i := 42) (oi := { dst := some 181, op := Op.move (Operand.tmp 180), type := 4, pos := "law.go:139", after := #[{ on := 41, ground := Ground.data }, { on := 40, ground := Ground.chain }], guard := none }) (v := ?_) rfl (by kernel_rfl) (by kernel_rfl) (by kernel_rfl) (fun _ _ _ h => h) (Or.inl ⟨by rfl, ?_⟩) hHeld ?_
  rotate_left
  · intro w' hS; obtain ⟨⟨hS0, hS1⟩, ⟨hS2, hS3, hS4, hS5⟩, hS6, hS7, hS8, hS9⟩ := hS; go_simp; all_goals (with_reducible rfl)
  (try simp only [Act.put, List.setIfInBounds_toArray, List.set_cons_zero, List.set_cons_succ])
  refine wpAnyH_take (i := 43) (oi := { dst := some 182, op := Op.move (Operand.tmp 0), type := 64, pos := "law.go:139", after := #[{ on := 42, ground := Ground.guard }], guard := some (42, true) }) (v := ?_) rfl (by kernel_rfl) (by kernel_rfl) (by kernel_rfl) (fun _ _ _ h => h) (Or.inl ⟨by rfl, ?_⟩) hHeld ?_
  rotate_left
  · intro w' hS; obtain ⟨⟨hS0, hS1⟩, ⟨hS2, hS3, hS4, hS5⟩, hS6, hS7, hS8, hS9⟩ := hS; go_simp; all_goals (with_reducible rfl)
  (try simp only [Act.put, List.setIfInBounds_toArray, List.set_cons_zero, List.set_cons_succ])
  refine wpAnyH_take (i := 44) (oi := { dst := some 183, op := Op.nilCheck (Operand.tmp 182), type := 0, pos := "law.go:139", after := #[{ on := 43, ground := Ground.data }, { on := 42, ground := Ground.guard }], guard := some (42, true) }) (v := ?_) rfl (by kernel_rfl) (by kernel_rfl) (by kernel_rfl) (fun _ _ _ h => h) (Or.inl ⟨by rfl, ?_⟩) hHeld ?_
  rotate_left
  · intro w' hS; obtain ⟨⟨hS0, hS1⟩, ⟨hS2, hS3, hS4, hS5⟩, hS6, hS7, hS8, hS9⟩ := hS; go_simp; all_goals (with_reducible rfl)
  (try simp only [Act.put, List.setIfInBounds_toArray, List.set_cons_zero, List.set_cons_succ])
  refine wpAnyH_take (i := 45) (oi := { dst := some 184, op := Op.fieldAddr 66 (Operand.tmp 183) 0, type := 0, pos := "law.go:139", after := #[{ on := 44, ground := Ground.data }, { on := 42, ground := Ground.guard }], guard := some (42, true) }) (v := ?_) rfl (by kernel_rfl) (by kernel_rfl) (by kernel_rfl) (fun _ _ _ h => h) (Or.inl ⟨by rfl, ?_⟩) hHeld ?_
  rotate_left
  · intro w' hS; obtain ⟨⟨hS0, hS1⟩, ⟨hS2, hS3, hS4, hS5⟩, hS6, hS7, hS8, hS9⟩ := hS; go_simp; all_goals (with_reducible rfl)
  (try simp only [Act.put, List.setIfInBounds_toArray, List.set_cons_zero, List.set_cons_succ])
  refine wpAnyH_take (i := 46) (oi := { dst := some 185, op := Op.load 25 (Operand.tmp 184), type := 25, pos := "law.go:139", after := #[{ on := 45, ground := Ground.data }, { on := 42, ground := Ground.guard }], guard := some (42, true) }) (v := ?_) rfl (by kernel_rfl) (by kernel_rfl) (by kernel_rfl) (fun _ _ _ h => h) (Or.inl ⟨by rfl, ?_⟩) hHeld ?_
  rotate_left
  · intro w' hS; obtain ⟨⟨hS0, hS1⟩, ⟨hS2, hS3, hS4, hS5⟩, hS6, hS7, hS8, hS9⟩ := hS; go_simp; all_goals (with_reducible rfl)
  (try simp only [Act.put, List.setIfInBounds_toArray, List.set_cons_zero, List.set_cons_succ])
  refine wpAnyH_take (i := 48) (oi := { dst := some 187, op := Op.move (Operand.tmp 0), type := 64, pos := "law.go:139", after := #[{ on := 42, ground := Ground.guard }], guard := some (42, true) }) (v := ?_) rfl (by kernel_rfl) (by kernel_rfl) (by kernel_rfl) (fun _ _ _ h => h) (Or.inl ⟨by rfl, ?_⟩) hHeld ?_
  rotate_left
  · intro w' hS; obtain ⟨⟨hS0, hS1⟩, ⟨hS2, hS3, hS4, hS5⟩, hS6, hS7, hS8, hS9⟩ := hS; go_simp; all_goals (with_reducible rfl)
  (try simp only [Act.put, List.setIfInBounds_toArray, List.set_cons_zero, List.set_cons_succ])
  refine wpAnyH_take (i := 49) (oi := { dst := some 188, op := Op.nilCheck (Operand.tmp 187), type := 0, pos := "law.go:139", after := #[{ on := 48, ground := Ground.data }, { on := 42, ground := Ground.guard }], guard := some (42, true) }) (v := ?_) rfl (by kernel_rfl) (by kernel_rfl) (by kernel_rfl) (fun _ _ _ h => h) (Or.inl ⟨by rfl, ?_⟩) hHeld ?_
  rotate_left
  · intro w' hS; obtain ⟨⟨hS0, hS1⟩, ⟨hS2, hS3, hS4, hS5⟩, hS6, hS7, hS8, hS9⟩ := hS; go_simp; all_goals (with_reducible rfl)
  (try simp only [Act.put, List.setIfInBounds_toArray, List.set_cons_zero, List.set_cons_succ])
  refine wpAnyH_take (i := 50) (oi := { dst := some 189, op := Op.fieldAddr 66 (Operand.tmp 188) 1, type := 0, pos := "law.go:139", after := #[{ on := 49, ground := Ground.data }, { on := 42, ground := Ground.guard }], guard := some (42, true) }) (v := ?_) rfl (by kernel_rfl) (by kernel_rfl) (by kernel_rfl) (fun _ _ _ h => h) (Or.inl ⟨by rfl, ?_⟩) hHeld ?_
  rotate_left
  · intro w' hS; obtain ⟨⟨hS0, hS1⟩, ⟨hS2, hS3, hS4, hS5⟩, hS6, hS7, hS8, hS9⟩ := hS; go_simp; all_goals (with_reducible rfl)
  (try simp only [Act.put, List.setIfInBounds_toArray, List.set_cons_zero, List.set_cons_succ])
  refine wpAnyH_take (i := 51) (oi := { dst := some 190, op := Op.load 61 (Operand.tmp 189), type := 61, pos := "law.go:139", after := #[{ on := 50, ground := Ground.data }, { on := 42, ground := Ground.guard }], guard := some (42, true) }) (v := ?_) rfl (by kernel_rfl) (by kernel_rfl) (by kernel_rfl) (fun _ _ _ h => h) (Or.inl ⟨by rfl, ?_⟩) hHeld ?_
  rotate_left
  · intro w' hS; obtain ⟨⟨hS0, hS1⟩, ⟨hS2, hS3, hS4, hS5⟩, hS6, hS7, hS8, hS9⟩ := hS; go_simp; all_goals (with_reducible rfl)
  (try simp only [Act.put, List.setIfInBounds_toArray, List.set_cons_zero, List.set_cons_succ])
  refine wpAnyH_ready (rs := [47]) (by kernel_rfl) (by simp) ?_
  refine AllReadyH.cons (o := { dst := some 186, op := Op.call { callee := Callee.value (Operand.func 21), args := #[Operand.tmp 185], argTypes := #[25] }, type := 29, pos := "law.go:139", after := #[{ on := 46, ground := Ground.data }, { on := 42, ground := Ground.chain }, { on := 42, ground := Ground.guard }], guard := some (42, true) }) rfl (fun K hK => ?_) AllReadyH.nil
  go_simp
  go_at_call 21
  refine (durable_at (HD.out.stay HBf.out) (KS.out.stay HBf.out).1.fl HO.out (Nat.lt_of_lt_of_le H0.out HBf.out.size)).mono ?_
  rintro e wg ⟨gg, cg, rfl, hm, hg, hcg, hb⟩
  have HBg := Aside0.mk (show Below w1.heap.size w1 wg from HBf.out.trans (hb.mono HBf.out.size))
  have HMg := Aside0.mk hm
  have HCg := Aside0.mk hcg
  clear hm hg hcg hb
  refine hK.out _ _ (MKS.out _ HBg.out) (fun hHeld => ?_)
  clear hK K
  (try simp only [Act.put, List.setIfInBounds_toArray, List.set_cons_zero, List.set_cons_succ])
  refine wpAnyH_ready (rs := [52]) (by kernel_rfl) (by simp) ?_
  refine AllReadyH.cons (o := { dst := some 191, op := Op.call { callee := Callee.value (Operand.func 51), args := #[Operand.tmp 190], argTypes := #[61] }, type := 29, pos := "law.go:139", after := #[{ on := 51, ground := Ground.data }, { on := 47, ground := Ground.chain }, { on := 42, ground := Ground.guard }], guard := some (42, true) }) rfl (fun K hK => ?_) AllReadyH.nil
  go_simp
  go_at_call 51
  refine (HRU.out _ HBg.out).mono ?_
  rintro e wh ⟨gh, ch, rfl, hm, hg, hcg, hb⟩
  have HBh := Aside0.mk (show Below w1.heap.size w1 wh from HBg.out.trans (hb.mono HBg.out.size))
  have HMh := Aside0.mk hm
  have HCh := Aside0.mk hcg
  have HMg2 := Aside0.mk (HMg.out.below hb)
  clear hm hg hcg hb
  refine hK.out _ _ (MKS.out _ HBh.out) (fun hHeld => ?_)
  clear hK K
  (try simp only [Act.put, List.setIfInBounds_toArray, List.set_cons_zero, List.set_cons_succ])
  refine wpAnyH_ready (rs := [53]) (by kernel_rfl) (by simp) ?_
  refine AllReadyH.cons (o := { dst := some 192, op := Op.call { callee := Callee.value (Operand.func 26), args := #[Operand.tmp 186, Operand.tmp 191], argTypes := #[29, 29] }, type := 4, pos := "law.go:139", after := #[{ on := 47, ground := Ground.data }, { on := 52, ground := Ground.data }, { on := 52, ground := Ground.chain }, { on := 42, ground := Ground.guard }], guard := some (42, true) }) rfl (fun K hK => ?_) AllReadyH.nil
  go_simp
  go_at_call 26
  refine (bytes_at (behindL fs (ops.take (looseN ops ops.length))) (by rw [HLF.out]; have := HBIG.out; omega) (some ⟨gg, 0, none⟩) (some ⟨gh, 0, none⟩) h.n cg ch _ HLF.out (HMg2.out.allN HLF.out (by have := HBIG.out; omega)) HCg.out (HMh.out.allN HLF.out (by have := HBIG.out; omega)) HCh.out).mono ?_
  rintro e w' ⟨rfl, md3, hw⟩
  subst w'
  have HBi := Aside0.mk (show Below w1.heap.size w1 (wh.drewN md3) from pw_below_drewN HBh.out md3)
  generalize wh.drewN md3 = wi at *
  refine hK.out _ _ (MKS.out _ HBi.out) (fun hHeld => ?_)
  clear hK K
  (try simp only [Act.put, List.setIfInBounds_toArray, List.set_cons_zero, List.set_cons_succ])
  refine wpAnyH_take (i := 54) (oi := { dst := some 193, op := Op.pick (Operand.tmp 181) (Operand.tmp 192) (Operand.const (Value.bool false)), type := 4, pos := "law.go:139", after := #[{ on := 42, ground := Ground.data }, { on := 53, ground := Ground.data }], guard := none }) (v := ?_) rfl (by kernel_rfl) (by kernel_rfl) (by kernel_rfl) (fun _ _ _ h => h) (Or.inl ⟨by rfl, ?_⟩) hHeld ?_
  rotate_left
  · intro w' hS; obtain ⟨⟨hS0, hS1⟩, ⟨hS2, hS3, hS4, hS5⟩, hS6, hS7, hS8, hS9⟩ := hS; go_simp; all_goals (with_reducible rfl)
  (try simp only [Act.put, List.setIfInBounds_toArray, List.set_cons_zero, List.set_cons_succ])
  refine wpAnyH_take (i := 55) (oi := { dst := some 4, op := Op.assign (Operand.tmp 193), type := 4, pos := "law.go:139", after := #[{ on := 54, ground := Ground.data }, { on := 53, ground := Ground.chain }, { on := 0, ground := Ground.phase }, { on := 1, ground := Ground.phase }, { on := 2, ground := Ground.phase }, { on := 3, ground := Ground.phase }, { on := 4, ground := Ground.phase }, { on := 5, ground := Ground.phase }, { on := 6, ground := Ground.phase }, { on := 7, ground := Ground.phase }, { on := 8, ground := Ground.phase }, { on := 9, ground := Ground.phase }, { on := 10, ground := Ground.phase }, { on := 11, ground := Ground.phase }, { on := 12, ground := Ground.phase }, { on := 13, ground := Ground.phase }, { on := 14, ground := Ground.phase }, { on := 15, ground := Ground.phase }, { on := 16, ground := Ground.phase }, { on := 17, ground := Ground.phase }, { on := 18, ground := Ground.phase }, { on := 19, ground := Ground.phase }, { on := 20, ground := Ground.phase }, { on := 21, ground := Ground.phase }, { on := 22, ground := Ground.phase }, { on := 23, ground := Ground.phase }, { on := 24, ground := Ground.phase }, { on := 25, ground := Ground.phase }, { on := 26, ground := Ground.phase }, { on := 27, ground := Ground.phase }, { on := 28, ground := Ground.phase }, { on := 29, ground := Ground.phase }, { on := 30, ground := Ground.phase }, { on := 31, ground := Ground.phase }, { on := 32, ground := Ground.phase }, { on := 33, ground := Ground.phase }, { on := 34, ground := Ground.phase }, { on := 35, ground := Ground.phase }, { on := 36, ground := Ground.phase }, { on := 37, ground := Ground.phase }, { on := 38, ground := Ground.phase }, { on := 39, ground := Ground.phase }, { on := 40, ground := Ground.phase }, { on := 41, ground := Ground.phase }, { on := 42, ground := Ground.phase }, { on := 43, ground := Ground.phase }, { on := 44, ground := Ground.phase }, { on := 45, ground := Ground.phase }, { on := 46, ground := Ground.phase }, { on := 47, ground := Ground.phase }, { on := 48, ground := Ground.phase }, { on := 49, ground := Ground.phase }, { on := 50, ground := Ground.phase }, { on := 51, ground := Ground.phase }, { on := 52, ground := Ground.phase }, { on := 53, ground := Ground.phase }, { on := 54, ground := Ground.phase }], guard := none }) (v := ?_) rfl (by kernel_rfl) (by kernel_rfl) (by kernel_rfl) (fun _ _ _ h => h) (Or.inl ⟨by rfl, ?_⟩) hHeld ?_
  rotate_left
  · intro w' hS; obtain ⟨⟨hS0, hS1⟩, ⟨hS2, hS3, hS4, hS5⟩, hS6, hS7, hS8, hS9⟩ := hS; go_simp; all_goals (with_reducible rfl)
  (try simp only [Act.put, List.setIfInBounds_toArray, List.set_cons_zero, List.set_cons_succ])
  refine wpAnyH_done (by kernel_rfl) ?_ _
  (try simp only [Act.put, List.setIfInBounds_toArray, List.set_cons_zero, List.set_cons_succ])
  go_wp2_with fail
  go_ret
  exact ⟨rfl, HFIN.out _ HBi.out⟩
end Go.Proofs.YtpaonoaedjkekaaDoor.Dk
namespace Go.Proofs.YtpaonoaedjkekaaDoor.Dk
open Go Go.RowKit Go.Proofs.YtpaonoaedjkekaaDoor.PD Go.Proofs.YtpaonoaedjkekaaDoorW.PrintWords Go.Proofs.YtpaonoaedjkekaaDoorW.PrintLast Go.Proofs.YtpaonoaedjkekaaDoorW.PrintMore
set_option linter.unusedVariables false
set_option linter.unusedSimpArgs false
set_option maxHeartbeats 4000000
set_option maxRecDepth 100000
theorem behind_putT (fs : List Int) (ops : List (Int × List Int)) (s : Nat) (q : List Int) : behindL fs (ops ++ [((s : Int), q)]) = (behindL fs ops).take (128 * s) ++ q ++ (behindL fs ops).drop (128 * s + 128) := by
  simp only [behindL, List.foldl_append, List.foldl_cons, List.foldl_nil]
  rw [layOp, if_neg (by intro e; have := congrArg Prod.fst e; simp only [flushOp] at this; omega)]
  simp
/-- What a write answers. -/
def wcode (n : Nat) (N : Int) (L len : Nat) : Int := if N < 0 ∨ ((n / 128 : Nat) : Int) ≤ N then 60 else if L ≠ 128 then 61 else if 65536 ≤ len then 5 else 0
def wops (n : Nat) (N : Int) (w : List Int) (ops : List (Int × List Int)) : List (Int × List Int) := if wcode n N w.length ops.length = 0 then ops ++ [(N, w)] else ops
theorem wops_ne {n : Nat} {N : Int} {w : List Int} {ops : List (Int × List Int)} {x : Int} (h : wcode n N w.length ops.length = x) (hx : x ≠ 0) : wops n N w ops = ops := if_neg (by rw [h]; exact hx)
theorem write_any {h : Hd} {B : Nat} {fs : List Int} {A A2 : Option Addr} {c c2 : Nat} {ops : List (Int × List Int)} {W : World} (k : DkAt h B fs (behindL fs ops) (.slice A ops.length c) ops W) (N : Int) (w : List Int) (L : Nat) (hL : w.length = L) (q : Nat) (hq : h.n = 128 * q)
    (hC : ∀ W', Kept W W' (Own h (.slice A ops.length c)) → Kd.C (Kd.int .u8) W' A2 L w) :
    Calls Tryd.prog 27 #[ptr h.D, .int .i64 N, .slice A2 L c2] W fun e w' => e = .returned (.int .i64 (wcode h.n N L ops.length)) ∧ (∃ A' c', DkAt h B fs (behindL fs (wops h.n N w ops)) (.slice A' (wops h.n N w ops).length c') (wops h.n N w ops) w') ∧ Kept W w' (Own h (.slice A ops.length c)) ∧ Below B W w' := by
  subst hL
  have stay : ∀ x, wcode h.n N w.length ops.length = x → x ≠ 0 → (∃ A' c', DkAt h B fs (behindL fs (wops h.n N w ops)) (.slice A' (wops h.n N w ops).length c') (wops h.n N w ops) W) ∧ Kept W W (Own h (.slice A ops.length c)) ∧ Below B W W := fun x e hx => by
    rw [wops_ne e hx]
    exact ⟨⟨A, c, k⟩, Kept.refl _ _, Below.refl _ _⟩
  have e0 : h.n / 128 = q := by omega
  by_cases h1 : N < 0 ∨ ((h.n / 128 : Nat) : Int) ≤ N
  · have e : wcode h.n N w.length ops.length = 60 := if_pos h1
    rw [e]
    refine (write_place k N (h.n / 128) rfl h1 _).mono ?_
    rintro _ w' ⟨rfl, rfl⟩
    exact ⟨rfl, stay 60 e (by decide)⟩
  · obtain ⟨n, rfl⟩ : ∃ n : Nat, N = (n : Int) := ⟨N.toNat, by omega⟩
    have hn : 128 * n + 128 ≤ h.n := by omega
    by_cases h2 : w.length ≠ 128
    · have e : wcode h.n n w.length ops.length = 61 := by unfold wcode; rw [if_neg h1, if_pos h2]
      rw [e]
      refine (write_sector k n hn A2 w.length c2 h2).mono ?_
      rintro _ w' ⟨rfl, rfl⟩
      exact ⟨rfl, stay 61 e (by decide)⟩
    · have h2 : w.length = 128 := by omega
      by_cases h3 : 65536 ≤ ops.length
      · have e : wcode h.n n w.length ops.length = 5 := by unfold wcode; rw [if_neg h1, if_neg (by omega), if_pos h3]
        rw [e, h2]
        refine (write_full k n hn A2 c2 h3).mono ?_
        rintro _ w' ⟨rfl, rfl⟩
        exact ⟨rfl, stay 5 e (by decide)⟩
      · have e : wcode h.n n w.length ops.length = 0 := by unfold wcode; rw [if_neg h1, if_neg (by omega), if_neg h3]
        have ew : wops h.n n w ops = ops ++ [((n : Int), w)] := if_pos e
        rw [e, ew]
        rw [h2] at hC
        rw [h2]
        refine (write_at k n w hC hn (by omega)).mono ?_
        rintro _ w' ⟨rfl, A', c', hd, hk, hb, _⟩
        refine ⟨rfl, ⟨A', c', ?_⟩, hk, hb⟩
        rw [List.length_append, List.length_singleton, behind_putT]
        exact hd
theorem rwrite_any {r : Rd} {B : Nat} {ok : Nat → Prop} {fs : List Int} {A A2 : Option Addr} {c c2 : Nat} {ops : List (Int × List Int)} {W : World} (k : RfAt r B ok fs (.slice A ops.length c) ops W) (hok : ∀ k, W.heap.size ≤ k → ok k) (N : Int) (w : List Int) (L : Nat) (hL : w.length = L) (q : Nat) (hq : r.n = 128 * q)
    (hC : Kd.C (Kd.int .u8) W A2 L w) :
    Calls Tryd.prog 44 #[ptr r.D, .int .i64 N, .slice A2 L c2] W fun e w' => e = .returned (.int .i64 (wcode r.n N L ops.length)) ∧ (∃ A' c', RfAt r B ok fs (.slice A' (wops r.n N w ops).length c') (wops r.n N w ops) w') ∧ Kept W w' (ROwn r (.slice A ops.length c)) ∧ Below B W w' := by
  subst hL
  have stay : ∀ x, wcode r.n N w.length ops.length = x → x ≠ 0 → (∃ A' c', RfAt r B ok fs (.slice A' (wops r.n N w ops).length c') (wops r.n N w ops) W) ∧ Kept W W (ROwn r (.slice A ops.length c)) ∧ Below B W W := fun x e hx => by
    rw [wops_ne e hx]
    exact ⟨⟨A, c, k⟩, Kept.refl _ _, Below.refl _ _⟩
  have e0 : r.n / 128 = q := by omega
  by_cases h1 : N < 0 ∨ ((r.n / 128 : Nat) : Int) ≤ N
  · have e : wcode r.n N w.length ops.length = 60 := if_pos h1
    rw [e]
    refine (rwrite_place k N (r.n / 128) rfl h1 _).mono ?_
    rintro _ w' ⟨rfl, rfl⟩
    exact ⟨rfl, stay 60 e (by decide)⟩
  · obtain ⟨n, rfl⟩ : ∃ n : Nat, N = (n : Int) := ⟨N.toNat, by omega⟩
    have hn : 128 * n + 128 ≤ r.n := by omega
    by_cases h2 : w.length ≠ 128
    · have e : wcode r.n n w.length ops.length = 61 := by unfold wcode; rw [if_neg h1, if_pos h2]
      rw [e]
      refine (rwrite_sector k n hn A2 w.length c2 h2).mono ?_
      rintro _ w' ⟨rfl, rfl⟩
      exact ⟨rfl, stay 61 e (by decide)⟩
    · have h2 : w.length = 128 := by omega
      by_cases h3 : 65536 ≤ ops.length
      · have e : wcode r.n n w.length ops.length = 5 := by unfold wcode; rw [if_neg h1, if_neg (by omega), if_pos h3]
        rw [e, h2]
        refine (rwrite_full k n hn A2 c2 h3).mono ?_
        rintro _ w' ⟨rfl, rfl⟩
        exact ⟨rfl, stay 5 e (by decide)⟩
      · have e : wcode r.n n w.length ops.length = 0 := by unfold wcode; rw [if_neg h1, if_neg (by omega), if_neg h3]
        have ew : wops r.n n w ops = ops ++ [((n : Int), w)] := if_pos e
        rw [e, ew]
        refine (rwrite_at k hok (by omega) n hn w w.length h2 hC).mono ?_
        rintro _ w' ⟨rfl, A', c', hd, hk, hb, _⟩
        refine ⟨rfl, ⟨A', c', ?_⟩, hk, hb⟩
        rw [List.length_append, List.length_singleton]
        exact hd
theorem wops_ok {n : Nat} {N : Int} {w : List Int} {ops : List (Int × List Int)} (hO : Oks n ops) (q : Nat) (hq : n = 128 * q) : Oks n (wops n N w ops) := by
  unfold wops
  split
  · rename_i h
    unfold wcode at h
    split at h
    · cases h
    · split at h
      · cases h
      · rename_i h1 h2
        intro o ho
        rcases List.mem_append.1 ho with ho | ho
        · exact hO o ho
        · rw [List.mem_singleton.1 ho]
          exact ⟨by simpa using h2, .inr ⟨N.toNat, by show N = _; omega, by omega⟩⟩
  · exact hO
/-- The disk is left alone where a row of bytes beside it is written over. -/
theorem DkAt.past {h : Hd} {B : Nat} {fs ss : List Int} {vo : Value} {ops : List (Int × List Int)} {W W' : World} (k : DkAt h B fs ss vo ops W) {g : Nat} {xs : List Int} (hm : Mem W g xs) (h1 : h.gf ≠ g) (h2 : h.gs ≠ g) (hk : Kept W W' (fun j => j = g)) : DkAt h B fs ss vo ops W' := by
  obtain ⟨cur, hc, _⟩ := hm
  have hno : ∀ j t (u : Array Value), W.heap[j]? = some (.cells u t (0, 0)) → t ≠ 5 → ¬ j = g := by
    rintro j t u hj ht rfl
    exact ht (blk_types hj hc)
  refine { k with row := (hk.2 _ k.row.lt (hno _ 77 _ k.row (by decide))).trans k.row, f := k.f.move (hk.2 _ k.f.lt h1), s := k.s.move (hk.2 _ k.s.lt h2), o := ?_ }
  refine Kd.R_mono (Kd.R_kept (Kd.R_bound k.o) hk ?_) (fun _ _ => trivial)
  rintro j ⟨_, _, _, p, hp, cells, hcj⟩
  have hp3 : p = 83 := by simpa [Kd.int, Kd.scalar, Kd.pair, Kd.arr] using hp
  subst hp3
  exact hno j 83 cells hcj (by decide)
/-- The document's disk too. -/
theorem RfAt.past {r : Rd} {B : Nat} {ok : Nat → Prop} {fs : List Int} {vo : Value} {ops : List (Int × List Int)} {W W' : World} (k : RfAt r B ok fs vo ops W) {g : Nat} {xs : List Int} (hm : Mem W g xs) (hok : ∀ j, ok j → j ≠ g) (hk : Kept W W' (fun j => j = g)) : RfAt r B ok fs vo ops W' := by
  obtain ⟨cur, hc, _⟩ := hm
  refine { k with row := (hk.2 _ k.row.lt ?_).trans k.row, f := k.f.move (hk.2 _ k.f.lt (hok _ k.fk)), o := ?_ }
  · intro e
    have h2 := k.row
    rw [e] at h2
    have := blk_types h2 hc
    omega
  · refine Kd.R_mono (Kd.R_kept (Kd.R_bound k.o) hk ?_) (fun _ hj => hj.1)
    rintro j ⟨hj, _⟩
    exact hok j hj
theorem RfAt.bound {r : Rd} {B : Nat} {ok ok' : Nat → Prop} {fs : List Int} {vo : Value} {ops : List (Int × List Int)} {W : World} (k : RfAt r B ok fs vo ops W) (h : ∀ j, ok j → B ≤ j → j < W.heap.size → ok' j) : RfAt r B ok' fs vo ops W :=
  { k with o := Kd.R_mono (Kd.R_bound k.o) (fun j hj => h j hj.1 hj.2.1 hj.2.2.1), fk := h _ k.fk k.bf k.f.lt }
theorem Rt.past {t b : Nat} {vs : List Value} {W W' : World} (hr : Rt t b vs W) {g : Nat} {xs : List Int} (hm : Mem W g xs) (ht : t ≠ 5) (hk : Kept W W' (fun j => j = g)) : Rt t b vs W' := by
  obtain ⟨cur, hc, _⟩ := hm
  refine (hk.2 b hr.lt ?_).trans hr
  rintro rfl
  exact ht (blk_types hr hc)
theorem RfAt.mono {r : Rd} {B : Nat} {ok ok' : Nat → Prop} {fs : List Int} {vo : Value} {ops : List (Int × List Int)} {W : World} (k : RfAt r B ok fs vo ops W) (h : ∀ j, ok j → ok' j) : RfAt r B ok' fs vo ops W := k.bound fun j hj _ _ => h j hj
/-- A turn of a row of bytes: each taken from 255. -/
def flipL (xs : List Int) (i : Nat) : List Int := (xs.take i).map (fun x => (255 - x) % 256) ++ xs.drop i
theorem flipL_len (xs : List Int) (i : Nat) : (flipL xs i).length = xs.length := by
  unfold flipL
  rw [List.length_append, List.length_map, List.length_take, List.length_drop]
  omega
theorem flipL_get (xs : List Int) (i : Nat) (hi : i < xs.length) : (flipL xs i)[i]? = xs[i]? := by
  unfold flipL
  rw [List.getElem?_append_right (by rw [List.length_map, List.length_take]; omega), List.length_map, List.length_take, List.getElem?_drop]
  congr 1
  omega
theorem flipL_set (xs : List Int) (i : Nat) (x : Int) (hx : xs[i]? = some x) : (flipL xs i).set i ((255 - x) % 256) = flipL xs (i + 1) := by
  have hi : i < xs.length := (List.getElem?_eq_some_iff.1 hx).1
  unfold flipL
  rw [take_snoc hx, List.map_append, List.set_append_right _ _ (by rw [List.length_map, List.length_take]; omega), List.length_map, List.length_take, Nat.min_eq_left (by omega), Nat.sub_self, List.append_assoc]
  congr 1
  obtain ⟨hd, rfl⟩ := List.getElem?_eq_some_iff.1 hx
  rw [List.drop_eq_getElem_cons hd]
  rfl
end Go.Proofs.YtpaonoaedjkekaaDoor.Dk
