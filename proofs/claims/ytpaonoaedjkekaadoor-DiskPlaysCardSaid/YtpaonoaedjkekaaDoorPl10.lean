/- does, its moments, walked. -/
import Derived.Test.YtpaonoaedjkekaaDoorPl9
import Derived.Deep.RegionHeld3
namespace Go.Proofs.YtpaonoaedjkekaaDoor.Dk
open Go Go.RowKit Go.Proofs.YtpaonoaedjkekaaDoor.PD Go.Proofs.YtpaonoaedjkekaaDoorW.PrintWords Go.Proofs.YtpaonoaedjkekaaDoorW.PrintLast Go.Proofs.YtpaonoaedjkekaaDoorW.PrintMore
set_option linter.unusedVariables false
set_option linter.unusedSimpArgs false
set_option maxHeartbeats 4000000
set_option maxRecDepth 100000
theorem w64i {k : Nat} (h : k < 9223372036854775808) : wrap64 (k : Int) = (k : Int) := by unfold wrap64; omega
theorem does_at {gp B : Nat} {h : Hd} {r : Rd} {fs : List Int} {ops : List (Int × List Int)} {W : World} (k : Both gp B h r fs ops W) (N fill torn y : Int) (Ab Ak : Option Addr) (m cb mk ck : Nat) (ex : Bool) (hN : -9223372036854775808 ≤ N ∧ N ≤ 9223372036854775807) (bs keep : List Int) (hCb : Kd.C (Kd.int .u8) W Ab m bs) (hmb : m ≤ cb) (hCk : Kd.C (Kd.int .i64) W Ak mk keep) (hmk : mk ≤ ck) (hmk8 : (mk + 1) * 8 ≤ 140737488355328) :
    Calls Tryd.prog 35 #[ptr gp, .agg (opV 4 N fill torn y Ab Ak m cb mk ck ex).toArray] W fun e w' => e = .returned (.bool true) ∧ ∃ h' r' fs' ops', Both gp B h' r' fs' ops' w' ∧ Below B W w' := by
  have K := Aside0.mk k
  clear k
  go_enter Tryd.func35, Tryd.ntmps35
  go_upto_region 1 with fail
  have hr3 : Rt 69 W.heap.size (opV 4 N fill torn y Ab Ak m cb mk ck ex) (W.alloc (.cells (opV 4 N fill torn y Ab Ak m cb mk ck ex).toArray 69)) := heap_alloc_new W _
  have hb1 : Below W.heap.size W (W.alloc (.cells (opV 4 N fill torn y Ab Ak m cb mk ck ex).toArray 69)) := below_alloc (Below.refl _ _) _
  obtain ⟨b3, hb3⟩ : ∃ b3, W.heap.size = b3 := ⟨_, rfl⟩
  have HB3E := Aside0.mk hb3
  rw [hb3] at hr3 ⊢
  generalize W.alloc (.cells (opV 4 N fill torn y Ab Ak m cb mk ck ex).toArray 69) = w1 at *
  have HB1 := Aside0.mk hb1
  have q0 := hr3.cell 0 _ rfl
  have HR3 := Aside0.mk hr3
  clear hr3 hb1 hb3
  have KS := Aside0.mk (K.out.stay HB1.out).1
  have HBW := Aside0.mk (K.out.stay HB1.out).2
  obtain ⟨A, c, hd⟩ := KS.out.dd
  obtain ⟨A2, c2, hr⟩ := KS.out.rr
  have HD := Aside0.mk hd
  have HR := Aside0.mk hr
  have HE := Aside0.mk KS.out.en
  have HO := Aside0.mk KS.out.ok
  have HOR := Aside0.mk (show Oks r.n ops by rw [← HE.out]; exact HO.out)
  have H0 := Aside0.mk (Nat.lt_of_lt_of_le KS.out.b0 hd.size)
  clear hd hr
  have HFIN := Aside0.mk (show ∀ w', Below w1.heap.size w1 w' → ∃ h' r' fs' ops', Both gp B h' r' fs' ops' w' ∧ Below B W w' from fun w' hb => ⟨h, r, fs, ops, (KS.out.stay hb).1, HBW.out.trans (KS.out.stay hb).2⟩)
  have MKS := Aside0.mk (show ∀ w', Below w1.heap.size w1 w' → (fun w' => (w'.cell? ⟨gp, 0, none⟩ = some (ptr h.D) ∧ w'.cell? ⟨gp, 1, none⟩ = some (ptr r.D)) ∧ (w'.cell? ⟨b3, 0, none⟩ = some (.int .i64 4) ∧ w'.cell? ⟨b3, 1, none⟩ = some (.int .i64 N) ∧ w'.cell? ⟨b3, 2, none⟩ = some (.int .u8 fill) ∧ w'.cell? ⟨b3, 3, none⟩ = some (.slice Ab m cb)) ∧ (w'.cell? ⟨b3, 4, none⟩ = some (.bool ex) ∧ w'.cell? ⟨b3, 5, none⟩ = some (.slice Ak mk ck) ∧ w'.cell? ⟨b3, 6, none⟩ = some (.int .i64 torn) ∧ w'.cell? ⟨b3, 7, none⟩ = some (.int .i64 y))) w' from fun w' hb => by
    have r1 : Rt 66 gp [ptr h.D, ptr r.D] w' := (hb.block _ KS.out.row.lt).trans KS.out.row
    have r3 : Rt 69 b3 (opV 4 N fill torn y Ab Ak m cb mk ck ex) w' := (hb.block _ HR3.out.lt).trans HR3.out
    exact ⟨⟨r1.cell 0 _ rfl, r1.cell 1 _ rfl⟩, ⟨r3.cell 0 _ rfl, r3.cell 1 _ rfl, r3.cell 2 _ rfl, r3.cell 3 _ rfl⟩, r3.cell 4 _ rfl, r3.cell 5 _ rfl, r3.cell 6 _ rfl, r3.cell 7 _ rfl⟩)
  have HLEN := Aside0.mk HD.out.few
  obtain ⟨M, hM⟩ : ∃ M, momentN N ex ops.length = M := ⟨_, rfl⟩
  have HMO := Aside0.mk (show ∀ w', Below w1.heap.size w1 w' → Calls Tryd.prog 52 #[.agg (opV 4 N fill torn y Ab Ak m cb mk ck ex).toArray, .int .i64 (ops.length : Int)] w' fun e w2 => e = .returned (.int .i64 M) ∧ Below w'.heap.size w' w2 from fun w' hb => by
    have := moment_at 4 N fill torn y Ab Ak m cb mk ck ex bs keep ops.length HLEN.out hN w' (Kd.C_below hCb (HB1.out.trans (hb.mono HB1.out.size))) hmb (Kd.C_below hCk (HB1.out.trans (hb.mono HB1.out.size))) hmk
    rwa [hM] at this)
  have HCK := Aside0.mk (show Kd.C (Kd.int .i64) w1 Ak mk keep from Kd.C_below hCk HB1.out)
  have HKL := Aside0.mk (Kd.C_len hCk)
  have HMK := Aside0.mk hmk
  have HMK8 := Aside0.mk hmk8
  clear hM hN hCb hCk hmb hmk hmk8
  go_upto_region 27 with fail
  refine wp_region_held_drew (S := fun w' => (w'.cell? ⟨gp, 0, none⟩ = some (ptr h.D) ∧ w'.cell? ⟨gp, 1, none⟩ = some (ptr r.D)) ∧ (w'.cell? ⟨b3, 0, none⟩ = some (.int .i64 4) ∧ w'.cell? ⟨b3, 1, none⟩ = some (.int .i64 N) ∧ w'.cell? ⟨b3, 2, none⟩ = some (.int .u8 fill) ∧ w'.cell? ⟨b3, 3, none⟩ = some (.slice Ab m cb)) ∧ (w'.cell? ⟨b3, 4, none⟩ = some (.bool ex) ∧ w'.cell? ⟨b3, 5, none⟩ = some (.slice Ak mk ck) ∧ w'.cell? ⟨b3, 6, none⟩ = some (.int .i64 torn) ∧ w'.cell? ⟨b3, 7, none⟩ = some (.int .i64 y))) (by kernel_rfl) (MKS.out _ (below_drew (Below.refl _ _))) (fun hHeld => ?_)
  refine wpAnyH_take (i := 0) (oi := { dst := some 196, op := Op.load 69 (Operand.tmp 3), type := 69, pos := "law.go:141", after := #[], guard := none }) (v := ?_) rfl (by kernel_rfl) (by kernel_rfl) (by kernel_rfl) (fun _ _ _ h => h) (Or.inl ⟨by rfl, ?_⟩) hHeld ?_
  rotate_left
  · intro w' hS; obtain ⟨⟨hS0, hS1⟩, ⟨hS2, hS3, hS4, hS5⟩, hS6, hS7, hS8, hS9⟩ := hS; go_simp; all_goals (with_reducible rfl)
  (try simp only [Act.put, List.setIfInBounds_toArray, List.set_cons_zero, List.set_cons_succ])
  refine wpAnyH_take (i := 1) (oi := { dst := some 197, op := Op.move (Operand.tmp 0), type := 64, pos := "law.go:141", after := #[], guard := none }) (v := ?_) rfl (by kernel_rfl) (by kernel_rfl) (by kernel_rfl) (fun _ _ _ h => h) (Or.inl ⟨by rfl, ?_⟩) hHeld ?_
  rotate_left
  · intro w' hS; obtain ⟨⟨hS0, hS1⟩, ⟨hS2, hS3, hS4, hS5⟩, hS6, hS7, hS8, hS9⟩ := hS; go_simp; all_goals (with_reducible rfl)
  (try simp only [Act.put, List.setIfInBounds_toArray, List.set_cons_zero, List.set_cons_succ])
  refine wpAnyH_take (i := 2) (oi := { dst := some 198, op := Op.nilCheck (Operand.tmp 197), type := 0, pos := "law.go:141", after := #[{ on := 1, ground := Ground.data }], guard := none }) (v := ?_) rfl (by kernel_rfl) (by kernel_rfl) (by kernel_rfl) (fun _ _ _ h => h) (Or.inl ⟨by rfl, ?_⟩) hHeld ?_
  rotate_left
  · intro w' hS; obtain ⟨⟨hS0, hS1⟩, ⟨hS2, hS3, hS4, hS5⟩, hS6, hS7, hS8, hS9⟩ := hS; go_simp; all_goals (with_reducible rfl)
  (try simp only [Act.put, List.setIfInBounds_toArray, List.set_cons_zero, List.set_cons_succ])
  refine wpAnyH_take (i := 3) (oi := { dst := some 199, op := Op.fieldAddr 66 (Operand.tmp 198) 1, type := 0, pos := "law.go:141", after := #[{ on := 2, ground := Ground.data }], guard := none }) (v := ?_) rfl (by kernel_rfl) (by kernel_rfl) (by kernel_rfl) (fun _ _ _ h => h) (Or.inl ⟨by rfl, ?_⟩) hHeld ?_
  rotate_left
  · intro w' hS; obtain ⟨⟨hS0, hS1⟩, ⟨hS2, hS3, hS4, hS5⟩, hS6, hS7, hS8, hS9⟩ := hS; go_simp; all_goals (with_reducible rfl)
  (try simp only [Act.put, List.setIfInBounds_toArray, List.set_cons_zero, List.set_cons_succ])
  refine wpAnyH_take (i := 4) (oi := { dst := some 200, op := Op.load 61 (Operand.tmp 199), type := 61, pos := "law.go:141", after := #[{ on := 3, ground := Ground.data }], guard := none }) (v := ?_) rfl (by kernel_rfl) (by kernel_rfl) (by kernel_rfl) (fun _ _ _ h => h) (Or.inl ⟨by rfl, ?_⟩) hHeld ?_
  rotate_left
  · intro w' hS; obtain ⟨⟨hS0, hS1⟩, ⟨hS2, hS3, hS4, hS5⟩, hS6, hS7, hS8, hS9⟩ := hS; go_simp; all_goals (with_reducible rfl)
  (try simp only [Act.put, List.setIfInBounds_toArray, List.set_cons_zero, List.set_cons_succ])
  refine wpAnyH_ready (rs := [5]) (by kernel_rfl) (by simp) ?_
  refine AllReadyH.cons (o := { dst := some 201, op := Op.call { callee := Callee.value (Operand.func 49), args := #[Operand.tmp 200], argTypes := #[61] }, type := 3, pos := "law.go:141", after := #[{ on := 4, ground := Ground.data }], guard := none }) rfl (fun K hK => ?_) AllReadyH.nil
  go_simp
  go_at_call 49
  refine (rcount_at (HR.out.stay (below_drew (Below.refl _ _)))).mono ?_
  rintro e w' ⟨rfl, hw⟩
  subst w'
  refine hK.out _ _ (MKS.out _ (below_drew (Below.refl _ _))) (fun hHeld => ?_)
  clear hK K
  (try simp only [Act.put, List.setIfInBounds_toArray, List.set_cons_zero, List.set_cons_succ])
  refine wpAnyH_ready (rs := [6]) (by kernel_rfl) (by simp) ?_
  refine AllReadyH.cons (o := { dst := some 202, op := Op.call { callee := Callee.value (Operand.func 52), args := #[Operand.tmp 196, Operand.tmp 201], argTypes := #[69, 3] }, type := 3, pos := "law.go:141", after := #[{ on := 0, ground := Ground.data }, { on := 5, ground := Ground.data }, { on := 5, ground := Ground.chain }], guard := none }) rfl (fun K hK => ?_) AllReadyH.nil
  go_simp
  go_at_call 52
  refine (HMO.out _ (below_drew (Below.refl _ _))).mono ?_
  rintro e wa ⟨rfl, hb⟩
  have HBa := Aside0.mk (show Below w1.heap.size w1 wa from (below_drew (Below.refl _ _)).trans hb)
  clear hb
  refine hK.out _ _ (MKS.out _ HBa.out) (fun hHeld => ?_)
  clear hK K
  (try simp only [Act.put, List.setIfInBounds_toArray, List.set_cons_zero, List.set_cons_succ])
  refine wpAnyH_take (i := 7) (oi := { dst := some 18, op := Op.assign (Operand.tmp 202), type := 3, pos := "law.go:141", after := #[{ on := 6, ground := Ground.data }, { on := 6, ground := Ground.chain }, { on := 0, ground := Ground.phase }, { on := 1, ground := Ground.phase }, { on := 2, ground := Ground.phase }, { on := 3, ground := Ground.phase }, { on := 4, ground := Ground.phase }, { on := 5, ground := Ground.phase }, { on := 6, ground := Ground.phase }], guard := none }) (v := ?_) rfl (by kernel_rfl) (by kernel_rfl) (by kernel_rfl) (fun _ _ _ h => h) (Or.inl ⟨by rfl, ?_⟩) hHeld ?_
  rotate_left
  · intro w' hS; obtain ⟨⟨hS0, hS1⟩, ⟨hS2, hS3, hS4, hS5⟩, hS6, hS7, hS8, hS9⟩ := hS; go_simp; all_goals (with_reducible rfl)
  (try simp only [Act.put, List.setIfInBounds_toArray, List.set_cons_zero, List.set_cons_succ])
  refine wpAnyH_done (by kernel_rfl) ?_ _
  (try simp only [Act.put, List.setIfInBounds_toArray, List.set_cons_zero, List.set_cons_succ])
  clear HMO
  obtain ⟨_, _, _, q5, q6, q7⟩ := MKS.out wa HBa.out
  have HCKa := Aside0.mk (Kd.C_below HCK.out HBa.out)
  go_upto_region 29 with fail
  have hrc : Rt 34 wa.heap.size [.slice Ak mk ck, .int .i64 torn, .int .i64 y] (wa.alloc (.cells #[.slice Ak mk ck, .int .i64 torn, .int .i64 y] 34)) := heap_alloc_new wa _
  have hbc : Below wa.heap.size wa (wa.alloc (.cells #[.slice Ak mk ck, .int .i64 torn, .int .i64 y] 34)) := below_alloc (Below.refl _ _) _
  obtain ⟨bc, hbce⟩ : ∃ bc, wa.heap.size = bc := ⟨_, rfl⟩
  have HCKc := Aside0.mk (Kd.C_below HCKa.out hbc)
  have HBc := Aside0.mk (HBa.out.trans (hbc.mono HBa.out.size))
  have HBCG := Aside0.mk (show w1.heap.size ≤ bc by have := HBa.out.size; omega)
  rw [hbce] at hrc ⊢
  clear q5 q6 q7 hbc hbce HCKa
  generalize wa.alloc (.cells #[.slice Ak mk ck, .int .i64 torn, .int .i64 y] 34) = wc at *
  have HRC := Aside0.mk hrc
  have k0 := hrc.cell 0 _ rfl
  clear hrc
  go_wp2_with (first
    | (
      (with_reducible refine gate_builtin (b := .append) (xs := #[.tmp 205, .tmp 207]) rfl ?_)
      at_builtin
      refine (Kd.R_append_rows (Kd.int .i64) (Rr := (Kd.int .i64).K wc) (w0 := wc) wc.heap.size rfl (.tmp 205) (.tmp 207) 23 3 (.int .i64 0) 8 rfl Tryd.underlying23 info3' rfl (by decide) (by decide) (.slice none 0 0) [] keep Ak mk ck (fun _ => True) (fun _ => False) rfl rfl (Kd.R_nil _ _ _ _ _) HCKc.out (fun _ _ h => h) (fun _ h => h.elim) (fun _ _ => trivial) (Below.refl _ _) (Nat.le_refl _) (by rw [List.length_nil]; have := HMK8.out; omega) ?_)
      intro v1 wd ho hb hg hat
      rw [List.nil_append] at ho
      have HO1 := Aside0.mk ho
      have HBd := Aside0.mk hb
      clear ho hb hg hat)
    | (
      (with_reducible refine gate_builtin (b := .append) (xs := #[.tmp 209, .tmp 210]) rfl ?_)
      at_builtin
      refine (Kd.R_append (Kd.int .i64) (w0 := wc) wc.heap.size rfl (.tmp 209) (.tmp 210) 23 3 (.int .i64 0) 8 rfl Tryd.underlying23 info3' rfl (by decide) (by decide) v1 keep 77 [.int .i64 77] (fun _ => True) (fun _ => False) rfl rfl rfl (fun _ hk => hk.elim) (fun _ _ => trivial) HO1.out HBd.out HBd.out.size (by rw [HKL.out]; exact HMK8.out) ?_)
      intro v2 we ho hb hg hat
      obtain ⟨Ao, co, eo, hco, hCo⟩ := Kd.R_reads ho
      rw [List.length_append, List.length_singleton, HKL.out] at eo hco hCo
      subst eo
      obtain ⟨ad, rfl, _⟩ := (Kd.reads_of_C (d := (0 : Int)) (h1 := fun _ => rfl) hCo).2.2 (Nat.succ_pos _)
      have HO2 := Aside0.mk ho
      have HBe := Aside0.mk hb
      have HRCe := Aside0.mk (show Rt 34 bc [.slice Ak mk ck, .int .i64 torn, .int .i64 y] we from (hb.block _ HRC.out.lt).trans HRC.out)
      have k1 := HRCe.out.cell 0 _ rfl
      have f1 := HRCe.out.free 0
      have hw : wrap64 (mk : Int) = (mk : Int) := w64i (by have := HMK8.out; omega)
      have s0 : (0 : Int) ≤ (mk : Int) := by omega
      have s1 : mk ≤ co := by omega
      have s2 : (mk : Int) ≤ (co : Int) := by omega
      clear ho hb hg hat hCo k0))
  rw [HRCe.out.set 0]
  have hlist : [Value.slice Ak mk ck, .int .i64 torn, .int .i64 y].set 0 (.slice (some ad) mk co) = [Value.slice (some ad) mk co, .int .i64 torn, .int .i64 y] := rfl
  rw [hlist]
  clear hlist k1 f1 HB1
  have hrf : Rt 34 bc [.slice (some ad) mk co, .int .i64 torn, .int .i64 y] (we.setRow bc [Value.slice (some ad) mk co, .int .i64 torn, .int .i64 y].toArray) := HRCe.out.row _
  have hbf : Below w1.heap.size w1 (we.setRow bc [Value.slice (some ad) mk co, .int .i64 torn, .int .i64 y].toArray) := below_setRow' (HBc.out.trans (HBe.out.mono HBc.out.size)) HBCG.out _
  have hof : Kd.R (Kd.int .i64) 3 (we.setRow bc [Value.slice (some ad) mk co, .int .i64 torn, .int .i64 y].toArray) wc.heap.size (fun _ => True) (.slice (some ad) (mk + 1) co) (keep ++ [77]) := by
    refine Kd.R_mono (Kd.R_step (Kd.R_bound HO2.out) (fun j hj _ => setRow_other _ _ _ _ ?_)) (fun _ _ => trivial)
    rintro rfl
    have := hj.2.1
    have := HRC.out.lt
    omega
  generalize we.setRow bc [Value.slice (some ad) mk co, .int .i64 torn, .int .i64 y].toArray = wf at *
  have HRF := Aside0.mk hrf
  have HBf := Aside0.mk hbf
  have hCo2 : Kd.C (Kd.int .i64) wf (some ad) (mk + 1) (keep ++ [77]) := by
    obtain ⟨Ao2, co2, eo2, _, hC'⟩ := Kd.R_reads hof
    injection eo2 with eo2 _ _
    subst eo2
    rwa [List.length_append, List.length_singleton, HKL.out] at hC'
  have HOT := Aside0.mk (show Kd.C (Kd.int .i64) wf (some ad) mk keep from by
    have hl : (keep ++ [77]).length = mk + 1 := by rw [List.length_append, List.length_singleton, HKL.out]
    have hC2 := hCo2
    rw [← hl] at hC2
    have := Kd.C_take hC2 (show mk ≤ (keep ++ [77]).length by omega)
    rwa [List.take_left' HKL.out, HKL.out] at this)
  have HOF := Aside0.mk hCo2
  clear hrf hbf hof hCo2
  have HS1 := Aside0.mk s1
  have MKC := Aside0.mk (show ∀ w', Below wf.heap.size wf w' → (fun w' => ((fun w' => (w'.cell? ⟨gp, 0, none⟩ = some (ptr h.D) ∧ w'.cell? ⟨gp, 1, none⟩ = some (ptr r.D)) ∧ (w'.cell? ⟨b3, 0, none⟩ = some (.int .i64 4) ∧ w'.cell? ⟨b3, 1, none⟩ = some (.int .i64 N) ∧ w'.cell? ⟨b3, 2, none⟩ = some (.int .u8 fill) ∧ w'.cell? ⟨b3, 3, none⟩ = some (.slice Ab m cb)) ∧ (w'.cell? ⟨b3, 4, none⟩ = some (.bool ex) ∧ w'.cell? ⟨b3, 5, none⟩ = some (.slice Ak mk ck) ∧ w'.cell? ⟨b3, 6, none⟩ = some (.int .i64 torn) ∧ w'.cell? ⟨b3, 7, none⟩ = some (.int .i64 y))) w') ∧ (w'.cell? ⟨bc, 0, none⟩ = some (.slice (some ad) mk co) ∧ w'.cell? ⟨bc, 1, none⟩ = some (.int .i64 torn) ∧ w'.cell? ⟨bc, 2, none⟩ = some (.int .i64 y)) ∧ w'.cell? (ad.add mk) = some (.int .i64 77)) w' from fun w' hb => by
    have r4 : Rt 34 bc [.slice (some ad) mk co, .int .i64 torn, .int .i64 y] w' := (hb.block _ HRF.out.lt).trans HRF.out
    obtain ⟨adx, eadx, hcell⟩ := (Kd.reads_of_C (d := (0 : Int)) (h1 := fun _ => rfl) (Kd.C_below HOF.out hb)).2.2 (Nat.succ_pos _)
    obtain rfl := Option.some.inj eadx
    have cm := hcell mk (Nat.lt_succ_self _)
    rw [List.getD_eq_getElem?_getD, List.getElem?_append_right (Nat.le_of_eq HKL.out), HKL.out, Nat.sub_self] at cm
    exact ⟨MKS.out w' (HBf.out.trans (hb.mono HBf.out.size)), ⟨r4.cell 0 _ rfl, r4.cell 1 _ rfl, r4.cell 2 _ rfl⟩, cm⟩)
  have hw2 : IntKind.i64.wrap (mk : Int) = (mk : Int) := (i64_w _).trans hw
  have s3 : (mk : Int) < (mk : Int) + 1 := by omega
  obtain ⟨L, hL⟩ : ∃ L, (atOut fs ops M keep torn y).length = L := ⟨_, rfl⟩
  have HL := Aside0.mk hL
  have HLB := Aside0.mk (show L ≤ 524288 by rw [← hL]; exact Nat.le_trans (atOut_len HD.out.lf HO.out M keep torn y) HD.out.big)
  obtain ⟨ac, hac⟩ : ∃ ac, atCode ops.length M y = ac := ⟨_, rfl⟩
  have HAT := Aside0.mk (show ∀ w', Below wf.heap.size wf w' → Calls Tryd.prog 15 #[ptr h.D, .int .i64 M, .agg #[.slice (some ad) mk co, .int .i64 torn, .int .i64 y]] w' fun e w2 => ∃ Ax cx, e = .returned (.tuple #[.slice Ax L cx, .int .i64 ac]) ∧ Kd.C (Kd.int .u8) w2 Ax L (atOut fs ops M keep torn y) ∧ L ≤ cx ∧ Below w'.heap.size w' w2 from fun w' hb => by
    have hb1 := HBf.out.trans (hb.mono HBf.out.size)
    have := at_any (HD.out.stay hb1) (KS.out.stay hb1).1.fl HO.out (Nat.lt_of_lt_of_le H0.out hb1.size) M torn y (some ad) mk co keep (Kd.C_below HOT.out hb) L HL.out
    rwa [hac] at this)
  have HRT := Aside0.mk (show ∀ w', Below wf.heap.size wf w' → Calls Tryd.prog 53 #[ptr r.D, .int .i64 M, .agg #[.slice Ak mk ck, .int .i64 torn, .int .i64 y]] w' fun e w2 => ∃ Ax cx, e = .returned (.tuple #[.slice Ax L cx, .int .i64 ac]) ∧ Kd.C (Kd.int .u8) w2 Ax L (atOut fs ops M keep torn y) ∧ L ≤ cx ∧ Below w'.heap.size w' w2 from fun w' hb => by
    have hb1 := HBf.out.trans (hb.mono HBf.out.size)
    have := rat_any (HR.out.stay hb1) HOR.out M torn y Ak mk ck keep (Kd.C_below HCK.out hb1) L HL.out
    rwa [hac] at this)
  clear hL hac
  refine wp_region_held_drew (S := fun w' => ((fun w' => (w'.cell? ⟨gp, 0, none⟩ = some (ptr h.D) ∧ w'.cell? ⟨gp, 1, none⟩ = some (ptr r.D)) ∧ (w'.cell? ⟨b3, 0, none⟩ = some (.int .i64 4) ∧ w'.cell? ⟨b3, 1, none⟩ = some (.int .i64 N) ∧ w'.cell? ⟨b3, 2, none⟩ = some (.int .u8 fill) ∧ w'.cell? ⟨b3, 3, none⟩ = some (.slice Ab m cb)) ∧ (w'.cell? ⟨b3, 4, none⟩ = some (.bool ex) ∧ w'.cell? ⟨b3, 5, none⟩ = some (.slice Ak mk ck) ∧ w'.cell? ⟨b3, 6, none⟩ = some (.int .i64 torn) ∧ w'.cell? ⟨b3, 7, none⟩ = some (.int .i64 y))) w') ∧ (w'.cell? ⟨bc, 0, none⟩ = some (.slice (some ad) mk co) ∧ w'.cell? ⟨bc, 1, none⟩ = some (.int .i64 torn) ∧ w'.cell? ⟨bc, 2, none⟩ = some (.int .i64 y)) ∧ w'.cell? (ad.add mk) = some (.int .i64 77)) (by kernel_rfl) (MKC.out _ (below_drew (Below.refl _ _))) (fun hHeld => ?_)
  refine wpAnyH_take (i := 0) (oi := { dst := some 219, op := Op.move (Operand.tmp 0), type := 64, pos := "law.go:147", after := #[], guard := none }) (v := ?_) rfl (by kernel_rfl) (by kernel_rfl) (by kernel_rfl) (fun _ _ _ h => h) (Or.inl ⟨by rfl, ?_⟩) hHeld ?_
  rotate_left
  · intro w' hS; obtain ⟨⟨⟨hS0, hS1⟩, ⟨hS2, hS3, hS4, hS5⟩, hS6, hS7, hS8, hS9⟩, ⟨hS10, hS11, hS12⟩, hS13⟩ := hS; go_simp; all_goals (with_reducible rfl)
  (try simp only [Act.put, List.setIfInBounds_toArray, List.set_cons_zero, List.set_cons_succ])
  refine wpAnyH_take (i := 1) (oi := { dst := some 220, op := Op.nilCheck (Operand.tmp 219), type := 0, pos := "law.go:147", after := #[{ on := 0, ground := Ground.data }], guard := none }) (v := ?_) rfl (by kernel_rfl) (by kernel_rfl) (by kernel_rfl) (fun _ _ _ h => h) (Or.inl ⟨by rfl, ?_⟩) hHeld ?_
  rotate_left
  · intro w' hS; obtain ⟨⟨⟨hS0, hS1⟩, ⟨hS2, hS3, hS4, hS5⟩, hS6, hS7, hS8, hS9⟩, ⟨hS10, hS11, hS12⟩, hS13⟩ := hS; go_simp; all_goals (with_reducible rfl)
  (try simp only [Act.put, List.setIfInBounds_toArray, List.set_cons_zero, List.set_cons_succ])
  refine wpAnyH_take (i := 2) (oi := { dst := some 221, op := Op.fieldAddr 66 (Operand.tmp 220) 0, type := 0, pos := "law.go:147", after := #[{ on := 1, ground := Ground.data }], guard := none }) (v := ?_) rfl (by kernel_rfl) (by kernel_rfl) (by kernel_rfl) (fun _ _ _ h => h) (Or.inl ⟨by rfl, ?_⟩) hHeld ?_
  rotate_left
  · intro w' hS; obtain ⟨⟨⟨hS0, hS1⟩, ⟨hS2, hS3, hS4, hS5⟩, hS6, hS7, hS8, hS9⟩, ⟨hS10, hS11, hS12⟩, hS13⟩ := hS; go_simp; all_goals (with_reducible rfl)
  (try simp only [Act.put, List.setIfInBounds_toArray, List.set_cons_zero, List.set_cons_succ])
  refine wpAnyH_take (i := 3) (oi := { dst := some 222, op := Op.load 25 (Operand.tmp 221), type := 25, pos := "law.go:147", after := #[{ on := 2, ground := Ground.data }], guard := none }) (v := ?_) rfl (by kernel_rfl) (by kernel_rfl) (by kernel_rfl) (fun _ _ _ h => h) (Or.inl ⟨by rfl, ?_⟩) hHeld ?_
  rotate_left
  · intro w' hS; obtain ⟨⟨⟨hS0, hS1⟩, ⟨hS2, hS3, hS4, hS5⟩, hS6, hS7, hS8, hS9⟩, ⟨hS10, hS11, hS12⟩, hS13⟩ := hS; go_simp; all_goals (with_reducible rfl)
  (try simp only [Act.put, List.setIfInBounds_toArray, List.set_cons_zero, List.set_cons_succ])
  refine wpAnyH_take (i := 4) (oi := { dst := some 223, op := Op.move (Operand.tmp 18), type := 3, pos := "law.go:147", after := #[], guard := none }) (v := ?_) rfl (by kernel_rfl) (by kernel_rfl) (by kernel_rfl) (fun _ _ _ h => h) (Or.inl ⟨by rfl, ?_⟩) hHeld ?_
  rotate_left
  · intro w' hS; obtain ⟨⟨⟨hS0, hS1⟩, ⟨hS2, hS3, hS4, hS5⟩, hS6, hS7, hS8, hS9⟩, ⟨hS10, hS11, hS12⟩, hS13⟩ := hS; go_simp; all_goals (with_reducible rfl)
  (try simp only [Act.put, List.setIfInBounds_toArray, List.set_cons_zero, List.set_cons_succ])
  refine wpAnyH_take (i := 5) (oi := { dst := some 224, op := Op.load 34 (Operand.tmp 19), type := 34, pos := "law.go:147", after := #[], guard := none }) (v := ?_) rfl (by kernel_rfl) (by kernel_rfl) (by kernel_rfl) (fun _ _ _ h => h) (Or.inl ⟨by rfl, ?_⟩) hHeld ?_
  rotate_left
  · intro w' hS; obtain ⟨⟨⟨hS0, hS1⟩, ⟨hS2, hS3, hS4, hS5⟩, hS6, hS7, hS8, hS9⟩, ⟨hS10, hS11, hS12⟩, hS13⟩ := hS; go_simp; all_goals (with_reducible rfl)
  (try simp only [Act.put, List.setIfInBounds_toArray, List.set_cons_zero, List.set_cons_succ])
  refine wpAnyH_ready (rs := [6]) (by kernel_rfl) (by simp) ?_
  refine AllReadyH.cons (o := { dst := some 225, op := Op.call { callee := Callee.value (Operand.func 15), args := #[Operand.tmp 222, Operand.tmp 223, Operand.tmp 224], argTypes := #[25, 3, 34] }, type := 31, pos := "law.go:147", after := #[{ on := 3, ground := Ground.data }, { on := 4, ground := Ground.data }, { on := 5, ground := Ground.data }], guard := none }) rfl (fun K hK => ?_) AllReadyH.nil
  go_simp
  go_at_call 15
  refine (HAT.out _ (below_drew (Below.refl _ _))).mono ?_
  rintro e wg ⟨Ag, cg, rfl, hC, hcg, hb⟩
  have HBg := Aside0.mk (show Below wf.heap.size wf wg from (below_drew (Below.refl _ _)).trans hb)
  have HCg := Aside0.mk hC
  have HCgl := Aside0.mk hcg
  clear hC hcg hb
  refine hK.out _ _ (MKC.out _ HBg.out) (fun hHeld => ?_)
  clear hK K
  (try simp only [Act.put, List.setIfInBounds_toArray, List.set_cons_zero, List.set_cons_succ])
  refine wpAnyH_take (i := 7) (oi := { dst := some 218, op := Op.move (Operand.tmp 225), type := 31, pos := "law.go:147", after := #[{ on := 6, ground := Ground.data }], guard := none }) (v := ?_) rfl (by kernel_rfl) (by kernel_rfl) (by kernel_rfl) (fun _ _ _ h => h) (Or.inl ⟨by rfl, ?_⟩) hHeld ?_
  rotate_left
  · intro w' hS; obtain ⟨⟨⟨hS0, hS1⟩, ⟨hS2, hS3, hS4, hS5⟩, hS6, hS7, hS8, hS9⟩, ⟨hS10, hS11, hS12⟩, hS13⟩ := hS; go_simp; all_goals (with_reducible rfl)
  (try simp only [Act.put, List.setIfInBounds_toArray, List.set_cons_zero, List.set_cons_succ])
  refine wpAnyH_take (i := 8) (oi := { dst := some 226, op := Op.extract (Operand.tmp 218) 0, type := 29, pos := "law.go:147", after := #[{ on := 7, ground := Ground.data }], guard := none }) (v := ?_) rfl (by kernel_rfl) (by kernel_rfl) (by kernel_rfl) (fun _ _ _ h => h) (Or.inl ⟨by rfl, ?_⟩) hHeld ?_
  rotate_left
  · intro w' hS; obtain ⟨⟨⟨hS0, hS1⟩, ⟨hS2, hS3, hS4, hS5⟩, hS6, hS7, hS8, hS9⟩, ⟨hS10, hS11, hS12⟩, hS13⟩ := hS; go_simp; all_goals (with_reducible rfl)
  (try simp only [Act.put, List.setIfInBounds_toArray, List.set_cons_zero, List.set_cons_succ])
  refine wpAnyH_take (i := 9) (oi := { dst := some 227, op := Op.extract (Operand.tmp 218) 1, type := 30, pos := "law.go:147", after := #[{ on := 7, ground := Ground.data }, { on := 10, ground := Ground.gcOnly Departure.lateStores }], guard := none }) (v := ?_) rfl (by kernel_rfl) (by kernel_rfl) (by kernel_rfl) (fun _ _ _ h => h) (Or.inl ⟨by rfl, ?_⟩) hHeld ?_
  rotate_left
  · intro w' hS; obtain ⟨⟨⟨hS0, hS1⟩, ⟨hS2, hS3, hS4, hS5⟩, hS6, hS7, hS8, hS9⟩, ⟨hS10, hS11, hS12⟩, hS13⟩ := hS; go_simp; all_goals (with_reducible rfl)
  (try simp only [Act.put, List.setIfInBounds_toArray, List.set_cons_zero, List.set_cons_succ])
  refine wpAnyH_take (i := 10) (oi := { dst := some 21, op := Op.assign (Operand.tmp 226), type := 29, pos := "law.go:147", after := #[{ on := 8, ground := Ground.data }, { on := 6, ground := Ground.chain }, { on := 0, ground := Ground.phase }, { on := 1, ground := Ground.phase }, { on := 2, ground := Ground.phase }, { on := 3, ground := Ground.phase }, { on := 4, ground := Ground.phase }, { on := 5, ground := Ground.phase }, { on := 6, ground := Ground.phase }, { on := 7, ground := Ground.phase }, { on := 8, ground := Ground.phase }, { on := 9, ground := Ground.textOnly Departure.lateStores }], guard := none }) (v := ?_) rfl (by kernel_rfl) (by kernel_rfl) (by kernel_rfl) (fun _ _ _ h => h) (Or.inl ⟨by rfl, ?_⟩) hHeld ?_
  rotate_left
  · intro w' hS; obtain ⟨⟨⟨hS0, hS1⟩, ⟨hS2, hS3, hS4, hS5⟩, hS6, hS7, hS8, hS9⟩, ⟨hS10, hS11, hS12⟩, hS13⟩ := hS; go_simp; all_goals (with_reducible rfl)
  (try simp only [Act.put, List.setIfInBounds_toArray, List.set_cons_zero, List.set_cons_succ])
  refine wpAnyH_take (i := 11) (oi := { dst := some 22, op := Op.assign (Operand.tmp 227), type := 30, pos := "law.go:147", after := #[{ on := 9, ground := Ground.data }, { on := 10, ground := Ground.chain }, { on := 0, ground := Ground.phase }, { on := 1, ground := Ground.phase }, { on := 2, ground := Ground.phase }, { on := 3, ground := Ground.phase }, { on := 4, ground := Ground.phase }, { on := 5, ground := Ground.phase }, { on := 6, ground := Ground.phase }, { on := 7, ground := Ground.phase }, { on := 8, ground := Ground.phase }, { on := 9, ground := Ground.phase }, { on := 10, ground := Ground.phase }], guard := none }) (v := ?_) rfl (by kernel_rfl) (by kernel_rfl) (by kernel_rfl) (fun _ _ _ h => h) (Or.inl ⟨by rfl, ?_⟩) hHeld ?_
  rotate_left
  · intro w' hS; obtain ⟨⟨⟨hS0, hS1⟩, ⟨hS2, hS3, hS4, hS5⟩, hS6, hS7, hS8, hS9⟩, ⟨hS10, hS11, hS12⟩, hS13⟩ := hS; go_simp; all_goals (with_reducible rfl)
  (try simp only [Act.put, List.setIfInBounds_toArray, List.set_cons_zero, List.set_cons_succ])
  refine wpAnyH_done (by kernel_rfl) ?_ _
  (try simp only [Act.put, List.setIfInBounds_toArray, List.set_cons_zero, List.set_cons_succ])
  go_upto_region 34 with fail
  refine wp_region_held_drew (S := fun w' => ((fun w' => (w'.cell? ⟨gp, 0, none⟩ = some (ptr h.D) ∧ w'.cell? ⟨gp, 1, none⟩ = some (ptr r.D)) ∧ (w'.cell? ⟨b3, 0, none⟩ = some (.int .i64 4) ∧ w'.cell? ⟨b3, 1, none⟩ = some (.int .i64 N) ∧ w'.cell? ⟨b3, 2, none⟩ = some (.int .u8 fill) ∧ w'.cell? ⟨b3, 3, none⟩ = some (.slice Ab m cb)) ∧ (w'.cell? ⟨b3, 4, none⟩ = some (.bool ex) ∧ w'.cell? ⟨b3, 5, none⟩ = some (.slice Ak mk ck) ∧ w'.cell? ⟨b3, 6, none⟩ = some (.int .i64 torn) ∧ w'.cell? ⟨b3, 7, none⟩ = some (.int .i64 y))) w') ∧ (w'.cell? ⟨bc, 0, none⟩ = some (.slice (some ad) mk co) ∧ w'.cell? ⟨bc, 1, none⟩ = some (.int .i64 torn) ∧ w'.cell? ⟨bc, 2, none⟩ = some (.int .i64 y)) ∧ w'.cell? (ad.add mk) = some (.int .i64 77)) (by kernel_rfl) (MKC.out _ (below_drew HBg.out)) (fun hHeld => ?_)
  refine wpAnyH_take (i := 0) (oi := { dst := some 229, op := Op.move (Operand.tmp 0), type := 64, pos := "law.go:148", after := #[], guard := none }) (v := ?_) rfl (by kernel_rfl) (by kernel_rfl) (by kernel_rfl) (fun _ _ _ h => h) (Or.inl ⟨by rfl, ?_⟩) hHeld ?_
  rotate_left
  · intro w' hS; obtain ⟨⟨⟨hS0, hS1⟩, ⟨hS2, hS3, hS4, hS5⟩, hS6, hS7, hS8, hS9⟩, ⟨hS10, hS11, hS12⟩, hS13⟩ := hS; go_simp; all_goals (with_reducible rfl)
  (try simp only [Act.put, List.setIfInBounds_toArray, List.set_cons_zero, List.set_cons_succ])
  refine wpAnyH_take (i := 1) (oi := { dst := some 230, op := Op.nilCheck (Operand.tmp 229), type := 0, pos := "law.go:148", after := #[{ on := 0, ground := Ground.data }], guard := none }) (v := ?_) rfl (by kernel_rfl) (by kernel_rfl) (by kernel_rfl) (fun _ _ _ h => h) (Or.inl ⟨by rfl, ?_⟩) hHeld ?_
  rotate_left
  · intro w' hS; obtain ⟨⟨⟨hS0, hS1⟩, ⟨hS2, hS3, hS4, hS5⟩, hS6, hS7, hS8, hS9⟩, ⟨hS10, hS11, hS12⟩, hS13⟩ := hS; go_simp; all_goals (with_reducible rfl)
  (try simp only [Act.put, List.setIfInBounds_toArray, List.set_cons_zero, List.set_cons_succ])
  refine wpAnyH_take (i := 2) (oi := { dst := some 231, op := Op.fieldAddr 66 (Operand.tmp 230) 1, type := 0, pos := "law.go:148", after := #[{ on := 1, ground := Ground.data }], guard := none }) (v := ?_) rfl (by kernel_rfl) (by kernel_rfl) (by kernel_rfl) (fun _ _ _ h => h) (Or.inl ⟨by rfl, ?_⟩) hHeld ?_
  rotate_left
  · intro w' hS; obtain ⟨⟨⟨hS0, hS1⟩, ⟨hS2, hS3, hS4, hS5⟩, hS6, hS7, hS8, hS9⟩, ⟨hS10, hS11, hS12⟩, hS13⟩ := hS; go_simp; all_goals (with_reducible rfl)
  (try simp only [Act.put, List.setIfInBounds_toArray, List.set_cons_zero, List.set_cons_succ])
  refine wpAnyH_take (i := 3) (oi := { dst := some 232, op := Op.load 61 (Operand.tmp 231), type := 61, pos := "law.go:148", after := #[{ on := 2, ground := Ground.data }], guard := none }) (v := ?_) rfl (by kernel_rfl) (by kernel_rfl) (by kernel_rfl) (fun _ _ _ h => h) (Or.inl ⟨by rfl, ?_⟩) hHeld ?_
  rotate_left
  · intro w' hS; obtain ⟨⟨⟨hS0, hS1⟩, ⟨hS2, hS3, hS4, hS5⟩, hS6, hS7, hS8, hS9⟩, ⟨hS10, hS11, hS12⟩, hS13⟩ := hS; go_simp; all_goals (with_reducible rfl)
  (try simp only [Act.put, List.setIfInBounds_toArray, List.set_cons_zero, List.set_cons_succ])
  refine wpAnyH_take (i := 4) (oi := { dst := some 233, op := Op.move (Operand.tmp 18), type := 3, pos := "law.go:148", after := #[], guard := none }) (v := ?_) rfl (by kernel_rfl) (by kernel_rfl) (by kernel_rfl) (fun _ _ _ h => h) (Or.inl ⟨by rfl, ?_⟩) hHeld ?_
  rotate_left
  · intro w' hS; obtain ⟨⟨⟨hS0, hS1⟩, ⟨hS2, hS3, hS4, hS5⟩, hS6, hS7, hS8, hS9⟩, ⟨hS10, hS11, hS12⟩, hS13⟩ := hS; go_simp; all_goals (with_reducible rfl)
  (try simp only [Act.put, List.setIfInBounds_toArray, List.set_cons_zero, List.set_cons_succ])
  refine wpAnyH_take (i := 5) (oi := { dst := some 234, op := Op.fieldAddr 69 (Operand.tmp 3) 5, type := 0, pos := "law.go:148", after := #[], guard := none }) (v := ?_) rfl (by kernel_rfl) (by kernel_rfl) (by kernel_rfl) (fun _ _ _ h => h) (Or.inl ⟨by rfl, ?_⟩) hHeld ?_
  rotate_left
  · intro w' hS; obtain ⟨⟨⟨hS0, hS1⟩, ⟨hS2, hS3, hS4, hS5⟩, hS6, hS7, hS8, hS9⟩, ⟨hS10, hS11, hS12⟩, hS13⟩ := hS; go_simp; all_goals (with_reducible rfl)
  (try simp only [Act.put, List.setIfInBounds_toArray, List.set_cons_zero, List.set_cons_succ])
  refine wpAnyH_take (i := 6) (oi := { dst := some 235, op := Op.load 34 (Operand.tmp 234), type := 34, pos := "law.go:148", after := #[{ on := 5, ground := Ground.data }], guard := none }) (v := ?_) rfl (by kernel_rfl) (by kernel_rfl) (by kernel_rfl) (fun _ _ _ h => h) (Or.inl ⟨by rfl, ?_⟩) hHeld ?_
  rotate_left
  · intro w' hS; obtain ⟨⟨⟨hS0, hS1⟩, ⟨hS2, hS3, hS4, hS5⟩, hS6, hS7, hS8, hS9⟩, ⟨hS10, hS11, hS12⟩, hS13⟩ := hS; go_simp; all_goals (with_reducible rfl)
  (try simp only [Act.put, List.setIfInBounds_toArray, List.set_cons_zero, List.set_cons_succ])
  refine wpAnyH_ready (rs := [7]) (by kernel_rfl) (by simp) ?_
  refine AllReadyH.cons (o := { dst := some 236, op := Op.call { callee := Callee.value (Operand.func 53), args := #[Operand.tmp 232, Operand.tmp 233, Operand.tmp 235], argTypes := #[61, 3, 34] }, type := 31, pos := "law.go:148", after := #[{ on := 3, ground := Ground.data }, { on := 4, ground := Ground.data }, { on := 6, ground := Ground.data }], guard := none }) rfl (fun K hK => ?_) AllReadyH.nil
  go_simp
  go_at_call 53
  refine (HRT.out _ (below_drew HBg.out)).mono ?_
  rintro e wh ⟨Ah, ch, rfl, hC, hch, hb⟩
  have hb2 : Below wg.heap.size wg wh := (below_drew (Below.refl _ _)).trans hb
  have HBh := Aside0.mk (show Below wf.heap.size wf wh from HBg.out.trans (hb2.mono HBg.out.size))
  have HCh := Aside0.mk hC
  have HChl := Aside0.mk hch
  have HCg2 := Aside0.mk (Kd.C_below HCg.out hb2)
  clear hC hch hb hb2
  refine hK.out _ _ (MKC.out _ HBh.out) (fun hHeld => ?_)
  clear hK K
  (try simp only [Act.put, List.setIfInBounds_toArray, List.set_cons_zero, List.set_cons_succ])
  refine wpAnyH_take (i := 8) (oi := { dst := some 228, op := Op.move (Operand.tmp 236), type := 31, pos := "law.go:148", after := #[{ on := 7, ground := Ground.data }], guard := none }) (v := ?_) rfl (by kernel_rfl) (by kernel_rfl) (by kernel_rfl) (fun _ _ _ h => h) (Or.inl ⟨by rfl, ?_⟩) hHeld ?_
  rotate_left
  · intro w' hS; obtain ⟨⟨⟨hS0, hS1⟩, ⟨hS2, hS3, hS4, hS5⟩, hS6, hS7, hS8, hS9⟩, ⟨hS10, hS11, hS12⟩, hS13⟩ := hS; go_simp; all_goals (with_reducible rfl)
  (try simp only [Act.put, List.setIfInBounds_toArray, List.set_cons_zero, List.set_cons_succ])
  refine wpAnyH_take (i := 9) (oi := { dst := some 237, op := Op.extract (Operand.tmp 228) 0, type := 29, pos := "law.go:148", after := #[{ on := 8, ground := Ground.data }], guard := none }) (v := ?_) rfl (by kernel_rfl) (by kernel_rfl) (by kernel_rfl) (fun _ _ _ h => h) (Or.inl ⟨by rfl, ?_⟩) hHeld ?_
  rotate_left
  · intro w' hS; obtain ⟨⟨⟨hS0, hS1⟩, ⟨hS2, hS3, hS4, hS5⟩, hS6, hS7, hS8, hS9⟩, ⟨hS10, hS11, hS12⟩, hS13⟩ := hS; go_simp; all_goals (with_reducible rfl)
  (try simp only [Act.put, List.setIfInBounds_toArray, List.set_cons_zero, List.set_cons_succ])
  refine wpAnyH_take (i := 10) (oi := { dst := some 238, op := Op.extract (Operand.tmp 228) 1, type := 30, pos := "law.go:148", after := #[{ on := 8, ground := Ground.data }, { on := 11, ground := Ground.gcOnly Departure.lateStores }], guard := none }) (v := ?_) rfl (by kernel_rfl) (by kernel_rfl) (by kernel_rfl) (fun _ _ _ h => h) (Or.inl ⟨by rfl, ?_⟩) hHeld ?_
  rotate_left
  · intro w' hS; obtain ⟨⟨⟨hS0, hS1⟩, ⟨hS2, hS3, hS4, hS5⟩, hS6, hS7, hS8, hS9⟩, ⟨hS10, hS11, hS12⟩, hS13⟩ := hS; go_simp; all_goals (with_reducible rfl)
  (try simp only [Act.put, List.setIfInBounds_toArray, List.set_cons_zero, List.set_cons_succ])
  refine wpAnyH_take (i := 11) (oi := { dst := some 23, op := Op.assign (Operand.tmp 237), type := 29, pos := "law.go:148", after := #[{ on := 9, ground := Ground.data }, { on := 7, ground := Ground.chain }, { on := 0, ground := Ground.phase }, { on := 1, ground := Ground.phase }, { on := 2, ground := Ground.phase }, { on := 3, ground := Ground.phase }, { on := 4, ground := Ground.phase }, { on := 5, ground := Ground.phase }, { on := 6, ground := Ground.phase }, { on := 7, ground := Ground.phase }, { on := 8, ground := Ground.phase }, { on := 9, ground := Ground.phase }, { on := 10, ground := Ground.textOnly Departure.lateStores }], guard := none }) (v := ?_) rfl (by kernel_rfl) (by kernel_rfl) (by kernel_rfl) (fun _ _ _ h => h) (Or.inl ⟨by rfl, ?_⟩) hHeld ?_
  rotate_left
  · intro w' hS; obtain ⟨⟨⟨hS0, hS1⟩, ⟨hS2, hS3, hS4, hS5⟩, hS6, hS7, hS8, hS9⟩, ⟨hS10, hS11, hS12⟩, hS13⟩ := hS; go_simp; all_goals (with_reducible rfl)
  (try simp only [Act.put, List.setIfInBounds_toArray, List.set_cons_zero, List.set_cons_succ])
  refine wpAnyH_take (i := 12) (oi := { dst := some 24, op := Op.assign (Operand.tmp 238), type := 30, pos := "law.go:148", after := #[{ on := 10, ground := Ground.data }, { on := 11, ground := Ground.chain }, { on := 0, ground := Ground.phase }, { on := 1, ground := Ground.phase }, { on := 2, ground := Ground.phase }, { on := 3, ground := Ground.phase }, { on := 4, ground := Ground.phase }, { on := 5, ground := Ground.phase }, { on := 6, ground := Ground.phase }, { on := 7, ground := Ground.phase }, { on := 8, ground := Ground.phase }, { on := 9, ground := Ground.phase }, { on := 10, ground := Ground.phase }, { on := 11, ground := Ground.phase }], guard := none }) (v := ?_) rfl (by kernel_rfl) (by kernel_rfl) (by kernel_rfl) (fun _ _ _ h => h) (Or.inl ⟨by rfl, ?_⟩) hHeld ?_
  rotate_left
  · intro w' hS; obtain ⟨⟨⟨hS0, hS1⟩, ⟨hS2, hS3, hS4, hS5⟩, hS6, hS7, hS8, hS9⟩, ⟨hS10, hS11, hS12⟩, hS13⟩ := hS; go_simp; all_goals (with_reducible rfl)
  (try simp only [Act.put, List.setIfInBounds_toArray, List.set_cons_zero, List.set_cons_succ])
  refine wpAnyH_done (by kernel_rfl) ?_ _
  (try simp only [Act.put, List.setIfInBounds_toArray, List.set_cons_zero, List.set_cons_succ])
  go_upto_region 35 with fail
  refine wp_region_held_drew (S := fun w' => ((fun w' => (w'.cell? ⟨gp, 0, none⟩ = some (ptr h.D) ∧ w'.cell? ⟨gp, 1, none⟩ = some (ptr r.D)) ∧ (w'.cell? ⟨b3, 0, none⟩ = some (.int .i64 4) ∧ w'.cell? ⟨b3, 1, none⟩ = some (.int .i64 N) ∧ w'.cell? ⟨b3, 2, none⟩ = some (.int .u8 fill) ∧ w'.cell? ⟨b3, 3, none⟩ = some (.slice Ab m cb)) ∧ (w'.cell? ⟨b3, 4, none⟩ = some (.bool ex) ∧ w'.cell? ⟨b3, 5, none⟩ = some (.slice Ak mk ck) ∧ w'.cell? ⟨b3, 6, none⟩ = some (.int .i64 torn) ∧ w'.cell? ⟨b3, 7, none⟩ = some (.int .i64 y))) w') ∧ (w'.cell? ⟨bc, 0, none⟩ = some (.slice (some ad) mk co) ∧ w'.cell? ⟨bc, 1, none⟩ = some (.int .i64 torn) ∧ w'.cell? ⟨bc, 2, none⟩ = some (.int .i64 y)) ∧ w'.cell? (ad.add mk) = some (.int .i64 77)) (by kernel_rfl) (MKC.out _ (below_drew HBh.out)) (fun hHeld => ?_)
  refine wpAnyH_take (i := 0) (oi := { dst := some 239, op := Op.move (Operand.tmp 21), type := 29, pos := "law.go:149", after := #[], guard := none }) (v := ?_) rfl (by kernel_rfl) (by kernel_rfl) (by kernel_rfl) (fun _ _ _ h => h) (Or.inl ⟨by rfl, ?_⟩) hHeld ?_
  rotate_left
  · intro w' hS; obtain ⟨⟨⟨hS0, hS1⟩, ⟨hS2, hS3, hS4, hS5⟩, hS6, hS7, hS8, hS9⟩, ⟨hS10, hS11, hS12⟩, hS13⟩ := hS; go_simp; all_goals (with_reducible rfl)
  (try simp only [Act.put, List.setIfInBounds_toArray, List.set_cons_zero, List.set_cons_succ])
  refine wpAnyH_take (i := 1) (oi := { dst := some 240, op := Op.move (Operand.tmp 23), type := 29, pos := "law.go:149", after := #[], guard := none }) (v := ?_) rfl (by kernel_rfl) (by kernel_rfl) (by kernel_rfl) (fun _ _ _ h => h) (Or.inl ⟨by rfl, ?_⟩) hHeld ?_
  rotate_left
  · intro w' hS; obtain ⟨⟨⟨hS0, hS1⟩, ⟨hS2, hS3, hS4, hS5⟩, hS6, hS7, hS8, hS9⟩, ⟨hS10, hS11, hS12⟩, hS13⟩ := hS; go_simp; all_goals (with_reducible rfl)
  (try simp only [Act.put, List.setIfInBounds_toArray, List.set_cons_zero, List.set_cons_succ])
  refine wpAnyH_ready (rs := [2]) (by kernel_rfl) (by simp) ?_
  refine AllReadyH.cons (o := { dst := some 241, op := Op.call { callee := Callee.value (Operand.func 26), args := #[Operand.tmp 239, Operand.tmp 240], argTypes := #[29, 29] }, type := 4, pos := "law.go:149", after := #[{ on := 0, ground := Ground.data }, { on := 1, ground := Ground.data }], guard := none }) rfl (fun K hK => ?_) AllReadyH.nil
  go_simp
  go_at_call 26
  refine (bytes_at (atOut fs ops M keep torn y) (by rw [HL.out]; have := HLB.out; omega) Ag Ah L cg ch _ HL.out (Kd.C_below HCg2.out (below_drew (Below.refl _ _))) HCgl.out (Kd.C_below HCh.out (below_drew (Below.refl _ _))) HChl.out).mono ?_
  rintro e w' ⟨rfl, md, hw'⟩
  subst w'
  have HBi := Aside0.mk (show Below wf.heap.size wf (wh.drew.drewN md) from pw_below_drewN (below_drew HBh.out) md)
  generalize wh.drew.drewN md = wi at *
  refine hK.out _ _ (MKC.out _ HBi.out) (fun hHeld => ?_)
  clear hK K
  (try simp only [Act.put, List.setIfInBounds_toArray, List.set_cons_zero, List.set_cons_succ])
  refine wpAnyH_take (i := 3) (oi := { dst := some 242, op := Op.move (Operand.tmp 241), type := 4, pos := "law.go:149", after := #[{ on := 2, ground := Ground.data }, { on := 2, ground := Ground.chain }], guard := none }) (v := ?_) rfl (by kernel_rfl) (by kernel_rfl) (by kernel_rfl) (fun _ _ _ h => h) (Or.inl ⟨by rfl, ?_⟩) hHeld ?_
  rotate_left
  · intro w' hS; obtain ⟨⟨⟨hS0, hS1⟩, ⟨hS2, hS3, hS4, hS5⟩, hS6, hS7, hS8, hS9⟩, ⟨hS10, hS11, hS12⟩, hS13⟩ := hS; go_simp; all_goals (with_reducible rfl)
  (try simp only [Act.put, List.setIfInBounds_toArray, List.set_cons_zero, List.set_cons_succ])
  refine wpAnyH_take (i := 4) (oi := { dst := some 243, op := Op.move (Operand.tmp 22), type := 30, pos := "law.go:149", after := #[{ on := 3, ground := Ground.guard }], guard := some (3, true) }) (v := ?_) rfl (by kernel_rfl) (by kernel_rfl) (by kernel_rfl) (fun _ _ _ h => h) (Or.inl ⟨by rfl, ?_⟩) hHeld ?_
  rotate_left
  · intro w' hS; obtain ⟨⟨⟨hS0, hS1⟩, ⟨hS2, hS3, hS4, hS5⟩, hS6, hS7, hS8, hS9⟩, ⟨hS10, hS11, hS12⟩, hS13⟩ := hS; go_simp; all_goals (with_reducible rfl)
  (try simp only [Act.put, List.setIfInBounds_toArray, List.set_cons_zero, List.set_cons_succ])
  refine wpAnyH_take (i := 5) (oi := { dst := some 244, op := Op.move (Operand.tmp 24), type := 30, pos := "law.go:149", after := #[{ on := 3, ground := Ground.guard }], guard := some (3, true) }) (v := ?_) rfl (by kernel_rfl) (by kernel_rfl) (by kernel_rfl) (fun _ _ _ h => h) (Or.inl ⟨by rfl, ?_⟩) hHeld ?_
  rotate_left
  · intro w' hS; obtain ⟨⟨⟨hS0, hS1⟩, ⟨hS2, hS3, hS4, hS5⟩, hS6, hS7, hS8, hS9⟩, ⟨hS10, hS11, hS12⟩, hS13⟩ := hS; go_simp; all_goals (with_reducible rfl)
  (try simp only [Act.put, List.setIfInBounds_toArray, List.set_cons_zero, List.set_cons_succ])
  refine wpAnyH_take (i := 6) (oi := { dst := some 245, op := Op.binOp BinOp.eql 30 (Operand.tmp 243) (Operand.tmp 244) 30, type := 4, pos := "law.go:149", after := #[{ on := 4, ground := Ground.data }, { on := 5, ground := Ground.data }, { on := 3, ground := Ground.guard }], guard := some (3, true) }) (v := ?_) rfl (by kernel_rfl) (by kernel_rfl) (by kernel_rfl) (fun _ _ _ h => h) (Or.inl ⟨by rfl, ?_⟩) hHeld ?_
  rotate_left
  · intro w' hS; obtain ⟨⟨⟨hS0, hS1⟩, ⟨hS2, hS3, hS4, hS5⟩, hS6, hS7, hS8, hS9⟩, ⟨hS10, hS11, hS12⟩, hS13⟩ := hS; go_simp; all_goals (with_reducible rfl)
  (try simp only [Act.put, List.setIfInBounds_toArray, List.set_cons_zero, List.set_cons_succ])
  refine wpAnyH_take (i := 7) (oi := { dst := some 246, op := Op.pick (Operand.tmp 242) (Operand.tmp 245) (Operand.const (Value.bool false)), type := 4, pos := "law.go:149", after := #[{ on := 3, ground := Ground.data }, { on := 6, ground := Ground.data }], guard := none }) (v := ?_) rfl (by kernel_rfl) (by kernel_rfl) (by kernel_rfl) (fun _ _ _ h => h) (Or.inl ⟨by rfl, ?_⟩) hHeld ?_
  rotate_left
  · intro w' hS; obtain ⟨⟨⟨hS0, hS1⟩, ⟨hS2, hS3, hS4, hS5⟩, hS6, hS7, hS8, hS9⟩, ⟨hS10, hS11, hS12⟩, hS13⟩ := hS; go_simp; all_goals (with_reducible rfl)
  (try simp only [Act.put, List.setIfInBounds_toArray, List.set_cons_zero, List.set_cons_succ])
  refine wpAnyH_take (i := 8) (oi := { dst := some 247, op := Op.move (Operand.tmp 246), type := 4, pos := "law.go:149", after := #[{ on := 7, ground := Ground.data }, { on := 3, ground := Ground.chain }], guard := none }) (v := ?_) rfl (by kernel_rfl) (by kernel_rfl) (by kernel_rfl) (fun _ _ _ h => h) (Or.inl ⟨by rfl, ?_⟩) hHeld ?_
  rotate_left
  · intro w' hS; obtain ⟨⟨⟨hS0, hS1⟩, ⟨hS2, hS3, hS4, hS5⟩, hS6, hS7, hS8, hS9⟩, ⟨hS10, hS11, hS12⟩, hS13⟩ := hS; go_simp; all_goals (with_reducible rfl)
  (try simp only [Act.put, List.setIfInBounds_toArray, List.set_cons_zero, List.set_cons_succ])
  refine wpAnyH_take (i := 9) (oi := { dst := some 248, op := Op.move (Operand.tmp 20), type := 23, pos := "law.go:149", after := #[{ on := 8, ground := Ground.guard }], guard := some (8, true) }) (v := ?_) rfl (by kernel_rfl) (by kernel_rfl) (by kernel_rfl) (fun _ _ _ h => h) (Or.inl ⟨by rfl, ?_⟩) hHeld ?_
  rotate_left
  · intro w' hS; obtain ⟨⟨⟨hS0, hS1⟩, ⟨hS2, hS3, hS4, hS5⟩, hS6, hS7, hS8, hS9⟩, ⟨hS10, hS11, hS12⟩, hS13⟩ := hS; go_simp; all_goals (with_reducible rfl)
  (try simp only [Act.put, List.setIfInBounds_toArray, List.set_cons_zero, List.set_cons_succ])
  refine wpAnyH_take (i := 10) (oi := { dst := some 249, op := Op.move (Operand.tmp 20), type := 23, pos := "law.go:149", after := #[{ on := 8, ground := Ground.guard }], guard := some (8, true) }) (v := ?_) rfl (by kernel_rfl) (by kernel_rfl) (by kernel_rfl) (fun _ _ _ h => h) (Or.inl ⟨by rfl, ?_⟩) hHeld ?_
  rotate_left
  · intro w' hS; obtain ⟨⟨⟨hS0, hS1⟩, ⟨hS2, hS3, hS4, hS5⟩, hS6, hS7, hS8, hS9⟩, ⟨hS10, hS11, hS12⟩, hS13⟩ := hS; go_simp; all_goals (with_reducible rfl)
  (try simp only [Act.put, List.setIfInBounds_toArray, List.set_cons_zero, List.set_cons_succ])
  refine wpAnyH_take (i := 11) (oi := { dst := some 250, op := Op.call { callee := Callee.builtin Builtin.len, args := #[Operand.tmp 249], argTypes := #[23] }, type := 3, pos := "law.go:149", after := #[{ on := 10, ground := Ground.data }, { on := 8, ground := Ground.guard }], guard := some (8, true) }) (v := ?_) rfl (by kernel_rfl) (by kernel_rfl) (by kernel_rfl) (fun _ _ _ h => h) (Or.inl ⟨by rfl, ?_⟩) hHeld ?_
  rotate_left
  · intro w' hS; obtain ⟨⟨⟨hS0, hS1⟩, ⟨hS2, hS3, hS4, hS5⟩, hS6, hS7, hS8, hS9⟩, ⟨hS10, hS11, hS12⟩, hS13⟩ := hS; go_simp; all_goals (with_reducible rfl)
  (try simp only [Act.put, List.setIfInBounds_toArray, List.set_cons_zero, List.set_cons_succ])
  refine wpAnyH_take (i := 12) (oi := { dst := some 251, op := Op.binOp BinOp.sub 3 (Operand.tmp 250) (Operand.const (Value.int IntKind.i64 1)) 3, type := 3, pos := "law.go:149", after := #[{ on := 11, ground := Ground.data }, { on := 8, ground := Ground.guard }], guard := some (8, true) }) (v := ?_) rfl (by kernel_rfl) (by kernel_rfl) (by kernel_rfl) (fun _ _ _ h => h) (Or.inl ⟨by rfl, ?_⟩) hHeld ?_
  rotate_left
  · intro w' hS; obtain ⟨⟨⟨hS0, hS1⟩, ⟨hS2, hS3, hS4, hS5⟩, hS6, hS7, hS8, hS9⟩, ⟨hS10, hS11, hS12⟩, hS13⟩ := hS; go_simp; all_goals (with_reducible rfl)
  (try simp only [Act.put, List.setIfInBounds_toArray, List.set_cons_zero, List.set_cons_succ])
  refine wpAnyH_take (i := 13) (oi := { dst := some 252, op := Op.slice 23 (Operand.tmp 248) none (some (Operand.tmp 251)) none, type := 23, pos := "law.go:149", after := #[{ on := 9, ground := Ground.data }, { on := 12, ground := Ground.data }, { on := 8, ground := Ground.guard }], guard := some (8, true) }) (v := ?_) rfl (by kernel_rfl) (by kernel_rfl) (by kernel_rfl) (fun _ _ _ h => h) (Or.inl ⟨by rfl, ?_⟩) hHeld ?_
  rotate_left
  · intro w' hS; obtain ⟨⟨⟨hS0, hS1⟩, ⟨hS2, hS3, hS4, hS5⟩, hS6, hS7, hS8, hS9⟩, ⟨hS10, hS11, hS12⟩, hS13⟩ := hS; go_simp; all_goals (with_reducible rfl)
  (try simp only [Act.put, List.setIfInBounds_toArray, List.set_cons_zero, List.set_cons_succ])
  refine wpAnyH_take (i := 14) (oi := { dst := some 253, op := Op.fieldAddr 69 (Operand.tmp 3) 5, type := 0, pos := "law.go:149", after := #[{ on := 8, ground := Ground.guard }], guard := some (8, true) }) (v := ?_) rfl (by kernel_rfl) (by kernel_rfl) (by kernel_rfl) (fun _ _ _ h => h) (Or.inl ⟨by rfl, ?_⟩) hHeld ?_
  rotate_left
  · intro w' hS; obtain ⟨⟨⟨hS0, hS1⟩, ⟨hS2, hS3, hS4, hS5⟩, hS6, hS7, hS8, hS9⟩, ⟨hS10, hS11, hS12⟩, hS13⟩ := hS; go_simp; all_goals (with_reducible rfl)
  (try simp only [Act.put, List.setIfInBounds_toArray, List.set_cons_zero, List.set_cons_succ])
  refine wpAnyH_take (i := 15) (oi := { dst := some 254, op := Op.fieldAddr 34 (Operand.tmp 253) 0, type := 0, pos := "law.go:149", after := #[{ on := 14, ground := Ground.data }, { on := 8, ground := Ground.guard }], guard := some (8, true) }) (v := ?_) rfl (by kernel_rfl) (by kernel_rfl) (by kernel_rfl) (fun _ _ _ h => h) (Or.inl ⟨by rfl, ?_⟩) hHeld ?_
  rotate_left
  · intro w' hS; obtain ⟨⟨⟨hS0, hS1⟩, ⟨hS2, hS3, hS4, hS5⟩, hS6, hS7, hS8, hS9⟩, ⟨hS10, hS11, hS12⟩, hS13⟩ := hS; go_simp; all_goals (with_reducible rfl)
  (try simp only [Act.put, List.setIfInBounds_toArray, List.set_cons_zero, List.set_cons_succ])
  refine wpAnyH_take (i := 16) (oi := { dst := some 255, op := Op.load 23 (Operand.tmp 254), type := 23, pos := "law.go:149", after := #[{ on := 15, ground := Ground.data }, { on := 8, ground := Ground.guard }], guard := some (8, true) }) (v := ?_) rfl (by kernel_rfl) (by kernel_rfl) (by kernel_rfl) (fun _ _ _ h => h) (Or.inl ⟨by rfl, ?_⟩) hHeld ?_
  rotate_left
  · intro w' hS; obtain ⟨⟨⟨hS0, hS1⟩, ⟨hS2, hS3, hS4, hS5⟩, hS6, hS7, hS8, hS9⟩, ⟨hS10, hS11, hS12⟩, hS13⟩ := hS; go_simp; all_goals (with_reducible rfl)
  (try simp only [Act.put, List.setIfInBounds_toArray, List.set_cons_zero, List.set_cons_succ])
  refine wpAnyH_ready (rs := [17]) (by kernel_rfl) (by simp) ?_
  refine AllReadyH.cons (o := { dst := some 256, op := Op.call { callee := Callee.value (Operand.func 42), args := #[Operand.tmp 252, Operand.tmp 255], argTypes := #[23, 23] }, type := 4, pos := "law.go:149", after := #[{ on := 13, ground := Ground.data }, { on := 16, ground := Ground.data }, { on := 8, ground := Ground.chain }, { on := 8, ground := Ground.guard }], guard := some (8, true) }) rfl (fun K hK => ?_) AllReadyH.nil
  go_simp
  go_at_call 42
  refine (ints_at keep (by rw [HKL.out]; have := HMK8.out; omega) (some ad) Ak mk co ck _ HKL.out (Kd.C_below HOT.out HBi.out) HS1.out (Kd.C_below HCK.out (HBf.out.trans (HBi.out.mono HBf.out.size))) HMK.out).mono ?_
  rintro e w' ⟨rfl, md, hw'⟩
  subst w'
  have HBj := Aside0.mk (show Below wf.heap.size wf (wi.drewN md) from pw_below_drewN HBi.out md)
  generalize wi.drewN md = wj at *
  refine hK.out _ _ (MKC.out _ HBj.out) (fun hHeld => ?_)
  clear hK K
  (try simp only [Act.put, List.setIfInBounds_toArray, List.set_cons_zero, List.set_cons_succ])
  refine wpAnyH_take (i := 18) (oi := { dst := some 257, op := Op.pick (Operand.tmp 247) (Operand.tmp 256) (Operand.const (Value.bool false)), type := 4, pos := "law.go:149", after := #[{ on := 8, ground := Ground.data }, { on := 17, ground := Ground.data }], guard := none }) (v := ?_) rfl (by kernel_rfl) (by kernel_rfl) (by kernel_rfl) (fun _ _ _ h => h) (Or.inl ⟨by rfl, ?_⟩) hHeld ?_
  rotate_left
  · intro w' hS; obtain ⟨⟨⟨hS0, hS1⟩, ⟨hS2, hS3, hS4, hS5⟩, hS6, hS7, hS8, hS9⟩, ⟨hS10, hS11, hS12⟩, hS13⟩ := hS; go_simp; all_goals (with_reducible rfl)
  (try simp only [Act.put, List.setIfInBounds_toArray, List.set_cons_zero, List.set_cons_succ])
  refine wpAnyH_take (i := 19) (oi := { dst := some 258, op := Op.move (Operand.tmp 257), type := 4, pos := "law.go:149", after := #[{ on := 18, ground := Ground.data }, { on := 17, ground := Ground.chain }], guard := none }) (v := ?_) rfl (by kernel_rfl) (by kernel_rfl) (by kernel_rfl) (fun _ _ _ h => h) (Or.inl ⟨by rfl, ?_⟩) hHeld ?_
  rotate_left
  · intro w' hS; obtain ⟨⟨⟨hS0, hS1⟩, ⟨hS2, hS3, hS4, hS5⟩, hS6, hS7, hS8, hS9⟩, ⟨hS10, hS11, hS12⟩, hS13⟩ := hS; go_simp; all_goals (with_reducible rfl)
  (try simp only [Act.put, List.setIfInBounds_toArray, List.set_cons_zero, List.set_cons_succ])
  refine wpAnyH_take (i := 20) (oi := { dst := some 259, op := Op.move (Operand.tmp 20), type := 23, pos := "law.go:149", after := #[{ on := 19, ground := Ground.guard }], guard := some (19, true) }) (v := ?_) rfl (by kernel_rfl) (by kernel_rfl) (by kernel_rfl) (fun _ _ _ h => h) (Or.inl ⟨by rfl, ?_⟩) hHeld ?_
  rotate_left
  · intro w' hS; obtain ⟨⟨⟨hS0, hS1⟩, ⟨hS2, hS3, hS4, hS5⟩, hS6, hS7, hS8, hS9⟩, ⟨hS10, hS11, hS12⟩, hS13⟩ := hS; go_simp; all_goals (with_reducible rfl)
  (try simp only [Act.put, List.setIfInBounds_toArray, List.set_cons_zero, List.set_cons_succ])
  refine wpAnyH_take (i := 21) (oi := { dst := some 260, op := Op.move (Operand.tmp 20), type := 23, pos := "law.go:149", after := #[{ on := 19, ground := Ground.guard }], guard := some (19, true) }) (v := ?_) rfl (by kernel_rfl) (by kernel_rfl) (by kernel_rfl) (fun _ _ _ h => h) (Or.inl ⟨by rfl, ?_⟩) hHeld ?_
  rotate_left
  · intro w' hS; obtain ⟨⟨⟨hS0, hS1⟩, ⟨hS2, hS3, hS4, hS5⟩, hS6, hS7, hS8, hS9⟩, ⟨hS10, hS11, hS12⟩, hS13⟩ := hS; go_simp; all_goals (with_reducible rfl)
  (try simp only [Act.put, List.setIfInBounds_toArray, List.set_cons_zero, List.set_cons_succ])
  refine wpAnyH_take (i := 22) (oi := { dst := some 261, op := Op.call { callee := Callee.builtin Builtin.len, args := #[Operand.tmp 260], argTypes := #[23] }, type := 3, pos := "law.go:149", after := #[{ on := 21, ground := Ground.data }, { on := 19, ground := Ground.guard }], guard := some (19, true) }) (v := ?_) rfl (by kernel_rfl) (by kernel_rfl) (by kernel_rfl) (fun _ _ _ h => h) (Or.inl ⟨by rfl, ?_⟩) hHeld ?_
  rotate_left
  · intro w' hS; obtain ⟨⟨⟨hS0, hS1⟩, ⟨hS2, hS3, hS4, hS5⟩, hS6, hS7, hS8, hS9⟩, ⟨hS10, hS11, hS12⟩, hS13⟩ := hS; go_simp; all_goals (with_reducible rfl)
  (try simp only [Act.put, List.setIfInBounds_toArray, List.set_cons_zero, List.set_cons_succ])
  refine wpAnyH_take (i := 23) (oi := { dst := some 262, op := Op.binOp BinOp.sub 3 (Operand.tmp 261) (Operand.const (Value.int IntKind.i64 1)) 3, type := 3, pos := "law.go:149", after := #[{ on := 22, ground := Ground.data }, { on := 19, ground := Ground.guard }], guard := some (19, true) }) (v := ?_) rfl (by kernel_rfl) (by kernel_rfl) (by kernel_rfl) (fun _ _ _ h => h) (Or.inl ⟨by rfl, ?_⟩) hHeld ?_
  rotate_left
  · intro w' hS; obtain ⟨⟨⟨hS0, hS1⟩, ⟨hS2, hS3, hS4, hS5⟩, hS6, hS7, hS8, hS9⟩, ⟨hS10, hS11, hS12⟩, hS13⟩ := hS; go_simp; all_goals (with_reducible rfl)
  (try simp only [Act.put, List.setIfInBounds_toArray, List.set_cons_zero, List.set_cons_succ])
  refine wpAnyH_take (i := 24) (oi := { dst := some 263, op := Op.indexAddr 23 (Operand.tmp 259) (Operand.tmp 262), type := 0, pos := "law.go:149", after := #[{ on := 20, ground := Ground.data }, { on := 23, ground := Ground.data }, { on := 19, ground := Ground.guard }], guard := some (19, true) }) (v := ?_) rfl (by kernel_rfl) (by kernel_rfl) (by kernel_rfl) (fun _ _ _ h => h) (Or.inl ⟨by rfl, ?_⟩) hHeld ?_
  rotate_left
  · intro w' hS; obtain ⟨⟨⟨hS0, hS1⟩, ⟨hS2, hS3, hS4, hS5⟩, hS6, hS7, hS8, hS9⟩, ⟨hS10, hS11, hS12⟩, hS13⟩ := hS; go_simp; all_goals (with_reducible rfl)
  (try simp only [Act.put, List.setIfInBounds_toArray, List.set_cons_zero, List.set_cons_succ])
  refine wpAnyH_take (i := 25) (oi := { dst := some 264, op := Op.load 3 (Operand.tmp 263), type := 3, pos := "law.go:149", after := #[{ on := 24, ground := Ground.data }, { on := 19, ground := Ground.guard }], guard := some (19, true) }) (v := ?_) rfl (by kernel_rfl) (by kernel_rfl) (by kernel_rfl) (fun _ _ _ h => h) (Or.inl ⟨by rfl, ?_⟩) hHeld ?_
  rotate_left
  · intro w' hS; obtain ⟨⟨⟨hS0, hS1⟩, ⟨hS2, hS3, hS4, hS5⟩, hS6, hS7, hS8, hS9⟩, ⟨hS10, hS11, hS12⟩, hS13⟩ := hS; go_simp; all_goals (with_reducible rfl)
  (try simp only [Act.put, List.setIfInBounds_toArray, List.set_cons_zero, List.set_cons_succ])
  refine wpAnyH_take (i := 26) (oi := { dst := some 265, op := Op.binOp BinOp.eql 3 (Operand.tmp 264) (Operand.const (Value.int IntKind.i64 77)) 3, type := 4, pos := "law.go:149", after := #[{ on := 25, ground := Ground.data }, { on := 19, ground := Ground.guard }], guard := some (19, true) }) (v := ?_) rfl (by kernel_rfl) (by kernel_rfl) (by kernel_rfl) (fun _ _ _ h => h) (Or.inl ⟨by rfl, ?_⟩) hHeld ?_
  rotate_left
  · intro w' hS; obtain ⟨⟨⟨hS0, hS1⟩, ⟨hS2, hS3, hS4, hS5⟩, hS6, hS7, hS8, hS9⟩, ⟨hS10, hS11, hS12⟩, hS13⟩ := hS; go_simp; all_goals (with_reducible rfl)
  (try simp only [Act.put, List.setIfInBounds_toArray, List.set_cons_zero, List.set_cons_succ])
  refine wpAnyH_take (i := 27) (oi := { dst := some 266, op := Op.pick (Operand.tmp 258) (Operand.tmp 265) (Operand.const (Value.bool false)), type := 4, pos := "law.go:149", after := #[{ on := 19, ground := Ground.data }, { on := 26, ground := Ground.data }], guard := none }) (v := ?_) rfl (by kernel_rfl) (by kernel_rfl) (by kernel_rfl) (fun _ _ _ h => h) (Or.inl ⟨by rfl, ?_⟩) hHeld ?_
  rotate_left
  · intro w' hS; obtain ⟨⟨⟨hS0, hS1⟩, ⟨hS2, hS3, hS4, hS5⟩, hS6, hS7, hS8, hS9⟩, ⟨hS10, hS11, hS12⟩, hS13⟩ := hS; go_simp; all_goals (with_reducible rfl)
  (try simp only [Act.put, List.setIfInBounds_toArray, List.set_cons_zero, List.set_cons_succ])
  refine wpAnyH_take (i := 28) (oi := { dst := some 4, op := Op.assign (Operand.tmp 266), type := 4, pos := "law.go:149", after := #[{ on := 27, ground := Ground.data }, { on := 19, ground := Ground.chain }, { on := 0, ground := Ground.phase }, { on := 1, ground := Ground.phase }, { on := 2, ground := Ground.phase }, { on := 3, ground := Ground.phase }, { on := 4, ground := Ground.phase }, { on := 5, ground := Ground.phase }, { on := 6, ground := Ground.phase }, { on := 7, ground := Ground.phase }, { on := 8, ground := Ground.phase }, { on := 9, ground := Ground.phase }, { on := 10, ground := Ground.phase }, { on := 11, ground := Ground.phase }, { on := 12, ground := Ground.phase }, { on := 13, ground := Ground.phase }, { on := 14, ground := Ground.phase }, { on := 15, ground := Ground.phase }, { on := 16, ground := Ground.phase }, { on := 17, ground := Ground.phase }, { on := 18, ground := Ground.phase }, { on := 19, ground := Ground.phase }, { on := 20, ground := Ground.phase }, { on := 21, ground := Ground.phase }, { on := 22, ground := Ground.phase }, { on := 23, ground := Ground.phase }, { on := 24, ground := Ground.phase }, { on := 25, ground := Ground.phase }, { on := 26, ground := Ground.phase }, { on := 27, ground := Ground.phase }], guard := none }) (v := ?_) rfl (by kernel_rfl) (by kernel_rfl) (by kernel_rfl) (fun _ _ _ h => h) (Or.inl ⟨by rfl, ?_⟩) hHeld ?_
  rotate_left
  · intro w' hS; obtain ⟨⟨⟨hS0, hS1⟩, ⟨hS2, hS3, hS4, hS5⟩, hS6, hS7, hS8, hS9⟩, ⟨hS10, hS11, hS12⟩, hS13⟩ := hS; go_simp; all_goals (with_reducible rfl)
  (try simp only [Act.put, List.setIfInBounds_toArray, List.set_cons_zero, List.set_cons_succ])
  refine wpAnyH_done (by kernel_rfl) ?_ _
  (try simp only [Act.put, List.setIfInBounds_toArray, List.set_cons_zero, List.set_cons_succ])
  go_wp2_with fail
  go_ret
  obtain ⟨h2, r2, fs2, ops2, hB1, hB2⟩ := HFIN.out _ (HBf.out.trans (HBj.out.mono HBf.out.size))
  exact ⟨rfl, ⟨h2, r2, fs2, ops2, hB1⟩, hB2⟩
end Go.Proofs.YtpaonoaedjkekaaDoor.Dk
