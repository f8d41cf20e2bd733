/- does, its new disks, walked. -/
import Derived.Test.YtpaonoaedjkekaaDoorPl10
import Derived.Test.YtpaonoaedjkekaaDoorPl6
import Derived.Test.YtpaonoaedjkekaaDoorPl11
import Derived.Deep.RegionHeld3
namespace Go.Proofs.YtpaonoaedjkekaaDoor.Dk
open Go Go.RowKit Go.Proofs.YtpaonoaedjkekaaDoor.PD Go.Proofs.YtpaonoaedjkekaaDoorW.PrintWords Go.Proofs.YtpaonoaedjkekaaDoorW.PrintLast Go.Proofs.YtpaonoaedjkekaaDoorW.PrintMore
set_option linter.unusedVariables false
set_option linter.unusedSimpArgs false
set_option maxHeartbeats 4000000
set_option maxRecDepth 100000
theorem DkAt.lower {h : Hd} {B B0 : Nat} {fs ss : List Int} {vo : Value} {ops : List (Int × List Int)} {W : World} (k : DkAt h B0 fs ss vo ops W) (hB : B ≤ B0) : DkAt h B fs ss vo ops W :=
  { k with o := Kd.R_lower k.o hB, bd := Nat.le_trans hB k.bd, bf := Nat.le_trans hB k.bf, bs := Nat.le_trans hB k.bs }
theorem RfAt.lower {r : Rd} {B B0 : Nat} {ok : Nat → Prop} {fs : List Int} {vo : Value} {ops : List (Int × List Int)} {W : World} (k : RfAt r B0 ok fs vo ops W) (hB : B ≤ B0) : RfAt r B ok fs vo ops W :=
  { k with o := Kd.R_lower k.o hB, bd := Nat.le_trans hB k.bd, bf := Nat.le_trans hB k.bf }
theorem DkAt.off {h : Hd} {B : Nat} {fs ss : List Int} {vo : Value} {ops : List (Int × List Int)} {W W' : World} (k : DkAt h B fs ss vo ops W) (hk : Kept W W' (fun j => j < B)) : DkAt h B fs ss vo ops W' :=
  { k with row := (hk.2 _ k.row.lt (Nat.not_lt.2 k.bd)).trans k.row, f := k.f.move (hk.2 _ k.f.lt (Nat.not_lt.2 k.bf)), s := k.s.move (hk.2 _ k.s.lt (Nat.not_lt.2 k.bs)), o := Kd.R_mono (Kd.R_kept (Kd.R_bound k.o) hk (fun j hj => Nat.not_lt.2 hj.2.1)) (fun _ _ => trivial) }
theorem RfAt.off {r : Rd} {B : Nat} {ok : Nat → Prop} {fs : List Int} {vo : Value} {ops : List (Int × List Int)} {W W' : World} (k : RfAt r B ok fs vo ops W) (hk : Kept W W' (fun j => j < B)) : RfAt r B ok fs vo ops W' :=
  { k with row := (hk.2 _ k.row.lt (Nat.not_lt.2 k.bd)).trans k.row, f := k.f.move (hk.2 _ k.f.lt (Nat.not_lt.2 k.bf)), o := Kd.R_mono (Kd.R_kept (Kd.R_bound k.o) hk (fun j hj => Nat.not_lt.2 hj.2.1)) (fun _ hj => hj.1) }
/-- A pair of two new disks. -/
theorem Both.fresh {gp B B1 B2 : Nat} {h : Hd} {r : Rd} {fs : List Int} {W : World} {q : Nat} (hd : DkAt h B1 fs fs (.slice none 0 0) [] W) (hr : RfAt r B2 (fun k => B2 ≤ k) fs (.slice none 0 0) [] W) (h1 : B ≤ B1) (h2 : B ≤ B2) (hgs : h.gs < B2)
    (hn : h.n = 128 * q) (rn : r.n = 128 * q) (hrow : Rt 66 gp [ptr h.D, ptr r.D] W) (hbp : B ≤ gp) (h0 : 0 < B) (hF : Fl W) : Both gp B h r fs [] W :=
  { row := hrow, dd := ⟨none, 0, hd.lower h1⟩, rr := ⟨none, 0, (hr.mono (fun j hj => by omega)).lower h2⟩, en := by rw [hn, rn], q := ⟨q, hn⟩, ok := fun o ho => (by cases ho), bp := hbp, b0 := h0, fl := hF }
theorem does_again {gp B : Nat} {h : Hd} {r : Rd} {fs : List Int} {ops : List (Int × List Int)} {W : World} (k : Both gp B h r fs ops W) (N fill torn y : Int) (Ab Ak : Option Addr) (m cb mk ck : Nat) (ex : Bool) (hN : -9223372036854775808 ≤ N ∧ N ≤ 9223372036854775807) (bs keep : List Int) (hCb : Kd.C (Kd.int .u8) W Ab m bs) (hmb : m ≤ cb) (hCk : Kd.C (Kd.int .i64) W Ak mk keep) (hmk : mk ≤ ck) (hmk8 : (mk + 1) * 8 ≤ 140737488355328) :
    Calls Tryd.prog 35 #[ptr gp, .agg (opV 6 N fill torn y Ab Ak m cb mk ck ex).toArray] W fun e w' => e = .returned (.bool true) ∧ ∃ h' r' fs' ops', Both gp B h' r' fs' ops' w' ∧ Below B W w' := by
  have K := Aside0.mk k
  clear k
  go_enter Tryd.func35, Tryd.ntmps35
  go_upto_region 1 with fail
  have hr3 : Rt 69 W.heap.size (opV 6 N fill torn y Ab Ak m cb mk ck ex) (W.alloc (.cells (opV 6 N fill torn y Ab Ak m cb mk ck ex).toArray 69)) := heap_alloc_new W _
  have hb1 : Below W.heap.size W (W.alloc (.cells (opV 6 N fill torn y Ab Ak m cb mk ck ex).toArray 69)) := below_alloc (Below.refl _ _) _
  obtain ⟨b3, hb3⟩ : ∃ b3, W.heap.size = b3 := ⟨_, rfl⟩
  have HB3E := Aside0.mk hb3
  rw [hb3] at hr3 ⊢
  generalize W.alloc (.cells (opV 6 N fill torn y Ab Ak m cb mk ck ex).toArray 69) = w1 at *
  have HB1 := Aside0.mk hb1
  have q0 := hr3.cell 0 _ rfl
  have HR3 := Aside0.mk hr3
  clear hr3 hb1 hb3
  have KS := Aside0.mk (K.out.stay HB1.out).1
  have HBW := Aside0.mk (K.out.stay HB1.out).2
  obtain ⟨A, c, hd⟩ := KS.out.dd
  obtain ⟨A2, c2, hr⟩ := KS.out.rr
  have HD := Aside0.mk hd
  have HR := Aside0.mk hr
  have HE := Aside0.mk KS.out.en
  have HO := Aside0.mk KS.out.ok
  have HOR := Aside0.mk (show Oks r.n ops by rw [← HE.out]; exact HO.out)
  have H0 := Aside0.mk (Nat.lt_of_lt_of_le KS.out.b0 hd.size)
  clear hd hr
  have HFIN := Aside0.mk (show ∀ w', Below w1.heap.size w1 w' → ∃ h' r' fs' ops', Both gp B h' r' fs' ops' w' ∧ Below B W w' from fun w' hb => ⟨h, r, fs, ops, (KS.out.stay hb).1, HBW.out.trans (KS.out.stay hb).2⟩)
  have MKS := Aside0.mk (show ∀ w', Below w1.heap.size w1 w' → (fun w' => (w'.cell? ⟨gp, 0, none⟩ = some (ptr h.D) ∧ w'.cell? ⟨gp, 1, none⟩ = some (ptr r.D)) ∧ (w'.cell? ⟨b3, 0, none⟩ = some (.int .i64 6) ∧ w'.cell? ⟨b3, 1, none⟩ = some (.int .i64 N) ∧ w'.cell? ⟨b3, 2, none⟩ = some (.int .u8 fill) ∧ w'.cell? ⟨b3, 3, none⟩ = some (.slice Ab m cb)) ∧ (w'.cell? ⟨b3, 4, none⟩ = some (.bool ex) ∧ w'.cell? ⟨b3, 5, none⟩ = some (.slice Ak mk ck) ∧ w'.cell? ⟨b3, 6, none⟩ = some (.int .i64 torn) ∧ w'.cell? ⟨b3, 7, none⟩ = some (.int .i64 y))) w' from fun w' hb => by
    have r1 : Rt 66 gp [ptr h.D, ptr r.D] w' := (hb.block _ KS.out.row.lt).trans KS.out.row
    have r3 : Rt 69 b3 (opV 6 N fill torn y Ab Ak m cb mk ck ex) w' := (hb.block _ HR3.out.lt).trans HR3.out
    exact ⟨⟨r1.cell 0 _ rfl, r1.cell 1 _ rfl⟩, ⟨r3.cell 0 _ rfl, r3.cell 1 _ rfl, r3.cell 2 _ rfl, r3.cell 3 _ rfl⟩, r3.cell 4 _ rfl, r3.cell 5 _ rfl, r3.cell 6 _ rfl, r3.cell 7 _ rfl⟩)
  have HLEN := Aside0.mk HD.out.few
  obtain ⟨M, hM⟩ : ∃ M, momentN N ex ops.length = M := ⟨_, rfl⟩
  have HMO := Aside0.mk (show ∀ w', Below w1.heap.size w1 w' → Calls Tryd.prog 52 #[.agg (opV 6 N fill torn y Ab Ak m cb mk ck ex).toArray, .int .i64 (ops.length : Int)] w' fun e w2 => e = .returned (.int .i64 M) ∧ Below w'.heap.size w' w2 from fun w' hb => by
    have := moment_at 6 N fill torn y Ab Ak m cb mk ck ex bs keep ops.length HLEN.out hN w' (Kd.C_below hCb (HB1.out.trans (hb.mono HB1.out.size))) hmb (Kd.C_below hCk (HB1.out.trans (hb.mono HB1.out.size))) hmk
    rwa [hM] at this)
  have HCK := Aside0.mk (show Kd.C (Kd.int .i64) w1 Ak mk keep from Kd.C_below hCk HB1.out)
  have HKL := Aside0.mk (Kd.C_len hCk)
  have HMK := Aside0.mk hmk
  have HMK8 := Aside0.mk hmk8
  clear hM hN hCb hCk hmb hmk hmk8
  go_upto_region 40 with fail
  refine wp_region_held_drew (S := fun w' => (w'.cell? ⟨gp, 0, none⟩ = some (ptr h.D) ∧ w'.cell? ⟨gp, 1, none⟩ = some (ptr r.D)) ∧ (w'.cell? ⟨b3, 0, none⟩ = some (.int .i64 6) ∧ w'.cell? ⟨b3, 1, none⟩ = some (.int .i64 N) ∧ w'.cell? ⟨b3, 2, none⟩ = some (.int .u8 fill) ∧ w'.cell? ⟨b3, 3, none⟩ = some (.slice Ab m cb)) ∧ (w'.cell? ⟨b3, 4, none⟩ = some (.bool ex) ∧ w'.cell? ⟨b3, 5, none⟩ = some (.slice Ak mk ck) ∧ w'.cell? ⟨b3, 6, none⟩ = some (.int .i64 torn) ∧ w'.cell? ⟨b3, 7, none⟩ = some (.int .i64 y))) (by kernel_rfl) (MKS.out _ (below_drew (Below.refl _ _))) (fun hHeld => ?_)
  refine wpAnyH_take (i := 0) (oi := { dst := some 290, op := Op.load 69 (Operand.tmp 3), type := 69, pos := "law.go:154", after := #[], guard := none }) (v := ?_) rfl (by kernel_rfl) (by kernel_rfl) (by kernel_rfl) (fun _ _ _ h => h) (Or.inl ⟨by rfl, ?_⟩) hHeld ?_
  rotate_left
  · intro w' hS; obtain ⟨⟨hS0, hS1⟩, ⟨hS2, hS3, hS4, hS5⟩, hS6, hS7, hS8, hS9⟩ := hS; go_simp; all_goals (with_reducible rfl)
  (try simp only [Act.put, List.setIfInBounds_toArray, List.set_cons_zero, List.set_cons_succ])
  refine wpAnyH_take (i := 1) (oi := { dst := some 291, op := Op.move (Operand.tmp 0), type := 64, pos := "law.go:154", after := #[], guard := none }) (v := ?_) rfl (by kernel_rfl) (by kernel_rfl) (by kernel_rfl) (fun _ _ _ h => h) (Or.inl ⟨by rfl, ?_⟩) hHeld ?_
  rotate_left
  · intro w' hS; obtain ⟨⟨hS0, hS1⟩, ⟨hS2, hS3, hS4, hS5⟩, hS6, hS7, hS8, hS9⟩ := hS; go_simp; all_goals (with_reducible rfl)
  (try simp only [Act.put, List.setIfInBounds_toArray, List.set_cons_zero, List.set_cons_succ])
  refine wpAnyH_take (i := 2) (oi := { dst := some 292, op := Op.nilCheck (Operand.tmp 291), type := 0, pos := "law.go:154", after := #[{ on := 1, ground := Ground.data }], guard := none }) (v := ?_) rfl (by kernel_rfl) (by kernel_rfl) (by kernel_rfl) (fun _ _ _ h => h) (Or.inl ⟨by rfl, ?_⟩) hHeld ?_
  rotate_left
  · intro w' hS; obtain ⟨⟨hS0, hS1⟩, ⟨hS2, hS3, hS4, hS5⟩, hS6, hS7, hS8, hS9⟩ := hS; go_simp; all_goals (with_reducible rfl)
  (try simp only [Act.put, List.setIfInBounds_toArray, List.set_cons_zero, List.set_cons_succ])
  refine wpAnyH_take (i := 3) (oi := { dst := some 293, op := Op.fieldAddr 66 (Operand.tmp 292) 1, type := 0, pos := "law.go:154", after := #[{ on := 2, ground := Ground.data }], guard := none }) (v := ?_) rfl (by kernel_rfl) (by kernel_rfl) (by kernel_rfl) (fun _ _ _ h => h) (Or.inl ⟨by rfl, ?_⟩) hHeld ?_
  rotate_left
  · intro w' hS; obtain ⟨⟨hS0, hS1⟩, ⟨hS2, hS3, hS4, hS5⟩, hS6, hS7, hS8, hS9⟩ := hS; go_simp; all_goals (with_reducible rfl)
  (try simp only [Act.put, List.setIfInBounds_toArray, List.set_cons_zero, List.set_cons_succ])
  refine wpAnyH_take (i := 4) (oi := { dst := some 294, op := Op.load 61 (Operand.tmp 293), type := 61, pos := "law.go:154", after := #[{ on := 3, ground := Ground.data }], guard := none }) (v := ?_) rfl (by kernel_rfl) (by kernel_rfl) (by kernel_rfl) (fun _ _ _ h => h) (Or.inl ⟨by rfl, ?_⟩) hHeld ?_
  rotate_left
  · intro w' hS; obtain ⟨⟨hS0, hS1⟩, ⟨hS2, hS3, hS4, hS5⟩, hS6, hS7, hS8, hS9⟩ := hS; go_simp; all_goals (with_reducible rfl)
  (try simp only [Act.put, List.setIfInBounds_toArray, List.set_cons_zero, List.set_cons_succ])
  refine wpAnyH_ready (rs := [5]) (by kernel_rfl) (by simp) ?_
  refine AllReadyH.cons (o := { dst := some 295, op := Op.call { callee := Callee.value (Operand.func 49), args := #[Operand.tmp 294], argTypes := #[61] }, type := 3, pos := "law.go:154", after := #[{ on := 4, ground := Ground.data }], guard := none }) rfl (fun K hK => ?_) AllReadyH.nil
  go_simp
  go_at_call 49
  refine (rcount_at (HR.out.stay (below_drew (Below.refl _ _)))).mono ?_
  rintro e w' ⟨rfl, hw⟩
  subst w'
  refine hK.out _ _ (MKS.out _ (below_drew (Below.refl _ _))) (fun hHeld => ?_)
  clear hK K
  (try simp only [Act.put, List.setIfInBounds_toArray, List.set_cons_zero, List.set_cons_succ])
  refine wpAnyH_ready (rs := [6]) (by kernel_rfl) (by simp) ?_
  refine AllReadyH.cons (o := { dst := some 296, op := Op.call { callee := Callee.value (Operand.func 52), args := #[Operand.tmp 290, Operand.tmp 295], argTypes := #[69, 3] }, type := 3, pos := "law.go:154", after := #[{ on := 0, ground := Ground.data }, { on := 5, ground := Ground.data }, { on := 5, ground := Ground.chain }], guard := none }) rfl (fun K hK => ?_) AllReadyH.nil
  go_simp
  go_at_call 52
  refine (HMO.out _ (below_drew (Below.refl _ _))).mono ?_
  rintro e wa ⟨rfl, hb⟩
  have HBa := Aside0.mk (show Below w1.heap.size w1 wa from (below_drew (Below.refl _ _)).trans hb)
  clear hb
  refine hK.out _ _ (MKS.out _ HBa.out) (fun hHeld => ?_)
  clear hK K
  (try simp only [Act.put, List.setIfInBounds_toArray, List.set_cons_zero, List.set_cons_succ])
  refine wpAnyH_take (i := 7) (oi := { dst := some 26, op := Op.assign (Operand.tmp 296), type := 3, pos := "law.go:154", after := #[{ on := 6, ground := Ground.data }, { on := 6, ground := Ground.chain }, { on := 0, ground := Ground.phase }, { on := 1, ground := Ground.phase }, { on := 2, ground := Ground.phase }, { on := 3, ground := Ground.phase }, { on := 4, ground := Ground.phase }, { on := 5, ground := Ground.phase }, { on := 6, ground := Ground.phase }], guard := none }) (v := ?_) rfl (by kernel_rfl) (by kernel_rfl) (by kernel_rfl) (fun _ _ _ h => h) (Or.inl ⟨by rfl, ?_⟩) hHeld ?_
  rotate_left
  · intro w' hS; obtain ⟨⟨hS0, hS1⟩, ⟨hS2, hS3, hS4, hS5⟩, hS6, hS7, hS8, hS9⟩ := hS; go_simp; all_goals (with_reducible rfl)
  (try simp only [Act.put, List.setIfInBounds_toArray, List.set_cons_zero, List.set_cons_succ])
  refine wpAnyH_done (by kernel_rfl) ?_ _
  (try simp only [Act.put, List.setIfInBounds_toArray, List.set_cons_zero, List.set_cons_succ])
  clear HMO
  have HCKa := Aside0.mk (Kd.C_below HCK.out HBa.out)
  obtain ⟨q, hq⟩ := K.out.q
  have HQ := Aside0.mk hq
  have HQR := Aside0.mk (show r.n = 128 * q by have := HE.out; omega)
  have HQ0 := Aside0.mk (show 1 ≤ q ∧ q ≤ 4096 by have := HD.out.big; have := HD.out.pos; omega)
  obtain ⟨xs, hxs⟩ : ∃ xs, atOut fs ops M keep torn y = xs := ⟨_, rfl⟩
  obtain ⟨L, hL⟩ : ∃ L, xs.length = L := ⟨_, rfl⟩
  have HL := Aside0.mk hL
  have hlb := atOut_len HD.out.lf HO.out M keep torn y
  rw [hxs, hL] at hlb
  have HLB := Aside0.mk hlb
  have HLB2 := Aside0.mk (show L ≤ 524288 from Nat.le_trans hlb HD.out.big)
  obtain ⟨ac, hac⟩ : ∃ ac, atCode ops.length M y = ac := ⟨_, rfl⟩
  have HRT := Aside0.mk (show ∀ w', Below w1.heap.size w1 w' → Calls Tryd.prog 53 #[ptr r.D, .int .i64 M, .agg #[.slice Ak mk ck, .int .i64 torn, .int .i64 y]] w' fun e w2 => ∃ Ax cx, e = .returned (.tuple #[.slice Ax L cx, .int .i64 ac]) ∧ Kd.C (Kd.int .u8) w2 Ax L xs ∧ L ≤ cx ∧ Below w'.heap.size w' w2 from fun w' hb => by
    have := rat_any (HR.out.stay hb) HOR.out M torn y Ak mk ck keep (Kd.C_below HCK.out hb) L (by rw [hxs]; exact HL.out)
    rwa [hac, hxs] at this)
  clear hq hxs hL hlb hac
  go_upto_region 41 with fail
  refine wp_region_held_drew (S := fun w' => (w'.cell? ⟨gp, 0, none⟩ = some (ptr h.D) ∧ w'.cell? ⟨gp, 1, none⟩ = some (ptr r.D)) ∧ (w'.cell? ⟨b3, 0, none⟩ = some (.int .i64 6) ∧ w'.cell? ⟨b3, 1, none⟩ = some (.int .i64 N) ∧ w'.cell? ⟨b3, 2, none⟩ = some (.int .u8 fill) ∧ w'.cell? ⟨b3, 3, none⟩ = some (.slice Ab m cb)) ∧ (w'.cell? ⟨b3, 4, none⟩ = some (.bool ex) ∧ w'.cell? ⟨b3, 5, none⟩ = some (.slice Ak mk ck) ∧ w'.cell? ⟨b3, 6, none⟩ = some (.int .i64 torn) ∧ w'.cell? ⟨b3, 7, none⟩ = some (.int .i64 y))) (by kernel_rfl) (MKS.out _ (below_drew HBa.out)) (fun hHeld => ?_)
  refine wpAnyH_take (i := 0) (oi := { dst := some 298, op := Op.move (Operand.tmp 0), type := 64, pos := "law.go:155", after := #[], guard := none }) (v := ?_) rfl (by kernel_rfl) (by kernel_rfl) (by kernel_rfl) (fun _ _ _ h => h) (Or.inl ⟨by rfl, ?_⟩) hHeld ?_
  rotate_left
  · intro w' hS; obtain ⟨⟨hS0, hS1⟩, ⟨hS2, hS3, hS4, hS5⟩, hS6, hS7, hS8, hS9⟩ := hS; go_simp; all_goals (with_reducible rfl)
  (try simp only [Act.put, List.setIfInBounds_toArray, List.set_cons_zero, List.set_cons_succ])
  refine wpAnyH_take (i := 1) (oi := { dst := some 299, op := Op.nilCheck (Operand.tmp 298), type := 0, pos := "law.go:155", after := #[{ on := 0, ground := Ground.data }], guard := none }) (v := ?_) rfl (by kernel_rfl) (by kernel_rfl) (by kernel_rfl) (fun _ _ _ h => h) (Or.inl ⟨by rfl, ?_⟩) hHeld ?_
  rotate_left
  · intro w' hS; obtain ⟨⟨hS0, hS1⟩, ⟨hS2, hS3, hS4, hS5⟩, hS6, hS7, hS8, hS9⟩ := hS; go_simp; all_goals (with_reducible rfl)
  (try simp only [Act.put, List.setIfInBounds_toArray, List.set_cons_zero, List.set_cons_succ])
  refine wpAnyH_take (i := 2) (oi := { dst := some 300, op := Op.fieldAddr 66 (Operand.tmp 299) 1, type := 0, pos := "law.go:155", after := #[{ on := 1, ground := Ground.data }], guard := none }) (v := ?_) rfl (by kernel_rfl) (by kernel_rfl) (by kernel_rfl) (fun _ _ _ h => h) (Or.inl ⟨by rfl, ?_⟩) hHeld ?_
  rotate_left
  · intro w' hS; obtain ⟨⟨hS0, hS1⟩, ⟨hS2, hS3, hS4, hS5⟩, hS6, hS7, hS8, hS9⟩ := hS; go_simp; all_goals (with_reducible rfl)
  (try simp only [Act.put, List.setIfInBounds_toArray, List.set_cons_zero, List.set_cons_succ])
  refine wpAnyH_take (i := 3) (oi := { dst := some 301, op := Op.load 61 (Operand.tmp 300), type := 61, pos := "law.go:155", after := #[{ on := 2, ground := Ground.data }], guard := none }) (v := ?_) rfl (by kernel_rfl) (by kernel_rfl) (by kernel_rfl) (fun _ _ _ h => h) (Or.inl ⟨by rfl, ?_⟩) hHeld ?_
  rotate_left
  · intro w' hS; obtain ⟨⟨hS0, hS1⟩, ⟨hS2, hS3, hS4, hS5⟩, hS6, hS7, hS8, hS9⟩ := hS; go_simp; all_goals (with_reducible rfl)
  (try simp only [Act.put, List.setIfInBounds_toArray, List.set_cons_zero, List.set_cons_succ])
  refine wpAnyH_take (i := 4) (oi := { dst := some 302, op := Op.move (Operand.tmp 26), type := 3, pos := "law.go:155", after := #[], guard := none }) (v := ?_) rfl (by kernel_rfl) (by kernel_rfl) (by kernel_rfl) (fun _ _ _ h => h) (Or.inl ⟨by rfl, ?_⟩) hHeld ?_
  rotate_left
  · intro w' hS; obtain ⟨⟨hS0, hS1⟩, ⟨hS2, hS3, hS4, hS5⟩, hS6, hS7, hS8, hS9⟩ := hS; go_simp; all_goals (with_reducible rfl)
  (try simp only [Act.put, List.setIfInBounds_toArray, List.set_cons_zero, List.set_cons_succ])
  refine wpAnyH_take (i := 5) (oi := { dst := some 303, op := Op.fieldAddr 69 (Operand.tmp 3) 5, type := 0, pos := "law.go:155", after := #[], guard := none }) (v := ?_) rfl (by kernel_rfl) (by kernel_rfl) (by kernel_rfl) (fun _ _ _ h => h) (Or.inl ⟨by rfl, ?_⟩) hHeld ?_
  rotate_left
  · intro w' hS; obtain ⟨⟨hS0, hS1⟩, ⟨hS2, hS3, hS4, hS5⟩, hS6, hS7, hS8, hS9⟩ := hS; go_simp; all_goals (with_reducible rfl)
  (try simp only [Act.put, List.setIfInBounds_toArray, List.set_cons_zero, List.set_cons_succ])
  refine wpAnyH_take (i := 6) (oi := { dst := some 304, op := Op.load 34 (Operand.tmp 303), type := 34, pos := "law.go:155", after := #[{ on := 5, ground := Ground.data }], guard := none }) (v := ?_) rfl (by kernel_rfl) (by kernel_rfl) (by kernel_rfl) (fun _ _ _ h => h) (Or.inl ⟨by rfl, ?_⟩) hHeld ?_
  rotate_left
  · intro w' hS; obtain ⟨⟨hS0, hS1⟩, ⟨hS2, hS3, hS4, hS5⟩, hS6, hS7, hS8, hS9⟩ := hS; go_simp; all_goals (with_reducible rfl)
  (try simp only [Act.put, List.setIfInBounds_toArray, List.set_cons_zero, List.set_cons_succ])
  refine wpAnyH_ready (rs := [7]) (by kernel_rfl) (by simp) ?_
  refine AllReadyH.cons (o := { dst := some 305, op := Op.call { callee := Callee.value (Operand.func 53), args := #[Operand.tmp 301, Operand.tmp 302, Operand.tmp 304], argTypes := #[61, 3, 34] }, type := 31, pos := "law.go:155", after := #[{ on := 3, ground := Ground.data }, { on := 4, ground := Ground.data }, { on := 6, ground := Ground.data }], guard := none }) rfl (fun K hK => ?_) AllReadyH.nil
  go_simp
  go_at_call 53
  refine (HRT.out _ (below_drew HBa.out)).mono ?_
  rintro e wb ⟨Ag, cg, rfl, hC, hcg, hb⟩
  have HBb := Aside0.mk (show Below w1.heap.size w1 wb from HBa.out.trans (((below_drew (Below.refl _ _)).trans hb).mono HBa.out.size))
  have HCg := Aside0.mk hC
  have HCgl := Aside0.mk hcg
  clear hC hcg hb
  refine hK.out _ _ (MKS.out _ HBb.out) (fun hHeld => ?_)
  clear hK K
  (try simp only [Act.put, List.setIfInBounds_toArray, List.set_cons_zero, List.set_cons_succ])
  refine wpAnyH_take (i := 8) (oi := { dst := some 297, op := Op.move (Operand.tmp 305), type := 31, pos := "law.go:155", after := #[{ on := 7, ground := Ground.data }], guard := none }) (v := ?_) rfl (by kernel_rfl) (by kernel_rfl) (by kernel_rfl) (fun _ _ _ h => h) (Or.inl ⟨by rfl, ?_⟩) hHeld ?_
  rotate_left
  · intro w' hS; obtain ⟨⟨hS0, hS1⟩, ⟨hS2, hS3, hS4, hS5⟩, hS6, hS7, hS8, hS9⟩ := hS; go_simp; all_goals (with_reducible rfl)
  (try simp only [Act.put, List.setIfInBounds_toArray, List.set_cons_zero, List.set_cons_succ])
  refine wpAnyH_take (i := 9) (oi := { dst := some 306, op := Op.extract (Operand.tmp 297) 0, type := 29, pos := "law.go:155", after := #[{ on := 8, ground := Ground.data }], guard := none }) (v := ?_) rfl (by kernel_rfl) (by kernel_rfl) (by kernel_rfl) (fun _ _ _ h => h) (Or.inl ⟨by rfl, ?_⟩) hHeld ?_
  rotate_left
  · intro w' hS; obtain ⟨⟨hS0, hS1⟩, ⟨hS2, hS3, hS4, hS5⟩, hS6, hS7, hS8, hS9⟩ := hS; go_simp; all_goals (with_reducible rfl)
  (try simp only [Act.put, List.setIfInBounds_toArray, List.set_cons_zero, List.set_cons_succ])
  refine wpAnyH_take (i := 10) (oi := { dst := some 307, op := Op.extract (Operand.tmp 297) 1, type := 30, pos := "law.go:155", after := #[{ on := 8, ground := Ground.data }, { on := 11, ground := Ground.gcOnly Departure.lateStores }], guard := none }) (v := ?_) rfl (by kernel_rfl) (by kernel_rfl) (by kernel_rfl) (fun _ _ _ h => h) (Or.inl ⟨by rfl, ?_⟩) hHeld ?_
  rotate_left
  · intro w' hS; obtain ⟨⟨hS0, hS1⟩, ⟨hS2, hS3, hS4, hS5⟩, hS6, hS7, hS8, hS9⟩ := hS; go_simp; all_goals (with_reducible rfl)
  (try simp only [Act.put, List.setIfInBounds_toArray, List.set_cons_zero, List.set_cons_succ])
  refine wpAnyH_take (i := 11) (oi := { dst := some 27, op := Op.assign (Operand.tmp 306), type := 29, pos := "law.go:155", after := #[{ on := 9, ground := Ground.data }, { on := 7, ground := Ground.chain }, { on := 0, ground := Ground.phase }, { on := 1, ground := Ground.phase }, { on := 2, ground := Ground.phase }, { on := 3, ground := Ground.phase }, { on := 4, ground := Ground.phase }, { on := 5, ground := Ground.phase }, { on := 6, ground := Ground.phase }, { on := 7, ground := Ground.phase }, { on := 8, ground := Ground.phase }, { on := 9, ground := Ground.phase }, { on := 10, ground := Ground.textOnly Departure.lateStores }], guard := none }) (v := ?_) rfl (by kernel_rfl) (by kernel_rfl) (by kernel_rfl) (fun _ _ _ h => h) (Or.inl ⟨by rfl, ?_⟩) hHeld ?_
  rotate_left
  · intro w' hS; obtain ⟨⟨hS0, hS1⟩, ⟨hS2, hS3, hS4, hS5⟩, hS6, hS7, hS8, hS9⟩ := hS; go_simp; all_goals (with_reducible rfl)
  (try simp only [Act.put, List.setIfInBounds_toArray, List.set_cons_zero, List.set_cons_succ])
  refine wpAnyH_take (i := 12) (oi := { dst := some 28, op := Op.assign (Operand.tmp 307), type := 30, pos := "law.go:155", after := #[{ on := 10, ground := Ground.data }, { on := 11, ground := Ground.chain }, { on := 0, ground := Ground.phase }, { on := 1, ground := Ground.phase }, { on := 2, ground := Ground.phase }, { on := 3, ground := Ground.phase }, { on := 4, ground := Ground.phase }, { on := 5, ground := Ground.phase }, { on := 6, ground := Ground.phase }, { on := 7, ground := Ground.phase }, { on := 8, ground := Ground.phase }, { on := 9, ground := Ground.phase }, { on := 10, ground := Ground.phase }, { on := 11, ground := Ground.phase }], guard := none }) (v := ?_) rfl (by kernel_rfl) (by kernel_rfl) (by kernel_rfl) (fun _ _ _ h => h) (Or.inl ⟨by rfl, ?_⟩) hHeld ?_
  rotate_left
  · intro w' hS; obtain ⟨⟨hS0, hS1⟩, ⟨hS2, hS3, hS4, hS5⟩, hS6, hS7, hS8, hS9⟩ := hS; go_simp; all_goals (with_reducible rfl)
  (try simp only [Act.put, List.setIfInBounds_toArray, List.set_cons_zero, List.set_cons_succ])
  refine wpAnyH_done (by kernel_rfl) ?_ _
  (try simp only [Act.put, List.setIfInBounds_toArray, List.set_cons_zero, List.set_cons_succ])
  go_upto_region 42 with fail
  by_cases hac : ac = 0
  · obtain rfl := hac
    go_wp2_with fail
    go_at_call 32
    refine (room_at xs (by rw [HL.out]; have := HLB2.out; omega) Ag L cg wb HL.out HCg.out HCgl.out).mono ?_
    rintro e wc ⟨gl, cl, rfl, hm, hgl, hcl, hb⟩
    have HBc := Aside0.mk (HBb.out.trans (hb.mono HBb.out.size))
    have HM := Aside0.mk hm
    have HCL := Aside0.mk hcl
    have HCg2 := Aside0.mk (Kd.C_below HCg.out hb)
    have HTL := Aside0.mk (show (xs ++ tailL 64).length = L + 64 by rw [List.length_append, tailL_len, HL.out])
    have HCl := Aside0.mk (show Kd.C (Kd.int .u8) wc (some ⟨gl, 0, none⟩) L xs from by
      have := hm.sub 0 L (by rw [HTL.out]; omega) (by have := HLB2.out; omega)
      rwa [List.drop_zero, List.take_left' HL.out] at this)
    have sl1 : L ≤ cl := by omega
    have sl2 : (L : Int) ≤ (cl : Int) := by omega
    obtain ⟨n, hn⟩ : ∃ n, L + 64 = n := ⟨_, rfl⟩
    have HN := Aside0.mk hn
    rw [hn]
    clear hm hgl hcl hb hn HCg
    go_upto_region 45 with fail
    refine wp_region_held_drew (S := fun w' => (w'.cell? ⟨gp, 0, none⟩ = some (ptr h.D) ∧ w'.cell? ⟨gp, 1, none⟩ = some (ptr r.D)) ∧ (w'.cell? ⟨b3, 0, none⟩ = some (.int .i64 6) ∧ w'.cell? ⟨b3, 1, none⟩ = some (.int .i64 N) ∧ w'.cell? ⟨b3, 2, none⟩ = some (.int .u8 fill) ∧ w'.cell? ⟨b3, 3, none⟩ = some (.slice Ab m cb)) ∧ (w'.cell? ⟨b3, 4, none⟩ = some (.bool ex) ∧ w'.cell? ⟨b3, 5, none⟩ = some (.slice Ak mk ck) ∧ w'.cell? ⟨b3, 6, none⟩ = some (.int .i64 torn) ∧ w'.cell? ⟨b3, 7, none⟩ = some (.int .i64 y))) (by kernel_rfl) (MKS.out _ (below_drew HBc.out)) (fun hHeld => ?_)
    refine wpAnyH_take (i := 0) (oi := { dst := some 313, op := Op.move (Operand.tmp 29), type := 29, pos := "law.go:160", after := #[], guard := none }) (v := ?_) rfl (by kernel_rfl) (by kernel_rfl) (by kernel_rfl) (fun _ _ _ h => h) (Or.inl ⟨by rfl, ?_⟩) hHeld ?_
    rotate_left
    · intro w' hS; obtain ⟨⟨hS0, hS1⟩, ⟨hS2, hS3, hS4, hS5⟩, hS6, hS7, hS8, hS9⟩ := hS; go_simp; all_goals (with_reducible rfl)
    (try simp only [Act.put, List.setIfInBounds_toArray, List.set_cons_zero, List.set_cons_succ])
    refine wpAnyH_take (i := 1) (oi := { dst := some 314, op := Op.move (Operand.tmp 27), type := 29, pos := "law.go:160", after := #[], guard := none }) (v := ?_) rfl (by kernel_rfl) (by kernel_rfl) (by kernel_rfl) (fun _ _ _ h => h) (Or.inl ⟨by rfl, ?_⟩) hHeld ?_
    rotate_left
    · intro w' hS; obtain ⟨⟨hS0, hS1⟩, ⟨hS2, hS3, hS4, hS5⟩, hS6, hS7, hS8, hS9⟩ := hS; go_simp; all_goals (with_reducible rfl)
    (try simp only [Act.put, List.setIfInBounds_toArray, List.set_cons_zero, List.set_cons_succ])
    refine wpAnyH_take (i := 2) (oi := { dst := some 315, op := Op.call { callee := Callee.builtin Builtin.len, args := #[Operand.tmp 314], argTypes := #[29] }, type := 3, pos := "law.go:160", after := #[{ on := 1, ground := Ground.data }], guard := none }) (v := ?_) rfl (by kernel_rfl) (by kernel_rfl) (by kernel_rfl) (fun _ _ _ h => h) (Or.inl ⟨by rfl, ?_⟩) hHeld ?_
    rotate_left
    · intro w' hS; obtain ⟨⟨hS0, hS1⟩, ⟨hS2, hS3, hS4, hS5⟩, hS6, hS7, hS8, hS9⟩ := hS; go_simp; all_goals (with_reducible rfl)
    (try simp only [Act.put, List.setIfInBounds_toArray, List.set_cons_zero, List.set_cons_succ])
    refine wpAnyH_take (i := 3) (oi := { dst := some 316, op := Op.slice 29 (Operand.tmp 313) none (some (Operand.tmp 315)) none, type := 29, pos := "law.go:160", after := #[{ on := 0, ground := Ground.data }, { on := 2, ground := Ground.data }], guard := none }) (v := ?_) rfl (by kernel_rfl) (by kernel_rfl) (by kernel_rfl) (fun _ _ _ h => h) (Or.inl ⟨by rfl, ?_⟩) hHeld ?_
    rotate_left
    · intro w' hS; obtain ⟨⟨hS0, hS1⟩, ⟨hS2, hS3, hS4, hS5⟩, hS6, hS7, hS8, hS9⟩ := hS; go_simp; all_goals (with_reducible rfl)
    (try simp only [Act.put, List.setIfInBounds_toArray, List.set_cons_zero, List.set_cons_succ])
    refine wpAnyH_take (i := 4) (oi := { dst := some 317, op := Op.move (Operand.tmp 0), type := 64, pos := "law.go:160", after := #[], guard := none }) (v := ?_) rfl (by kernel_rfl) (by kernel_rfl) (by kernel_rfl) (fun _ _ _ h => h) (Or.inl ⟨by rfl, ?_⟩) hHeld ?_
    rotate_left
    · intro w' hS; obtain ⟨⟨hS0, hS1⟩, ⟨hS2, hS3, hS4, hS5⟩, hS6, hS7, hS8, hS9⟩ := hS; go_simp; all_goals (with_reducible rfl)
    (try simp only [Act.put, List.setIfInBounds_toArray, List.set_cons_zero, List.set_cons_succ])
    refine wpAnyH_take (i := 5) (oi := { dst := some 318, op := Op.nilCheck (Operand.tmp 317), type := 0, pos := "law.go:160", after := #[{ on := 4, ground := Ground.data }], guard := none }) (v := ?_) rfl (by kernel_rfl) (by kernel_rfl) (by kernel_rfl) (fun _ _ _ h => h) (Or.inl ⟨by rfl, ?_⟩) hHeld ?_
    rotate_left
    · intro w' hS; obtain ⟨⟨hS0, hS1⟩, ⟨hS2, hS3, hS4, hS5⟩, hS6, hS7, hS8, hS9⟩ := hS; go_simp; all_goals (with_reducible rfl)
    (try simp only [Act.put, List.setIfInBounds_toArray, List.set_cons_zero, List.set_cons_succ])
    refine wpAnyH_take (i := 6) (oi := { dst := some 319, op := Op.fieldAddr 66 (Operand.tmp 318) 1, type := 0, pos := "law.go:160", after := #[{ on := 5, ground := Ground.data }], guard := none }) (v := ?_) rfl (by kernel_rfl) (by kernel_rfl) (by kernel_rfl) (fun _ _ _ h => h) (Or.inl ⟨by rfl, ?_⟩) hHeld ?_
    rotate_left
    · intro w' hS; obtain ⟨⟨hS0, hS1⟩, ⟨hS2, hS3, hS4, hS5⟩, hS6, hS7, hS8, hS9⟩ := hS; go_simp; all_goals (with_reducible rfl)
    (try simp only [Act.put, List.setIfInBounds_toArray, List.set_cons_zero, List.set_cons_succ])
    refine wpAnyH_take (i := 7) (oi := { dst := some 320, op := Op.load 61 (Operand.tmp 319), type := 61, pos := "law.go:160", after := #[{ on := 6, ground := Ground.data }], guard := none }) (v := ?_) rfl (by kernel_rfl) (by kernel_rfl) (by kernel_rfl) (fun _ _ _ h => h) (Or.inl ⟨by rfl, ?_⟩) hHeld ?_
    rotate_left
    · intro w' hS; obtain ⟨⟨hS0, hS1⟩, ⟨hS2, hS3, hS4, hS5⟩, hS6, hS7, hS8, hS9⟩ := hS; go_simp; all_goals (with_reducible rfl)
    (try simp only [Act.put, List.setIfInBounds_toArray, List.set_cons_zero, List.set_cons_succ])
    refine wpAnyH_ready (rs := [8]) (by kernel_rfl) (by simp) ?_
    refine AllReadyH.cons (o := { dst := some 321, op := Op.call { callee := Callee.value (Operand.func 48), args := #[Operand.tmp 320], argTypes := #[61] }, type := 3, pos := "law.go:160", after := #[{ on := 7, ground := Ground.data }], guard := none }) rfl (fun K hK => ?_) AllReadyH.nil
    go_simp
    go_at_call 48
    refine (rsectors_at (HR.out.stay (below_drew HBc.out)) q (by have := HQR.out; omega)).mono ?_
    rintro e w' ⟨rfl, hw⟩
    subst w'
    refine hK.out _ _ (MKS.out _ (below_drew HBc.out)) (fun hHeld => ?_)
    clear hK K
    (try simp only [Act.put, List.setIfInBounds_toArray, List.set_cons_zero, List.set_cons_succ])
    refine wpAnyH_ready (rs := [9]) (by kernel_rfl) (by simp) ?_
    refine AllReadyH.cons (o := { dst := some 322, op := Op.call { callee := Callee.value (Operand.func 25), args := #[Operand.tmp 316, Operand.tmp 321], argTypes := #[29, 3] }, type := 46, pos := "law.go:160", after := #[{ on := 3, ground := Ground.data }, { on := 8, ground := Ground.data }, { on := 8, ground := Ground.chain }], guard := none }) rfl (fun K hK => ?_) AllReadyH.nil
    go_simp
    go_at_call 25
    refine (new_at (some ⟨gl, 0, none⟩) L cl q xs _ (Kd.C_below HCl.out (below_drew (Below.refl _ _))) HQ0.out.1 HQ0.out.2 (by have := HLB.out; have := HQ.out; omega)).mono ?_
    rintro e wd ⟨h2, rfl, hhn, hd2, hb⟩
    have hb2 : Below wc.heap.size wc wd := (below_drew (Below.refl _ _)).trans hb
    have HBd := Aside0.mk (show Below w1.heap.size w1 wd from HBc.out.trans (hb2.mono HBc.out.size))
    have HHN := Aside0.mk hhn
    have HD2 := Aside0.mk (show DkAt h2 wc.heap.size (padded xs (128 * q)) (padded xs (128 * q)) (.slice none 0 0) [] wd from hd2)
    have HM2 := Aside0.mk (HM.out.below hb2)
    have HCg3 := Aside0.mk (Kd.C_below HCg2.out hb2)
    clear hhn hd2 hb hb2
    refine hK.out _ _ (MKS.out _ HBd.out) (fun hHeld => ?_)
    clear hK K
    (try simp only [Act.put, List.setIfInBounds_toArray, List.set_cons_zero, List.set_cons_succ])
    refine wpAnyH_take (i := 10) (oi := { dst := some 312, op := Op.move (Operand.tmp 322), type := 46, pos := "law.go:160", after := #[{ on := 9, ground := Ground.data }], guard := none }) (v := ?_) rfl (by kernel_rfl) (by kernel_rfl) (by kernel_rfl) (fun _ _ _ h => h) (Or.inl ⟨by rfl, ?_⟩) hHeld ?_
    rotate_left
    · intro w' hS; obtain ⟨⟨hS0, hS1⟩, ⟨hS2, hS3, hS4, hS5⟩, hS6, hS7, hS8, hS9⟩ := hS; go_simp; all_goals (with_reducible rfl)
    (try simp only [Act.put, List.setIfInBounds_toArray, List.set_cons_zero, List.set_cons_succ])
    refine wpAnyH_take (i := 11) (oi := { dst := some 323, op := Op.extract (Operand.tmp 312) 0, type := 25, pos := "law.go:160", after := #[{ on := 10, ground := Ground.data }], guard := none }) (v := ?_) rfl (by kernel_rfl) (by kernel_rfl) (by kernel_rfl) (fun _ _ _ h => h) (Or.inl ⟨by rfl, ?_⟩) hHeld ?_
    rotate_left
    · intro w' hS; obtain ⟨⟨hS0, hS1⟩, ⟨hS2, hS3, hS4, hS5⟩, hS6, hS7, hS8, hS9⟩ := hS; go_simp; all_goals (with_reducible rfl)
    (try simp only [Act.put, List.setIfInBounds_toArray, List.set_cons_zero, List.set_cons_succ])
    refine wpAnyH_take (i := 12) (oi := { dst := some 324, op := Op.extract (Operand.tmp 312) 1, type := 30, pos := "law.go:160", after := #[{ on := 10, ground := Ground.data }, { on := 13, ground := Ground.gcOnly Departure.lateStores }], guard := none }) (v := ?_) rfl (by kernel_rfl) (by kernel_rfl) (by kernel_rfl) (fun _ _ _ h => h) (Or.inl ⟨by rfl, ?_⟩) hHeld ?_
    rotate_left
    · intro w' hS; obtain ⟨⟨hS0, hS1⟩, ⟨hS2, hS3, hS4, hS5⟩, hS6, hS7, hS8, hS9⟩ := hS; go_simp; all_goals (with_reducible rfl)
    (try simp only [Act.put, List.setIfInBounds_toArray, List.set_cons_zero, List.set_cons_succ])
    refine wpAnyH_take (i := 13) (oi := { dst := some 30, op := Op.assign (Operand.tmp 323), type := 25, pos := "law.go:160", after := #[{ on := 11, ground := Ground.data }, { on := 9, ground := Ground.chain }, { on := 0, ground := Ground.phase }, { on := 1, ground := Ground.phase }, { on := 2, ground := Ground.phase }, { on := 3, ground := Ground.phase }, { on := 4, ground := Ground.phase }, { on := 5, ground := Ground.phase }, { on := 6, ground := Ground.phase }, { on := 7, ground := Ground.phase }, { on := 8, ground := Ground.phase }, { on := 9, ground := Ground.phase }, { on := 10, ground := Ground.phase }, { on := 11, ground := Ground.phase }, { on := 12, ground := Ground.textOnly Departure.lateStores }], guard := none }) (v := ?_) rfl (by kernel_rfl) (by kernel_rfl) (by kernel_rfl) (fun _ _ _ h => h) (Or.inl ⟨by rfl, ?_⟩) hHeld ?_
    rotate_left
    · intro w' hS; obtain ⟨⟨hS0, hS1⟩, ⟨hS2, hS3, hS4, hS5⟩, hS6, hS7, hS8, hS9⟩ := hS; go_simp; all_goals (with_reducible rfl)
    (try simp only [Act.put, List.setIfInBounds_toArray, List.set_cons_zero, List.set_cons_succ])
    refine wpAnyH_take (i := 14) (oi := { dst := some 31, op := Op.assign (Operand.tmp 324), type := 30, pos := "law.go:160", after := #[{ on := 12, ground := Ground.data }, { on := 13, ground := Ground.chain }, { on := 0, ground := Ground.phase }, { on := 1, ground := Ground.phase }, { on := 2, ground := Ground.phase }, { on := 3, ground := Ground.phase }, { on := 4, ground := Ground.phase }, { on := 5, ground := Ground.phase }, { on := 6, ground := Ground.phase }, { on := 7, ground := Ground.phase }, { on := 8, ground := Ground.phase }, { on := 9, ground := Ground.phase }, { on := 10, ground := Ground.phase }, { on := 11, ground := Ground.phase }, { on := 12, ground := Ground.phase }, { on := 13, ground := Ground.phase }], guard := none }) (v := ?_) rfl (by kernel_rfl) (by kernel_rfl) (by kernel_rfl) (fun _ _ _ h => h) (Or.inl ⟨by rfl, ?_⟩) hHeld ?_
    rotate_left
    · intro w' hS; obtain ⟨⟨hS0, hS1⟩, ⟨hS2, hS3, hS4, hS5⟩, hS6, hS7, hS8, hS9⟩ := hS; go_simp; all_goals (with_reducible rfl)
    (try simp only [Act.put, List.setIfInBounds_toArray, List.set_cons_zero, List.set_cons_succ])
    refine wpAnyH_done (by kernel_rfl) ?_ _
    (try simp only [Act.put, List.setIfInBounds_toArray, List.set_cons_zero, List.set_cons_succ])
    have HNE := Aside0.mk (rnew_at Ag L cg q xs wd HCg3.out HQ0.out.1 HQ0.out.2 (by have := HLB.out; have := HQ.out; omega))
    obtain ⟨⟨p0, p1⟩, _⟩ := MKS.out wd HBd.out
    go_wp2_with (go_at_call 48; refine (rsectors_at (HR.out.stay HBd.out) q (by have := HQR.out; omega)).mono ?_; rintro e w' ⟨rfl, hw⟩; subst w')
    go_at_call 33
    refine HNE.out.mono ?_
    rintro e we ⟨r2, rfl, hrn, hr2, hb⟩
    have HBe := Aside0.mk (HBd.out.trans (hb.mono HBd.out.size))
    have HRN := Aside0.mk hrn
    have HR2 := Aside0.mk hr2
    have HD3 := Aside0.mk (HD2.out.stay hb)
    have HM3 := Aside0.mk (HM2.out.below hb)
    have HCg4 := Aside0.mk (Kd.C_below HCg3.out hb)
    have hke := kept_at xs (by rw [HL.out]; have := HLB2.out; omega) (some ⟨gl, 0, none⟩) Ag L cl cg we HL.out (HM3.out.allN HTL.out (by have := HLB2.out; omega)) HCL.out HCg4.out HCgl.out
    rw [HN.out] at hke
    have HKE := Aside0.mk hke
    have HROW := Aside0.mk (show Rt 66 gp [ptr h.D, ptr r.D] we from (HBe.out.block _ KS.out.row.lt).trans KS.out.row)
    clear hrn hr2 hb hke p0 p1
    go_upto_region 47 with fail
    go_wp2_with fail
    go_at_call 34
    refine HKE.out.mono ?_
    rintro e w' ⟨rfl, md, rfl⟩
    have hbm : Below we.heap.size we (we.drewN md) := pw_below_drewN (Below.refl _ _) md
    have HROW2 := Aside0.mk (show Rt 66 gp [ptr h.D, ptr r.D] (we.drewN md) from (hbm.block _ HROW.out.lt).trans HROW.out)
    have HD4 := Aside0.mk (HD3.out.stay hbm)
    have HR4 := Aside0.mk (HR2.out.stay hbm)
    have HBf := Aside0.mk (HBe.out.trans (hbm.mono HBe.out.size))
    have HBde := Aside0.mk (show wd.heap.size ≤ (we.drewN md).heap.size ∧ h2.gs < wd.heap.size from ⟨Nat.le_trans HR2.out.size hbm.size, HD2.out.s.lt⟩)
    have k0 := HROW2.out.cell 0 _ rfl
    have k1 := HROW2.out.cell 1 _ rfl
    have f0 := HROW2.out.free 0
    have f1 := HROW2.out.free 1
    clear hbm HKE
    generalize we.drewN md = wf at *
    go_wp2_with fail
    go_ret
    have e0 := HROW2.out.set 0 (ptr h2.D)
    rw [e0]
    have hr1 : Rt 66 gp [ptr h2.D, ptr r.D] (wf.setRow gp [ptr h2.D, ptr r.D].toArray) := HROW2.out.row [ptr h2.D, ptr r.D]
    have e1 := hr1.set 1 (ptr r2.D)
    have e2 : [ptr h.D, ptr r.D].set 0 (ptr h2.D) = [ptr h2.D, ptr r.D] := rfl
    rw [e2, e1]
    have e3 : [ptr h2.D, ptr r.D].set 1 (ptr r2.D) = [ptr h2.D, ptr r2.D] := rfl
    rw [e3]
    have hr2 : Rt 66 gp [ptr h2.D, ptr r2.D] ((wf.setRow gp [ptr h2.D, ptr r.D].toArray).setRow gp [ptr h2.D, ptr r2.D].toArray) := hr1.row _
    have hgw : gp < w1.heap.size := KS.out.row.lt
    have hlc := HBc.out.size
    have hld := HBd.out.size
    have hk : ∀ B0, gp < B0 → Kept wf ((wf.setRow gp [ptr h2.D, ptr r.D].toArray).setRow gp [ptr h2.D, ptr r2.D].toArray) (fun j => j < B0) := fun B0 hg0 =>
      ⟨by rw [setRow_size, setRow_size]; exact Nat.le_refl _, fun j _ hn => (setRow_other _ _ _ _ (fun e => hn (by show j < B0; omega))).trans (setRow_other _ _ _ _ (fun e => hn (by show j < B0; omega)))⟩
    have hBf : Below B W wf := HBW.out.trans (HBf.out.mono HD.out.size)
    have hBz : Below B W ((wf.setRow gp [ptr h2.D, ptr r.D].toArray).setRow gp [ptr h2.D, ptr r2.D].toArray) := below_setRow' (below_setRow' hBf K.out.bp _) K.out.bp _
    have hsz := HD.out.size
    exact ⟨rfl, h2, r2, _, [], Both.fresh (HD4.out.off (hk _ (by omega))) (HR4.out.off (hk _ (by omega))) (by omega) (by omega) HBde.out.2 HHN.out HRN.out hr2 K.out.bp K.out.b0 (K.out.fl.base K.out.b0 hBz), hBz⟩
  · have hac1 : (ac == 0) = false := by simpa using hac
    have hac2 : decide (ac = 0) = false := decide_eq_false hac
    have HAC := Aside0.mk hac
    clear hac
    go_wp2_with fail
    go_ret
    obtain ⟨h2, r2, fs2, ops2, hB1, hB2⟩ := HFIN.out _ HBb.out
    exact ⟨rfl, ⟨h2, r2, fs2, ops2, hB1⟩, hB2⟩
end Go.Proofs.YtpaonoaedjkekaaDoor.Dk
