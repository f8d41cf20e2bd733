/- chosen: do the choices of the disk go over just these, twice and a half: walked. -/
import Derived.Test.YtpaonoaedjkekaaDoorPl13
import Derived.LoopN
namespace Go.Proofs.YtpaonoaedjkekaaDoor.Dk
open Go Go.RowKit Go.Proofs.SeqWith Go.Proofs.YtpaonoaedjkekaaDoor.PD Go.Proofs.YtpaonoaedjkekaaDoorW.PrintWords Go.Proofs.YtpaonoaedjkekaaDoorW.PrintLast Go.Proofs.YtpaonoaedjkekaaDoorW.PrintMore
set_option linter.unusedVariables false
set_option linter.unusedSimpArgs false
set_option maxHeartbeats 8000000
set_option maxRecDepth 100000
attribute [local go_sem] Oper.semAt_some
theorem Below.others {W W' : World} (h : Below W.heap.size W W') : KeepsOthers W W' := ⟨h.size, fun k o hk ho => (h.block k (Array.getElem?_eq_some_iff.1 hk).1).trans hk⟩
theorem Rt.own {β : Type} (t b : Nat) (f : β → List Value) (B : Nat) : OwnFrom B (fun (s : β) W => Rt t b (f s) W) := fun s A W row h hg hr => Rt_from h hg hr
theorem chosen_at {h : Hd} {B BW : Nat} {fs ss : List Int} {A : Option Addr} {c : Nat} {ops : List (Int × List Int)} {W : World} (k : DkAt h B fs ss (.slice A ops.length c) ops W) (hF : Fl W) (h0 : 0 < W.heap.size) (N : Int) (Aw : Option Addr) (L cw : Nat)
    (hW : kck.R 34 W BW (fun _ => True) (.slice Aw L cw) (chL (chN ops N))) :
    Calls Tryd.prog 54 #[ptr h.D, .int .i64 N, .slice Aw L cw] W fun e w' => e = .returned (.bool true) ∧ Below W.heap.size W w' := by
  have hfn := fun (W : World) (fn : Fn) (x y : Array Value) => run_eql_func_nil' (P := Tryd.prog) W fn x y Tryd.underlying55
  obtain ⟨z, hz⟩ : ∃ z, chN ops N = z := ⟨_, rfl⟩
  have HCA := Aside0.mk (show ∀ w', Below W.heap.size W w' → Calls Tryd.prog 30 #[ptr h.D, .int .i64 N] w' fun e w2 => e = .returned (.func (.func 40) #[] #[ptr w'.heap.size]) ∧ w2.cell? ⟨w'.heap.size, 0, none⟩ = some (.int .i64 z) ∧ Below w'.heap.size w' w2 from fun w' hb => by
    have := choices_any (k.stay hb) (hF.below h0 hb) (Nat.lt_of_lt_of_le h0 hb.size) N
    rwa [hz] at this)
  rw [hz] at hW
  have HKE := Aside0.mk (chL_keep z)
  have hL2 := chL_len z
  obtain ⟨cl, hcl⟩ : ∃ cl, chL z = cl := ⟨_, rfl⟩
  have HCL := Aside0.mk hcl
  rw [hcl] at hW hL2
  have hLl : cl.length = L := by
    obtain ⟨_, _, e, _, _⟩ := Kd.R_reads hW
    injection e with _ e _
    exact e.symm
  have HLL := Aside0.mk hLl
  have HL2 := Aside0.mk (show L ≤ 20000 by omega)
  have HW := Aside0.mk hW
  clear k hF h0 hz hW hcl hL2 hLl
  refine (callsIn_wide (n := 3)).1 ?_
  refine callsIn_of_wp_marks Tryd.func54 rfl trivial ?_ rfl
  refine wpIn_wide.2 ?_
  simp only [Tryd.ntmps54, List.size_toArray, List.length_cons, List.length_nil, Nat.reduceAdd, Nat.reduceSub, Array.replicate_succ, Array.replicate_zero, List.push_toArray, List.append_toArray, List.nil_append, List.cons_append]
  go_upto_region 1 with fail
  have hr5 : Rt 57 W.heap.size [.slice Aw L cw] (W.alloc (.cells #[.slice Aw L cw] 57)) := heap_alloc_new W _
  have hb5 : Below W.heap.size W (W.alloc (.cells #[.slice Aw L cw] 57)) := below_alloc (Below.refl _ _) _
  have hs5 : (W.alloc (.cells #[.slice Aw L cw] 57)).heap.size = W.heap.size + 1 := by simp
  obtain ⟨b5, hb5e⟩ : ∃ b5, W.heap.size = b5 := ⟨_, rfl⟩
  have HB5E := Aside0.mk hb5e
  rw [hb5e] at hr5 hs5
  rw [hb5e]
  generalize W.alloc (.cells #[.slice Aw L cw] 57) = wx at *
  have hr6 : Rt 4 wx.heap.size [.bool false] (wx.alloc (.cells #[.bool false] 4)) := heap_alloc_new wx _
  have hb6 : Below wx.heap.size wx (wx.alloc (.cells #[.bool false] 4)) := below_alloc (Below.refl _ _) _
  have hr5' : Rt 57 b5 [.slice Aw L cw] (wx.alloc (.cells #[.bool false] 4)) := (hb6.block _ hr5.lt).trans hr5
  have hb06 := hb5.trans (hb6.mono hb5.size)
  try rw [hs5]
  try rw [hs5] at hr6
  generalize wx.alloc (.cells #[.bool false] 4) = w1 at *
  have HR5 := Aside0.mk hr5'
  have HR6 := Aside0.mk hr6
  have HB1 := Aside0.mk hb06
  clear hr5 hb5 hs5 hb5e hr6 hb6 hr5' hb06
  obtain ⟨b6, hb6e⟩ : ∃ b6, b5 + 1 = b6 := ⟨_, rfl⟩
  have HB6E := Aside0.mk (show W.heap.size ≤ b6 by have := HB5E.out; omega)
  have hr6 := HR6.out
  rw [hb6e] at hr6 ⊢
  have HR6 := Aside0.mk hr6
  clear hr6 hb6e
  go_wp2_with fail
  go_at_call 30
  refine (HCA.out w1 HB1.out).mono ?_
  obtain ⟨g, hge⟩ : ∃ g, w1.heap.size = g := ⟨_, rfl⟩
  rintro e wt0 ⟨rfl, hcz, hb⟩
  rw [hge] at hcz ⊢
  have HG_0 := Aside0.mk hcz
  have HB_0 := Aside0.mk (HB1.out.trans (hb.mono HB1.out.size))
  have HR5_0 := Aside0.mk (show Rt 57 b5 [.slice Aw L cw] wt0 from (hb.block _ HR5.out.lt).trans HR5.out)
  have HR6_0 := Aside0.mk (show Rt 4 b6 [.bool false] wt0 from (hb.block _ HR6.out.lt).trans HR6.out)
  have HW_0 := Aside0.mk (Kd.R_below HW.out HB_0.out)
  have HM_0 := Aside0.mk (show Marked [] wt0 ∧ ∀ D ∈ ([] : List Nat), W.heap.size ≤ D ∧ D < wt0.heap.size from ⟨⟨List.nodup_nil, fun D h => by cases h⟩, fun D h => by cases h⟩)
  clear hcz hb HR5 HR6 HB1 HCA HW hge
  go_wp2_with fail
  refine wp_loop_rounds 3 ?_
  rw [rounds_succ]
  go_wp2_with fail
  have hgl : g < wt0.heap.size := World.block_lt_of_cell? _ _ HG_0.out
  have hbv : Below wt0.heap.size wt0 (wt0.alloc (.cells #[.int .i64 0] 3)) := below_alloc (Below.refl _ _) _
  have hr9 : Rt 3 wt0.heap.size [.int .i64 0] (wt0.alloc (.cells #[.int .i64 0] 3)) := heap_alloc_new wt0 _
  have hsz : (wt0.alloc (.cells #[.int .i64 0] 3)).heap.size = wt0.heap.size + 1 := by simp
  have hseq := choices_seq_any 2 (by decide) g z wt0 hgl HG_0.out
  rw [HCL.out] at hseq
  refine (wpIn_wide (n := 3)).1 ?_
  refine range_one (n := 3) (enc := fun (x : El) => .agg #[x.1, .int .i64 x.2.2.1, .int .i64 x.2.2.2]) (G := With wt0.heap.size cl) (Kp := Below wt0.heap.size) (S := fun xs => xs.map key = cl) (Sp := fun _ => True) (w0 := wt0) rfl (by decide) rfl trivial (Go.Proofs.enters_of Tryd.func40 (by kernel_rfl) rfl)
    hseq (fun h k => h.trans k) (fun X lp o o' hl h h1 h2 => belowK_b (w := (wt0.alloc (.cells #[.int .i64 0] 3))) (by omega) X lp o o' hl h h1 h2) hbv
    (fun (pre : List El) X => Rt 3 wt0.heap.size [.int .i64 (pre.length : Int)] X ∧ Below wt0.heap.size wt0 X) (fun _ _ _ => False)
    (OwnFrom.and (Rt.own 3 wt0.heap.size (fun (pre : List El) => [.int .i64 (pre.length : Int)]) _) (ownFrom_below (Nat.le_refl _) (by omega))) (fun _ _ _ _ _ h => h.elim) (fun pre => with_own _ _ _ pre) ⟨hr9, hbv⟩ 10 Cur (fun b x => cur_own _ b x) (fun A B hs hb => hb.mono (by omega)) ?assign ?body ?done ?stop
  case assign =>
    rintro lp pre ⟨xv, xk, xt, xb⟩ X K hX ⟨hpre, hRx⟩ hK
    simp only at hRx hK ⊢
    obtain ⟨Ax, cx, ex⟩ := Kd.R_slice hRx
    subst ex
    simp only [List.setIfInBounds_toArray, List.set_cons_zero, List.set_cons_succ] at hK ⊢
    refine Go.Proofs.QuietRound.region_list_round lp (fun ⟨_, _, h⟩ => h) (Go.Proofs.QuietRound.no_defers (by kernel_rfl)) ?_
    refine wpList_runAlloc rfl 34 rfl (ptr X.heap.size) (alloc34 _ X) ?_
    simp only [Act.put, List.setIfInBounds_toArray, List.set_cons_zero, List.set_cons_succ]
    refine wpList_store_row rfl 34 (.tmp 10) (.tmp 24) rfl X.heap.size [.slice Ax xk.length cx, .int .i64 xt, .int .i64 xb].toArray rfl rfl 34 [.slice none 0 0, .int .i64 0, .int .i64 0].toArray (heap_alloc_new X _) size34' rfl (by simp [Value.oneCell']) ?_
    simp only [Act.put, List.setIfInBounds_toArray, List.set_cons_zero, List.set_cons_succ]
    refine wpList_nil ?_
    have hra : Rt 34 X.heap.size [.slice none 0 0, .int .i64 0, .int .i64 0] (X.alloc (.cells [.slice none 0 0, .int .i64 0, .int .i64 0].toArray 34)) := heap_alloc_new X _
    exact hK X.heap.size _ (Nat.le_refl _) (hra.row [.slice Ax xk.length cx, .int .i64 xt, .int .i64 xb]) (below_setRow' (below_alloc (Below.refl _ _) _) (Nat.le_refl _) _)
  case body =>
    rintro lp pre ⟨xv, xk, xt, xb⟩ b7 X hb7 ⟨hi, hBX⟩ ⟨hpre, hRx⟩ hCur
    simp only at hRx ⊢
    obtain ⟨Ax, cx, ex⟩ := Kd.R_slice hRx
    subst ex
    simp only [List.setIfInBounds_toArray, List.set_cons_zero, List.set_cons_succ]
    have hget : cl[pre.length]? = some ((xk, xt, xb) : Ck) := by
      obtain ⟨rest, hrest⟩ := hpre
      rw [← hrest]
      simp [key]
    have hlen : pre.length < L := by
      rw [← HLL.out]
      exact (List.getElem?_eq_some_iff.1 hget).1
    have HKX := Aside0.mk (show xk.length ≤ 10 from HKE.out (xk, xt, xb) (by rw [HCL.out]; exact List.mem_of_getElem? hget))
    have hWX := Kd.R_below HW_0.out (show Below wt0.heap.size wt0 X from hBX)
    obtain ⟨go, Ak, ckp, rfl, hnc, hlk, hCk, g0, g1, g2⟩ := seen_at hWX pre.length ((xk, xt, xb) : Ck) hget
    have HCK := Aside0.mk hCk
    have HLK := Aside0.mk hlk
    have HRX := Aside0.mk hRx
    have HCUR := Aside0.mk hCur
    have HI := Aside0.mk hi
    have HBX := Aside0.mk hBX
    have HB7 := Aside0.mk (show wt0.heap.size < b7 by omega)
    have r5 : Rt 57 b5 [.slice (some ⟨go, 0, none⟩) L cw] X := (hBX.block _ HR5_0.out.lt).trans HR5_0.out
    have HR5X := Aside0.mk r5
    have HGO := Aside0.mk (And.intro g0 (And.intro g1 g2))
    have MKS := Aside0.mk (show ∀ w', Below X.heap.size X w' → (fun w' => (w'.cell? ⟨wt0.heap.size, 0, none⟩ = some (.int .i64 (pre.length : Int)) ∧ w'.cell? ⟨b5, 0, none⟩ = some (.slice (some ⟨go, 0, none⟩) L cw)) ∧ (w'.cell? ⟨go, pre.length * 3, none⟩ = some (.slice Ak xk.length ckp) ∧ w'.cell? ⟨go, pre.length * 3 + 1, none⟩ = some (.int .i64 xt) ∧ w'.cell? ⟨go, pre.length * 3 + 2, none⟩ = some (.int .i64 xb)) ∧ w'.cell? ⟨b7, 0, none⟩ = some (.slice Ax xk.length cx) ∧ w'.cell? ⟨b7, 1, none⟩ = some (.int .i64 xt) ∧ w'.cell? ⟨b7, 2, none⟩ = some (.int .i64 xb)) w' from fun w' hb => by
      have r9 : Rt 3 wt0.heap.size [.int .i64 (pre.length : Int)] w' := (hb.block _ HI.out.lt).trans HI.out
      have r5 : Rt 57 b5 [.slice (some ⟨go, 0, none⟩) L cw] w' := (hb.block _ HR5X.out.lt).trans HR5X.out
      have r7 : Rt 34 b7 [.slice Ax xk.length cx, .int .i64 xt, .int .i64 xb] w' := (hb.block _ (show Rt 34 b7 _ X from HCUR.out).lt).trans HCUR.out
      have hgo := World.block_lt_of_cell? _ _ HGO.out.1
      exact ⟨⟨r9.cell 0 _ rfl, r5.cell 0 _ rfl⟩, ⟨(hb.cell (p := ⟨go, pre.length * 3, none⟩) hgo).trans HGO.out.1, (hb.cell (p := ⟨go, pre.length * 3 + 1, none⟩) hgo).trans HGO.out.2.1, (hb.cell (p := ⟨go, pre.length * 3 + 2, none⟩) hgo).trans HGO.out.2.2⟩, r7.cell 0 _ rfl, r7.cell 1 _ rfl, r7.cell 2 _ rfl⟩)
    have HCR := Aside0.mk (fun W' (hb : Below X.heap.size X W') => (show Calls Tryd.prog 31 #[.agg #[.slice Ax xk.length cx, .int .i64 xt, .int .i64 xb], .agg #[.slice Ak xk.length ckp, .int .i64 xt, .int .i64 xb]] W' fun e w' => e = .returned (.bool true) ∧ Below W'.heap.size W' w' from by
      obtain ⟨A', c', e1, hl1, hC1⟩ := Kd.R_reads HRX.out
      injection e1 with e1 _ e3
      subst e1 e3
      have hc := crashes_ok ((xk, xt, xb) : Ck) ((xk, xt, xb) : Ck) (by have := HKX.out; show xk.length < _; omega)
      rw [decide_eq_true rfl] at hc
      exact larderlaw06_crashes.calls (xk.length + 1) _ cx xk xt xb Ak ckp xk xt xb true W' (Kd.C_below hC1 hb) hl1 (Kd.C_below HCK.out hb) HLK.out hc))
    have q1 : decide (L ≤ pre.length) = false := decide_eq_false (by omega)
    have q2 : decide ((L : Int) ≤ (pre.length : Int)) = false := decide_eq_false (by omega)
    have q3 : (pre.length : Int) < (L : Int) := by omega
    have q4 : (0 : Int) ≤ (pre.length : Int) := by omega
    have HPL := Aside0.mk hlen
    clear hi hBX hpre hRx hCur hget hlen hWX hnc hlk hCk g0 g1 g2 r5 hb7
    gi_wp2_with fail
    refine Go.Proofs.QuietRound.region_held_round_np lp (S := fun w' => (w'.cell? ⟨wt0.heap.size, 0, none⟩ = some (.int .i64 (pre.length : Int)) ∧ w'.cell? ⟨b5, 0, none⟩ = some (.slice (some ⟨go, 0, none⟩) L cw)) ∧ (w'.cell? ⟨go, pre.length * 3, none⟩ = some (.slice Ak xk.length ckp) ∧ w'.cell? ⟨go, pre.length * 3 + 1, none⟩ = some (.int .i64 xt) ∧ w'.cell? ⟨go, pre.length * 3 + 2, none⟩ = some (.int .i64 xb)) ∧ w'.cell? ⟨b7, 0, none⟩ = some (.slice Ax xk.length cx) ∧ w'.cell? ⟨b7, 1, none⟩ = some (.int .i64 xt) ∧ w'.cell? ⟨b7, 2, none⟩ = some (.int .i64 xb)) (by kernel_rfl) (Go.Proofs.QuietRound.no_defers (by kernel_rfl)) (MKS.out _ (below_drew (Below.refl _ _))) (fun hHeld => ?_)
    refine wpAnyH_take (i := 0) (oi := { dst := some 25, op := Op.load 3 (Operand.tmp 9), type := 3, pos := "law.go:180", after := #[], guard := none }) (v := ?_) rfl (by kernel_rfl) (by kernel_rfl) (by kernel_rfl) (fun _ _ _ h => h) (Or.inl ⟨by rfl, ?_⟩) hHeld ?_
    rotate_left
    · intro w' hS; obtain ⟨⟨hS0, hS1⟩, ⟨hS2, hS3, hS4⟩, hS5, hS6, hS7⟩ := hS; go_simp; all_goals (with_reducible rfl)
    (try simp only [Act.put, List.setIfInBounds_toArray, List.set_cons_zero, List.set_cons_succ])
    refine wpAnyH_take (i := 1) (oi := { dst := some 26, op := Op.load 57 (Operand.tmp 5), type := 57, pos := "law.go:180", after := #[], guard := none }) (v := ?_) rfl (by kernel_rfl) (by kernel_rfl) (by kernel_rfl) (fun _ _ _ h => h) (Or.inl ⟨by rfl, ?_⟩) hHeld ?_
    rotate_left
    · intro w' hS; obtain ⟨⟨hS0, hS1⟩, ⟨hS2, hS3, hS4⟩, hS5, hS6, hS7⟩ := hS; go_simp; all_goals (with_reducible rfl)
    (try simp only [Act.put, List.setIfInBounds_toArray, List.set_cons_zero, List.set_cons_succ])
    refine wpAnyH_take (i := 2) (oi := { dst := some 27, op := Op.call { callee := Callee.builtin Builtin.len, args := #[Operand.tmp 26], argTypes := #[57] }, type := 3, pos := "law.go:180", after := #[{ on := 1, ground := Ground.data }], guard := none }) (v := ?_) rfl (by kernel_rfl) (by kernel_rfl) (by kernel_rfl) (fun _ _ _ h => h) (Or.inl ⟨by rfl, ?_⟩) hHeld ?_
    rotate_left
    · intro w' hS; obtain ⟨⟨hS0, hS1⟩, ⟨hS2, hS3, hS4⟩, hS5, hS6, hS7⟩ := hS; go_simp; all_goals (with_reducible rfl)
    (try simp only [Act.put, List.setIfInBounds_toArray, List.set_cons_zero, List.set_cons_succ])
    refine wpAnyH_take (i := 3) (oi := { dst := some 28, op := Op.binOp BinOp.geq 3 (Operand.tmp 25) (Operand.tmp 27) 3, type := 4, pos := "law.go:180", after := #[{ on := 0, ground := Ground.data }, { on := 2, ground := Ground.data }], guard := none }) (v := ?_) rfl (by kernel_rfl) (by kernel_rfl) (by kernel_rfl) (fun _ _ _ h => h) (Or.inl ⟨by rfl, ?_⟩) hHeld ?_
    rotate_left
    · intro w' hS; obtain ⟨⟨hS0, hS1⟩, ⟨hS2, hS3, hS4⟩, hS5, hS6, hS7⟩ := hS; go_simp; all_goals (with_reducible rfl)
    (try simp only [Act.put, List.setIfInBounds_toArray, List.set_cons_zero, List.set_cons_succ])
    refine wpAnyH_take (i := 4) (oi := { dst := some 29, op := Op.move (Operand.tmp 28), type := 4, pos := "law.go:180", after := #[{ on := 3, ground := Ground.data }], guard := none }) (v := ?_) rfl (by kernel_rfl) (by kernel_rfl) (by kernel_rfl) (fun _ _ _ h => h) (Or.inl ⟨by rfl, ?_⟩) hHeld ?_
    rotate_left
    · intro w' hS; obtain ⟨⟨hS0, hS1⟩, ⟨hS2, hS3, hS4⟩, hS5, hS6, hS7⟩ := hS; go_simp; all_goals (with_reducible rfl)
    (try simp only [Act.put, List.setIfInBounds_toArray, List.set_cons_zero, List.set_cons_succ])
    refine wpAnyH_take (i := 5) (oi := { dst := some 30, op := Op.load 34 (Operand.tmp 10), type := 34, pos := "law.go:180", after := #[{ on := 4, ground := Ground.guard }], guard := some (4, false) }) (v := ?_) rfl (by kernel_rfl) (by kernel_rfl) (by kernel_rfl) (fun _ _ _ h => h) (Or.inl ⟨by rfl, ?_⟩) hHeld ?_
    rotate_left
    · intro w' hS; obtain ⟨⟨hS0, hS1⟩, ⟨hS2, hS3, hS4⟩, hS5, hS6, hS7⟩ := hS; go_simp; all_goals (with_reducible rfl)
    (try simp only [Act.put, List.setIfInBounds_toArray, List.set_cons_zero, List.set_cons_succ])
    refine wpAnyH_take (i := 6) (oi := { dst := some 31, op := Op.load 57 (Operand.tmp 5), type := 57, pos := "law.go:180", after := #[{ on := 4, ground := Ground.guard }], guard := some (4, false) }) (v := ?_) rfl (by kernel_rfl) (by kernel_rfl) (by kernel_rfl) (fun _ _ _ h => h) (Or.inl ⟨by rfl, ?_⟩) hHeld ?_
    rotate_left
    · intro w' hS; obtain ⟨⟨hS0, hS1⟩, ⟨hS2, hS3, hS4⟩, hS5, hS6, hS7⟩ := hS; go_simp; all_goals (with_reducible rfl)
    (try simp only [Act.put, List.setIfInBounds_toArray, List.set_cons_zero, List.set_cons_succ])
    refine wpAnyH_take (i := 7) (oi := { dst := some 32, op := Op.load 3 (Operand.tmp 9), type := 3, pos := "law.go:180", after := #[{ on := 4, ground := Ground.guard }], guard := some (4, false) }) (v := ?_) rfl (by kernel_rfl) (by kernel_rfl) (by kernel_rfl) (fun _ _ _ h => h) (Or.inl ⟨by rfl, ?_⟩) hHeld ?_
    rotate_left
    · intro w' hS; obtain ⟨⟨hS0, hS1⟩, ⟨hS2, hS3, hS4⟩, hS5, hS6, hS7⟩ := hS; go_simp; all_goals (with_reducible rfl)
    (try simp only [Act.put, List.setIfInBounds_toArray, List.set_cons_zero, List.set_cons_succ])
    refine wpAnyH_take (i := 8) (oi := { dst := some 33, op := Op.indexAddr 57 (Operand.tmp 31) (Operand.tmp 32), type := 0, pos := "law.go:180", after := #[{ on := 6, ground := Ground.data }, { on := 7, ground := Ground.data }, { on := 4, ground := Ground.guard }], guard := some (4, false) }) (v := ?_) rfl (by kernel_rfl) (by kernel_rfl) (by kernel_rfl) (fun _ _ _ h => h) (Or.inl ⟨by rfl, ?_⟩) hHeld ?_
    rotate_left
    · intro w' hS; obtain ⟨⟨hS0, hS1⟩, ⟨hS2, hS3, hS4⟩, hS5, hS6, hS7⟩ := hS; go_simp; all_goals (with_reducible rfl)
    (try simp only [Act.put, List.setIfInBounds_toArray, List.set_cons_zero, List.set_cons_succ])
    refine wpAnyH_take (i := 9) (oi := { dst := some 34, op := Op.load 34 (Operand.tmp 33), type := 34, pos := "law.go:180", after := #[{ on := 8, ground := Ground.data }, { on := 4, ground := Ground.guard }], guard := some (4, false) }) (v := ?_) rfl (by kernel_rfl) (by kernel_rfl) (by kernel_rfl) (fun _ _ _ h => h) (Or.inl ⟨by rfl, ?_⟩) hHeld ?_
    rotate_left
    · intro w' hS; obtain ⟨⟨hS0, hS1⟩, ⟨hS2, hS3, hS4⟩, hS5, hS6, hS7⟩ := hS; go_simp; all_goals (with_reducible rfl)
    (try simp only [Act.put, List.setIfInBounds_toArray, List.set_cons_zero, List.set_cons_succ])
    refine wpAnyH_ready (rs := [10]) (by kernel_rfl) (by simp) ?_
    refine AllReadyH.cons (o := { dst := some 35, op := Op.call { callee := Callee.value (Operand.func 31), args := #[Operand.tmp 30, Operand.tmp 34], argTypes := #[34, 34] }, type := 4, pos := "law.go:180", after := #[{ on := 5, ground := Ground.data }, { on := 9, ground := Ground.data }, { on := 4, ground := Ground.chain }, { on := 4, ground := Ground.guard }], guard := some (4, false) }) rfl (fun K hK => ?_) AllReadyH.nil
    go_simp
    go_at_call 31
    refine (HCR.out _ (below_drew (Below.refl _ _))).mono ?_
    rintro e Z ⟨rfl, hbz⟩
    have HBZ := Aside0.mk (show Below X.heap.size X Z from (below_drew (Below.refl _ _)).trans hbz)
    clear hbz
    refine hK.out _ _ (MKS.out _ HBZ.out) (fun hHeld => ?_)
    clear hK K
    (try simp only [Act.put, List.setIfInBounds_toArray, List.set_cons_zero, List.set_cons_succ])
    refine wpAnyH_take (i := 11) (oi := { dst := some 36, op := Op.unOp UnOp.not 4 (Operand.tmp 35), type := 4, pos := "law.go:180", after := #[{ on := 10, ground := Ground.data }, { on := 4, ground := Ground.guard }], guard := some (4, false) }) (v := ?_) rfl (by kernel_rfl) (by kernel_rfl) (by kernel_rfl) (fun _ _ _ h => h) (Or.inl ⟨by rfl, ?_⟩) hHeld ?_
    rotate_left
    · intro w' hS; obtain ⟨⟨hS0, hS1⟩, ⟨hS2, hS3, hS4⟩, hS5, hS6, hS7⟩ := hS; go_simp; all_goals (with_reducible rfl)
    (try simp only [Act.put, List.setIfInBounds_toArray, List.set_cons_zero, List.set_cons_succ])
    refine wpAnyH_take (i := 12) (oi := { dst := some 37, op := Op.pick (Operand.tmp 29) (Operand.const (Value.bool true)) (Operand.tmp 36), type := 4, pos := "law.go:180", after := #[{ on := 4, ground := Ground.data }, { on := 11, ground := Ground.data }], guard := none }) (v := ?_) rfl (by kernel_rfl) (by kernel_rfl) (by kernel_rfl) (fun _ _ _ h => h) (Or.inl ⟨by rfl, ?_⟩) hHeld ?_
    rotate_left
    · intro w' hS; obtain ⟨⟨hS0, hS1⟩, ⟨hS2, hS3, hS4⟩, hS5, hS6, hS7⟩ := hS; go_simp; all_goals (with_reducible rfl)
    (try simp only [Act.put, List.setIfInBounds_toArray, List.set_cons_zero, List.set_cons_succ])
    refine wpAnyH_done (by kernel_rfl) ?_ _
    (try simp only [Act.put, List.setIfInBounds_toArray, List.set_cons_zero, List.set_cons_succ])
    refine Go.Proofs.QuietRound.Calm.normal ?_
    have HIZ := Aside0.mk (show Rt 3 wt0.heap.size [.int .i64 (pre.length : Int)] Z from (HBZ.out.block _ HI.out.lt).trans HI.out)
    have c9 := HIZ.out.cell 0 _ rfl
    have f9 := HIZ.out.free 0
    have hw1 : wrap64 ((pre.length : Int) + 1) = ((pre.length : Int) + 1) := by have := HPL.out; have := HL2.out; unfold wrap64; omega
    have HEND := Aside0.mk (show KeepsOthers X (Z.setCell ⟨wt0.heap.size, 0, none⟩ (.int .i64 ((pre.length : Int) + 1))) ∧ Below wt0.heap.size X (Z.setCell ⟨wt0.heap.size, 0, none⟩ (.int .i64 ((pre.length : Int) + 1))) ∧ Rt 3 wt0.heap.size [.int .i64 ((pre ++ [((.slice Ax xk.length cx, xk, xt, xb) : El)]).length : Int)] (Z.setCell ⟨wt0.heap.size, 0, none⟩ (.int .i64 ((pre.length : Int) + 1))) ∧ Below wt0.heap.size wt0 (Z.setCell ⟨wt0.heap.size, 0, none⟩ (.int .i64 ((pre.length : Int) + 1))) from
      ⟨(Below.others HBZ.out).trans (KeepsOthers.setCell _ _ _), (HBZ.out.mono HBX.out.size).setCell (p := ⟨wt0.heap.size, 0, none⟩) (Nat.le_refl _) _, by
        rw [HIZ.out.set 0, List.length_append, List.length_singleton]
        exact HIZ.out.row [.int .i64 ((pre.length : Int) + 1)], (HBX.out.trans (HBZ.out.mono HBX.out.size)).setCell (p := ⟨wt0.heap.size, 0, none⟩) (Nat.le_refl _) _⟩)
    clear MKS HCR q1 q2 q3 q4 hHeld
    gi_wp2_with fail
    exact HEND.out
  case stop => exact fun _ _ _ _ _ _ h => h.elim
  case done =>
    rintro D0 xs wt1 hD hxs ⟨hi, hBX⟩ hKD
    have hxl : xs.length = L := by rw [← HLL.out, ← hxs, List.length_map]
    rw [hxl] at hi
    have HB_1 := Aside0.mk (HB_0.out.trans (hBX.mono HB_0.out.size))
    have HG_1 := Aside0.mk (show wt1.cell? ⟨g, 0, none⟩ = some (.int .i64 z) from (hBX.cell (p := ⟨g, 0, none⟩) hgl).trans HG_0.out)
    have HR5_1 := Aside0.mk (show Rt 57 b5 [.slice Aw L cw] wt1 from (hBX.block _ HR5_0.out.lt).trans HR5_0.out)
    have HR6_1 := Aside0.mk (show Rt 4 b6 [.bool false] wt1 from (hBX.block _ HR6_0.out.lt).trans HR6_0.out)
    have HW_1 := Aside0.mk (Kd.R_below HW_0.out hBX)
    have HM_1 := Aside0.mk (show Marked (D0 :: []) wt1 ∧ ∀ E ∈ D0 :: [], W.heap.size ≤ E ∧ E < wt1.heap.size from by
      have h1 := HM_0.out.1.below hBX (fun E hE => (HM_0.out.2 E hE).2)
      have h2 := hBX.size
      refine ⟨h1.more hKD (fun E hE => by have := (HM_0.out.2 E hE).2; omega), fun E hE => ?_⟩
      rcases List.mem_cons.1 hE with rfl | hE
      · exact ⟨by have := HB_0.out.size; omega, (Array.getElem?_eq_some_iff.1 hKD).1⟩
      · have := HM_0.out.2 E hE
        exact ⟨this.1, by omega⟩)
    have x9 := hi.cell 0 _ rfl
    have x5 := HR5_1.out.cell 0 _ rfl
    clear hi hBX hKD hxs hxl hgl hbv hr9 hsz hseq hD HB_0 HG_0 HR5_0 HR6_0 HW_0 HM_0
    have ent1 : ({ target := .collected D0, args := #[] } : Deferred) = ent D0 := rfl
    go_wp2_with fail
    rw [rounds_succ]
    go_wp2_with fail
    have hgl : g < wt1.heap.size := World.block_lt_of_cell? _ _ HG_1.out
    have hbv : Below wt1.heap.size wt1 (wt1.alloc (.cells #[.int .i64 0] 3)) := below_alloc (Below.refl _ _) _
    have hr9 : Rt 3 wt1.heap.size [.int .i64 0] (wt1.alloc (.cells #[.int .i64 0] 3)) := heap_alloc_new wt1 _
    have hsz : (wt1.alloc (.cells #[.int .i64 0] 3)).heap.size = wt1.heap.size + 1 := by simp
    have hseq := choices_seq_any 2 (by decide) g z wt1 hgl HG_1.out
    rw [HCL.out] at hseq
    refine (wpIn_wide (n := 3)).1 ?_
    refine range_one (n := 3) (enc := fun (x : El) => .agg #[x.1, .int .i64 x.2.2.1, .int .i64 x.2.2.2]) (G := With wt1.heap.size cl) (Kp := Below wt1.heap.size) (S := fun xs => xs.map key = cl) (Sp := fun _ => True) (w0 := wt1) rfl (by decide) rfl trivial (Go.Proofs.enters_of Tryd.func40 (by kernel_rfl) rfl)
      hseq (fun h k => h.trans k) (fun X lp o o' hl h h1 h2 => belowK_b (w := (wt1.alloc (.cells #[.int .i64 0] 3))) (by omega) X lp o o' hl h h1 h2) hbv
      (fun (pre : List El) X => Rt 3 wt1.heap.size [.int .i64 (pre.length : Int)] X ∧ Below wt1.heap.size wt1 X) (fun _ _ _ => False)
      (OwnFrom.and (Rt.own 3 wt1.heap.size (fun (pre : List El) => [.int .i64 (pre.length : Int)]) _) (ownFrom_below (Nat.le_refl _) (by omega))) (fun _ _ _ _ _ h => h.elim) (fun pre => with_own _ _ _ pre) ⟨hr9, hbv⟩ 10 Cur (fun b x => cur_own _ b x) (fun A B hs hb => hb.mono (by omega)) ?assign ?body ?done ?stop
    case assign =>
      rintro lp pre ⟨xv, xk, xt, xb⟩ X K hX ⟨hpre, hRx⟩ hK
      simp only at hRx hK ⊢
      obtain ⟨Ax, cx, ex⟩ := Kd.R_slice hRx
      subst ex
      simp only [List.setIfInBounds_toArray, List.set_cons_zero, List.set_cons_succ] at hK ⊢
      refine Go.Proofs.QuietRound.region_list_round lp (fun ⟨_, _, h⟩ => h) (Go.Proofs.QuietRound.no_defers (by kernel_rfl)) ?_
      refine wpList_runAlloc rfl 34 rfl (ptr X.heap.size) (alloc34 _ X) ?_
      simp only [Act.put, List.setIfInBounds_toArray, List.set_cons_zero, List.set_cons_succ]
      refine wpList_store_row rfl 34 (.tmp 10) (.tmp 24) rfl X.heap.size [.slice Ax xk.length cx, .int .i64 xt, .int .i64 xb].toArray rfl rfl 34 [.slice none 0 0, .int .i64 0, .int .i64 0].toArray (heap_alloc_new X _) size34' rfl (by simp [Value.oneCell']) ?_
      simp only [Act.put, List.setIfInBounds_toArray, List.set_cons_zero, List.set_cons_succ]
      refine wpList_nil ?_
      have hra : Rt 34 X.heap.size [.slice none 0 0, .int .i64 0, .int .i64 0] (X.alloc (.cells [.slice none 0 0, .int .i64 0, .int .i64 0].toArray 34)) := heap_alloc_new X _
      exact hK X.heap.size _ (Nat.le_refl _) (hra.row [.slice Ax xk.length cx, .int .i64 xt, .int .i64 xb]) (below_setRow' (below_alloc (Below.refl _ _) _) (Nat.le_refl _) _)
    case body =>
      rintro lp pre ⟨xv, xk, xt, xb⟩ b7 X hb7 ⟨hi, hBX⟩ ⟨hpre, hRx⟩ hCur
      simp only at hRx ⊢
      obtain ⟨Ax, cx, ex⟩ := Kd.R_slice hRx
      subst ex
      simp only [List.setIfInBounds_toArray, List.set_cons_zero, List.set_cons_succ]
      have hget : cl[pre.length]? = some ((xk, xt, xb) : Ck) := by
        obtain ⟨rest, hrest⟩ := hpre
        rw [← hrest]
        simp [key]
      have hlen : pre.length < L := by
        rw [← HLL.out]
        exact (List.getElem?_eq_some_iff.1 hget).1
      have HKX := Aside0.mk (show xk.length ≤ 10 from HKE.out (xk, xt, xb) (by rw [HCL.out]; exact List.mem_of_getElem? hget))
      have hWX := Kd.R_below HW_1.out (show Below wt1.heap.size wt1 X from hBX)
      obtain ⟨go, Ak, ckp, rfl, hnc, hlk, hCk, g0, g1, g2⟩ := seen_at hWX pre.length ((xk, xt, xb) : Ck) hget
      have HCK := Aside0.mk hCk
      have HLK := Aside0.mk hlk
      have HRX := Aside0.mk hRx
      have HCUR := Aside0.mk hCur
      have HI := Aside0.mk hi
      have HBX := Aside0.mk hBX
      have HB7 := Aside0.mk (show wt1.heap.size < b7 by omega)
      have r5 : Rt 57 b5 [.slice (some ⟨go, 0, none⟩) L cw] X := (hBX.block _ HR5_1.out.lt).trans HR5_1.out
      have HR5X := Aside0.mk r5
      have HGO := Aside0.mk (And.intro g0 (And.intro g1 g2))
      have MKS := Aside0.mk (show ∀ w', Below X.heap.size X w' → (fun w' => (w'.cell? ⟨wt1.heap.size, 0, none⟩ = some (.int .i64 (pre.length : Int)) ∧ w'.cell? ⟨b5, 0, none⟩ = some (.slice (some ⟨go, 0, none⟩) L cw)) ∧ (w'.cell? ⟨go, pre.length * 3, none⟩ = some (.slice Ak xk.length ckp) ∧ w'.cell? ⟨go, pre.length * 3 + 1, none⟩ = some (.int .i64 xt) ∧ w'.cell? ⟨go, pre.length * 3 + 2, none⟩ = some (.int .i64 xb)) ∧ w'.cell? ⟨b7, 0, none⟩ = some (.slice Ax xk.length cx) ∧ w'.cell? ⟨b7, 1, none⟩ = some (.int .i64 xt) ∧ w'.cell? ⟨b7, 2, none⟩ = some (.int .i64 xb)) w' from fun w' hb => by
        have r9 : Rt 3 wt1.heap.size [.int .i64 (pre.length : Int)] w' := (hb.block _ HI.out.lt).trans HI.out
        have r5 : Rt 57 b5 [.slice (some ⟨go, 0, none⟩) L cw] w' := (hb.block _ HR5X.out.lt).trans HR5X.out
        have r7 : Rt 34 b7 [.slice Ax xk.length cx, .int .i64 xt, .int .i64 xb] w' := (hb.block _ (show Rt 34 b7 _ X from HCUR.out).lt).trans HCUR.out
        have hgo := World.block_lt_of_cell? _ _ HGO.out.1
        exact ⟨⟨r9.cell 0 _ rfl, r5.cell 0 _ rfl⟩, ⟨(hb.cell (p := ⟨go, pre.length * 3, none⟩) hgo).trans HGO.out.1, (hb.cell (p := ⟨go, pre.length * 3 + 1, none⟩) hgo).trans HGO.out.2.1, (hb.cell (p := ⟨go, pre.length * 3 + 2, none⟩) hgo).trans HGO.out.2.2⟩, r7.cell 0 _ rfl, r7.cell 1 _ rfl, r7.cell 2 _ rfl⟩)
      have HCR := Aside0.mk (fun W' (hb : Below X.heap.size X W') => (show Calls Tryd.prog 31 #[.agg #[.slice Ax xk.length cx, .int .i64 xt, .int .i64 xb], .agg #[.slice Ak xk.length ckp, .int .i64 xt, .int .i64 xb]] W' fun e w' => e = .returned (.bool true) ∧ Below W'.heap.size W' w' from by
        obtain ⟨A', c', e1, hl1, hC1⟩ := Kd.R_reads HRX.out
        injection e1 with e1 _ e3
        subst e1 e3
        have hc := crashes_ok ((xk, xt, xb) : Ck) ((xk, xt, xb) : Ck) (by have := HKX.out; show xk.length < _; omega)
        rw [decide_eq_true rfl] at hc
        exact larderlaw06_crashes.calls (xk.length + 1) _ cx xk xt xb Ak ckp xk xt xb true W' (Kd.C_below hC1 hb) hl1 (Kd.C_below HCK.out hb) HLK.out hc))
      have q1 : decide (L ≤ pre.length) = false := decide_eq_false (by omega)
      have q2 : decide ((L : Int) ≤ (pre.length : Int)) = false := decide_eq_false (by omega)
      have q3 : (pre.length : Int) < (L : Int) := by omega
      have q4 : (0 : Int) ≤ (pre.length : Int) := by omega
      have HPL := Aside0.mk hlen
      clear hi hBX hpre hRx hCur hget hlen hWX hnc hlk hCk g0 g1 g2 r5 hb7
      gi_wp2_with fail
      refine Go.Proofs.QuietRound.region_held_round_np lp (S := fun w' => (w'.cell? ⟨wt1.heap.size, 0, none⟩ = some (.int .i64 (pre.length : Int)) ∧ w'.cell? ⟨b5, 0, none⟩ = some (.slice (some ⟨go, 0, none⟩) L cw)) ∧ (w'.cell? ⟨go, pre.length * 3, none⟩ = some (.slice Ak xk.length ckp) ∧ w'.cell? ⟨go, pre.length * 3 + 1, none⟩ = some (.int .i64 xt) ∧ w'.cell? ⟨go, pre.length * 3 + 2, none⟩ = some (.int .i64 xb)) ∧ w'.cell? ⟨b7, 0, none⟩ = some (.slice Ax xk.length cx) ∧ w'.cell? ⟨b7, 1, none⟩ = some (.int .i64 xt) ∧ w'.cell? ⟨b7, 2, none⟩ = some (.int .i64 xb)) (by kernel_rfl) (Go.Proofs.QuietRound.no_defers (by kernel_rfl)) (MKS.out _ (below_drew (Below.refl _ _))) (fun hHeld => ?_)
      refine wpAnyH_take (i := 0) (oi := { dst := some 25, op := Op.load 3 (Operand.tmp 9), type := 3, pos := "law.go:180", after := #[], guard := none }) (v := ?_) rfl (by kernel_rfl) (by kernel_rfl) (by kernel_rfl) (fun _ _ _ h => h) (Or.inl ⟨by rfl, ?_⟩) hHeld ?_
      rotate_left
      · intro w' hS; obtain ⟨⟨hS0, hS1⟩, ⟨hS2, hS3, hS4⟩, hS5, hS6, hS7⟩ := hS; go_simp; all_goals (with_reducible rfl)
      (try simp only [Act.put, List.setIfInBounds_toArray, List.set_cons_zero, List.set_cons_succ])
      refine wpAnyH_take (i := 1) (oi := { dst := some 26, op := Op.load 57 (Operand.tmp 5), type := 57, pos := "law.go:180", after := #[], guard := none }) (v := ?_) rfl (by kernel_rfl) (by kernel_rfl) (by kernel_rfl) (fun _ _ _ h => h) (Or.inl ⟨by rfl, ?_⟩) hHeld ?_
      rotate_left
      · intro w' hS; obtain ⟨⟨hS0, hS1⟩, ⟨hS2, hS3, hS4⟩, hS5, hS6, hS7⟩ := hS; go_simp; all_goals (with_reducible rfl)
      (try simp only [Act.put, List.setIfInBounds_toArray, List.set_cons_zero, List.set_cons_succ])
      refine wpAnyH_take (i := 2) (oi := { dst := some 27, op := Op.call { callee := Callee.builtin Builtin.len, args := #[Operand.tmp 26], argTypes := #[57] }, type := 3, pos := "law.go:180", after := #[{ on := 1, ground := Ground.data }], guard := none }) (v := ?_) rfl (by kernel_rfl) (by kernel_rfl) (by kernel_rfl) (fun _ _ _ h => h) (Or.inl ⟨by rfl, ?_⟩) hHeld ?_
      rotate_left
      · intro w' hS; obtain ⟨⟨hS0, hS1⟩, ⟨hS2, hS3, hS4⟩, hS5, hS6, hS7⟩ := hS; go_simp; all_goals (with_reducible rfl)
      (try simp only [Act.put, List.setIfInBounds_toArray, List.set_cons_zero, List.set_cons_succ])
      refine wpAnyH_take (i := 3) (oi := { dst := some 28, op := Op.binOp BinOp.geq 3 (Operand.tmp 25) (Operand.tmp 27) 3, type := 4, pos := "law.go:180", after := #[{ on := 0, ground := Ground.data }, { on := 2, ground := Ground.data }], guard := none }) (v := ?_) rfl (by kernel_rfl) (by kernel_rfl) (by kernel_rfl) (fun _ _ _ h => h) (Or.inl ⟨by rfl, ?_⟩) hHeld ?_
      rotate_left
      · intro w' hS; obtain ⟨⟨hS0, hS1⟩, ⟨hS2, hS3, hS4⟩, hS5, hS6, hS7⟩ := hS; go_simp; all_goals (with_reducible rfl)
      (try simp only [Act.put, List.setIfInBounds_toArray, List.set_cons_zero, List.set_cons_succ])
      refine wpAnyH_take (i := 4) (oi := { dst := some 29, op := Op.move (Operand.tmp 28), type := 4, pos := "law.go:180", after := #[{ on := 3, ground := Ground.data }], guard := none }) (v := ?_) rfl (by kernel_rfl) (by kernel_rfl) (by kernel_rfl) (fun _ _ _ h => h) (Or.inl ⟨by rfl, ?_⟩) hHeld ?_
      rotate_left
      · intro w' hS; obtain ⟨⟨hS0, hS1⟩, ⟨hS2, hS3, hS4⟩, hS5, hS6, hS7⟩ := hS; go_simp; all_goals (with_reducible rfl)
      (try simp only [Act.put, List.setIfInBounds_toArray, List.set_cons_zero, List.set_cons_succ])
      refine wpAnyH_take (i := 5) (oi := { dst := some 30, op := Op.load 34 (Operand.tmp 10), type := 34, pos := "law.go:180", after := #[{ on := 4, ground := Ground.guard }], guard := some (4, false) }) (v := ?_) rfl (by kernel_rfl) (by kernel_rfl) (by kernel_rfl) (fun _ _ _ h => h) (Or.inl ⟨by rfl, ?_⟩) hHeld ?_
      rotate_left
      · intro w' hS; obtain ⟨⟨hS0, hS1⟩, ⟨hS2, hS3, hS4⟩, hS5, hS6, hS7⟩ := hS; go_simp; all_goals (with_reducible rfl)
      (try simp only [Act.put, List.setIfInBounds_toArray, List.set_cons_zero, List.set_cons_succ])
      refine wpAnyH_take (i := 6) (oi := { dst := some 31, op := Op.load 57 (Operand.tmp 5), type := 57, pos := "law.go:180", after := #[{ on := 4, ground := Ground.guard }], guard := some (4, false) }) (v := ?_) rfl (by kernel_rfl) (by kernel_rfl) (by kernel_rfl) (fun _ _ _ h => h) (Or.inl ⟨by rfl, ?_⟩) hHeld ?_
      rotate_left
      · intro w' hS; obtain ⟨⟨hS0, hS1⟩, ⟨hS2, hS3, hS4⟩, hS5, hS6, hS7⟩ := hS; go_simp; all_goals (with_reducible rfl)
      (try simp only [Act.put, List.setIfInBounds_toArray, List.set_cons_zero, List.set_cons_succ])
      refine wpAnyH_take (i := 7) (oi := { dst := some 32, op := Op.load 3 (Operand.tmp 9), type := 3, pos := "law.go:180", after := #[{ on := 4, ground := Ground.guard }], guard := some (4, false) }) (v := ?_) rfl (by kernel_rfl) (by kernel_rfl) (by kernel_rfl) (fun _ _ _ h => h) (Or.inl ⟨by rfl, ?_⟩) hHeld ?_
      rotate_left
      · intro w' hS; obtain ⟨⟨hS0, hS1⟩, ⟨hS2, hS3, hS4⟩, hS5, hS6, hS7⟩ := hS; go_simp; all_goals (with_reducible rfl)
      (try simp only [Act.put, List.setIfInBounds_toArray, List.set_cons_zero, List.set_cons_succ])
      refine wpAnyH_take (i := 8) (oi := { dst := some 33, op := Op.indexAddr 57 (Operand.tmp 31) (Operand.tmp 32), type := 0, pos := "law.go:180", after := #[{ on := 6, ground := Ground.data }, { on := 7, ground := Ground.data }, { on := 4, ground := Ground.guard }], guard := some (4, false) }) (v := ?_) rfl (by kernel_rfl) (by kernel_rfl) (by kernel_rfl) (fun _ _ _ h => h) (Or.inl ⟨by rfl, ?_⟩) hHeld ?_
      rotate_left
      · intro w' hS; obtain ⟨⟨hS0, hS1⟩, ⟨hS2, hS3, hS4⟩, hS5, hS6, hS7⟩ := hS; go_simp; all_goals (with_reducible rfl)
      (try simp only [Act.put, List.setIfInBounds_toArray, List.set_cons_zero, List.set_cons_succ])
      refine wpAnyH_take (i := 9) (oi := { dst := some 34, op := Op.load 34 (Operand.tmp 33), type := 34, pos := "law.go:180", after := #[{ on := 8, ground := Ground.data }, { on := 4, ground := Ground.guard }], guard := some (4, false) }) (v := ?_) rfl (by kernel_rfl) (by kernel_rfl) (by kernel_rfl) (fun _ _ _ h => h) (Or.inl ⟨by rfl, ?_⟩) hHeld ?_
      rotate_left
      · intro w' hS; obtain ⟨⟨hS0, hS1⟩, ⟨hS2, hS3, hS4⟩, hS5, hS6, hS7⟩ := hS; go_simp; all_goals (with_reducible rfl)
      (try simp only [Act.put, List.setIfInBounds_toArray, List.set_cons_zero, List.set_cons_succ])
      refine wpAnyH_ready (rs := [10]) (by kernel_rfl) (by simp) ?_
      refine AllReadyH.cons (o := { dst := some 35, op := Op.call { callee := Callee.value (Operand.func 31), args := #[Operand.tmp 30, Operand.tmp 34], argTypes := #[34, 34] }, type := 4, pos := "law.go:180", after := #[{ on := 5, ground := Ground.data }, { on := 9, ground := Ground.data }, { on := 4, ground := Ground.chain }, { on := 4, ground := Ground.guard }], guard := some (4, false) }) rfl (fun K hK => ?_) AllReadyH.nil
      go_simp
      go_at_call 31
      refine (HCR.out _ (below_drew (Below.refl _ _))).mono ?_
      rintro e Z ⟨rfl, hbz⟩
      have HBZ := Aside0.mk (show Below X.heap.size X Z from (below_drew (Below.refl _ _)).trans hbz)
      clear hbz
      refine hK.out _ _ (MKS.out _ HBZ.out) (fun hHeld => ?_)
      clear hK K
      (try simp only [Act.put, List.setIfInBounds_toArray, List.set_cons_zero, List.set_cons_succ])
      refine wpAnyH_take (i := 11) (oi := { dst := some 36, op := Op.unOp UnOp.not 4 (Operand.tmp 35), type := 4, pos := "law.go:180", after := #[{ on := 10, ground := Ground.data }, { on := 4, ground := Ground.guard }], guard := some (4, false) }) (v := ?_) rfl (by kernel_rfl) (by kernel_rfl) (by kernel_rfl) (fun _ _ _ h => h) (Or.inl ⟨by rfl, ?_⟩) hHeld ?_
      rotate_left
      · intro w' hS; obtain ⟨⟨hS0, hS1⟩, ⟨hS2, hS3, hS4⟩, hS5, hS6, hS7⟩ := hS; go_simp; all_goals (with_reducible rfl)
      (try simp only [Act.put, List.setIfInBounds_toArray, List.set_cons_zero, List.set_cons_succ])
      refine wpAnyH_take (i := 12) (oi := { dst := some 37, op := Op.pick (Operand.tmp 29) (Operand.const (Value.bool true)) (Operand.tmp 36), type := 4, pos := "law.go:180", after := #[{ on := 4, ground := Ground.data }, { on := 11, ground := Ground.data }], guard := none }) (v := ?_) rfl (by kernel_rfl) (by kernel_rfl) (by kernel_rfl) (fun _ _ _ h => h) (Or.inl ⟨by rfl, ?_⟩) hHeld ?_
      rotate_left
      · intro w' hS; obtain ⟨⟨hS0, hS1⟩, ⟨hS2, hS3, hS4⟩, hS5, hS6, hS7⟩ := hS; go_simp; all_goals (with_reducible rfl)
      (try simp only [Act.put, List.setIfInBounds_toArray, List.set_cons_zero, List.set_cons_succ])
      refine wpAnyH_done (by kernel_rfl) ?_ _
      (try simp only [Act.put, List.setIfInBounds_toArray, List.set_cons_zero, List.set_cons_succ])
      refine Go.Proofs.QuietRound.Calm.normal ?_
      have HIZ := Aside0.mk (show Rt 3 wt1.heap.size [.int .i64 (pre.length : Int)] Z from (HBZ.out.block _ HI.out.lt).trans HI.out)
      have c9 := HIZ.out.cell 0 _ rfl
      have f9 := HIZ.out.free 0
      have hw1 : wrap64 ((pre.length : Int) + 1) = ((pre.length : Int) + 1) := by have := HPL.out; have := HL2.out; unfold wrap64; omega
      have HEND := Aside0.mk (show KeepsOthers X (Z.setCell ⟨wt1.heap.size, 0, none⟩ (.int .i64 ((pre.length : Int) + 1))) ∧ Below wt1.heap.size X (Z.setCell ⟨wt1.heap.size, 0, none⟩ (.int .i64 ((pre.length : Int) + 1))) ∧ Rt 3 wt1.heap.size [.int .i64 ((pre ++ [((.slice Ax xk.length cx, xk, xt, xb) : El)]).length : Int)] (Z.setCell ⟨wt1.heap.size, 0, none⟩ (.int .i64 ((pre.length : Int) + 1))) ∧ Below wt1.heap.size wt1 (Z.setCell ⟨wt1.heap.size, 0, none⟩ (.int .i64 ((pre.length : Int) + 1))) from
        ⟨(Below.others HBZ.out).trans (KeepsOthers.setCell _ _ _), (HBZ.out.mono HBX.out.size).setCell (p := ⟨wt1.heap.size, 0, none⟩) (Nat.le_refl _) _, by
          rw [HIZ.out.set 0, List.length_append, List.length_singleton]
          exact HIZ.out.row [.int .i64 ((pre.length : Int) + 1)], (HBX.out.trans (HBZ.out.mono HBX.out.size)).setCell (p := ⟨wt1.heap.size, 0, none⟩) (Nat.le_refl _) _⟩)
      clear MKS HCR q1 q2 q3 q4 hHeld
      gi_wp2_with fail
      exact HEND.out
    case stop => exact fun _ _ _ _ _ _ h => h.elim
    case done =>
      rintro D1 xs wt2 hD hxs ⟨hi, hBX⟩ hKD
      have hxl : xs.length = L := by rw [← HLL.out, ← hxs, List.length_map]
      rw [hxl] at hi
      have HB_2 := Aside0.mk (HB_1.out.trans (hBX.mono HB_1.out.size))
      have HG_2 := Aside0.mk (show wt2.cell? ⟨g, 0, none⟩ = some (.int .i64 z) from (hBX.cell (p := ⟨g, 0, none⟩) hgl).trans HG_1.out)
      have HR5_2 := Aside0.mk (show Rt 57 b5 [.slice Aw L cw] wt2 from (hBX.block _ HR5_1.out.lt).trans HR5_1.out)
      have HR6_2 := Aside0.mk (show Rt 4 b6 [.bool false] wt2 from (hBX.block _ HR6_1.out.lt).trans HR6_1.out)
      have HW_2 := Aside0.mk (Kd.R_below HW_1.out hBX)
      have HM_2 := Aside0.mk (show Marked (D1 :: D0 :: []) wt2 ∧ ∀ E ∈ D1 :: D0 :: [], W.heap.size ≤ E ∧ E < wt2.heap.size from by
        have h1 := HM_1.out.1.below hBX (fun E hE => (HM_1.out.2 E hE).2)
        have h2 := hBX.size
        refine ⟨h1.more hKD (fun E hE => by have := (HM_1.out.2 E hE).2; omega), fun E hE => ?_⟩
        rcases List.mem_cons.1 hE with rfl | hE
        · exact ⟨by have := HB_1.out.size; omega, (Array.getElem?_eq_some_iff.1 hKD).1⟩
        · have := HM_1.out.2 E hE
          exact ⟨this.1, by omega⟩)
      have x9 := hi.cell 0 _ rfl
      have x5 := HR5_2.out.cell 0 _ rfl
      clear hi hBX hKD hxs hxl hgl hbv hr9 hsz hseq hD HB_1 HG_1 HR5_1 HR6_1 HW_1 HM_1
      have ent2 : ({ target := .collected D1, args := #[] } : Deferred) = ent D1 := rfl
      go_wp2_with fail
      rw [rounds_succ]
      go_wp2_with fail
      obtain ⟨hf, hhf⟩ : ∃ hf : Int, wrap64 ((L : Int) / 2) = hf := ⟨_, rfl⟩
      rw [hhf]
      have hra : Rt 3 wt2.heap.size [.int .i64 hf] (wt2.alloc (.cells #[.int .i64 hf] 3)) := heap_alloc_new wt2 _
      have hba : Below wt2.heap.size wt2 (wt2.alloc (.cells #[.int .i64 hf] 3)) := below_alloc (Below.refl _ _) _
      have hsa : (wt2.alloc (.cells #[.int .i64 hf] 3)).heap.size = wt2.heap.size + 1 := by simp
      rw [← hsa]
      have HB_3 := Aside0.mk (HB_2.out.trans (hba.mono HB_2.out.size))
      have HG_3 := Aside0.mk (show (wt2.alloc (.cells #[.int .i64 hf] 3)).cell? ⟨g, 0, none⟩ = some (.int .i64 z) from (hba.cell (p := ⟨g, 0, none⟩) (World.block_lt_of_cell? _ _ HG_2.out)).trans HG_2.out)
      have HR5_3 := Aside0.mk (show Rt 57 b5 [.slice Aw L cw] (wt2.alloc (.cells #[.int .i64 hf] 3)) from (hba.block _ HR5_2.out.lt).trans HR5_2.out)
      have HR6_3 := Aside0.mk (show Rt 4 b6 [.bool false] (wt2.alloc (.cells #[.int .i64 hf] 3)) from (hba.block _ HR6_2.out.lt).trans HR6_2.out)
      have HW_3 := Aside0.mk (Kd.R_below HW_2.out hba)
      have HM_3 := Aside0.mk (show Marked (D1 :: D0 :: []) (wt2.alloc (.cells #[.int .i64 hf] 3)) ∧ ∀ E ∈ D1 :: D0 :: [], W.heap.size ≤ E ∧ E < (wt2.alloc (.cells #[.int .i64 hf] 3)).heap.size from
        ⟨HM_2.out.1.below hba (fun E hE => (HM_2.out.2 E hE).2), fun E hE => ⟨(HM_2.out.2 E hE).1, by have := (HM_2.out.2 E hE).2; have := hba.size; omega⟩⟩)
      have HR11 := Aside0.mk hra
      have HR11L := Aside0.mk (show wt2.heap.size < (wt2.alloc (.cells #[.int .i64 hf] 3)).heap.size by omega)
      obtain ⟨b11, hb11⟩ : ∃ b11, wt2.heap.size = b11 := ⟨_, rfl⟩
      rw [hb11] at HR11 HR11L
      rw [hb11]
      clear hra hba hsa hhf hb11 HB_2 HG_2 HR5_2 HR6_2 HW_2 HM_2 x9 x5
      generalize wt2.alloc (.cells #[.int .i64 hf] 3) = wt3 at *
      have hgl : g < wt3.heap.size := World.block_lt_of_cell? _ _ HG_3.out
      have hbv : Below wt3.heap.size wt3 (wt3.alloc (.cells #[.int .i64 0] 3)) := below_alloc (Below.refl _ _) _
      have hr9 : Rt 3 wt3.heap.size [.int .i64 0] (wt3.alloc (.cells #[.int .i64 0] 3)) := heap_alloc_new wt3 _
      have hsz : (wt3.alloc (.cells #[.int .i64 0] 3)).heap.size = wt3.heap.size + 1 := by simp
      have hseq := choices_seq_any 2 (by decide) g z wt3 hgl HG_3.out
      rw [HCL.out] at hseq
      refine (wpIn_wide (n := 3)).1 ?_
      refine range_one (n := 3) (enc := fun (x : El) => .agg #[x.1, .int .i64 x.2.2.1, .int .i64 x.2.2.2]) (G := With wt3.heap.size cl) (Kp := Below wt3.heap.size) (S := fun xs => xs.map key = cl) (Sp := fun _ => True) (w0 := wt3) rfl (by decide) rfl trivial (Go.Proofs.enters_of Tryd.func40 (by kernel_rfl) rfl)
        hseq (fun h k => h.trans k) (fun X lp o o' hl h h1 h2 => belowK_b (w := (wt3.alloc (.cells #[.int .i64 0] 3))) (by omega) X lp o o' hl h h1 h2) hbv
        (fun (pre : List El) X => Rt 3 wt3.heap.size [.int .i64 (pre.length : Int)] X ∧ Below wt3.heap.size wt3 X) (fun c (pre : List El) X => c = .exit 4 ∧ Below wt3.heap.size wt3 X)
        (OwnFrom.and (Rt.own 3 wt3.heap.size (fun (pre : List El) => [.int .i64 (pre.length : Int)]) _) (ownFrom_below (Nat.le_refl _) (by omega))) (fun c => OwnFrom.and (ownFrom_pure _ _) (ownFrom_below (Nat.le_refl _) (by omega))) (fun pre => with_own _ _ _ pre) ⟨hr9, hbv⟩ 13 Cur (fun b x => cur_own _ b x) (fun A B hs hb => hb.mono (by omega)) ?assign ?body ?done ?stop
      case assign =>
        rintro lp pre ⟨xv, xk, xt, xb⟩ X K hX ⟨hpre, hRx⟩ hK
        simp only at hRx hK ⊢
        obtain ⟨Ax, cx, ex⟩ := Kd.R_slice hRx
        subst ex
        simp only [List.setIfInBounds_toArray, List.set_cons_zero, List.set_cons_succ] at hK ⊢
        refine Go.Proofs.QuietRound.region_list_round lp (fun ⟨_, _, h⟩ => h) (Go.Proofs.QuietRound.no_defers (by kernel_rfl)) ?_
        refine wpList_runAlloc rfl 34 rfl (ptr X.heap.size) (alloc34 _ X) ?_
        simp only [Act.put, List.setIfInBounds_toArray, List.set_cons_zero, List.set_cons_succ]
        refine wpList_store_row rfl 34 (.tmp 13) (.tmp 48) rfl X.heap.size [.slice Ax xk.length cx, .int .i64 xt, .int .i64 xb].toArray rfl rfl 34 [.slice none 0 0, .int .i64 0, .int .i64 0].toArray (heap_alloc_new X _) size34' rfl (by simp [Value.oneCell']) ?_
        simp only [Act.put, List.setIfInBounds_toArray, List.set_cons_zero, List.set_cons_succ]
        refine wpList_nil ?_
        have hra : Rt 34 X.heap.size [.slice none 0 0, .int .i64 0, .int .i64 0] (X.alloc (.cells [.slice none 0 0, .int .i64 0, .int .i64 0].toArray 34)) := heap_alloc_new X _
        exact hK X.heap.size _ (Nat.le_refl _) (hra.row [.slice Ax xk.length cx, .int .i64 xt, .int .i64 xb]) (below_setRow' (below_alloc (Below.refl _ _) _) (Nat.le_refl _) _)
      case body =>
        rintro lp pre ⟨xv, xk, xt, xb⟩ b7 X hb7 ⟨hi, hBX⟩ ⟨hpre, hRx⟩ hCur
        simp only at hRx ⊢
        obtain ⟨Ax, cx, ex⟩ := Kd.R_slice hRx
        subst ex
        simp only [List.setIfInBounds_toArray, List.set_cons_zero, List.set_cons_succ]
        have hget : cl[pre.length]? = some ((xk, xt, xb) : Ck) := by
          obtain ⟨rest, hrest⟩ := hpre
          rw [← hrest]
          simp [key]
        have hlen : pre.length < L := by
          rw [← HLL.out]
          exact (List.getElem?_eq_some_iff.1 hget).1
        have HKX := Aside0.mk (show xk.length ≤ 10 from HKE.out (xk, xt, xb) (by rw [HCL.out]; exact List.mem_of_getElem? hget))
        have hWX := Kd.R_below HW_3.out (show Below wt3.heap.size wt3 X from hBX)
        obtain ⟨go, Ak, ckp, rfl, hnc, hlk, hCk, g0, g1, g2⟩ := seen_at hWX pre.length ((xk, xt, xb) : Ck) hget
        have HCK := Aside0.mk hCk
        have HLK := Aside0.mk hlk
        have HRX := Aside0.mk hRx
        have HCUR := Aside0.mk hCur
        have HI := Aside0.mk hi
        have HBX := Aside0.mk hBX
        have HB7 := Aside0.mk (show wt3.heap.size < b7 by omega)
        have r5 : Rt 57 b5 [.slice (some ⟨go, 0, none⟩) L cw] X := (hBX.block _ HR5_3.out.lt).trans HR5_3.out
        have HR5X := Aside0.mk r5
        have HGO := Aside0.mk (And.intro g0 (And.intro g1 g2))
        have MKS := Aside0.mk (show ∀ w', Below X.heap.size X w' → (fun w' => (w'.cell? ⟨wt3.heap.size, 0, none⟩ = some (.int .i64 (pre.length : Int)) ∧ w'.cell? ⟨b5, 0, none⟩ = some (.slice (some ⟨go, 0, none⟩) L cw)) ∧ (w'.cell? ⟨go, pre.length * 3, none⟩ = some (.slice Ak xk.length ckp) ∧ w'.cell? ⟨go, pre.length * 3 + 1, none⟩ = some (.int .i64 xt) ∧ w'.cell? ⟨go, pre.length * 3 + 2, none⟩ = some (.int .i64 xb)) ∧ w'.cell? ⟨b7, 0, none⟩ = some (.slice Ax xk.length cx) ∧ w'.cell? ⟨b7, 1, none⟩ = some (.int .i64 xt) ∧ w'.cell? ⟨b7, 2, none⟩ = some (.int .i64 xb)) w' from fun w' hb => by
          have r9 : Rt 3 wt3.heap.size [.int .i64 (pre.length : Int)] w' := (hb.block _ HI.out.lt).trans HI.out
          have r5 : Rt 57 b5 [.slice (some ⟨go, 0, none⟩) L cw] w' := (hb.block _ HR5X.out.lt).trans HR5X.out
          have r7 : Rt 34 b7 [.slice Ax xk.length cx, .int .i64 xt, .int .i64 xb] w' := (hb.block _ (show Rt 34 b7 _ X from HCUR.out).lt).trans HCUR.out
          have hgo := World.block_lt_of_cell? _ _ HGO.out.1
          exact ⟨⟨r9.cell 0 _ rfl, r5.cell 0 _ rfl⟩, ⟨(hb.cell (p := ⟨go, pre.length * 3, none⟩) hgo).trans HGO.out.1, (hb.cell (p := ⟨go, pre.length * 3 + 1, none⟩) hgo).trans HGO.out.2.1, (hb.cell (p := ⟨go, pre.length * 3 + 2, none⟩) hgo).trans HGO.out.2.2⟩, r7.cell 0 _ rfl, r7.cell 1 _ rfl, r7.cell 2 _ rfl⟩)
        have HCR := Aside0.mk (fun W' (hb : Below X.heap.size X W') => (show Calls Tryd.prog 31 #[.agg #[.slice Ax xk.length cx, .int .i64 xt, .int .i64 xb], .agg #[.slice Ak xk.length ckp, .int .i64 xt, .int .i64 xb]] W' fun e w' => e = .returned (.bool true) ∧ Below W'.heap.size W' w' from by
          obtain ⟨A', c', e1, hl1, hC1⟩ := Kd.R_reads HRX.out
          injection e1 with e1 _ e3
          subst e1 e3
          have hc := crashes_ok ((xk, xt, xb) : Ck) ((xk, xt, xb) : Ck) (by have := HKX.out; show xk.length < _; omega)
          rw [decide_eq_true rfl] at hc
          exact larderlaw06_crashes.calls (xk.length + 1) _ cx xk xt xb Ak ckp xk xt xb true W' (Kd.C_below hC1 hb) hl1 (Kd.C_below HCK.out hb) HLK.out hc))
        have q1 : decide (L ≤ pre.length) = false := decide_eq_false (by omega)
        have q2 : decide ((L : Int) ≤ (pre.length : Int)) = false := decide_eq_false (by omega)
        have q3 : (pre.length : Int) < (L : Int) := by omega
        have q4 : (0 : Int) ≤ (pre.length : Int) := by omega
        have HPL := Aside0.mk hlen
        clear hi hBX hpre hRx hCur hget hlen hWX hnc hlk hCk g0 g1 g2 r5 hb7
        gi_wp2_with fail
        refine Go.Proofs.QuietRound.region_held_round_np lp (S := fun w' => (w'.cell? ⟨wt3.heap.size, 0, none⟩ = some (.int .i64 (pre.length : Int)) ∧ w'.cell? ⟨b5, 0, none⟩ = some (.slice (some ⟨go, 0, none⟩) L cw)) ∧ (w'.cell? ⟨go, pre.length * 3, none⟩ = some (.slice Ak xk.length ckp) ∧ w'.cell? ⟨go, pre.length * 3 + 1, none⟩ = some (.int .i64 xt) ∧ w'.cell? ⟨go, pre.length * 3 + 2, none⟩ = some (.int .i64 xb)) ∧ w'.cell? ⟨b7, 0, none⟩ = some (.slice Ax xk.length cx) ∧ w'.cell? ⟨b7, 1, none⟩ = some (.int .i64 xt) ∧ w'.cell? ⟨b7, 2, none⟩ = some (.int .i64 xb)) (by kernel_rfl) (Go.Proofs.QuietRound.no_defers (by kernel_rfl)) (MKS.out _ (below_drew (Below.refl _ _))) (fun hHeld => ?_)
        refine wpAnyH_take (i := 0) (oi := { dst := some 49, op := Op.load 3 (Operand.tmp 12), type := 3, pos := "law.go:192", after := #[], guard := none }) (v := ?_) rfl (by kernel_rfl) (by kernel_rfl) (by kernel_rfl) (fun _ _ _ h => h) (Or.inl ⟨by rfl, ?_⟩) hHeld ?_
        rotate_left
        · intro w' hS; obtain ⟨⟨hS0, hS1⟩, ⟨hS2, hS3, hS4⟩, hS5, hS6, hS7⟩ := hS; go_simp; all_goals (with_reducible rfl)
        (try simp only [Act.put, List.setIfInBounds_toArray, List.set_cons_zero, List.set_cons_succ])
        refine wpAnyH_take (i := 1) (oi := { dst := some 50, op := Op.load 57 (Operand.tmp 5), type := 57, pos := "law.go:192", after := #[], guard := none }) (v := ?_) rfl (by kernel_rfl) (by kernel_rfl) (by kernel_rfl) (fun _ _ _ h => h) (Or.inl ⟨by rfl, ?_⟩) hHeld ?_
        rotate_left
        · intro w' hS; obtain ⟨⟨hS0, hS1⟩, ⟨hS2, hS3, hS4⟩, hS5, hS6, hS7⟩ := hS; go_simp; all_goals (with_reducible rfl)
        (try simp only [Act.put, List.setIfInBounds_toArray, List.set_cons_zero, List.set_cons_succ])
        refine wpAnyH_take (i := 2) (oi := { dst := some 51, op := Op.call { callee := Callee.builtin Builtin.len, args := #[Operand.tmp 50], argTypes := #[57] }, type := 3, pos := "law.go:192", after := #[{ on := 1, ground := Ground.data }], guard := none }) (v := ?_) rfl (by kernel_rfl) (by kernel_rfl) (by kernel_rfl) (fun _ _ _ h => h) (Or.inl ⟨by rfl, ?_⟩) hHeld ?_
        rotate_left
        · intro w' hS; obtain ⟨⟨hS0, hS1⟩, ⟨hS2, hS3, hS4⟩, hS5, hS6, hS7⟩ := hS; go_simp; all_goals (with_reducible rfl)
        (try simp only [Act.put, List.setIfInBounds_toArray, List.set_cons_zero, List.set_cons_succ])
        refine wpAnyH_take (i := 3) (oi := { dst := some 52, op := Op.binOp BinOp.geq 3 (Operand.tmp 49) (Operand.tmp 51) 3, type := 4, pos := "law.go:192", after := #[{ on := 0, ground := Ground.data }, { on := 2, ground := Ground.data }], guard := none }) (v := ?_) rfl (by kernel_rfl) (by kernel_rfl) (by kernel_rfl) (fun _ _ _ h => h) (Or.inl ⟨by rfl, ?_⟩) hHeld ?_
        rotate_left
        · intro w' hS; obtain ⟨⟨hS0, hS1⟩, ⟨hS2, hS3, hS4⟩, hS5, hS6, hS7⟩ := hS; go_simp; all_goals (with_reducible rfl)
        (try simp only [Act.put, List.setIfInBounds_toArray, List.set_cons_zero, List.set_cons_succ])
        refine wpAnyH_take (i := 4) (oi := { dst := some 53, op := Op.move (Operand.tmp 52), type := 4, pos := "law.go:192", after := #[{ on := 3, ground := Ground.data }], guard := none }) (v := ?_) rfl (by kernel_rfl) (by kernel_rfl) (by kernel_rfl) (fun _ _ _ h => h) (Or.inl ⟨by rfl, ?_⟩) hHeld ?_
        rotate_left
        · intro w' hS; obtain ⟨⟨hS0, hS1⟩, ⟨hS2, hS3, hS4⟩, hS5, hS6, hS7⟩ := hS; go_simp; all_goals (with_reducible rfl)
        (try simp only [Act.put, List.setIfInBounds_toArray, List.set_cons_zero, List.set_cons_succ])
        refine wpAnyH_take (i := 5) (oi := { dst := some 54, op := Op.load 34 (Operand.tmp 13), type := 34, pos := "law.go:192", after := #[{ on := 4, ground := Ground.guard }], guard := some (4, false) }) (v := ?_) rfl (by kernel_rfl) (by kernel_rfl) (by kernel_rfl) (fun _ _ _ h => h) (Or.inl ⟨by rfl, ?_⟩) hHeld ?_
        rotate_left
        · intro w' hS; obtain ⟨⟨hS0, hS1⟩, ⟨hS2, hS3, hS4⟩, hS5, hS6, hS7⟩ := hS; go_simp; all_goals (with_reducible rfl)
        (try simp only [Act.put, List.setIfInBounds_toArray, List.set_cons_zero, List.set_cons_succ])
        refine wpAnyH_take (i := 6) (oi := { dst := some 55, op := Op.load 57 (Operand.tmp 5), type := 57, pos := "law.go:192", after := #[{ on := 4, ground := Ground.guard }], guard := some (4, false) }) (v := ?_) rfl (by kernel_rfl) (by kernel_rfl) (by kernel_rfl) (fun _ _ _ h => h) (Or.inl ⟨by rfl, ?_⟩) hHeld ?_
        rotate_left
        · intro w' hS; obtain ⟨⟨hS0, hS1⟩, ⟨hS2, hS3, hS4⟩, hS5, hS6, hS7⟩ := hS; go_simp; all_goals (with_reducible rfl)
        (try simp only [Act.put, List.setIfInBounds_toArray, List.set_cons_zero, List.set_cons_succ])
        refine wpAnyH_take (i := 7) (oi := { dst := some 56, op := Op.load 3 (Operand.tmp 12), type := 3, pos := "law.go:192", after := #[{ on := 4, ground := Ground.guard }], guard := some (4, false) }) (v := ?_) rfl (by kernel_rfl) (by kernel_rfl) (by kernel_rfl) (fun _ _ _ h => h) (Or.inl ⟨by rfl, ?_⟩) hHeld ?_
        rotate_left
        · intro w' hS; obtain ⟨⟨hS0, hS1⟩, ⟨hS2, hS3, hS4⟩, hS5, hS6, hS7⟩ := hS; go_simp; all_goals (with_reducible rfl)
        (try simp only [Act.put, List.setIfInBounds_toArray, List.set_cons_zero, List.set_cons_succ])
        refine wpAnyH_take (i := 8) (oi := { dst := some 57, op := Op.indexAddr 57 (Operand.tmp 55) (Operand.tmp 56), type := 0, pos := "law.go:192", after := #[{ on := 6, ground := Ground.data }, { on := 7, ground := Ground.data }, { on := 4, ground := Ground.guard }], guard := some (4, false) }) (v := ?_) rfl (by kernel_rfl) (by kernel_rfl) (by kernel_rfl) (fun _ _ _ h => h) (Or.inl ⟨by rfl, ?_⟩) hHeld ?_
        rotate_left
        · intro w' hS; obtain ⟨⟨hS0, hS1⟩, ⟨hS2, hS3, hS4⟩, hS5, hS6, hS7⟩ := hS; go_simp; all_goals (with_reducible rfl)
        (try simp only [Act.put, List.setIfInBounds_toArray, List.set_cons_zero, List.set_cons_succ])
        refine wpAnyH_take (i := 9) (oi := { dst := some 58, op := Op.load 34 (Operand.tmp 57), type := 34, pos := "law.go:192", after := #[{ on := 8, ground := Ground.data }, { on := 4, ground := Ground.guard }], guard := some (4, false) }) (v := ?_) rfl (by kernel_rfl) (by kernel_rfl) (by kernel_rfl) (fun _ _ _ h => h) (Or.inl ⟨by rfl, ?_⟩) hHeld ?_
        rotate_left
        · intro w' hS; obtain ⟨⟨hS0, hS1⟩, ⟨hS2, hS3, hS4⟩, hS5, hS6, hS7⟩ := hS; go_simp; all_goals (with_reducible rfl)
        (try simp only [Act.put, List.setIfInBounds_toArray, List.set_cons_zero, List.set_cons_succ])
        refine wpAnyH_ready (rs := [10]) (by kernel_rfl) (by simp) ?_
        refine AllReadyH.cons (o := { dst := some 59, op := Op.call { callee := Callee.value (Operand.func 31), args := #[Operand.tmp 54, Operand.tmp 58], argTypes := #[34, 34] }, type := 4, pos := "law.go:192", after := #[{ on := 5, ground := Ground.data }, { on := 9, ground := Ground.data }, { on := 4, ground := Ground.chain }, { on := 4, ground := Ground.guard }], guard := some (4, false) }) rfl (fun K hK => ?_) AllReadyH.nil
        go_simp
        go_at_call 31
        refine (HCR.out _ (below_drew (Below.refl _ _))).mono ?_
        rintro e Z ⟨rfl, hbz⟩
        have HBZ := Aside0.mk (show Below X.heap.size X Z from (below_drew (Below.refl _ _)).trans hbz)
        clear hbz
        refine hK.out _ _ (MKS.out _ HBZ.out) (fun hHeld => ?_)
        clear hK K
        (try simp only [Act.put, List.setIfInBounds_toArray, List.set_cons_zero, List.set_cons_succ])
        refine wpAnyH_take (i := 11) (oi := { dst := some 60, op := Op.unOp UnOp.not 4 (Operand.tmp 59), type := 4, pos := "law.go:192", after := #[{ on := 10, ground := Ground.data }, { on := 4, ground := Ground.guard }], guard := some (4, false) }) (v := ?_) rfl (by kernel_rfl) (by kernel_rfl) (by kernel_rfl) (fun _ _ _ h => h) (Or.inl ⟨by rfl, ?_⟩) hHeld ?_
        rotate_left
        · intro w' hS; obtain ⟨⟨hS0, hS1⟩, ⟨hS2, hS3, hS4⟩, hS5, hS6, hS7⟩ := hS; go_simp; all_goals (with_reducible rfl)
        (try simp only [Act.put, List.setIfInBounds_toArray, List.set_cons_zero, List.set_cons_succ])
        refine wpAnyH_take (i := 12) (oi := { dst := some 61, op := Op.pick (Operand.tmp 53) (Operand.const (Value.bool true)) (Operand.tmp 60), type := 4, pos := "law.go:192", after := #[{ on := 4, ground := Ground.data }, { on := 11, ground := Ground.data }], guard := none }) (v := ?_) rfl (by kernel_rfl) (by kernel_rfl) (by kernel_rfl) (fun _ _ _ h => h) (Or.inl ⟨by rfl, ?_⟩) hHeld ?_
        rotate_left
        · intro w' hS; obtain ⟨⟨hS0, hS1⟩, ⟨hS2, hS3, hS4⟩, hS5, hS6, hS7⟩ := hS; go_simp; all_goals (with_reducible rfl)
        (try simp only [Act.put, List.setIfInBounds_toArray, List.set_cons_zero, List.set_cons_succ])
        refine wpAnyH_done (by kernel_rfl) ?_ _
        (try simp only [Act.put, List.setIfInBounds_toArray, List.set_cons_zero, List.set_cons_succ])
        refine Go.Proofs.QuietRound.Calm.normal ?_
        have HIZ := Aside0.mk (show Rt 3 wt3.heap.size [.int .i64 (pre.length : Int)] Z from (HBZ.out.block _ HI.out.lt).trans HI.out)
        have c9 := HIZ.out.cell 0 _ rfl
        have f9 := HIZ.out.free 0
        have hw1 : wrap64 ((pre.length : Int) + 1) = ((pre.length : Int) + 1) := by have := HPL.out; have := HL2.out; unfold wrap64; omega
        have HEND := Aside0.mk (show KeepsOthers X (Z.setCell ⟨wt3.heap.size, 0, none⟩ (.int .i64 ((pre.length : Int) + 1))) ∧ Below wt3.heap.size X (Z.setCell ⟨wt3.heap.size, 0, none⟩ (.int .i64 ((pre.length : Int) + 1))) ∧ Rt 3 wt3.heap.size [.int .i64 ((pre ++ [((.slice Ax xk.length cx, xk, xt, xb) : El)]).length : Int)] (Z.setCell ⟨wt3.heap.size, 0, none⟩ (.int .i64 ((pre.length : Int) + 1))) ∧ Below wt3.heap.size wt3 (Z.setCell ⟨wt3.heap.size, 0, none⟩ (.int .i64 ((pre.length : Int) + 1))) from
          ⟨(Below.others HBZ.out).trans (KeepsOthers.setCell _ _ _), (HBZ.out.mono HBX.out.size).setCell (p := ⟨wt3.heap.size, 0, none⟩) (Nat.le_refl _) _, by
            rw [HIZ.out.set 0, List.length_append, List.length_singleton]
            exact HIZ.out.row [.int .i64 ((pre.length : Int) + 1)], (HBX.out.trans (HBZ.out.mono HBX.out.size)).setCell (p := ⟨wt3.heap.size, 0, none⟩) (Nat.le_refl _) _⟩)
        clear MKS HCR q1 q2 q3 q4 hHeld
        have c12 : (Z.setCell ⟨wt3.heap.size, 0, none⟩ (.int .i64 ((pre.length : Int) + 1))).cell? ⟨wt3.heap.size, 0, none⟩ = some (.int .i64 ((pre.length : Int) + 1)) := World.cell?_setCell_same' Z _ _ (by rw [c9]; rfl)
        have h11 : Rt 3 b11 [.int .i64 hf] Z := ((HBX.out.trans (HBZ.out.mono HBX.out.size)).block _ HR11L.out).trans HR11.out
        have h11' : Rt 3 b11 [.int .i64 hf] (Z.setCell ⟨wt3.heap.size, 0, none⟩ (.int .i64 ((pre.length : Int) + 1))) := (Below.heap_setCell Z _ _ b11 (by have := HR11L.out; show b11 ≠ wt3.heap.size; omega)).trans h11
        have c11 := h11'.cell 0 _ rfl
        clear h11 h11'
        by_cases hh : hf < (pre.length : Int) + 1
        · have hh1 : decide (hf < (pre.length : Int) + 1) = true := decide_eq_true hh
          clear hh
          gi_wp2_with fail
          exact ⟨HEND.out.1, rfl, HEND.out.2.2.2⟩
        · have hh1 : decide (hf < (pre.length : Int) + 1) = false := decide_eq_false hh
          clear hh
          gi_wp2_with fail
          exact HEND.out
      case done =>
        rintro D3 xs wt4 hD hxs ⟨hi, hBX⟩ hKD
        have hxl : xs.length = L := by rw [← HLL.out, ← hxs, List.length_map]
        rw [hxl] at hi
        have HB_4 := Aside0.mk (HB_3.out.trans (hBX.mono HB_3.out.size))
        have HG_4 := Aside0.mk (show wt4.cell? ⟨g, 0, none⟩ = some (.int .i64 z) from (hBX.cell (p := ⟨g, 0, none⟩) hgl).trans HG_3.out)
        have HR5_4 := Aside0.mk (show Rt 57 b5 [.slice Aw L cw] wt4 from (hBX.block _ HR5_3.out.lt).trans HR5_3.out)
        have HR6_4 := Aside0.mk (show Rt 4 b6 [.bool false] wt4 from (hBX.block _ HR6_3.out.lt).trans HR6_3.out)
        have HW_4 := Aside0.mk (Kd.R_below HW_3.out hBX)
        have HM_4 := Aside0.mk (show Marked (D3 :: D1 :: D0 :: []) wt4 ∧ ∀ E ∈ D3 :: D1 :: D0 :: [], W.heap.size ≤ E ∧ E < wt4.heap.size from by
          have h1 := HM_3.out.1.below hBX (fun E hE => (HM_3.out.2 E hE).2)
          have h2 := hBX.size
          refine ⟨h1.more hKD (fun E hE => by have := (HM_3.out.2 E hE).2; omega), fun E hE => ?_⟩
          rcases List.mem_cons.1 hE with rfl | hE
          · exact ⟨by have := HB_3.out.size; omega, (Array.getElem?_eq_some_iff.1 hKD).1⟩
          · have := HM_3.out.2 E hE
            exact ⟨this.1, by omega⟩)
        have x9 := hi.cell 0 _ rfl
        have x5 := HR5_4.out.cell 0 _ rfl
        clear hi hBX hKD hxs hxl hgl hbv hr9 hsz hseq hD HB_3 HG_3 HR5_3 HR6_3 HW_3 HM_3
        have ent4 : ({ target := .collected D3, args := #[] } : Deferred) = ent D3 := rfl
        have x6 := HR6_4.out.cell 0 _ rfl
        have f6 := HR6_4.out.free 0
        go_wp2_with fail
        show LeavesInM Fence.wide 3 Tryd.prog Tryd.f54 _ _ ((D3 :: D1 :: D0 :: []).map ent) .returning _
        refine leaves_marks W.heap.size (D3 :: D1 :: D0 :: []) _ (HM_4.out.1.kept (KeepsOthers.setCell _ _ _)) (fun E hE => (HM_4.out.2 E hE).1) (by have := HB_4.out.size; simpa [World.setCell] using this) (fun W' h1 h2 => ?_)
        have hv := h1 ⟨b6, 0, none⟩ (.bool true) (World.cell?_setCell_same' wt4 ⟨b6, 0, none⟩ (.bool true) (by rw [x6]; rfl))
        refine ⟨.bool true, ?_, rfl, ?_⟩
        · simp [results, Tryd.f54, go_sem, hv]
        · exact (HB_4.out.setCell (p := ⟨b6, 0, none⟩) HB6E.out _).trans h2
      case stop =>
        rintro D3 c' xs wt4 hD _ ⟨rfl, hBX⟩ hKD
        have HB_4 := Aside0.mk (HB_3.out.trans (hBX.mono HB_3.out.size))
        have HG_4 := Aside0.mk (show wt4.cell? ⟨g, 0, none⟩ = some (.int .i64 z) from (hBX.cell (p := ⟨g, 0, none⟩) hgl).trans HG_3.out)
        have HR5_4 := Aside0.mk (show Rt 57 b5 [.slice Aw L cw] wt4 from (hBX.block _ HR5_3.out.lt).trans HR5_3.out)
        have HR6_4 := Aside0.mk (show Rt 4 b6 [.bool false] wt4 from (hBX.block _ HR6_3.out.lt).trans HR6_3.out)
        have HW_4 := Aside0.mk (Kd.R_below HW_3.out hBX)
        have HM_4 := Aside0.mk (show Marked (D3 :: D1 :: D0 :: []) wt4 ∧ ∀ E ∈ D3 :: D1 :: D0 :: [], W.heap.size ≤ E ∧ E < wt4.heap.size from by
          have h1 := HM_3.out.1.below hBX (fun E hE => (HM_3.out.2 E hE).2)
          have h2 := hBX.size
          refine ⟨h1.more hKD (fun E hE => by have := (HM_3.out.2 E hE).2; omega), fun E hE => ?_⟩
          rcases List.mem_cons.1 hE with rfl | hE
          · exact ⟨by have := HB_3.out.size; omega, (Array.getElem?_eq_some_iff.1 hKD).1⟩
          · have := HM_3.out.2 E hE
            exact ⟨this.1, by omega⟩)
        have x5 := HR5_4.out.cell 0 _ rfl
        clear hBX hKD hgl hbv hr9 hsz hseq hD HB_3 HG_3 HR5_3 HR6_3 HW_3 HM_3
        have ent4 : ({ target := .collected D3, args := #[] } : Deferred) = ent D3 := rfl
        refine wpIn_wide.2 ?_
        have x6 := HR6_4.out.cell 0 _ rfl
        have f6 := HR6_4.out.free 0
        go_wp2_with fail
        show LeavesInM Fence.wide 3 Tryd.prog Tryd.f54 _ _ ((D3 :: D1 :: D0 :: []).map ent) .returning _
        refine leaves_marks W.heap.size (D3 :: D1 :: D0 :: []) _ (HM_4.out.1.kept (KeepsOthers.setCell _ _ _)) (fun E hE => (HM_4.out.2 E hE).1) (by have := HB_4.out.size; simpa [World.setCell] using this) (fun W' h1 h2 => ?_)
        have hv := h1 ⟨b6, 0, none⟩ (.bool true) (World.cell?_setCell_same' wt4 ⟨b6, 0, none⟩ (.bool true) (by rw [x6]; rfl))
        refine ⟨.bool true, ?_, rfl, ?_⟩
        · simp [results, Tryd.f54, go_sem, hv]
        · exact (HB_4.out.setCell (p := ⟨b6, 0, none⟩) HB6E.out _).trans h2
end Go.Proofs.YtpaonoaedjkekaaDoor.Dk
