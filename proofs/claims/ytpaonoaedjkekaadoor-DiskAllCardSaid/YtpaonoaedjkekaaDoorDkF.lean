/- (*disk.Disk).Flush, walked. -/
import Derived.Test.YtpaonoaedjkekaaDoorDkOps
namespace Go.Proofs.YtpaonoaedjkekaaDoor.Dk
open Go Go.RowKit Go.Proofs.YtpaonoaedjkekaaDoor.PD Go.Proofs.YtpaonoaedjkekaaDoorW.PrintWords Go.Proofs.YtpaonoaedjkekaaDoorW.PrintLast Go.Proofs.YtpaonoaedjkekaaDoorW.PrintMore
set_option linter.unusedVariables false
set_option linter.unusedSimpArgs false
set_option maxHeartbeats 4000000
set_option maxRecDepth 100000
theorem wp_load83 {a : Act} {o : Oper} {W : World} {x : Operand} {K : Act → World → Prop} {Q : Exit → Act → World → Prop} (ho : o.op = .load 83 x) {g off : Nat} {vs : List Value} (hx : a.eval x = .pointer (some ⟨g, off, none⟩)) (hl : vs.length = 129) (hc : ∀ j v, vs[j]? = some v → W.cell? ⟨g, off + j, none⟩ = some v)
    (h : K (a.put o.dst (.agg vs.toArray)) W) : o.wp Tryd.prog a W K Q := by
  unfold Oper.wp
  rw [exec_load83 ho hx hl hc]
  exact h
theorem flush_at {h : Hd} {B : Nat} {fs ss : List Int} {A : Option Addr} {c : Nat} {ops : List (Int × List Int)} {W : World} (k : DkAt h B fs ss (.slice A ops.length c) ops W) (hF : Fl W) (hl : ops.length < 65536) :
    Calls Tryd.prog 29 #[ptr h.D] W fun e w' => e = .returned (.int .i64 0) ∧ ∃ A' c', DkAt h B fs ss (.slice A' (ops.length + 1) c') (ops ++ [flushOp]) w' ∧ Kept W w' (Own h (.slice A ops.length c)) ∧ Below B W w' ∧ ∀ j, (Value.slice A' (ops.length + 1) c').ownBlock = some j → (Value.slice A ops.length c).ownBlock = some j ∨ W.heap.size ≤ j := by
  have K := Aside0.mk k
  have HF := Aside0.mk hF
  have HL := Aside0.mk hl
  have cd := k.row.cell 2 _ rfl
  have n3 : decide ((65536 : Int) ≤ (ops.length : Int)) = false := decide_eq_false (by omega)
  clear k hF hl
  go_enter Tryd.func29, Tryd.ntmps29
  go_upto_region 5 with fail
  have K3 := Aside0.mk (K.out.stay (below_drew (Below.refl _ _)))
  have cd : W.drew.cell? ⟨h.D, 2, none⟩ = some (.slice A ops.length c) := K3.out.row.cell 2 _ rfl
  have cd2 : (W.drew.alloc (.cells (newOp (-1)).toArray 83)).cell? ⟨h.D, 2, none⟩ = some (.slice A ops.length c) := (K3.out.stay (below_alloc (Below.refl _ _) _)).row.cell 2 _ rfl
  have cd3 : (W.alloc (.cells (newOp (-1)).toArray 83)).cell? ⟨h.D, 2, none⟩ = some (.slice A ops.length c) := (K.out.stay (below_alloc (Below.refl _ _) _)).row.cell 2 _ rfl
  have HOPM := Aside0.mk (show kop.M W.drew B (fun _ => False) flushOp (newOp (-1)) from ⟨[.int .i64 (-1)], cellsB (List.replicate 128 0), rfl, rfl, Kd.arr_of_cells (List.length_replicate ..)⟩)
  have HBs := Aside0.mk K3.out.size
  have HLEN := Aside0.mk (show (ops.length + 1) * 136 ≤ 140737488355328 by have := HL.out; omega)
  have HNE := Aside0.mk (show some h.D ≠ (Value.slice A ops.length c).ownBlock from Kd.R_ne K3.out.o K3.out.row (by decide))
  -- region 11
  refine wp_region_any (by kernel_rfl) ?_
  change wpAny _ _ _ _ _ _ _ (World.drew _)
  refine wpAny_take (i := 0) (oi := { dst := some 11, op := Op.move (Operand.tmp 0), type := 25, pos := "disk.go:93", after := #[], guard := none }) (v := ?_) rfl (by kernel_rfl) (by kernel_rfl) (by kernel_rfl) (fun _ _ _ h => h) (Or.inl ⟨by rfl, ?_⟩) ?_
  rotate_left
  · intro w; go_simp; all_goals (with_reducible rfl)
  (try simp only [Act.put, List.setIfInBounds_toArray, List.set_cons_zero, List.set_cons_succ])
  refine wpAny_take (i := 1) (oi := { dst := some 12, op := Op.move (Operand.tmp 0), type := 25, pos := "disk.go:93", after := #[], guard := none }) (v := ?_) rfl (by kernel_rfl) (by kernel_rfl) (by kernel_rfl) (fun _ _ _ h => h) (Or.inl ⟨by rfl, ?_⟩) ?_
  rotate_left
  · intro w; go_simp; all_goals (with_reducible rfl)
  (try simp only [Act.put, List.setIfInBounds_toArray, List.set_cons_zero, List.set_cons_succ])
  refine wpAny_take (i := 2) (oi := { dst := some 13, op := Op.nilCheck (Operand.tmp 12), type := 0, pos := "disk.go:93", after := #[{ on := 1, ground := Ground.data }], guard := none }) (v := ?_) rfl (by kernel_rfl) (by kernel_rfl) (by kernel_rfl) (fun _ _ _ h => h) (Or.inl ⟨by rfl, ?_⟩) ?_
  rotate_left
  · intro w; go_simp; all_goals (with_reducible rfl)
  (try simp only [Act.put, List.setIfInBounds_toArray, List.set_cons_zero, List.set_cons_succ])
  refine wpAny_take (i := 3) (oi := { dst := some 14, op := Op.fieldAddr 77 (Operand.tmp 13) 2, type := 0, pos := "disk.go:93", after := #[{ on := 2, ground := Ground.data }], guard := none }) (v := ?_) rfl (by kernel_rfl) (by kernel_rfl) (by kernel_rfl) (fun _ _ _ h => h) (Or.inl ⟨by rfl, ?_⟩) ?_
  rotate_left
  · intro w; go_simp; all_goals (with_reducible rfl)
  (try simp only [Act.put, List.setIfInBounds_toArray, List.set_cons_zero, List.set_cons_succ])
  refine wpAny_ready (rs := [4, 5]) (by kernel_rfl) (by simp) ?_
  refine AllReady.cons (o := { dst := some 15, op := Op.load 75 (Operand.tmp 14), type := 75, pos := "disk.go:93", after := #[{ on := 3, ground := Ground.data }], guard := none }) rfl (fun K hK => ?w4) (AllReady.cons (o := { dst := some 16, op := Op.load 83 (Operand.global 0), type := 83, pos := "disk.go:93", after := #[], guard := none }) rfl (fun K hK => ?w5) AllReady.nil)
  case' w4 =>
    go_simp
    refine hK _ _ ?_
    clear hK K
    (try simp only [Act.put, List.setIfInBounds_toArray, List.set_cons_zero, List.set_cons_succ])
    refine wpAny_ready (rs := [5]) (by kernel_rfl) (by simp) ?_
    refine AllReady.cons (o := { dst := some 16, op := Op.load 83 (Operand.global 0), type := 83, pos := "disk.go:93", after := #[], guard := none }) rfl (fun K hK => ?_) AllReady.nil
    rw [if_pos (by rfl)]
    refine wp_load83 (x := .global 0) rfl rfl (newOp_len _) HF.out ?_
    refine hK _ _ ?_
    clear hK K
    (try simp only [Act.put, List.setIfInBounds_toArray, List.set_cons_zero, List.set_cons_succ])
    refine wpAny_ready (rs := [6]) (by kernel_rfl) (by simp) ?_
    refine AllReady.cons (o := { dst := some 17, op := Op.buildSlice 75 1 #[(0, Operand.tmp 16)], type := 75, pos := "disk.go:93", after := #[{ on := 5, ground := Ground.data }], guard := none }) rfl (fun K hK => ?_) AllReady.nil
    rw [if_pos (by rfl)]
    refine wp_runSlice 75 1 #[(0, Operand.tmp 16)] rfl (.slice (some ⟨W.drew.heap.size, 0, none⟩) 1 1) #[(0, .agg (newOp (-1)).toArray)] (by rw [List.map_toArray]; rfl) (show (Instr.buildSlice 75 1 #[(0, .agg (newOp (-1)).toArray)]).run Tryd.prog W.drew = .ok _ (W.drew.alloc (.cells (newOp (-1)).toArray 83)) from slice_op (-1) (List.replicate 128 0) (List.length_replicate ..) W.drew) ?_
    refine hK _ _ ?_
    clear hK K
    (try simp only [Act.put, List.setIfInBounds_toArray, List.set_cons_zero, List.set_cons_succ])
  case' w5 =>
    rw [if_pos (by rfl)]
    refine wp_load83 (x := .global 0) rfl rfl (newOp_len _) HF.out ?_
    refine hK _ _ ?_
    clear hK K
    (try simp only [Act.put, List.setIfInBounds_toArray, List.set_cons_zero, List.set_cons_succ])
    refine wpAny_ready (rs := [4, 6]) (by kernel_rfl) (by simp) ?_
    refine AllReady.cons (o := { dst := some 15, op := Op.load 75 (Operand.tmp 14), type := 75, pos := "disk.go:93", after := #[{ on := 3, ground := Ground.data }], guard := none }) rfl (fun K hK => ?w54) (AllReady.cons (o := { dst := some 17, op := Op.buildSlice 75 1 #[(0, Operand.tmp 16)], type := 75, pos := "disk.go:93", after := #[{ on := 5, ground := Ground.data }], guard := none }) rfl (fun K hK => ?w56) AllReady.nil)
  case' w54 =>
    go_simp
    refine hK _ _ ?_
    clear hK K
    (try simp only [Act.put, List.setIfInBounds_toArray, List.set_cons_zero, List.set_cons_succ])
    refine wpAny_ready (rs := [6]) (by kernel_rfl) (by simp) ?_
    refine AllReady.cons (o := { dst := some 17, op := Op.buildSlice 75 1 #[(0, Operand.tmp 16)], type := 75, pos := "disk.go:93", after := #[{ on := 5, ground := Ground.data }], guard := none }) rfl (fun K hK => ?_) AllReady.nil
    rw [if_pos (by rfl)]
    refine wp_runSlice 75 1 #[(0, Operand.tmp 16)] rfl (.slice (some ⟨W.drew.heap.size, 0, none⟩) 1 1) #[(0, .agg (newOp (-1)).toArray)] (by rw [List.map_toArray]; rfl) (show (Instr.buildSlice 75 1 #[(0, .agg (newOp (-1)).toArray)]).run Tryd.prog W.drew = .ok _ (W.drew.alloc (.cells (newOp (-1)).toArray 83)) from slice_op (-1) (List.replicate 128 0) (List.length_replicate ..) W.drew) ?_
    refine hK _ _ ?_
    clear hK K
    (try simp only [Act.put, List.setIfInBounds_toArray, List.set_cons_zero, List.set_cons_succ])
  case' w56 =>
    rw [if_pos (by rfl)]
    refine wp_runSlice 75 1 #[(0, Operand.tmp 16)] rfl (.slice (some ⟨W.drew.heap.size, 0, none⟩) 1 1) #[(0, .agg (newOp (-1)).toArray)] (by rw [List.map_toArray]; rfl) (show (Instr.buildSlice 75 1 #[(0, .agg (newOp (-1)).toArray)]).run Tryd.prog W.drew = .ok _ (W.drew.alloc (.cells (newOp (-1)).toArray 83)) from slice_op (-1) (List.replicate 128 0) (List.length_replicate ..) W.drew) ?_
    refine hK _ _ ?_
    clear hK K
    (try simp only [Act.put, List.setIfInBounds_toArray, List.set_cons_zero, List.set_cons_succ])
    refine wpAny_ready (rs := [4]) (by kernel_rfl) (by simp) ?_
    refine AllReady.cons (o := { dst := some 15, op := Op.load 75 (Operand.tmp 14), type := 75, pos := "disk.go:93", after := #[{ on := 3, ground := Ground.data }], guard := none }) rfl (fun K hK => ?_) AllReady.nil
    go_simp
    refine hK _ _ ?_
    clear hK K
    (try simp only [Act.put, List.setIfInBounds_toArray, List.set_cons_zero, List.set_cons_succ])
  all_goals
    refine wpAny_ready (rs := [7]) (by kernel_rfl) (by simp) ?_
    refine AllReady.cons (o := { dst := some 18, op := Op.call { callee := Callee.builtin Builtin.append, args := #[Operand.tmp 15, Operand.tmp 17], argTypes := #[75, 75] }, type := 75, pos := "disk.go:93", after := #[{ on := 4, ground := Ground.data }, { on := 6, ground := Ground.data }], guard := none }) rfl (fun K hK => ?_) AllReady.nil
    refine Kd.R_append_step kop (w0 := W.drew) B (by rfl) (.tmp 15) (.tmp 17) 75 83 (.agg (newOp 0).toArray) 136 rfl Tryd.underlying75 info83 (by simp [Value.cells, newOp_len]; rfl) (by decide) (by decide) (.slice A ops.length c) ops flushOp (newOp (-1)) (fun _ => True) (fun _ => False) rfl rfl HOPM.out (fun _ hk => hk.elim) (fun _ _ => trivial) K3.out.o (Below.refl _ _) HBs.out HLEN.out ?_
    intro v1 w1 ho hb hg hat
    have hr6 : Rt 77 h.D _ w1 := (hg.block h.D K3.out.row.lt HNE.out).trans K3.out.row
    have HO := Aside0.mk ho
    have HG := Aside0.mk (show W.drew.grownBy w1 (Value.slice A ops.length c).ownBlock ∧ Below B W.drew w1 ∧ (v1.ownBlock = (Value.slice A ops.length c).ownBlock ∨ ∃ b, v1.ownBlock = some b ∧ W.drew.heap.size ≤ b) from ⟨hg, hb, hat⟩)
    obtain ⟨Al, cl, e⟩ := Kd.R_slice ho
    rw [List.length_append, List.length_singleton] at e
    subst e
    have c8 := hr6.cell 2 _ rfl
    have f8 := hr6.free 2
    clear ho hb hg hat
    refine hK _ _ ?_
    clear hK K
    (try simp only [Act.put, List.setIfInBounds_toArray, List.set_cons_zero, List.set_cons_succ])
    refine wpAny_ready (rs := [8]) (by kernel_rfl) (by simp) ?_
    refine AllReady.cons (o := { dst := some 19, op := Op.nilCheck (Operand.tmp 11), type := 0, pos := "disk.go:93", after := #[{ on := 0, ground := Ground.data }, { on := 0, ground := Ground.phase }, { on := 1, ground := Ground.phase }, { on := 2, ground := Ground.phase }, { on := 3, ground := Ground.phase }, { on := 4, ground := Ground.phase }, { on := 5, ground := Ground.phase }, { on := 6, ground := Ground.phase }, { on := 7, ground := Ground.phase }], guard := none }) rfl (fun K hK => ?_) AllReady.nil
    go_simp
    refine hK _ _ ?_
    clear hK K
    (try simp only [Act.put, List.setIfInBounds_toArray, List.set_cons_zero, List.set_cons_succ])
    refine wpAny_ready (rs := [9]) (by kernel_rfl) (by simp) ?_
    refine AllReady.cons (o := { dst := some 20, op := Op.fieldAddr 77 (Operand.tmp 19) 2, type := 0, pos := "disk.go:93", after := #[{ on := 8, ground := Ground.data }, { on := 0, ground := Ground.phase }, { on := 1, ground := Ground.phase }, { on := 2, ground := Ground.phase }, { on := 3, ground := Ground.phase }, { on := 4, ground := Ground.phase }, { on := 5, ground := Ground.phase }, { on := 6, ground := Ground.phase }, { on := 7, ground := Ground.phase }], guard := none }) rfl (fun K hK => ?_) AllReady.nil
    go_simp
    refine hK _ _ ?_
    clear hK K
    (try simp only [Act.put, List.setIfInBounds_toArray, List.set_cons_zero, List.set_cons_succ])
    refine wpAny_ready (rs := [10]) (by kernel_rfl) (by simp) ?_
    refine AllReady.cons (o := { dst := none, op := Op.store 75 (Operand.tmp 20) (Operand.tmp 18), type := 0, pos := "disk.go:93", after := #[{ on := 9, ground := Ground.data }, { on := 7, ground := Ground.data }, { on := 7, ground := Ground.chain }, { on := 0, ground := Ground.phase }, { on := 1, ground := Ground.phase }, { on := 2, ground := Ground.phase }, { on := 3, ground := Ground.phase }, { on := 4, ground := Ground.phase }, { on := 5, ground := Ground.phase }, { on := 6, ground := Ground.phase }, { on := 7, ground := Ground.phase }], guard := none }) rfl (fun K hK => ?_) AllReady.nil
    go_simp
    refine hK _ _ ?_
    clear hK K
    (try simp only [Act.put, List.setIfInBounds_toArray, List.set_cons_zero, List.set_cons_succ])
    refine wpAny_done (by kernel_rfl) ?_ _
    (try simp only [Act.put, List.setIfInBounds_toArray, List.set_cons_zero, List.set_cons_succ])
  -- behind region 11
  all_goals
    have e8 := hr6.set 2 (.slice Al (ops.length + 1) cl)
    have hput := K3.out.appended HO.out HG.out.2.1 HG.out.1 HL.out
    rw [e8, show (dsk h (.slice A ops.length c)).set 2 (.slice Al (ops.length + 1) cl) = dsk h (.slice Al (ops.length + 1) cl) from rfl]
    have HKP := Aside0.mk (show Kept W (w1.setRow h.D (dsk h (.slice Al (ops.length + 1) cl)).toArray) (Own h (.slice A ops.length c)) from (Kept.then_ ⟨Nat.le_refl _, fun _ _ _ => rfl⟩ hput.2.1 (fun _ hk => .inl hk)))
    have HBP := Aside0.mk (show Below B W (w1.setRow h.D (dsk h (.slice Al (ops.length + 1) cl)).toArray) from ((below_drew (Below.refl _ _)).trans hput.2.2))
    have HAT := Aside0.mk (show ∀ j, (Value.slice Al (ops.length + 1) cl).ownBlock = some j → (Value.slice A ops.length c).ownBlock = some j ∨ W.heap.size ≤ j from fun j hj => by
      rcases HG.out.2.2 with e | ⟨b', e, hb'⟩
      · exact .inl (e ▸ hj)
      · rw [e] at hj
        injection hj with hj
        exact .inr (hj ▸ hb'))
    have KP := Aside0.mk hput.1
    clear hput e8 hr6 c8 f8 HG HO cd cd2 cd3 HOPM K3
    generalize w1.setRow h.D (dsk h (.slice Al (ops.length + 1) cl)).toArray = w3 at *
    go_wp2_with fail
    go_ret
    exact ⟨rfl, Al, cl, KP.out, HKP.out, HBP.out, HAT.out⟩
end Go.Proofs.YtpaonoaedjkekaaDoor.Dk
