/- (*disk.Disk).Flush, walked. (*disk.Disk).loose, walked. (*disk.Disk).behind, walked. Plain facts on the small functions of the disk's laws: full, within. larderlaw06.laid, walked: a disk behind some puts. (*disk.Disk).Read and Image, walked. -/
import Derived.Test.YtpaonoaedjkekaaDoorPl1
import Derived.Test.YtpaonoaedjkekaaDoorPDx1
import Derived.Test.YtpaonoaedjkekaaDoorPDx2
import Derived.Deep.RegionHeld3
namespace Go.Proofs.YtpaonoaedjkekaaDoor.Dk
open Go Go.RowKit Go.Proofs.YtpaonoaedjkekaaDoor.PD Go.Proofs.YtpaonoaedjkekaaDoorW.PrintWords Go.Proofs.YtpaonoaedjkekaaDoorW.PrintLast Go.Proofs.YtpaonoaedjkekaaDoorW.PrintMore
set_option linter.unusedVariables false
set_option linter.unusedSimpArgs false
set_option maxHeartbeats 4000000
set_option maxRecDepth 100000
theorem wp_load83 {a : Act} {o : Oper} {W : World} {x : Operand} {K : Act → World → Prop} {Q : Exit → Act → World → Prop} (ho : o.op = .load 83 x) {g off : Nat} {vs : List Value} (hx : a.eval x = .pointer (some ⟨g, off, none⟩)) (hl : vs.length = 129) (hc : ∀ j v, vs[j]? = some v → W.cell? ⟨g, off + j, none⟩ = some v)
    (h : K (a.put o.dst (.agg vs.toArray)) W) : o.wp Tryd.prog a W K Q := by
  unfold Oper.wp
  rw [exec_load83 ho hx hl hc]
  exact h
theorem flush_at {h : Hd} {B : Nat} {fs ss : List Int} {A : Option Addr} {c : Nat} {ops : List (Int × List Int)} {W : World} (k : DkAt h B fs ss (.slice A ops.length c) ops W) (hF : Fl W) (hl : ops.length < 65536) :
    Calls Tryd.prog 29 #[ptr h.D] W fun e w' => e = .returned (.int .i64 0) ∧ ∃ A' c', DkAt h B fs ss (.slice A' (ops.length + 1) c') (ops ++ [flushOp]) w' ∧ Kept W w' (Own h (.slice A ops.length c)) ∧ Below B W w' ∧ ∀ j, (Value.slice A' (ops.length + 1) c').ownBlock = some j → (Value.slice A ops.length c).ownBlock = some j ∨ W.heap.size ≤ j := by
  have K := Aside0.mk k
  have HF := Aside0.mk hF
  have HL := Aside0.mk hl
  have cd := k.row.cell 2 _ rfl
  have n3 : decide ((65536 : Int) ≤ (ops.length : Int)) = false := decide_eq_false (by omega)
  clear k hF hl
  go_enter Tryd.func29, Tryd.ntmps29
  go_upto_region 5 with fail
  have K3 := Aside0.mk (K.out.stay (below_drew (Below.refl _ _)))
  have cd : W.drew.cell? ⟨h.D, 2, none⟩ = some (.slice A ops.length c) := K3.out.row.cell 2 _ rfl
  have cd2 : (W.drew.alloc (.cells (newOp (-1)).toArray 83)).cell? ⟨h.D, 2, none⟩ = some (.slice A ops.length c) := (K3.out.stay (below_alloc (Below.refl _ _) _)).row.cell 2 _ rfl
  have cd3 : (W.alloc (.cells (newOp (-1)).toArray 83)).cell? ⟨h.D, 2, none⟩ = some (.slice A ops.length c) := (K.out.stay (below_alloc (Below.refl _ _) _)).row.cell 2 _ rfl
  have HOPM := Aside0.mk (show kop.M W.drew B (fun _ => False) flushOp (newOp (-1)) from ⟨[.int .i64 (-1)], cellsB (List.replicate 128 0), rfl, rfl, Kd.arr_of_cells (List.length_replicate ..)⟩)
  have HBs := Aside0.mk K3.out.size
  have HLEN := Aside0.mk (show (ops.length + 1) * 136 ≤ 140737488355328 by have := HL.out; omega)
  have HNE := Aside0.mk (show some h.D ≠ (Value.slice A ops.length c).ownBlock from Kd.R_ne K3.out.o K3.out.row (by decide))
  -- region 11
  refine wp_region_any (by kernel_rfl) ?_
  change wpAny _ _ _ _ _ _ _ (World.drew _)
  refine wpAny_take (i := 0) (oi := { dst := some 11, op := Op.move (Operand.tmp 0), type := 25, pos := "disk.go:93", after := #[], guard := none }) (v := ?_) rfl (by kernel_rfl) (by kernel_rfl) (by kernel_rfl) (fun _ _ _ h => h) (Or.inl ⟨by rfl, ?_⟩) ?_
  rotate_left
  · intro w; go_simp; all_goals (with_reducible rfl)
  (try simp only [Act.put, List.setIfInBounds_toArray, List.set_cons_zero, List.set_cons_succ])
  refine wpAny_take (i := 1) (oi := { dst := some 12, op := Op.move (Operand.tmp 0), type := 25, pos := "disk.go:93", after := #[], guard := none }) (v := ?_) rfl (by kernel_rfl) (by kernel_rfl) (by kernel_rfl) (fun _ _ _ h => h) (Or.inl ⟨by rfl, ?_⟩) ?_
  rotate_left
  · intro w; go_simp; all_goals (with_reducible rfl)
  (try simp only [Act.put, List.setIfInBounds_toArray, List.set_cons_zero, List.set_cons_succ])
  refine wpAny_take (i := 2) (oi := { dst := some 13, op := Op.nilCheck (Operand.tmp 12), type := 0, pos := "disk.go:93", after := #[{ on := 1, ground := Ground.data }], guard := none }) (v := ?_) rfl (by kernel_rfl) (by kernel_rfl) (by kernel_rfl) (fun _ _ _ h => h) (Or.inl ⟨by rfl, ?_⟩) ?_
  rotate_left
  · intro w; go_simp; all_goals (with_reducible rfl)
  (try simp only [Act.put, List.setIfInBounds_toArray, List.set_cons_zero, List.set_cons_succ])
  refine wpAny_take (i := 3) (oi := { dst := some 14, op := Op.fieldAddr 77 (Operand.tmp 13) 2, type := 0, pos := "disk.go:93", after := #[{ on := 2, ground := Ground.data }], guard := none }) (v := ?_) rfl (by kernel_rfl) (by kernel_rfl) (by kernel_rfl) (fun _ _ _ h => h) (Or.inl ⟨by rfl, ?_⟩) ?_
  rotate_left
  · intro w; go_simp; all_goals (with_reducible rfl)
  (try simp only [Act.put, List.setIfInBounds_toArray, List.set_cons_zero, List.set_cons_succ])
  refine wpAny_ready (rs := [4, 5]) (by kernel_rfl) (by simp) ?_
  refine AllReady.cons (o := { dst := some 15, op := Op.load 75 (Operand.tmp 14), type := 75, pos := "disk.go:93", after := #[{ on := 3, ground := Ground.data }], guard := none }) rfl (fun K hK => ?w4) (AllReady.cons (o := { dst := some 16, op := Op.load 83 (Operand.global 0), type := 83, pos := "disk.go:93", after := #[], guard := none }) rfl (fun K hK => ?w5) AllReady.nil)
  case' w4 =>
    go_simp
    refine hK _ _ ?_
    clear hK K
    (try simp only [Act.put, List.setIfInBounds_toArray, List.set_cons_zero, List.set_cons_succ])
    refine wpAny_ready (rs := [5]) (by kernel_rfl) (by simp) ?_
    refine AllReady.cons (o := { dst := some 16, op := Op.load 83 (Operand.global 0), type := 83, pos := "disk.go:93", after := #[], guard := none }) rfl (fun K hK => ?_) AllReady.nil
    rw [if_pos (by rfl)]
    refine wp_load83 (x := .global 0) rfl rfl (newOp_len _) HF.out ?_
    refine hK _ _ ?_
    clear hK K
    (try simp only [Act.put, List.setIfInBounds_toArray, List.set_cons_zero, List.set_cons_succ])
    refine wpAny_ready (rs := [6]) (by kernel_rfl) (by simp) ?_
    refine AllReady.cons (o := { dst := some 17, op := Op.buildSlice 75 1 #[(0, Operand.tmp 16)], type := 75, pos := "disk.go:93", after := #[{ on := 5, ground := Ground.data }], guard := none }) rfl (fun K hK => ?_) AllReady.nil
    rw [if_pos (by rfl)]
    refine wp_runSlice 75 1 #[(0, Operand.tmp 16)] rfl (.slice (some ⟨W.drew.heap.size, 0, none⟩) 1 1) #[(0, .agg (newOp (-1)).toArray)] (by rw [List.map_toArray]; rfl) (show (Instr.buildSlice 75 1 #[(0, .agg (newOp (-1)).toArray)]).run Tryd.prog W.drew = .ok _ (W.drew.alloc (.cells (newOp (-1)).toArray 83)) from slice_op (-1) (List.replicate 128 0) (List.length_replicate ..) W.drew) ?_
    refine hK _ _ ?_
    clear hK K
    (try simp only [Act.put, List.setIfInBounds_toArray, List.set_cons_zero, List.set_cons_succ])
  case' w5 =>
    rw [if_pos (by rfl)]
    refine wp_load83 (x := .global 0) rfl rfl (newOp_len _) HF.out ?_
    refine hK _ _ ?_
    clear hK K
    (try simp only [Act.put, List.setIfInBounds_toArray, List.set_cons_zero, List.set_cons_succ])
    refine wpAny_ready (rs := [4, 6]) (by kernel_rfl) (by simp) ?_
    refine AllReady.cons (o := { dst := some 15, op := Op.load 75 (Operand.tmp 14), type := 75, pos := "disk.go:93", after := #[{ on := 3, ground := Ground.data }], guard := none }) rfl (fun K hK => ?w54) (AllReady.cons (o := { dst := some 17, op := Op.buildSlice 75 1 #[(0, Operand.tmp 16)], type := 75, pos := "disk.go:93", after := #[{ on := 5, ground := Ground.data }], guard := none }) rfl (fun K hK => ?w56) AllReady.nil)
  case' w54 =>
    go_simp
    refine hK _ _ ?_
    clear hK K
    (try simp only [Act.put, List.setIfInBounds_toArray, List.set_cons_zero, List.set_cons_succ])
    refine wpAny_ready (rs := [6]) (by kernel_rfl) (by simp) ?_
    refine AllReady.cons (o := { dst := some 17, op := Op.buildSlice 75 1 #[(0, Operand.tmp 16)], type := 75, pos := "disk.go:93", after := #[{ on := 5, ground := Ground.data }], guard := none }) rfl (fun K hK => ?_) AllReady.nil
    rw [if_pos (by rfl)]
    refine wp_runSlice 75 1 #[(0, Operand.tmp 16)] rfl (.slice (some ⟨W.drew.heap.size, 0, none⟩) 1 1) #[(0, .agg (newOp (-1)).toArray)] (by rw [List.map_toArray]; rfl) (show (Instr.buildSlice 75 1 #[(0, .agg (newOp (-1)).toArray)]).run Tryd.prog W.drew = .ok _ (W.drew.alloc (.cells (newOp (-1)).toArray 83)) from slice_op (-1) (List.replicate 128 0) (List.length_replicate ..) W.drew) ?_
    refine hK _ _ ?_
    clear hK K
    (try simp only [Act.put, List.setIfInBounds_toArray, List.set_cons_zero, List.set_cons_succ])
  case' w56 =>
    rw [if_pos (by rfl)]
    refine wp_runSlice 75 1 #[(0, Operand.tmp 16)] rfl (.slice (some ⟨W.drew.heap.size, 0, none⟩) 1 1) #[(0, .agg (newOp (-1)).toArray)] (by rw [List.map_toArray]; rfl) (show (Instr.buildSlice 75 1 #[(0, .agg (newOp (-1)).toArray)]).run Tryd.prog W.drew = .ok _ (W.drew.alloc (.cells (newOp (-1)).toArray 83)) from slice_op (-1) (List.replicate 128 0) (List.length_replicate ..) W.drew) ?_
    refine hK _ _ ?_
    clear hK K
    (try simp only [Act.put, List.setIfInBounds_toArray, List.set_cons_zero, List.set_cons_succ])
    refine wpAny_ready (rs := [4]) (by kernel_rfl) (by simp) ?_
    refine AllReady.cons (o := { dst := some 15, op := Op.load 75 (Operand.tmp 14), type := 75, pos := "disk.go:93", after := #[{ on := 3, ground := Ground.data }], guard := none }) rfl (fun K hK => ?_) AllReady.nil
    go_simp
    refine hK _ _ ?_
    clear hK K
    (try simp only [Act.put, List.setIfInBounds_toArray, List.set_cons_zero, List.set_cons_succ])
  all_goals
    refine wpAny_ready (rs := [7]) (by kernel_rfl) (by simp) ?_
    refine AllReady.cons (o := { dst := some 18, op := Op.call { callee := Callee.builtin Builtin.append, args := #[Operand.tmp 15, Operand.tmp 17], argTypes := #[75, 75] }, type := 75, pos := "disk.go:93", after := #[{ on := 4, ground := Ground.data }, { on := 6, ground := Ground.data }], guard := none }) rfl (fun K hK => ?_) AllReady.nil
    refine Kd.R_append_step kop (w0 := W.drew) B (by rfl) (.tmp 15) (.tmp 17) 75 83 (.agg (newOp 0).toArray) 136 rfl Tryd.underlying75 info83 (by simp [Value.cells, newOp_len]; rfl) (by decide) (by decide) (.slice A ops.length c) ops flushOp (newOp (-1)) (fun _ => True) (fun _ => False) rfl rfl HOPM.out (fun _ hk => hk.elim) (fun _ _ => trivial) K3.out.o (Below.refl _ _) HBs.out HLEN.out ?_
    intro v1 w1 ho hb hg hat
    have hr6 : Rt 77 h.D _ w1 := (hg.block h.D K3.out.row.lt HNE.out).trans K3.out.row
    have HO := Aside0.mk ho
    have HG := Aside0.mk (show W.drew.grownBy w1 (Value.slice A ops.length c).ownBlock ∧ Below B W.drew w1 ∧ (v1.ownBlock = (Value.slice A ops.length c).ownBlock ∨ ∃ b, v1.ownBlock = some b ∧ W.drew.heap.size ≤ b) from ⟨hg, hb, hat⟩)
    obtain ⟨Al, cl, e⟩ := Kd.R_slice ho
    rw [List.length_append, List.length_singleton] at e
    subst e
    have c8 := hr6.cell 2 _ rfl
    have f8 := hr6.free 2
    clear ho hb hg hat
    refine hK _ _ ?_
    clear hK K
    (try simp only [Act.put, List.setIfInBounds_toArray, List.set_cons_zero, List.set_cons_succ])
    refine wpAny_ready (rs := [8]) (by kernel_rfl) (by simp) ?_
    refine AllReady.cons (o := { dst := some 19, op := Op.nilCheck (Operand.tmp 11), type := 0, pos := "disk.go:93", after := #[{ on := 0, ground := Ground.data }, { on := 0, ground := Ground.phase }, { on := 1, ground := Ground.phase }, { on := 2, ground := Ground.phase }, { on := 3, ground := Ground.phase }, { on := 4, ground := Ground.phase }, { on := 5, ground := Ground.phase }, { on := 6, ground := Ground.phase }, { on := 7, ground := Ground.phase }], guard := none }) rfl (fun K hK => ?_) AllReady.nil
    go_simp
    refine hK _ _ ?_
    clear hK K
    (try simp only [Act.put, List.setIfInBounds_toArray, List.set_cons_zero, List.set_cons_succ])
    refine wpAny_ready (rs := [9]) (by kernel_rfl) (by simp) ?_
    refine AllReady.cons (o := { dst := some 20, op := Op.fieldAddr 77 (Operand.tmp 19) 2, type := 0, pos := "disk.go:93", after := #[{ on := 8, ground := Ground.data }, { on := 0, ground := Ground.phase }, { on := 1, ground := Ground.phase }, { on := 2, ground := Ground.phase }, { on := 3, ground := Ground.phase }, { on := 4, ground := Ground.phase }, { on := 5, ground := Ground.phase }, { on := 6, ground := Ground.phase }, { on := 7, ground := Ground.phase }], guard := none }) rfl (fun K hK => ?_) AllReady.nil
    go_simp
    refine hK _ _ ?_
    clear hK K
    (try simp only [Act.put, List.setIfInBounds_toArray, List.set_cons_zero, List.set_cons_succ])
    refine wpAny_ready (rs := [10]) (by kernel_rfl) (by simp) ?_
    refine AllReady.cons (o := { dst := none, op := Op.store 75 (Operand.tmp 20) (Operand.tmp 18), type := 0, pos := "disk.go:93", after := #[{ on := 9, ground := Ground.data }, { on := 7, ground := Ground.data }, { on := 7, ground := Ground.chain }, { on := 0, ground := Ground.phase }, { on := 1, ground := Ground.phase }, { on := 2, ground := Ground.phase }, { on := 3, ground := Ground.phase }, { on := 4, ground := Ground.phase }, { on := 5, ground := Ground.phase }, { on := 6, ground := Ground.phase }, { on := 7, ground := Ground.phase }], guard := none }) rfl (fun K hK => ?_) AllReady.nil
    go_simp
    refine hK _ _ ?_
    clear hK K
    (try simp only [Act.put, List.setIfInBounds_toArray, List.set_cons_zero, List.set_cons_succ])
    refine wpAny_done (by kernel_rfl) ?_ _
    (try simp only [Act.put, List.setIfInBounds_toArray, List.set_cons_zero, List.set_cons_succ])
  -- behind region 11
  all_goals
    have e8 := hr6.set 2 (.slice Al (ops.length + 1) cl)
    have hput := K3.out.appended HO.out HG.out.2.1 HG.out.1 HL.out
    rw [e8, show (dsk h (.slice A ops.length c)).set 2 (.slice Al (ops.length + 1) cl) = dsk h (.slice Al (ops.length + 1) cl) from rfl]
    have HKP := Aside0.mk (show Kept W (w1.setRow h.D (dsk h (.slice Al (ops.length + 1) cl)).toArray) (Own h (.slice A ops.length c)) from (Kept.then_ ⟨Nat.le_refl _, fun _ _ _ => rfl⟩ hput.2.1 (fun _ hk => .inl hk)))
    have HBP := Aside0.mk (show Below B W (w1.setRow h.D (dsk h (.slice Al (ops.length + 1) cl)).toArray) from ((below_drew (Below.refl _ _)).trans hput.2.2))
    have HAT := Aside0.mk (show ∀ j, (Value.slice Al (ops.length + 1) cl).ownBlock = some j → (Value.slice A ops.length c).ownBlock = some j ∨ W.heap.size ≤ j from fun j hj => by
      rcases HG.out.2.2 with e | ⟨b', e, hb'⟩
      · exact .inl (e ▸ hj)
      · rw [e] at hj
        injection hj with hj
        exact .inr (hj ▸ hb'))
    have KP := Aside0.mk hput.1
    clear hput e8 hr6 c8 f8 HG HO cd cd2 cd3 HOPM K3
    generalize w1.setRow h.D (dsk h (.slice Al (ops.length + 1) cl)).toArray = w3 at *
    go_wp2_with fail
    go_ret
    exact ⟨rfl, Al, cl, KP.out, HKP.out, HBP.out, HAT.out⟩
end Go.Proofs.YtpaonoaedjkekaaDoor.Dk
namespace Go.Proofs.YtpaonoaedjkekaaDoor.Dk
open Go Go.RowKit Go.Proofs.YtpaonoaedjkekaaDoor.PD Go.Proofs.YtpaonoaedjkekaaDoorW.PrintWords Go.Proofs.YtpaonoaedjkekaaDoorW.PrintLast Go.Proofs.YtpaonoaedjkekaaDoorW.PrintMore
set_option linter.unusedVariables false
set_option linter.unusedSimpArgs false
set_option maxHeartbeats 4000000
set_option maxRecDepth 100000
/-- Where the loose writes of a moment begin. -/
def looseN (ops : List (Int × List Int)) : Nat → Nat
  | 0 => 0
  | n + 1 => if ops[n]? = some flushOp then n + 1 else looseN ops n
theorem looseN_le (ops : List (Int × List Int)) : ∀ n, looseN ops n ≤ n
  | 0 => Nat.le_refl _
  | n + 1 => by
    unfold looseN
    split
    · exact Nat.le_refl _
    · exact Nat.le_succ_of_le (looseN_le ops n)
theorem Fl.same {W W1 : World} (h : Fl W) (e : W1.heap = W.heap) : Fl W1 := fun j v hj => by
  have := h j v hj
  simpa [World.cell?, e] using this
theorem loose_at {h : Hd} {B : Nat} {fs ss : List Int} {A : Option Addr} {c : Nat} {ops : List (Int × List Int)} {W : World} (k : DkAt h B fs ss (.slice A ops.length c) ops W) (hF : Fl W) (n : Nat) (hn : n ≤ ops.length) :
    Calls Tryd.prog 36 #[ptr h.D, .int .i64 (n : Int)] W fun e w' => e = .returned (.int .i64 (looseN ops n : Int)) ∧ ∃ m, w' = W.drewN m := by
  have K := Aside0.mk k
  have HF := Aside0.mk hF
  have HN := Aside0.mk hn
  have HL := Aside0.mk k.few
  have cd := k.row.cell 2 _ rfl
  clear k hF hn
  go_enter Tryd.func36, Tryd.ntmps36
  go_wp2_with fail
  go_loopw [1] (fun p wr => ∃ (j m : Nat), p = .int .i64 (j : Int) ∧ Aside0 (j ≤ n) ∧ Aside0 (looseN ops j = looseN ops n) ∧ wr = W.drewN m) (fun p _ => (intOf p).toNat)
  · exact ⟨n, 0, rfl, ⟨Nat.le_refl _⟩, ⟨rfl⟩, rfl⟩
  · obtain ⟨j, m, rfl, HJ, HE, rfl⟩ := hrel
    rcases j with _ | j
    · go_wp2_with fail
      go_quiet (fail)
      go_wp2_with fail
      go_ret
      refine ⟨?_, m + nq, (World.drewN_drewN ..)⟩
      rw [← HE.out]
      rfl
    · have hj0 : decide ((0 : Int) < ((j + 1 : Nat) : Int)) = true := decide_eq_true (by omega)
      have hjb : j < 65536 := by have := HJ.out; have := HN.out; have := HL.out; omega
      have hw1 : IntKind.i64.wrap (((j + 1 : Nat) : Int) - 1) = (j : Int) := by rw [IntWalk.i64_in _ (by omega)]; omega
      clear hjb
      obtain ⟨op, hop⟩ : ∃ op, ops[j]? = some op := ⟨_, List.getElem?_eq_getElem (by have := HJ.out; have := HN.out; omega)⟩
      obtain ⟨hl, g, e, hc, hcell⟩ := ops_at K.out j op hop
      subst e
      have HCE := Aside0.mk hcell
      clear hcell
      obtain ⟨J, hJ⟩ : ∃ J, ((j + 1 : Nat) : Int) = J := ⟨_, rfl⟩
      rw [hJ] at hj0 hw1 ⊢
      have h1 : (j : Int) < (ops.length : Int) := by have := HJ.out; have := HN.out; omega
      have HJJ := Aside0.mk hJ
      clear hJ
      go_upto_region 1 with fail
      refine wp_region_quiet_lit (by kernel_rfl) (by kernel_rfl) ?_
      iterate 10 (quiet_step (fail))
      refine wpQuiet_val (.agg (opCells op.1 op.2).toArray) (by rfl) (fun w' hw' => by
        obtain ⟨q, rfl⟩ := hw'
        exact exec_load83 (x := .tmp 14) rfl rfl (by rw [opCells_len, hl]) HCE.out) ?_
      simp only [Act.put, List.setIfInBounds_toArray, List.set_cons_zero, List.set_cons_succ]
      refine wpQuiet_val (.agg (newOp (-1)).toArray) (by rfl) (fun w' hw' => by
        obtain ⟨q, rfl⟩ := hw'
        exact exec_load83 (x := .global 0) rfl rfl (newOp_len _) HF.out) ?_
      simp only [Act.put, List.setIfInBounds_toArray, List.set_cons_zero, List.set_cons_succ]
      refine wpQuiet_val (.bool (!(op.1 == -1 && op.2 == List.replicate 128 0))) (by rfl) (fun w' hw' => by
        obtain ⟨q, rfl⟩ := hw'
        exact exec_neq83 (x := .tmp 15) (y := .tmp 16) rfl rfl rfl hl (List.length_replicate ..)) ?_
      simp only [Act.put, List.setIfInBounds_toArray, List.set_cons_zero, List.set_cons_succ]
      have hfl : (op.1 == -1 && op.2 == List.replicate 128 0) = decide (op = flushOp) := by
        rw [Bool.eq_iff_iff]
        simp [flushOp, Prod.ext_iff]
      rw [hfl]
      by_cases hfo : op = flushOp
      · have hd : decide (op = flushOp) = true := decide_eq_true hfo
        rw [hd]
        quiet_step (fail)
        refine wpQuiet_nil ?_
        intro w' hw'
        obtain ⟨nq, rfl⟩ := hw'
        go_wp2_with fail
        go_ret
        refine ⟨?_, m + nq, (World.drewN_drewN ..)⟩
        rw [← HE.out, looseN, if_pos (by rw [hop, hfo])]
        show Ending.returned (Value.int .i64 J) = _
        rw [HJJ.out]
      · have hd : decide (op = flushOp) = false := decide_eq_false hfo
        rw [hd]
        quiet_step (fail)
        refine wpQuiet_nil ?_
        intro w' hw'
        obtain ⟨nq, rfl⟩ := hw'
        go_wp2_with fail
        refine ⟨⟨j, m + nq, rfl, ⟨by have := HJ.out; omega⟩, ⟨?_⟩, rfl⟩, ?_⟩
        · rw [← HE.out, looseN, if_neg (by rw [hop]; intro e; injection e with e; exact hfo e)]
        · have := HJJ.out
          simp only [intOf]
          omega
end Go.Proofs.YtpaonoaedjkekaaDoor.Dk
namespace Go.Proofs.YtpaonoaedjkekaaDoor.Dk
open Go Go.RowKit Go.Proofs.YtpaonoaedjkekaaDoor.PD Go.Proofs.YtpaonoaedjkekaaDoorW.PrintWords Go.Proofs.YtpaonoaedjkekaaDoorW.PrintLast Go.Proofs.YtpaonoaedjkekaaDoorW.PrintMore
set_option linter.unusedVariables false
set_option linter.unusedSimpArgs false
set_option maxHeartbeats 4000000
set_option maxRecDepth 100000
theorem opCells_one (n : Int) (p : List Int) : (opCells n p).toArray.all (·.oneCell') = true := by
  rw [Array.all_eq_true_iff_forall_mem]
  intro v hv
  rcases List.mem_cons.1 (List.mem_toArray.1 hv) with rfl | hv
  · rfl
  · obtain ⟨x, _, rfl⟩ := List.mem_map.1 hv
    rfl
/-- An operation laid over an image. -/
def layOp (im : List Int) (op : Int × List Int) : List Int := if op = flushOp then im else im.take (128 * op.1.toNat) ++ op.2 ++ im.drop (128 * op.1.toNat + 128)
def behindL (fs : List Int) (ops : List (Int × List Int)) : List Int := ops.foldl layOp fs
/-- Operations of a disk of n bytes. -/
def Oks (n : Nat) (ops : List (Int × List Int)) : Prop := ∀ op ∈ ops, op.2.length = 128 ∧ (op = flushOp ∨ ∃ s : Nat, op.1 = (s : Int) ∧ 128 * s + 128 ≤ n)
theorem layOp_len {n : Nat} {im : List Int} {op : Int × List Int} (hl : im.length = n) (h : op.2.length = 128 ∧ (op = flushOp ∨ ∃ s : Nat, op.1 = (s : Int) ∧ 128 * s + 128 ≤ n)) : (layOp im op).length = n := by
  unfold layOp
  split
  · exact hl
  · rename_i hf
    rcases h.2 with e | ⟨s, e, hs⟩
    · exact (hf e).elim
    · rw [e, Int.toNat_natCast, List.length_append, List.length_append, List.length_take, List.length_drop, hl, h.1]
      omega
theorem behindL_len {n : Nat} : ∀ (ops : List (Int × List Int)) (im : List Int), im.length = n → Oks n ops → (behindL im ops).length = n
  | [], im, hl, _ => hl
  | op :: ops, im, hl, h => behindL_len ops (layOp im op) (layOp_len hl (h op List.mem_cons_self)) (fun o ho => h o (List.mem_cons_of_mem _ ho))
theorem Oks.take {n : Nat} {ops : List (Int × List Int)} (h : Oks n ops) (k : Nat) : Oks n (ops.take k) := fun op ho => h op (List.mem_of_mem_take ho)
theorem take_step {ops : List (Int × List Int)} {k : Nat} {op : Int × List Int} (h : ops[k]? = some op) (fs : List Int) : behindL fs (ops.take (k + 1)) = layOp (behindL fs (ops.take k)) op := by
  rw [List.take_add_one, h]
  simp [behindL, List.foldl_append]
theorem Rt.bytes {b : Nat} {n : Int} {p : List Int} {W : World} (h : Rt 83 b (opCells n p) W) (hp : p.length = 128) (m : Nat) (hm : m ≤ 128) : Kd.C (Kd.int .u8) W (some ⟨b, 1, none⟩) m (p.take m) := by
  refine Kd.C_of_reads (d := (0 : Int)) (h1 := fun _ => rfl) ⟨by rw [List.length_take]; omega, by omega, fun _ => ⟨_, rfl, fun j hj => ?_⟩⟩
  rw [add_off, h.cell (1 + j) (.int .u8 (p.getD j 0)) ?_]
  · congr 2
    rw [List.getD_eq_getElem?_getD, List.getD_eq_getElem?_getD, List.getElem?_take, if_pos hj]
  · rw [Nat.add_comm]
    show (cellsB p)[j]? = _
    simp [cellsB, List.getD_eq_getElem?_getD, List.getElem?_eq_getElem (show j < p.length by omega)]
theorem step_copy {P : Program} {ops : Array Oper} {o : Oper} {a : Act} {w w' : World} {K : Act → World → Prop} {Q : Exit → Act → World → Prop} {E : Prop}
    (hg : o.guard = none) (s x : Operand) (t1 t2 : TypeId) (hop : o.op = Op.call { callee := Callee.builtin Builtin.copy, args := #[s, x], argTypes := #[t1, t2] })
    (vs vx v : Value) (hs : a.eval s = vs) (hx : a.eval x = vx) (hrun : (Builtin.copy_ #[t1, t2] o.type #[vs, vx]).run P w = .ok v w') (hK : K (a.put o.dst v) w') :
    if Region.wanted o (yielded ops a.tmps) = true then Oper.wp P o a w K Q else E := by
  have hw : Region.wanted o (yielded ops a.tmps) = true := by simp [Region.wanted, hg]
  rw [if_pos hw]
  unfold Oper.wp
  simp [execOp, hop, resolve, invoke, builtin, hs, hx, hrun, Result.andThen]
  exact hK
theorem behind_at {h : Hd} {B : Nat} {fs ss : List Int} {A : Option Addr} {c : Nat} {ops : List (Int × List Int)} {W : World} (k : DkAt h B fs ss (.slice A ops.length c) ops W) (hF : Fl W) (hO : Oks h.n ops) (h0 : 0 < W.heap.size) (n : Nat) (hn : n ≤ ops.length) :
    Calls Tryd.prog 37 #[ptr h.D, .int .i64 (n : Int)] W fun e w' => ∃ g c', e = .returned (.slice (some ⟨g, 0, none⟩) h.n c') ∧ Mem w' g (behindL fs (ops.take n)) ∧ W.heap.size ≤ g ∧ h.n ≤ c' ∧ Below W.heap.size W w' := by
  have K := Aside0.mk k
  have HF := Aside0.mk hF
  have HO := Aside0.mk hO
  have HN := Aside0.mk hn
  have H0 := Aside0.mk h0
  have HL := Aside0.mk k.few
  have cd := k.row.cell 0 _ rfl
  have HC := Aside0.mk (show Kd.C (Kd.int .u8) W (some ⟨h.gf, 0, none⟩) h.n fs from by
    have := k.f.all (by have := k.lf; have := k.big; omega)
    rwa [k.lf] at this)
  clear k hF hn hO h0
  go_enter Tryd.func37, Tryd.ntmps37
  go_wp2_with fail
  go_at_call 39
  refine (clone_at _ h.n h.cf fs W HC.out K.out.pos (by have := K.out.big; omega)).mono ?_
  rintro e w1 ⟨g, cg, rfl, hM, hg, hcg, hb⟩
  have HM := Aside0.mk hM
  have HB := Aside0.mk hb
  have HG := Aside0.mk (And.intro hg hcg)
  have K1 := K.out.stay hb
  have c2 := K1.row.cell 2 _ rfl
  have hc : ops.length ≤ c := by
    rcases K1.o.2 with ⟨inner, ho, _⟩
    rcases ho.2 with ⟨e, hz⟩ | ⟨_, _, _, e, _, _, hcc, _⟩
    · injection e with _ e2 e3; omega
    · injection e with _ e2 e3; omega
  have K1 := Aside0.mk K1
  have h1 : (0 : Int) ≤ (n : Int) := by omega
  have h2 : (n : Int) ≤ (c : Int) := by have := HN.out; omega
  have h3 : n ≤ c := by have := HN.out; omega
  clear hM hb hg hcg cd hc
  go_wp2_with fail
  go_loopw [21] (fun p wr => ∃ k : Nat, p = .int .i64 (k : Int) ∧ Aside0 (k ≤ n) ∧ Aside0 (Mem wr g (behindL fs (ops.take k))) ∧ Aside0 (Below W.heap.size W wr)) (fun p _ => n - (intOf p).toNat)
  · exact ⟨0, rfl, ⟨Nat.zero_le _⟩, ⟨HM.out⟩, ⟨HB.out⟩⟩
  · obtain ⟨k, rfl, HK, HMr, HBr⟩ := hrel
    by_cases ci : k < n
    · have ci1 : decide ((k : Int) < (n : Int)) = true := decide_eq_true (by omega)
      have ci2 : decide (k < n) = true := decide_eq_true ci
      have ci3 : (0 : Int) ≤ (k : Int) := by omega
      have ci4 : (k : Int) < (n : Int) := by omega
      have hjb : k < 65536 := by have := HN.out; have := HL.out; omega
      have hw1 : IntKind.i64.wrap ((k : Int) + 1) = ((k + 1 : Nat) : Int) := by rw [IntWalk.i64_in _ (by omega)]; omega
      obtain ⟨op, hop⟩ : ∃ op, ops[k]? = some op := ⟨_, List.getElem?_eq_getElem (by have := HN.out; omega)⟩
      have Kr := Aside0.mk (K.out.stay HBr.out)
      obtain ⟨hl, go, e, hc, hcell⟩ := ops_at Kr.out k op hop
      subst e
      have HCE := Aside0.mk hcell
      have HOP := Aside0.mk hop
      have HLE := Aside0.mk hl
      have HFr := Aside0.mk (show Fl wr from fun j v hj => by
        have := HF.out j v hj
        rw [← this]
        exact HBr.out.cell (p := ⟨0, 0 + j, none⟩) H0.out)
      clear hcell hjb hop hl
      go_upto_region 4 with fail
      apply wp_region_lit
      refine Great.wpList_readTo rfl (some 23) rfl (.pointer (some ⟨go, k * 129, none⟩)) (by go_simp) ?_
      simp only [Act.put, List.setIfInBounds_toArray, List.set_cons_zero, List.set_cons_succ]
      refine Great.wpList_readTo rfl (some 24) rfl (.agg (opCells op.1 op.2).toArray) (exec_load83 (x := .tmp 23) rfl rfl (by rw [opCells_len, HLE.out]) HCE.out) ?_
      simp only [Act.put, List.setIfInBounds_toArray, List.set_cons_zero, List.set_cons_succ]
      refine wpList_runAlloc rfl 83 rfl (ptr wr.heap.size) (alloc_op _ wr) ?_
      simp only [Act.put, List.setIfInBounds_toArray, List.set_cons_zero, List.set_cons_succ]
      refine wpList_store_row rfl 83 (.tmp 7) (.tmp 24) rfl wr.heap.size (opCells op.1 op.2).toArray rfl rfl 83 (newOp 0).toArray (heap_alloc_new wr _) (by rw [List.size_toArray, opCells_len, HLE.out]; kernel_rfl) (by rw [List.size_toArray, List.size_toArray, newOp_len, opCells_len, HLE.out]) (opCells_one _ _) ?_
      simp only [Act.put, List.setIfInBounds_toArray, List.set_cons_zero, List.set_cons_succ]
      refine wpList_nil ?_
      obtain ⟨b, hbe⟩ : ∃ b, wr.heap.size = b := ⟨_, rfl⟩
      have HBE := Aside0.mk hbe
      have hr1 : Rt 83 b (opCells op.1 op.2) ((wr.alloc (.cells (newOp 0).toArray 83)).setRow b (opCells op.1 op.2).toArray) := by
        have h0 : Rt 83 b (newOp 0) (wr.alloc (.cells (newOp 0).toArray 83)) := hbe ▸ heap_alloc_new wr _
        exact h0.row _
      have hb1 : Below wr.heap.size wr ((wr.alloc (.cells (newOp 0).toArray 83)).setRow b (opCells op.1 op.2).toArray) := below_setRow' (below_alloc (Below.refl _ _) _) (Nat.le_of_eq hbe) _
      rw [hbe]
      generalize (wr.alloc (.cells (newOp 0).toArray 83)).setRow b (opCells op.1 op.2).toArray = w2 at *
      have HR2 := Aside0.mk hr1
      have HB2 := Aside0.mk hb1
      have HM2 := Aside0.mk (HMr.out.below hb1)
      have HF2 := Aside0.mk (show Fl w2 from fun j v hj => by
        have := HFr.out j v hj
        rw [← this]
        exact hb1.cell (p := ⟨0, 0 + j, none⟩) (Nat.lt_of_lt_of_le H0.out HBr.out.size))
      clear hr1 hb1 hbe
      go_upto_region 5 with fail
      apply wp_region_lit
      refine Great.wpList_readTo rfl (some 25) rfl (.agg (opCells op.1 op.2).toArray) (exec_load83 (x := .tmp 7) rfl rfl (by rw [opCells_len, HLE.out]) (fun j v hj => by rw [Nat.zero_add]; exact HR2.out.cell j v hj)) ?_
      simp only [Act.put, List.setIfInBounds_toArray, List.set_cons_zero, List.set_cons_succ]
      refine Great.wpList_readTo rfl (some 26) rfl (.agg (newOp (-1)).toArray) (exec_load83 (x := .global 0) rfl rfl (newOp_len _) HF2.out) ?_
      simp only [Act.put, List.setIfInBounds_toArray, List.set_cons_zero, List.set_cons_succ]
      refine Great.wpList_readTo rfl (some 27) rfl (.bool (!(op.1 == -1 && op.2 == List.replicate 128 0))) (exec_neq83 (x := .tmp 25) (y := .tmp 26) rfl rfl rfl HLE.out (List.length_replicate ..)) ?_
      simp only [Act.put, List.setIfInBounds_toArray, List.set_cons_zero, List.set_cons_succ]
      refine wpList_nil ?_
      have hfl : (op.1 == -1 && op.2 == List.replicate 128 0) = decide (op = flushOp) := by
        rw [Bool.eq_iff_iff]
        simp [flushOp, Prod.ext_iff]
      rw [hfl]
      by_cases hfo : op = flushOp
      · have hd : decide (op = flushOp) = true := decide_eq_true hfo
        rw [hd]
        have HFO := Aside0.mk hfo
        clear hd hfl hfo
        go_wp2_with fail
        refine ⟨⟨k + 1, rfl, ⟨ci⟩, ⟨?_⟩, ⟨HBr.out.trans (HB2.out.mono HBr.out.size)⟩⟩, ?_⟩
        · rw [take_step HOP.out, layOp, if_pos HFO.out]
          exact HM2.out
        · simp only [intOf]
          omega
      · have hd : decide (op = flushOp) = false := decide_eq_false hfo
        rw [hd]
        have HFO := Aside0.mk hfo
        clear hd hfl hfo
        go_upto_region 6 with fail
        obtain ⟨s, hs, hsn⟩ : ∃ s : Nat, op.1 = (s : Int) ∧ 128 * s + 128 ≤ h.n := ((HO.out op (List.mem_of_getElem? HOP.out)).2).resolve_left HFO.out
        have cb0 : w2.drew.cell? ⟨b, 0, none⟩ = some (.int .i64 (s : Int)) := HR2.out.cell 0 _ (by rw [hs]; rfl)
        have hbl := behindL_len (ops.take k) fs K.out.lf (HO.out.take k)
        obtain ⟨cs, hcp, hM3⟩ := Mem.copy (P := Tryd.prog) (dT := 29) (sT := 29) (ty := 3) Tryd.underlying29 size5' (W := w2.drew) HM2.out (128 * s) 128 128 128 128 (some ⟨b, 1, none⟩) (Rt.bytes (W := w2.drew) HR2.out HLE.out 128 (Nat.le_refl _)) (Nat.le_refl _) (by rw [hbl]; exact hsn)
        rw [List.take_of_length_le (Nat.le_of_eq HLE.out)] at hM3
        have HCP := Aside0.mk hcp
        have HM3 := Aside0.mk hM3
        have HSN := Aside0.mk (And.intro hs hsn)
        clear hcp hM3 hs hsn hbl
        go_region_law (first
          | (refine step_copy rfl (.tmp 31) (.tmp 33) 29 29 rfl (.slice (some ⟨g, 128 * s, none⟩) 128 128) (.slice (some ⟨b, 1, none⟩) 128 128) _ rfl rfl HCP.out ?_)
          | (go_simp; go_at_call 38; refine (part_at g h.n cg s w2.drew HSN.out.2 HG.out.2 (by have := K.out.big; omega)).mono ?_; rintro e w' ⟨rfl, hw⟩; subst w'))
        have HB3 := Aside0.mk (show Below W.heap.size W (w2.drew.setRow g cs) from below_setRow' (below_drew (HBr.out.trans (HB2.out.mono HBr.out.size))) HG.out.1 cs)
        clear HCP
        generalize w2.drew.setRow g cs = w3 at *
        go_wp2_with fail
        refine ⟨⟨k + 1, rfl, ⟨ci⟩, ⟨?_⟩, ⟨HB3.out⟩⟩, ?_⟩
        · rw [take_step HOP.out, layOp, if_neg HFO.out, HSN.out.1, Int.toNat_natCast]
          exact HM3.out
        · simp only [intOf]
          omega
    · have ci1 : decide ((k : Int) < (n : Int)) = false := decide_eq_false (by omega)
      have ci2 : decide (k < n) = false := decide_eq_false ci
      go_wp2_with fail
      go_ret
      obtain rfl : k = n := by have := HK.out; omega
      exact ⟨g, cg, rfl, HMr.out, HG.out.1, HG.out.2, HBr.out⟩
end Go.Proofs.YtpaonoaedjkekaaDoor.Dk
namespace Go.Proofs.YtpaonoaedjkekaaDoor.Dk
open Go Go.RowKit Go.Proofs.YtpaonoaedjkekaaDoor.PD Go.Proofs.YtpaonoaedjkekaaDoorW.PrintWords Go.Proofs.YtpaonoaedjkekaaDoorW.PrintLast Go.Proofs.YtpaonoaedjkekaaDoorW.PrintMore
set_option linter.unusedVariables false
set_option linter.unusedSimpArgs false
theorem full_l0 (a : Int) : ∀ (k i : Nat), i + k = 128 → larderlaw06_full.l0 (k + 1) a (List.replicate i a ++ List.replicate (128 - i) 0) (i : Int) = some (List.replicate 128 a)
  | 0, i, h => by
    obtain rfl : i = 128 := by omega
    unfold larderlaw06_full.l0
    rw [if_neg (by simp)]
    simp
  | k + 1, i, h => by
    have ih := full_l0 a k (i + 1) (by omega)
    unfold larderlaw06_full.l0
    have e1 : wrap64 ((i : Int) + 1) = ((i + 1 : Nat) : Int) := by unfold wrap64; omega
    have e2 : (List.replicate i a ++ List.replicate (128 - i) 0).set ((i : Int).toNat) a = List.replicate (i + 1) a ++ List.replicate (128 - (i + 1)) 0 := by
      rw [Int.toNat_natCast, List.set_append_right _ _ (by simp), List.length_replicate, Nat.sub_self, show 128 - i = (128 - (i + 1)) + 1 from by omega, List.replicate_succ, List.set_cons_zero, List.replicate_succ', List.append_assoc]
      rfl
    rw [if_pos (by simp; omega), if_pos (by omega), e2, e1]
    exact ih
theorem full_ok (a : Int) : larderlaw06_full.f 129 a = some (List.replicate 128 a) := by
  unfold larderlaw06_full.f
  rw [if_pos (by decide)]
  have := full_l0 a 128 0 rfl
  simpa using this
/-- Which sector a number means. -/
def sec (x : Int) : Nat := if x < 0 then ((-(x + 1)) % 6).toNat else (x % 6).toNat
theorem sec_lt (x : Int) : sec x < 6 := by
  unfold sec
  split <;> omega
theorem within_ok (x : Int) (h : -9223372036854775808 ≤ x ∧ x ≤ 9223372036854775807) : larderlaw06_within.f x 0 5 = some (sec x : Int) := by
  have e6 : wrap64 ((wrap64 (5 - 0)) + 1) = 6 := by unfold wrap64; omega
  unfold larderlaw06_within.f
  simp only [e6]
  by_cases hx : x < 0
  · have e1 : wrap64 (x + 1) = x + 1 := by unfold wrap64; omega
    have e2 : wrap64 (-(x + 1)) = -(x + 1) := by unfold wrap64; omega
    have e3 : (sec x : Int) = (-(x + 1)) % 6 := by unfold sec; rw [if_pos hx]; omega
    rw [if_pos hx, if_neg (by decide), e1, e2, Int.tmod_eq_emod_of_nonneg (by omega), e3]
    congr 1
    unfold wrap64
    omega
  · have e3 : (sec x : Int) = x % 6 := by unfold sec; rw [if_neg hx]; omega
    rw [if_neg hx, if_neg (by decide), Int.tmod_eq_emod_of_nonneg (by omega), e3]
    congr 1
    unfold wrap64
    omega
/-- The operation of a put. -/
def opOf (p : S37) : Int × List Int := if p.f2 = true then flushOp else ((sec p.f0 : Int), List.replicate 128 p.f1)
def opsOf (puts : List S37) : List (Int × List Int) := puts.map opOf
theorem opOf_ok (p : S37) : (opOf p).2.length = 128 ∧ (opOf p = flushOp ∨ ∃ s : Nat, (opOf p).1 = (s : Int) ∧ 128 * s + 128 ≤ 768) := by
  unfold opOf
  split
  · exact ⟨List.length_replicate .., .inl rfl⟩
  · exact ⟨List.length_replicate .., .inr ⟨sec p.f0, rfl, by have := sec_lt p.f0; omega⟩⟩
theorem opsOf_ok (puts : List S37) : Oks 768 (opsOf puts) := fun op h => by
  obtain ⟨p, _, rfl⟩ := List.mem_map.1 h
  exact opOf_ok p
theorem opsOf_take {puts : List S37} {i : Nat} {p : S37} (h : puts[i]? = some p) : opsOf (puts.take (i + 1)) = opsOf (puts.take i) ++ [opOf p] := by
  rw [List.take_add_one, h]
  simp [opsOf]
theorem opsOf_len (puts : List S37) : (opsOf puts).length = puts.length := by simp [opsOf]
def blank : List Int := List.replicate 768 0
end Go.Proofs.YtpaonoaedjkekaaDoor.Dk
namespace Go.Proofs.YtpaonoaedjkekaaDoor.Dk
open Go Go.RowKit Go.Proofs.YtpaonoaedjkekaaDoor.PD Go.Proofs.YtpaonoaedjkekaaDoorW.PrintWords Go.Proofs.YtpaonoaedjkekaaDoorW.PrintLast Go.Proofs.YtpaonoaedjkekaaDoorW.PrintMore
set_option linter.unusedVariables false
set_option linter.unusedSimpArgs false
set_option maxHeartbeats 4000000
set_option maxRecDepth 100000
theorem blank_padded : padded [] (128 * 6) = blank := by simp [padded, blank]
/-- Puts whose numbers are numbers. -/
def Puts (puts : List S37) : Prop := ∀ p ∈ puts, -9223372036854775808 ≤ p.f0 ∧ p.f0 ≤ 9223372036854775807
theorem laid_at (A : Option Addr) (c : Nat) (puts : List S37) (W : World) (hC : Kd.C k37 W A puts.length puts) (hP : Puts puts) (hn : puts.length ≤ 300) (hF : Fl W) (h0 : 0 < W.heap.size) :
    Calls Tryd.prog 12 #[.slice A puts.length c] W fun e w' => ∃ (h : Hd) (A' : Option Addr) (c' : Nat), e = .returned (ptr h.D) ∧ h.n = 768 ∧ DkAt h W.heap.size blank (behindL blank (opsOf puts)) (.slice A' (opsOf puts).length c') (opsOf puts) w' ∧ Below W.heap.size W w' := by
  have HC := Aside0.mk hC
  have HP := Aside0.mk hP
  have HN := Aside0.mk hn
  have HF := Aside0.mk hF
  have H0 := Aside0.mk h0
  clear hC hP hn hF h0
  obtain ⟨L, hL⟩ : ∃ L, puts.length = L := ⟨_, rfl⟩
  have HL := Aside0.mk hL
  rw [hL]
  clear hL
  go_enter Tryd.func12, Tryd.ntmps12
  go_wp2_with fail
  go_at_call 25
  refine (new_at none 0 0 6 [] W (Kd.C_nil _ _) (by decide) (by decide) (by decide)).mono ?_
  rintro e w1 ⟨h, rfl, hhn, hk, hb⟩
  have HHN := Aside0.mk hhn
  rw [blank_padded] at hk
  have HK := Aside0.mk hk
  have HB := Aside0.mk hb
  clear hhn hk hb
  go_wp2_with fail
  go_loopw [5] (fun p wr => ∃ (i : Nat) (A1 : Option Addr) (c1 : Nat), p = .int .i64 (i : Int) ∧ Aside0 (i ≤ L) ∧ Aside0 (DkAt h W.heap.size blank (behindL blank (opsOf (puts.take i))) (.slice A1 (opsOf (puts.take i)).length c1) (opsOf (puts.take i)) wr) ∧ Aside0 (Below W.heap.size W wr)) (fun p _ => L - (intOf p).toNat)
  · exact ⟨0, none, 0, rfl, ⟨Nat.zero_le _⟩, ⟨HK.out⟩, ⟨HB.out⟩⟩
  · obtain ⟨i, A1, c1, rfl, HI, HKr, HBr⟩ := hrel
    by_cases ci : i < L
    · have ci1 : decide ((i : Int) < (L : Int)) = true := decide_eq_true (by omega)
      have ci2 : decide (i < L) = true := decide_eq_true ci
      have ci3 : (0 : Int) ≤ (i : Int) := by omega
      have ci4 : (i : Int) < (L : Int) := by omega
      have hw1 : IntKind.i64.wrap ((i : Int) + 1) = ((i + 1 : Nat) : Int) := by rw [IntWalk.i64_in _ (by have := HN.out; have := HL.out; omega)]; omega
      obtain ⟨p, hp⟩ : ∃ p, puts[i]? = some p := ⟨_, List.getElem?_eq_getElem (by have := HL.out; omega)⟩
      have hrd : rd_T37 puts (i : Int) = p := by unfold rd_T37; rw [Int.toNat_natCast, List.getD_eq_getElem?_getD, hp]; rfl
      have hCr : Kd.C k37 wr A puts.length puts := Kd.C_below HC.out HBr.out
      obtain ⟨ad, rfl, p0, p1, p2⟩ := at_T37 hCr (i : Int) (by omega) (by have := HL.out; omega)
      rw [hrd, Int.toNat_natCast] at p0 p1 p2
      have hput : puts.length = L := HL.out
      have HPT := Aside0.mk hp
      have HFr := Aside0.mk (show Fl wr from fun j v hj => by
        have := HF.out j v hj
        rw [← this]
        exact HBr.out.cell (p := ⟨0, 0 + j, none⟩) H0.out)
      have HOL := Aside0.mk (show (opsOf (puts.take i)).length < 65536 by rw [opsOf_len, List.length_take]; have := HN.out; omega)
      have HWI := Aside0.mk (within_ok p.f0 (HP.out p (List.mem_of_getElem? hp)))
      have MKS := Aside0.mk (show ∀ w', Below W.heap.size W w' → Below W.heap.size W w' ∧ w'.cell? (ad.add (i * 3)) = some (.int .i64 p.f0) ∧ w'.cell? ⟨(ad.add (i * 3)).block, (ad.add (i * 3)).off + 1, none⟩ = some (.int .u8 p.f1) from fun w' hb => by
        obtain ⟨ad', e, q0, q1, _⟩ := at_T37 (Kd.C_below HC.out hb) (i : Int) (by omega) (by have := HL.out; omega)
        obtain rfl := Option.some.inj e
        rw [hrd, Int.toNat_natCast] at q0 q1
        exact ⟨hb, q0, q1⟩)
      clear hCr hrd hp hput
      rcases hpf : p.f2
      · rw [hpf] at p2
        have HPF := Aside0.mk hpf
        clear hpf
        go_upto_region 10 with fail
        -- region 10
        refine wp_region_noPanic ?_
        refine wp_region_held_drew (S := fun w' => Below W.heap.size W w' ∧ w'.cell? (ad.add (i * 3)) = some (.int .i64 p.f0) ∧ w'.cell? ⟨(ad.add (i * 3)).block, (ad.add (i * 3)).off + 1, none⟩ = some (.int .u8 p.f1)) (by kernel_rfl) (MKS.out _ (below_drew HBr.out)) (fun hHeld => ?_)
        refine wpAnyH_take (i := 0) (oi := { dst := some 30, op := Op.move (Operand.tmp 3), type := 25, pos := "outright.go:46", after := #[], guard := none }) (v := ?_) rfl (by kernel_rfl) (by kernel_rfl) (by kernel_rfl) (fun _ _ _ h => h) (Or.inl ⟨by rfl, ?_⟩) hHeld ?_
        rotate_left
        · intro w' hS; obtain ⟨hS0, hS1, hS2⟩ := hS; go_simp; all_goals (with_reducible rfl)
        (try simp only [Act.put, List.setIfInBounds_toArray, List.set_cons_zero, List.set_cons_succ])
        refine wpAnyH_take (i := 1) (oi := { dst := some 31, op := Op.move (Operand.tmp 0), type := 22, pos := "outright.go:46", after := #[], guard := none }) (v := ?_) rfl (by kernel_rfl) (by kernel_rfl) (by kernel_rfl) (fun _ _ _ h => h) (Or.inl ⟨by rfl, ?_⟩) hHeld ?_
        rotate_left
        · intro w' hS; obtain ⟨hS0, hS1, hS2⟩ := hS; go_simp; all_goals (with_reducible rfl)
        (try simp only [Act.put, List.setIfInBounds_toArray, List.set_cons_zero, List.set_cons_succ])
        refine wpAnyH_take (i := 2) (oi := { dst := some 32, op := Op.move (Operand.tmp 5), type := 3, pos := "outright.go:46", after := #[], guard := none }) (v := ?_) rfl (by kernel_rfl) (by kernel_rfl) (by kernel_rfl) (fun _ _ _ h => h) (Or.inl ⟨by rfl, ?_⟩) hHeld ?_
        rotate_left
        · intro w' hS; obtain ⟨hS0, hS1, hS2⟩ := hS; go_simp; all_goals (with_reducible rfl)
        (try simp only [Act.put, List.setIfInBounds_toArray, List.set_cons_zero, List.set_cons_succ])
        refine wpAnyH_take (i := 3) (oi := { dst := some 33, op := Op.indexAddr 22 (Operand.tmp 31) (Operand.tmp 32), type := 0, pos := "outright.go:46", after := #[{ on := 1, ground := Ground.data }, { on := 2, ground := Ground.data }], guard := none }) (v := ?_) rfl (by kernel_rfl) (by kernel_rfl) (by kernel_rfl) (fun _ _ _ h => h) (Or.inl ⟨by rfl, ?_⟩) hHeld ?_
        rotate_left
        · intro w' hS; obtain ⟨hS0, hS1, hS2⟩ := hS; go_simp; all_goals (with_reducible rfl)
        (try simp only [Act.put, List.setIfInBounds_toArray, List.set_cons_zero, List.set_cons_succ])
        refine wpAnyH_take (i := 4) (oi := { dst := some 34, op := Op.fieldAddr 37 (Operand.tmp 33) 0, type := 0, pos := "outright.go:46", after := #[{ on := 3, ground := Ground.data }], guard := none }) (v := ?_) rfl (by kernel_rfl) (by kernel_rfl) (by kernel_rfl) (fun _ _ _ h => h) (Or.inl ⟨by rfl, ?_⟩) hHeld ?_
        rotate_left
        · intro w' hS; obtain ⟨hS0, hS1, hS2⟩ := hS; go_simp; all_goals (with_reducible rfl)
        (try simp only [Act.put, List.setIfInBounds_toArray, List.set_cons_zero, List.set_cons_succ])
        refine wpAnyH_take (i := 5) (oi := { dst := some 35, op := Op.load 3 (Operand.tmp 34), type := 3, pos := "outright.go:46", after := #[{ on := 4, ground := Ground.data }], guard := none }) (v := ?_) rfl (by kernel_rfl) (by kernel_rfl) (by kernel_rfl) (fun _ _ _ h => h) (Or.inl ⟨by rfl, ?_⟩) hHeld ?_
        rotate_left
        · intro w' hS; obtain ⟨hS0, hS1, hS2⟩ := hS; go_simp; all_goals (with_reducible rfl)
        (try simp only [Act.put, List.setIfInBounds_toArray, List.set_cons_zero, List.set_cons_succ])
        refine wpAnyH_take (i := 7) (oi := { dst := some 37, op := Op.move (Operand.tmp 0), type := 22, pos := "outright.go:46", after := #[], guard := none }) (v := ?_) rfl (by kernel_rfl) (by kernel_rfl) (by kernel_rfl) (fun _ _ _ h => h) (Or.inl ⟨by rfl, ?_⟩) hHeld ?_
        rotate_left
        · intro w' hS; obtain ⟨hS0, hS1, hS2⟩ := hS; go_simp; all_goals (with_reducible rfl)
        (try simp only [Act.put, List.setIfInBounds_toArray, List.set_cons_zero, List.set_cons_succ])
        refine wpAnyH_take (i := 8) (oi := { dst := some 38, op := Op.move (Operand.tmp 5), type := 3, pos := "outright.go:46", after := #[], guard := none }) (v := ?_) rfl (by kernel_rfl) (by kernel_rfl) (by kernel_rfl) (fun _ _ _ h => h) (Or.inl ⟨by rfl, ?_⟩) hHeld ?_
        rotate_left
        · intro w' hS; obtain ⟨hS0, hS1, hS2⟩ := hS; go_simp; all_goals (with_reducible rfl)
        (try simp only [Act.put, List.setIfInBounds_toArray, List.set_cons_zero, List.set_cons_succ])
        refine wpAnyH_take (i := 9) (oi := { dst := some 39, op := Op.indexAddr 22 (Operand.tmp 37) (Operand.tmp 38), type := 0, pos := "outright.go:46", after := #[{ on := 7, ground := Ground.data }, { on := 8, ground := Ground.data }], guard := none }) (v := ?_) rfl (by kernel_rfl) (by kernel_rfl) (by kernel_rfl) (fun _ _ _ h => h) (Or.inl ⟨by rfl, ?_⟩) hHeld ?_
        rotate_left
        · intro w' hS; obtain ⟨hS0, hS1, hS2⟩ := hS; go_simp; all_goals (with_reducible rfl)
        (try simp only [Act.put, List.setIfInBounds_toArray, List.set_cons_zero, List.set_cons_succ])
        refine wpAnyH_take (i := 10) (oi := { dst := some 40, op := Op.fieldAddr 37 (Operand.tmp 39) 1, type := 0, pos := "outright.go:46", after := #[{ on := 9, ground := Ground.data }], guard := none }) (v := ?_) rfl (by kernel_rfl) (by kernel_rfl) (by kernel_rfl) (fun _ _ _ h => h) (Or.inl ⟨by rfl, ?_⟩) hHeld ?_
        rotate_left
        · intro w' hS; obtain ⟨hS0, hS1, hS2⟩ := hS; go_simp; all_goals (with_reducible rfl)
        (try simp only [Act.put, List.setIfInBounds_toArray, List.set_cons_zero, List.set_cons_succ])
        refine wpAnyH_take (i := 11) (oi := { dst := some 41, op := Op.load 5 (Operand.tmp 40), type := 5, pos := "outright.go:46", after := #[{ on := 10, ground := Ground.data }], guard := none }) (v := ?_) rfl (by kernel_rfl) (by kernel_rfl) (by kernel_rfl) (fun _ _ _ h => h) (Or.inl ⟨by rfl, ?_⟩) hHeld ?_
        rotate_left
        · intro w' hS; obtain ⟨hS0, hS1, hS2⟩ := hS; go_simp; all_goals (with_reducible rfl)
        (try simp only [Act.put, List.setIfInBounds_toArray, List.set_cons_zero, List.set_cons_succ])
        refine wpAnyH_ready (rs := [6]) (by kernel_rfl) (by simp) ?_
        refine AllReadyH.cons (o := { dst := some 36, op := Op.call { callee := Callee.value (Operand.func 13), args := #[Operand.tmp 35, Operand.const (Value.int IntKind.i64 0), Operand.const (Value.int IntKind.i64 5)], argTypes := #[3, 3, 3] }, type := 3, pos := "outright.go:46", after := #[{ on := 5, ground := Ground.data }], guard := none }) rfl (fun K hK => ?_) AllReadyH.nil
        go_simp
        go_at_call 13
        refine (larderlaw06_within.calls p.f0 0 5 _ _ HWI.out).mono ?_
        rintro e w2 ⟨rfl, ⟨nd, rfl⟩⟩
        have hb2 : Below wr.heap.size wr (wr.drew.drewN nd) := pw_below_drewN (below_drew (Below.refl _ _)) nd
        have HB2 := Aside0.mk hb2
        clear hb2
        generalize wr.drew.drewN nd = w2 at *
        refine hK.out _ _ (MKS.out _ (HBr.out.trans (HB2.out.mono HBr.out.size))) (fun hHeld => ?_)
        clear hK K
        (try simp only [Act.put, List.setIfInBounds_toArray, List.set_cons_zero, List.set_cons_succ])
        refine wpAnyH_ready (rs := [12]) (by kernel_rfl) (by simp) ?_
        refine AllReadyH.cons (o := { dst := some 42, op := Op.call { callee := Callee.value (Operand.func 28), args := #[Operand.tmp 41], argTypes := #[5] }, type := 29, pos := "outright.go:46", after := #[{ on := 11, ground := Ground.data }, { on := 6, ground := Ground.chain }], guard := none }) rfl (fun K hK => ?_) AllReadyH.nil
        go_simp
        go_at_call 28
        refine (larderlaw06_full.calls 129 p.f1 _ w2 (full_ok p.f1)).mono ?_
        rintro e w3 ⟨v, rfl, hr, hb3⟩
        have HR3 := Aside0.mk hr
        have HB3 := Aside0.mk hb3
        obtain ⟨A2, c2, e⟩ := Kd.R_slice hr
        rw [List.length_replicate] at e
        subst e
        clear hr hb3
        refine hK.out _ _ (MKS.out _ ((HBr.out.trans (HB2.out.mono HBr.out.size)).trans (HB3.out.mono (Nat.le_trans HBr.out.size HB2.out.size)))) (fun hHeld => ?_)
        clear hK K
        (try simp only [Act.put, List.setIfInBounds_toArray, List.set_cons_zero, List.set_cons_succ])
        refine wpAnyH_ready (rs := [13]) (by kernel_rfl) (by simp) ?_
        refine AllReadyH.cons (o := { dst := some 43, op := Op.call { callee := Callee.value (Operand.func 27), args := #[Operand.tmp 30, Operand.tmp 36, Operand.tmp 42], argTypes := #[25, 3, 29] }, type := 30, pos := "outright.go:46", after := #[{ on := 0, ground := Ground.data }, { on := 6, ground := Ground.data }, { on := 12, ground := Ground.data }, { on := 12, ground := Ground.chain }], guard := none }) rfl (fun K hK => ?_) AllReadyH.nil
        go_simp
        go_at_call 27
        refine (write_at (HKr.out.stay (HB2.out.trans (HB3.out.mono HB2.out.size))) (sec p.f0) (List.replicate 128 p.f1) (Kd.C_kept_own (n := 128) (Kd.R_mono (Kd.R_bound HR3.out) (ok' := fun k => w2.heap.size ≤ k) (fun k hk => hk.2.1)) (fun k hk1 hk2 => by have := (HKr.out.own_lt k hk2).2; have := HB2.out.size; omega)) (by rw [HHN.out]; have := sec_lt p.f0; omega) HOL.out).mono ?_
        rintro e w4 ⟨rfl, A4, c4, hk4, hkp, hb4, hat4⟩
        have HK4 := Aside0.mk hk4
        have HB4 := Aside0.mk hb4
        clear hk4 hkp hb4 hat4
        refine hK.out _ _ (MKS.out _ (((HBr.out.trans (HB2.out.mono HBr.out.size)).trans (HB3.out.mono (Nat.le_trans HBr.out.size HB2.out.size))).trans HB4.out)) (fun hHeld => ?_)
        clear hK K
        (try simp only [Act.put, List.setIfInBounds_toArray, List.set_cons_zero, List.set_cons_succ])
        refine wpAnyH_take (i := 14) (oi := { dst := some 6, op := Op.assign (Operand.tmp 43), type := 30, pos := "outright.go:46", after := #[{ on := 13, ground := Ground.data }, { on := 13, ground := Ground.chain }, { on := 0, ground := Ground.phase }, { on := 1, ground := Ground.phase }, { on := 2, ground := Ground.phase }, { on := 3, ground := Ground.phase }, { on := 4, ground := Ground.phase }, { on := 5, ground := Ground.phase }, { on := 6, ground := Ground.phase }, { on := 7, ground := Ground.phase }, { on := 8, ground := Ground.phase }, { on := 9, ground := Ground.phase }, { on := 10, ground := Ground.phase }, { on := 11, ground := Ground.phase }, { on := 12, ground := Ground.phase }, { on := 13, ground := Ground.phase }], guard := none }) (v := ?_) rfl (by kernel_rfl) (by kernel_rfl) (by kernel_rfl) (fun _ _ _ h => h) (Or.inl ⟨by rfl, ?_⟩) hHeld ?_
        rotate_left
        · intro w' hS; obtain ⟨hS0, hS1, hS2⟩ := hS; go_simp; all_goals (with_reducible rfl)
        (try simp only [Act.put, List.setIfInBounds_toArray, List.set_cons_zero, List.set_cons_succ])
        refine wpAnyH_done (by kernel_rfl) ?_ _
        (try simp only [Act.put, List.setIfInBounds_toArray, List.set_cons_zero, List.set_cons_succ])
        refine NoPanic.normal ?_
        -- behind region 10
        go_wp2_with fail
        refine ⟨⟨i + 1, A4, c4, rfl, ⟨ci⟩, ⟨?_⟩, ⟨((HBr.out.trans (HB2.out.mono HBr.out.size)).trans (HB3.out.mono (Nat.le_trans HBr.out.size HB2.out.size))).trans HB4.out⟩⟩, ?_⟩
        · have e : opOf p = ((sec p.f0 : Int), List.replicate 128 p.f1) := by unfold opOf; rw [HPF.out]; rfl
          rw [opsOf_take HPT.out, e]
          have e2 : behindL blank (opsOf (puts.take i) ++ [((sec p.f0 : Int), List.replicate 128 p.f1)]) = (behindL blank (opsOf (puts.take i))).take (128 * sec p.f0) ++ List.replicate 128 p.f1 ++ (behindL blank (opsOf (puts.take i))).drop (128 * sec p.f0 + 128) := by
            simp only [behindL, List.foldl_append, List.foldl_cons, List.foldl_nil]
            rw [layOp, if_neg (by intro e; have := congrArg Prod.fst e; simp [flushOp] at this)]
            simp
          rw [e2, List.length_append, List.length_singleton]
          exact HK4.out
        · simp only [intOf]
          omega
      · rw [hpf] at p2
        have HPF := Aside0.mk hpf
        clear hpf
        go_wp2_with fail
        go_at_call 29
        refine (flush_at HKr.out HFr.out HOL.out).mono ?_
        rintro e w4 ⟨rfl, A4, c4, hk4, hkp, hb4, hat4⟩
        have HK4 := Aside0.mk hk4
        have HB4 := Aside0.mk hb4
        clear hk4 hkp hb4 hat4
        go_wp2_with fail
        refine ⟨⟨i + 1, A4, c4, rfl, ⟨ci⟩, ⟨?_⟩, ⟨HBr.out.trans HB4.out⟩⟩, ?_⟩
        · have e : opOf p = flushOp := by unfold opOf; rw [HPF.out]; rfl
          rw [opsOf_take HPT.out, e]
          have e2 : behindL blank (opsOf (puts.take i) ++ [flushOp]) = behindL blank (opsOf (puts.take i)) := by
            simp [behindL, List.foldl_append, layOp]
          rw [e2, List.length_append, List.length_singleton]
          exact HK4.out
        · simp only [intOf]
          omega
    · have ci1 : decide ((i : Int) < (L : Int)) = false := decide_eq_false (by omega)
      have ci2 : decide (i < L) = false := decide_eq_false ci
      go_wp2_with fail
      go_ret
      obtain rfl : i = puts.length := by have := HI.out; have := HL.out; omega
      have := HKr.out
      rw [List.take_length] at this
      exact ⟨h, A1, c1, rfl, HHN.out, this, HBr.out⟩
end Go.Proofs.YtpaonoaedjkekaaDoor.Dk
namespace Go.Proofs.YtpaonoaedjkekaaDoor.Dk
open Go Go.RowKit Go.Proofs.YtpaonoaedjkekaaDoor.PD Go.Proofs.YtpaonoaedjkekaaDoorW.PrintWords Go.Proofs.YtpaonoaedjkekaaDoorW.PrintLast Go.Proofs.YtpaonoaedjkekaaDoorW.PrintMore
set_option linter.unusedVariables false
set_option linter.unusedSimpArgs false
set_option maxHeartbeats 4000000
set_option maxRecDepth 100000
theorem image_at {h : Hd} {B : Nat} {fs ss : List Int} {vo : Value} {ops : List (Int × List Int)} {W : World} (k : DkAt h B fs ss vo ops W) :
    Calls Tryd.prog 20 #[ptr h.D] W fun e w' => ∃ g c', e = .returned (.slice (some ⟨g, 0, none⟩) h.n c') ∧ Mem w' g ss ∧ W.heap.size ≤ g ∧ h.n ≤ c' ∧ Below W.heap.size W w' := by
  have K := Aside0.mk k
  have c1 := k.row.cell 1 _ rfl
  have HC := Aside0.mk (show Kd.C (Kd.int .u8) W (some ⟨h.gs, 0, none⟩) h.n ss from by
    have := k.s.all (by have := k.ls; have := k.big; omega)
    rwa [k.ls] at this)
  clear k
  go_enter Tryd.func20, Tryd.ntmps20
  go_wp2_with fail
  go_at_call 39
  refine (clone_at _ h.n h.cs ss W HC.out K.out.pos (by have := K.out.big; omega)).mono ?_
  rintro e w1 ⟨g, cg, rfl, hM, hg, hcg, hb⟩
  have HR := Aside0.mk (show Mem w1 g ss ∧ W.heap.size ≤ g ∧ h.n ≤ cg ∧ Below W.heap.size W w1 from ⟨hM, hg, hcg, hb⟩)
  clear hM hg hcg hb
  go_wp2_with fail
  go_ret
  exact ⟨g, cg, rfl, HR.out⟩
/-- A sector of an image. -/
def sectorL (im : List Int) (n : Nat) : List Int := (im.drop (128 * n)).take 128
theorem read_at {h : Hd} {B : Nat} {fs ss : List Int} {vo : Value} {ops : List (Int × List Int)} {W : World} (k : DkAt h B fs ss vo ops W) (n : Nat) (hn : 128 * n + 128 ≤ h.n) :
    Calls Tryd.prog 23 #[ptr h.D, .int .i64 (n : Int)] W fun e w' => ∃ g c', e = .returned (.tuple #[.slice (some ⟨g, 0, none⟩) 128 c', .int .i64 0]) ∧ Mem w' g (sectorL ss n) ∧ W.heap.size ≤ g ∧ 128 ≤ c' ∧ Below W.heap.size W w' := by
  have K := Aside0.mk k
  have c1 := k.row.cell 1 _ rfl
  have hC : Kd.C (Kd.int .u8) W (some ⟨h.gs, 128 * n, none⟩) 128 (sectorL ss n) := k.s.sub (128 * n) 128 (by rw [k.ls]; exact hn) (by decide)
  have HC := Aside0.mk hC
  have HN := Aside0.mk hn
  obtain ⟨q, hq⟩ : ∃ q, h.n / 128 = q := ⟨_, rfl⟩
  have n1 : ¬ ((n : Int) < 0) := by omega
  have n2 : ¬ ((q : Int) ≤ (n : Int)) := by omega
  have HQ := Aside0.mk hq
  clear k hC hn hq
  go_enter Tryd.func23, Tryd.ntmps23
  go_wp2_with (first
    | (go_at_call 19; refine (sectors_at K.out q HQ.out).mono ?_; rintro e w' ⟨rfl, hw⟩; subst w')
    | (go_at_call 38; refine (part_at h.gs h.n h.cs n _ HN.out K.out.cs (by have := K.out.big; omega)).mono ?_; rintro e w' ⟨rfl, hw⟩; subst w'))
  go_at_call 39
  refine (clone_at _ 128 128 (sectorL ss n) W HC.out (by decide) (by decide)).mono ?_
  rintro e w1 ⟨g, cg, rfl, hM, hg, hcg, hb⟩
  have HR := Aside0.mk (show Mem w1 g (sectorL ss n) ∧ W.heap.size ≤ g ∧ 128 ≤ cg ∧ Below W.heap.size W w1 from ⟨hM, hg, hcg, hb⟩)
  clear hM hg hcg hb
  go_wp2_with fail
  go_ret2
  exact ⟨g, cg, rfl, HR.out⟩
end Go.Proofs.YtpaonoaedjkekaaDoor.Dk
