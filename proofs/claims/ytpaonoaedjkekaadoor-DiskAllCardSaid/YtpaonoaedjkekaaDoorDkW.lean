/- (*disk.Disk).Write, walked. -/
import Derived.Test.YtpaonoaedjkekaaDoorDkNew
import Derived.Great.BuildSlice
import Derived.Great.Walk
import Derived.Deep.Cut
import Derived.Deep.RegionLaw
namespace Go.Proofs.YtpaonoaedjkekaaDoor.Dk
open Go Go.RowKit Go.Proofs.YtpaonoaedjkekaaDoor.PD Go.Proofs.YtpaonoaedjkekaaDoorW.PrintWords Go.Proofs.YtpaonoaedjkekaaDoorW.PrintLast Go.Proofs.YtpaonoaedjkekaaDoorW.PrintMore
set_option linter.unusedVariables false
set_option linter.unusedSimpArgs false
set_option maxHeartbeats 4000000
set_option maxRecDepth 100000
theorem sectors_at {h : Hd} {B : Nat} {fs ss : List Int} {vo : Value} {ops : List (Int × List Int)} {W : World} (k : DkAt h B fs ss vo ops W) (q : Nat) (hq : h.n / 128 = q) :
    Calls Tryd.prog 19 #[ptr h.D] W fun e w' => e = .returned (.int .i64 (q : Int)) ∧ w' = W := by
  subst hq
  have c0 := k.row.cell 0 _ rfl
  have hb := k.big
  have e1 : wrap64 (Int.tdiv (h.n : Int) 128) = ((h.n / 128 : Nat) : Int) := by
    rw [Int.tdiv_eq_ediv_of_nonneg (by omega)]; unfold wrap64; omega
  clear k
  go_enter Tryd.func19, Tryd.ntmps19
  go_wp2_with fail
  go_ret
  exact ⟨congrArg (fun z => Ending.returned (.int .i64 z)) (by omega), rfl⟩
theorem count_at {h : Hd} {B : Nat} {fs ss : List Int} {A : Option Addr} {c : Nat} {ops : List (Int × List Int)} {W : World} (k : DkAt h B fs ss (.slice A ops.length c) ops W) :
    Calls Tryd.prog 18 #[ptr h.D] W fun e w' => e = .returned (.int .i64 (ops.length : Int)) ∧ w' = W := by
  have c2 := k.row.cell 2 _ rfl
  clear k
  go_enter Tryd.func18, Tryd.ntmps18
  go_wp2_with fail
  go_ret
  exact ⟨rfl, rfl⟩
/-- An operation's cells. -/
def opCells (n : Int) (bs : List Int) : List Value := Value.int .i64 n :: cellsB bs
def newOp (n : Int) : List Value := opCells n (List.replicate 128 0)
theorem newOp_len (n : Int) : (newOp n).length = 129 := by simp [newOp, opCells, cellsB]
theorem newOp_one (n : Int) : (newOp n).toArray.all (·.oneCell') = true := by
  rw [Array.all_eq_true_iff_forall_mem]
  intro v hv
  rcases List.mem_cons.1 (List.mem_toArray.1 hv) with rfl | hv
  · rfl
  · obtain ⟨x, _, rfl⟩ := List.mem_map.1 hv
    rfl
theorem opCells_len (n : Int) (bs : List Int) : (opCells n bs).length = bs.length + 1 := by simp [opCells, cellsB]
theorem build_op (n : Int) (W : World) : (Instr.build 83 #[(0, Value.int .i64 n)]).run Tryd.prog W = .ok (.agg (newOp n).toArray) W := by
  refine run_build (P := Tryd.prog) W 83 _ _ ?_
  kernel_rfl
theorem info83 : (Tryd.prog.info? 83).map (fun i => (i.zero, i.size, i.bytes)) = some (some (.agg (newOp 0).toArray), 129, 136) := by kernel_rfl
theorem alloc_op (v : Value) (W : World) : (Instr.alloc 83 true v).run Tryd.prog W = .ok (ptr W.heap.size) (W.alloc (.cells (newOp 0).toArray 83)) := by
  obtain ⟨i, hi, hz, _, _⟩ := infoParts info83
  cases v <;> simp [Instr.alloc, zeroValue, typeInfo, hi, hz, newVar, newRow, Value.cells]
section
variable {P : Program} {ops : Array Oper} {rest : List Oper} {o : Oper} {a : Act} {w w' : World} {Q : Exit → Act → World → Prop}
theorem wpList_runBuild (hg : o.guard = none) (t : TypeId) (parts : Array (Nat × Operand)) (ho : o.op = .build t parts) (v : Value) (parts' : Array (Nat × Value)) (hp : (parts.map fun (i, x) => (i, a.eval x)) = parts')
    (hrun : (Instr.build t parts').run P w = .ok v w') (h : wpList P ops Q rest (a.put o.dst v) w') : wpList P ops Q (o :: rest) a w :=
  wpList_plain hg fun K hK => by
    unfold Oper.wp execOp
    simp only [ho, hp, Sem.run_bind, hrun, Result.andThen_ok]
    exact hK _ _ h
theorem wp_runSlice {K : Act → World → Prop} (t : TypeId) (n : Nat) (parts : Array (Nat × Operand)) (ho : o.op = .buildSlice t n parts) (v : Value) (parts' : Array (Nat × Value)) (hp : (parts.map fun (i, x) => (i, a.eval x)) = parts')
    (hrun : (Instr.buildSlice t n parts').run P w = .ok v w') (h : K (a.put o.dst v) w') : o.wp P a w K Q := by
  unfold Oper.wp execOp
  simp only [ho, hp, Sem.run_bind, hrun, Result.andThen_ok]
  exact h
theorem wpList_runAlloc (hg : o.guard = none) (t : TypeId) (ho : o.op = .alloc t) (v : Value)
    (hrun : (Instr.alloc t true (.tuple #[])).run P w = .ok v w') (h : wpList P ops Q rest (a.put o.dst v) w') : wpList P ops Q (o :: rest) a w :=
  wpList_plain hg fun K hK => by
    unfold Oper.wp execOp
    simp only [ho, Sem.run_bind, hrun, Result.andThen_ok]
    exact hK _ _ h
end
theorem fill_one (cells0 : Array Value) (h0 : cells0.size = 129) (cs : List Value) (hl : cs.length = 129) : Instr.fill (fun i => some (i * 129, 129)) cells0 [(0, .agg cs.toArray)] = some cs.toArray := by
  obtain ⟨r, hr, hs, hk⟩ := Great.fill_dense (s := 129) (by decide) [.agg cs.toArray] 0 cells0 (fun v hv => by rw [List.mem_singleton.1 hv]; simp [Value.cells, hl]) (by simp [h0])
  have e : r = cs.toArray := by
    apply Array.ext_getElem?
    intro k
    rw [hk k]
    by_cases hk1 : k < 129
    · rw [if_pos (by simp; omega), Nat.div_eq_of_lt hk1, Nat.mod_eq_of_lt hk1]
      simp [Value.cells]
    · rw [if_neg (by simp; omega), Array.getElem?_eq_none (by omega), Array.getElem?_eq_none (by rw [List.size_toArray]; omega)]
  exact hr.trans (congrArg some e)
theorem slice_op (n : Int) (p : List Int) (hp : p.length = 128) (W : World) : (Instr.buildSlice 75 1 #[(0, .agg (opCells n p).toArray)]).run Tryd.prog W = .ok (.slice (some ⟨W.heap.size, 0, none⟩) 1 1) (W.alloc (.cells (opCells n p).toArray 83)) := by
  obtain ⟨i, hi, hz, hsz, _⟩ := infoParts info83
  refine run_buildSlice (P := Tryd.prog) W 75 83 1 _ _ i _ Tryd.underlying75 hi hz (by rw [hsz]; decide) (by rw [hsz]; decide) ?_
  rw [hsz]
  exact fill_one _ (by simp) _ (by rw [opCells_len, hp])
theorem load_op {b : Nat} {vs : List Value} {W : World} (h : Rt 83 b vs W) (hl : vs.length = 129) : (loadVar 83 ⟨b, 0, none⟩).run Tryd.prog W = .ok (.agg vs.toArray) W := by
  refine run_loadVar_row W b 83 83 vs.toArray (0, 0) _ h Tryd.underlying83 rfl ?_
  rw [List.size_toArray, hl]
  kernel_rfl
theorem write_at {h : Hd} {B : Nat} {fs ss : List Int} {A A2 : Option Addr} {c c2 : Nat} {ops : List (Int × List Int)} {W : World} (k : DkAt h B fs ss (.slice A ops.length c) ops W) (n : Nat) (p : List Int) (hC : ∀ W', Kept W W' (Own h (.slice A ops.length c)) → Kd.C (Kd.int .u8) W' A2 128 p) (hn : 128 * n + 128 ≤ h.n) (hl : ops.length < 65536) :
    Calls Tryd.prog 27 #[ptr h.D, .int .i64 (n : Int), .slice A2 128 c2] W fun e w' => e = .returned (.int .i64 0) ∧ ∃ A' c', DkAt h B fs (ss.take (128 * n) ++ p ++ ss.drop (128 * n + 128)) (.slice A' (ops.length + 1) c') (ops ++ [((n : Int), p)]) w' ∧ Kept W w' (Own h (.slice A ops.length c)) ∧ Below B W w' ∧ ∀ j, (Value.slice A' (ops.length + 1) c').ownBlock = some j → (Value.slice A ops.length c).ownBlock = some j ∨ W.heap.size ≤ j := by
  have K := Aside0.mk k
  have cd := k.row.cell 2 _ rfl
  have n1 : ¬ ((n : Int) < 0) := by omega
  obtain ⟨q, hq⟩ : ∃ q, h.n / 128 = q := ⟨_, rfl⟩
  have n2 : ¬ ((q : Int) ≤ (n : Int)) := by omega
  have HQ := Aside0.mk hq
  have HC := Aside0.mk hC
  have HN := Aside0.mk hn
  have HL := Aside0.mk hl
  clear k hC hn hq hl
  have hbd := build_op (n : Int)
  have hal := alloc_op
  go_enter Tryd.func27, Tryd.ntmps27
  go_upto_region 7 with (go_at_call 19; refine (sectors_at K.out q HQ.out).mono ?_; rintro e w' ⟨rfl, hw⟩; subst w')
  have n3 : decide ((65536 : Int) ≤ (ops.length : Int)) = false := decide_eq_false (by have := HL.out; omega)
  go_upto_region 9 with fail
  apply wp_region_lit
  refine Great.wpList_readTo rfl (some 31) rfl (.int .i64 (n : Int)) rfl ?_
  simp only [Act.put, List.setIfInBounds_toArray, List.set_cons_zero, List.set_cons_succ]
  refine wpList_runBuild rfl 83 #[(0, Operand.tmp 31)] rfl (.agg (newOp (n : Int)).toArray) #[(0, .int .i64 (n : Int))] (by rw [List.map_toArray]; rfl) (hbd W) ?_
  simp only [Act.put, List.setIfInBounds_toArray, List.set_cons_zero, List.set_cons_succ]
  refine wpList_runAlloc rfl 83 rfl (ptr W.heap.size) (hal _ W) ?_
  simp only [Act.put, List.setIfInBounds_toArray, List.set_cons_zero, List.set_cons_succ]
  refine wpList_store_row rfl 83 (.tmp 7) (.tmp 32) rfl W.heap.size (newOp (n : Int)).toArray rfl rfl 83 (newOp 0).toArray (heap_alloc_new W _) (by rw [List.size_toArray, newOp_len]; kernel_rfl) (by rw [List.size_toArray, List.size_toArray, newOp_len, newOp_len]) (newOp_one _) ?_
  simp only [Act.put, List.setIfInBounds_toArray, List.set_cons_zero, List.set_cons_succ]
  refine wpList_nil ?_
  obtain ⟨b, hbe⟩ : ∃ b, W.heap.size = b := ⟨_, rfl⟩
  have hr1 : Rt 83 b (newOp (n : Int)) ((W.alloc (.cells (newOp 0).toArray 83)).setRow b (newOp (n : Int)).toArray) := by
    have h0 : Rt 83 b (newOp 0) (W.alloc (.cells (newOp 0).toArray 83)) := hbe ▸ heap_alloc_new W _
    exact h0.row _
  have hb1 : Below W.heap.size W ((W.alloc (.cells (newOp 0).toArray 83)).setRow b (newOp (n : Int)).toArray) := below_setRow' (below_alloc (Below.refl _ _) _) (Nat.le_of_eq hbe) _
  have HBE := Aside0.mk hbe
  rw [hbe] at hb1 ⊢
  generalize (W.alloc (.cells (newOp 0).toArray 83)).setRow b (newOp (n : Int)).toArray = W1 at *
  have hC1 : Kd.C (Kd.int .u8) W1 A2 128 p := HC.out _ (Kept.of_below (HBE.out.symm ▸ hb1) _)
  have hpl : p.length = 128 := Kd.C_len hC1
  obtain ⟨ad, rfl, hcell⟩ := (Kd.reads_of_C (d := (0 : Int)) (h1 := fun _ => rfl) hC1).2.2 (by decide)
  have hcp := run_copy_row (P := Tryd.prog) W1 29 29 3 5 b 1 128 128 ad 128 c2 (newOp (n : Int)).toArray 83 (cellsB p) Tryd.underlying29 size5' hr1 (by rw [cellsB_len, hpl]; rfl) (fun j v hv => by
    obtain ⟨hj, rfl⟩ := List.getElem?_eq_some_iff.1 hv
    have hj2 : j < p.length := by rw [cellsB_len] at hj; exact hj
    rw [hcell j (by omega)]
    simp [cellsB, List.getD_eq_getElem?_getD, List.getElem?_eq_getElem hj2]) (by rw [cellsB_len, hpl, List.size_toArray, newOp_len]; decide) (fun v hv => by
    obtain ⟨x, _, rfl⟩ := List.mem_map.1 hv
    rfl)
  have hcs : ((newOp (n : Int)).toArray.toList.take 1 ++ cellsB p ++ (newOp (n : Int)).toArray.toList.drop (1 + (cellsB p).length)).toArray = (opCells (n : Int) p).toArray := by
    rw [cellsB_len, hpl, List.drop_of_length_le (by show (newOp (n : Int)).length ≤ _; rw [newOp_len]; decide), List.append_nil]
    rfl
  rw [hcs, cellsB_len, hpl] at hcp
  have hr2 := hr1.row (opCells (n : Int) p)
  have hb2 := below_setRow' hb1 (Nat.le_refl b) (opCells (n : Int) p).toArray
  have HCP := Aside0.mk hcp
  have HR2 := Aside0.mk hr2
  have HB2 := Aside0.mk hb2
  have HPL := Aside0.mk hpl
  clear hr1 hb1 hC1 hpl hcell hcp hcs hr2 hb2 hbd hal hbe cd
  go_wp2_with fail
  rw [HCP.out]
  simp only [Result.andThen_ok, Oper.upon_value]
  generalize W1.setRow b (opCells (n : Int) p).toArray = W2 at *
  have HB3 := Aside0.mk (show Below W.heap.size W W2 from HBE.out ▸ HB2.out)
  have K2 := Aside0.mk (K.out.stay HB3.out)
  have HWS := Aside0.mk (show W2.heap.size = W2.heap.size from rfl)
  clear HCP HB2
  go_upto_region 11 with fail
  have HR2d := Aside0.mk (show Rt 83 b (opCells (n : Int) p) W2.drew from HR2.out)
  have K3 := Aside0.mk (K2.out.stay (below_drew (Below.refl _ _)))
  have cd : W2.drew.cell? ⟨h.D, 2, none⟩ = some (.slice A ops.length c) := K3.out.row.cell 2 _ rfl
  have cd2 : (W2.drew.alloc (.cells (opCells (n : Int) p).toArray 83)).cell? ⟨h.D, 2, none⟩ = some (.slice A ops.length c) := (K3.out.stay (below_alloc (Below.refl _ _) _)).row.cell 2 _ rfl
  have cd3 : (W2.alloc (.cells (opCells (n : Int) p).toArray 83)).cell? ⟨h.D, 2, none⟩ = some (.slice A ops.length c) := (K2.out.stay (below_alloc (Below.refl _ _) _)).row.cell 2 _ rfl
  have HOPM := Aside0.mk (show kop.M W2.drew B (fun _ => False) ((n : Int), p) (opCells (n : Int) p) from ⟨[.int .i64 (n : Int)], cellsB p, rfl, rfl, Kd.arr_of_cells HPL.out⟩)
  have HBs := Aside0.mk K3.out.size
  have HLEN := Aside0.mk (show (ops.length + 1) * 136 ≤ 140737488355328 by have := HL.out; omega)
  have HNE := Aside0.mk (show some h.D ≠ (Value.slice A ops.length c).ownBlock from Kd.R_ne K3.out.o K3.out.row (by decide))
  -- region 11
  refine wp_region_any (by kernel_rfl) ?_
  change wpAny _ _ _ _ _ _ _ (World.drew _)
  refine wpAny_take (i := 0) (oi := { dst := some 37, op := Op.move (Operand.tmp 0), type := 25, pos := "disk.go:69", after := #[], guard := none }) (v := ?_) rfl (by kernel_rfl) (by kernel_rfl) (by kernel_rfl) (fun _ _ _ h => h) (Or.inl ⟨by rfl, ?_⟩) ?_
  rotate_left
  · intro w; go_simp; all_goals (with_reducible rfl)
  (try simp only [Act.put, List.setIfInBounds_toArray, List.set_cons_zero, List.set_cons_succ])
  refine wpAny_take (i := 1) (oi := { dst := some 38, op := Op.move (Operand.tmp 0), type := 25, pos := "disk.go:69", after := #[], guard := none }) (v := ?_) rfl (by kernel_rfl) (by kernel_rfl) (by kernel_rfl) (fun _ _ _ h => h) (Or.inl ⟨by rfl, ?_⟩) ?_
  rotate_left
  · intro w; go_simp; all_goals (with_reducible rfl)
  (try simp only [Act.put, List.setIfInBounds_toArray, List.set_cons_zero, List.set_cons_succ])
  refine wpAny_take (i := 2) (oi := { dst := some 39, op := Op.nilCheck (Operand.tmp 38), type := 0, pos := "disk.go:69", after := #[{ on := 1, ground := Ground.data }], guard := none }) (v := ?_) rfl (by kernel_rfl) (by kernel_rfl) (by kernel_rfl) (fun _ _ _ h => h) (Or.inl ⟨by rfl, ?_⟩) ?_
  rotate_left
  · intro w; go_simp; all_goals (with_reducible rfl)
  (try simp only [Act.put, List.setIfInBounds_toArray, List.set_cons_zero, List.set_cons_succ])
  refine wpAny_take (i := 3) (oi := { dst := some 40, op := Op.fieldAddr 77 (Operand.tmp 39) 2, type := 0, pos := "disk.go:69", after := #[{ on := 2, ground := Ground.data }], guard := none }) (v := ?_) rfl (by kernel_rfl) (by kernel_rfl) (by kernel_rfl) (fun _ _ _ h => h) (Or.inl ⟨by rfl, ?_⟩) ?_
  rotate_left
  · intro w; go_simp; all_goals (with_reducible rfl)
  (try simp only [Act.put, List.setIfInBounds_toArray, List.set_cons_zero, List.set_cons_succ])
  refine wpAny_ready (rs := [4, 5]) (by kernel_rfl) (by simp) ?_
  refine AllReady.cons (o := { dst := some 41, op := Op.load 75 (Operand.tmp 40), type := 75, pos := "disk.go:69", after := #[{ on := 3, ground := Ground.data }], guard := none }) rfl (fun K hK => ?w4) (AllReady.cons (o := { dst := some 42, op := Op.load 83 (Operand.tmp 7), type := 83, pos := "disk.go:69", after := #[], guard := none }) rfl (fun K hK => ?w5) AllReady.nil)
  case' w4 =>
    go_simp
    refine hK _ _ ?_
    clear hK K
    (try simp only [Act.put, List.setIfInBounds_toArray, List.set_cons_zero, List.set_cons_succ])
    refine wpAny_ready (rs := [5]) (by kernel_rfl) (by simp) ?_
    refine AllReady.cons (o := { dst := some 42, op := Op.load 83 (Operand.tmp 7), type := 83, pos := "disk.go:69", after := #[], guard := none }) rfl (fun K hK => ?_) AllReady.nil
    rw [if_pos (by rfl)]
    refine wp_load_row 83 (.tmp 7) rfl b rfl 83 (opCells (n : Int) p).toArray (0, 0) _ HR2d.out Tryd.underlying83 rfl (by rw [List.size_toArray, opCells_len, HPL.out]; kernel_rfl) ?_
    refine hK _ _ ?_
    clear hK K
    (try simp only [Act.put, List.setIfInBounds_toArray, List.set_cons_zero, List.set_cons_succ])
    refine wpAny_ready (rs := [6]) (by kernel_rfl) (by simp) ?_
    refine AllReady.cons (o := { dst := some 43, op := Op.buildSlice 75 1 #[(0, Operand.tmp 42)], type := 75, pos := "disk.go:69", after := #[{ on := 5, ground := Ground.data }], guard := none }) rfl (fun K hK => ?_) AllReady.nil
    rw [if_pos (by rfl)]
    refine wp_runSlice 75 1 #[(0, Operand.tmp 42)] rfl (.slice (some ⟨W2.drew.heap.size, 0, none⟩) 1 1) #[(0, .agg (opCells (n : Int) p).toArray)] (by rw [List.map_toArray]; rfl) (slice_op (n : Int) p HPL.out W2.drew) ?_
    refine hK _ _ ?_
    clear hK K
    (try simp only [Act.put, List.setIfInBounds_toArray, List.set_cons_zero, List.set_cons_succ])
  case' w5 =>
    rw [if_pos (by rfl)]
    refine wp_load_row 83 (.tmp 7) rfl b rfl 83 (opCells (n : Int) p).toArray (0, 0) _ HR2d.out Tryd.underlying83 rfl (by rw [List.size_toArray, opCells_len, HPL.out]; kernel_rfl) ?_
    refine hK _ _ ?_
    clear hK K
    (try simp only [Act.put, List.setIfInBounds_toArray, List.set_cons_zero, List.set_cons_succ])
    refine wpAny_ready (rs := [4, 6]) (by kernel_rfl) (by simp) ?_
    refine AllReady.cons (o := { dst := some 41, op := Op.load 75 (Operand.tmp 40), type := 75, pos := "disk.go:69", after := #[{ on := 3, ground := Ground.data }], guard := none }) rfl (fun K hK => ?w54) (AllReady.cons (o := { dst := some 43, op := Op.buildSlice 75 1 #[(0, Operand.tmp 42)], type := 75, pos := "disk.go:69", after := #[{ on := 5, ground := Ground.data }], guard := none }) rfl (fun K hK => ?w56) AllReady.nil)
  case' w54 =>
    go_simp
    refine hK _ _ ?_
    clear hK K
    (try simp only [Act.put, List.setIfInBounds_toArray, List.set_cons_zero, List.set_cons_succ])
    refine wpAny_ready (rs := [6]) (by kernel_rfl) (by simp) ?_
    refine AllReady.cons (o := { dst := some 43, op := Op.buildSlice 75 1 #[(0, Operand.tmp 42)], type := 75, pos := "disk.go:69", after := #[{ on := 5, ground := Ground.data }], guard := none }) rfl (fun K hK => ?_) AllReady.nil
    rw [if_pos (by rfl)]
    refine wp_runSlice 75 1 #[(0, Operand.tmp 42)] rfl (.slice (some ⟨W2.drew.heap.size, 0, none⟩) 1 1) #[(0, .agg (opCells (n : Int) p).toArray)] (by rw [List.map_toArray]; rfl) (slice_op (n : Int) p HPL.out W2.drew) ?_
    refine hK _ _ ?_
    clear hK K
    (try simp only [Act.put, List.setIfInBounds_toArray, List.set_cons_zero, List.set_cons_succ])
  case' w56 =>
    rw [if_pos (by rfl)]
    refine wp_runSlice 75 1 #[(0, Operand.tmp 42)] rfl (.slice (some ⟨W2.drew.heap.size, 0, none⟩) 1 1) #[(0, .agg (opCells (n : Int) p).toArray)] (by rw [List.map_toArray]; rfl) (slice_op (n : Int) p HPL.out W2.drew) ?_
    refine hK _ _ ?_
    clear hK K
    (try simp only [Act.put, List.setIfInBounds_toArray, List.set_cons_zero, List.set_cons_succ])
    refine wpAny_ready (rs := [4]) (by kernel_rfl) (by simp) ?_
    refine AllReady.cons (o := { dst := some 41, op := Op.load 75 (Operand.tmp 40), type := 75, pos := "disk.go:69", after := #[{ on := 3, ground := Ground.data }], guard := none }) rfl (fun K hK => ?_) AllReady.nil
    go_simp
    refine hK _ _ ?_
    clear hK K
    (try simp only [Act.put, List.setIfInBounds_toArray, List.set_cons_zero, List.set_cons_succ])
  all_goals
    refine wpAny_ready (rs := [7]) (by kernel_rfl) (by simp) ?_
    refine AllReady.cons (o := { dst := some 44, op := Op.call { callee := Callee.builtin Builtin.append, args := #[Operand.tmp 41, Operand.tmp 43], argTypes := #[75, 75] }, type := 75, pos := "disk.go:69", after := #[{ on := 4, ground := Ground.data }, { on := 6, ground := Ground.data }], guard := none }) rfl (fun K hK => ?_) AllReady.nil
    refine Kd.R_append_step kop (w0 := W2.drew) B (by rfl) (.tmp 41) (.tmp 43) 75 83 (.agg (newOp 0).toArray) 136 rfl Tryd.underlying75 info83 (by simp [Value.cells, newOp_len]; rfl) (by decide) (by decide) (.slice A ops.length c) ops ((n : Int), p) (opCells (n : Int) p) (fun _ => True) (fun _ => False) rfl rfl HOPM.out (fun _ hk => hk.elim) (fun _ _ => trivial) K3.out.o (Below.refl _ _) HBs.out HLEN.out ?_
    intro v1 w1 ho hb hg hat
    have hr6 : Rt 77 h.D _ w1 := (hg.block h.D K3.out.row.lt HNE.out).trans K3.out.row
    have HO := Aside0.mk ho
    have HG := Aside0.mk (show W2.drew.grownBy w1 (Value.slice A ops.length c).ownBlock ∧ Below B W2.drew w1 ∧ (v1.ownBlock = (Value.slice A ops.length c).ownBlock ∨ ∃ b, v1.ownBlock = some b ∧ W2.drew.heap.size ≤ b) from ⟨hg, hb, hat⟩)
    obtain ⟨Al, cl, e⟩ := Kd.R_slice ho
    rw [List.length_append, List.length_singleton] at e
    subst e
    have c8 := hr6.cell 2 _ rfl
    have f8 := hr6.free 2
    clear ho hb hg hat
    refine hK _ _ ?_
    clear hK K
    (try simp only [Act.put, List.setIfInBounds_toArray, List.set_cons_zero, List.set_cons_succ])
    refine wpAny_ready (rs := [8]) (by kernel_rfl) (by simp) ?_
    refine AllReady.cons (o := { dst := some 45, op := Op.nilCheck (Operand.tmp 37), type := 0, pos := "disk.go:69", after := #[{ on := 0, ground := Ground.data }, { on := 0, ground := Ground.phase }, { on := 1, ground := Ground.phase }, { on := 2, ground := Ground.phase }, { on := 3, ground := Ground.phase }, { on := 4, ground := Ground.phase }, { on := 5, ground := Ground.phase }, { on := 6, ground := Ground.phase }, { on := 7, ground := Ground.phase }], guard := none }) rfl (fun K hK => ?_) AllReady.nil
    go_simp
    refine hK _ _ ?_
    clear hK K
    (try simp only [Act.put, List.setIfInBounds_toArray, List.set_cons_zero, List.set_cons_succ])
    refine wpAny_ready (rs := [9]) (by kernel_rfl) (by simp) ?_
    refine AllReady.cons (o := { dst := some 46, op := Op.fieldAddr 77 (Operand.tmp 45) 2, type := 0, pos := "disk.go:69", after := #[{ on := 8, ground := Ground.data }, { on := 0, ground := Ground.phase }, { on := 1, ground := Ground.phase }, { on := 2, ground := Ground.phase }, { on := 3, ground := Ground.phase }, { on := 4, ground := Ground.phase }, { on := 5, ground := Ground.phase }, { on := 6, ground := Ground.phase }, { on := 7, ground := Ground.phase }], guard := none }) rfl (fun K hK => ?_) AllReady.nil
    go_simp
    refine hK _ _ ?_
    clear hK K
    (try simp only [Act.put, List.setIfInBounds_toArray, List.set_cons_zero, List.set_cons_succ])
    refine wpAny_ready (rs := [10]) (by kernel_rfl) (by simp) ?_
    refine AllReady.cons (o := { dst := none, op := Op.store 75 (Operand.tmp 46) (Operand.tmp 44), type := 0, pos := "disk.go:69", after := #[{ on := 9, ground := Ground.data }, { on := 7, ground := Ground.data }, { on := 7, ground := Ground.chain }, { on := 0, ground := Ground.phase }, { on := 1, ground := Ground.phase }, { on := 2, ground := Ground.phase }, { on := 3, ground := Ground.phase }, { on := 4, ground := Ground.phase }, { on := 5, ground := Ground.phase }, { on := 6, ground := Ground.phase }, { on := 7, ground := Ground.phase }], guard := none }) rfl (fun K hK => ?_) AllReady.nil
    go_simp
    refine hK _ _ ?_
    clear hK K
    (try simp only [Act.put, List.setIfInBounds_toArray, List.set_cons_zero, List.set_cons_succ])
    refine wpAny_done (by kernel_rfl) ?_ _
    (try simp only [Act.put, List.setIfInBounds_toArray, List.set_cons_zero, List.set_cons_succ])
  -- behind region 11
  all_goals
    have e8 := hr6.set 2 (.slice Al (ops.length + 1) cl)
    have hput := K3.out.appended HO.out HG.out.2.1 HG.out.1 HL.out
    rw [e8, show (dsk h (.slice A ops.length c)).set 2 (.slice Al (ops.length + 1) cl) = dsk h (.slice Al (ops.length + 1) cl) from rfl]
    have HKP := Aside0.mk (show Kept W (w1.setRow h.D (dsk h (.slice Al (ops.length + 1) cl)).toArray) (Own h (.slice A ops.length c)) from (Kept.of_below HB3.out _).then_ (Kept.then_ ⟨Nat.le_refl _, fun _ _ _ => rfl⟩ hput.2.1 (fun _ hk => .inl hk)) (fun _ hk => .inl hk))
    have HBP := Aside0.mk (show Below B W (w1.setRow h.D (dsk h (.slice Al (ops.length + 1) cl)).toArray) from (HB3.out.mono K.out.size).trans ((below_drew (Below.refl _ _)).trans hput.2.2))
    have HAT := Aside0.mk (show ∀ j, (Value.slice Al (ops.length + 1) cl).ownBlock = some j → (Value.slice A ops.length c).ownBlock = some j ∨ W.heap.size ≤ j from fun j hj => by
      rcases HG.out.2.2 with e | ⟨b', e, hb'⟩
      · exact .inl (e ▸ hj)
      · rw [e] at hj
        injection hj with hj
        exact .inr (hj ▸ Nat.le_trans HB3.out.size hb'))
    have KP := Aside0.mk hput.1
    clear hput e8 hr6 c8 f8 HG HO cd cd2 cd3 HR2d HOPM K3 K2 HR2
    generalize w1.setRow h.D (dsk h (.slice Al (ops.length + 1) cl)).toArray = w3 at *
    have c1 := KP.out.row.cell 1 _ rfl
    go_wp2_with fail
    go_at_call 38
    refine (part_at h.gs h.n h.cs n w3 HN.out K.out.cs (by have := K.out.big; omega)).mono ?_
    rintro e w' ⟨rfl, hw⟩
    subst w'
    obtain ⟨cs, hcp, hM⟩ := Mem.copy (P := Tryd.prog) (dT := 29) (sT := 29) (ty := 3) Tryd.underlying29 size5' KP.out.s (128 * n) 128 128 128 c2 (some ad) (HC.out _ HKP.out) (Nat.le_refl _) (by rw [K.out.ls]; exact HN.out)
    have hlk := KP.out.look cs hM (by rw [List.length_append, List.length_append, List.length_take, List.length_drop, K.out.ls, HPL.out]; have := HN.out; omega)
    have HLK := Aside0.mk hlk
    have HCP := Aside0.mk hcp
    clear hlk hcp hM c1
    go_wp2_with fail
    rw [HCP.out]
    simp only [Result.andThen_ok, Oper.upon_value]
    go_wp2_with fail
    go_ret
    refine ⟨rfl, Al, cl, HLK.out.1, HKP.out.then_ HLK.out.2.1 (fun j hj => ?_), HBP.out.trans HLK.out.2.2, HAT.out⟩
    rcases hj with hj | hj | hj
    · exact .inl (.inl hj)
    · exact .inl (.inr (.inl hj))
    · rcases HAT.out j hj.symm with e | e
      · exact .inl (.inr (.inr e.symm))
      · exact .inr e
end Go.Proofs.YtpaonoaedjkekaaDoor.Dk
