/- (*disk.Disk).behind, walked. -/
import Derived.Test.YtpaonoaedjkekaaDoorDkL
namespace Go.Proofs.YtpaonoaedjkekaaDoor.Dk
open Go Go.RowKit Go.Proofs.YtpaonoaedjkekaaDoor.PD Go.Proofs.YtpaonoaedjkekaaDoorW.PrintWords Go.Proofs.YtpaonoaedjkekaaDoorW.PrintLast Go.Proofs.YtpaonoaedjkekaaDoorW.PrintMore
set_option linter.unusedVariables false
set_option linter.unusedSimpArgs false
set_option maxHeartbeats 4000000
set_option maxRecDepth 100000
theorem opCells_one (n : Int) (p : List Int) : (opCells n p).toArray.all (·.oneCell') = true := by
  rw [Array.all_eq_true_iff_forall_mem]
  intro v hv
  rcases List.mem_cons.1 (List.mem_toArray.1 hv) with rfl | hv
  · rfl
  · obtain ⟨x, _, rfl⟩ := List.mem_map.1 hv
    rfl
/-- An operation laid over an image. -/
def layOp (im : List Int) (op : Int × List Int) : List Int := if op = flushOp then im else im.take (128 * op.1.toNat) ++ op.2 ++ im.drop (128 * op.1.toNat + 128)
def behindL (fs : List Int) (ops : List (Int × List Int)) : List Int := ops.foldl layOp fs
/-- Operations of a disk of n bytes. -/
def Oks (n : Nat) (ops : List (Int × List Int)) : Prop := ∀ op ∈ ops, op.2.length = 128 ∧ (op = flushOp ∨ ∃ s : Nat, op.1 = (s : Int) ∧ 128 * s + 128 ≤ n)
theorem layOp_len {n : Nat} {im : List Int} {op : Int × List Int} (hl : im.length = n) (h : op.2.length = 128 ∧ (op = flushOp ∨ ∃ s : Nat, op.1 = (s : Int) ∧ 128 * s + 128 ≤ n)) : (layOp im op).length = n := by
  unfold layOp
  split
  · exact hl
  · rename_i hf
    rcases h.2 with e | ⟨s, e, hs⟩
    · exact (hf e).elim
    · rw [e, Int.toNat_natCast, List.length_append, List.length_append, List.length_take, List.length_drop, hl, h.1]
      omega
theorem behindL_len {n : Nat} : ∀ (ops : List (Int × List Int)) (im : List Int), im.length = n → Oks n ops → (behindL im ops).length = n
  | [], im, hl, _ => hl
  | op :: ops, im, hl, h => behindL_len ops (layOp im op) (layOp_len hl (h op List.mem_cons_self)) (fun o ho => h o (List.mem_cons_of_mem _ ho))
theorem Oks.take {n : Nat} {ops : List (Int × List Int)} (h : Oks n ops) (k : Nat) : Oks n (ops.take k) := fun op ho => h op (List.mem_of_mem_take ho)
theorem take_step {ops : List (Int × List Int)} {k : Nat} {op : Int × List Int} (h : ops[k]? = some op) (fs : List Int) : behindL fs (ops.take (k + 1)) = layOp (behindL fs (ops.take k)) op := by
  rw [List.take_add_one, h]
  simp [behindL, List.foldl_append]
theorem Rt.bytes {b : Nat} {n : Int} {p : List Int} {W : World} (h : Rt 83 b (opCells n p) W) (hp : p.length = 128) (m : Nat) (hm : m ≤ 128) : Kd.C (Kd.int .u8) W (some ⟨b, 1, none⟩) m (p.take m) := by
  refine Kd.C_of_reads (d := (0 : Int)) (h1 := fun _ => rfl) ⟨by rw [List.length_take]; omega, by omega, fun _ => ⟨_, rfl, fun j hj => ?_⟩⟩
  rw [add_off, h.cell (1 + j) (.int .u8 (p.getD j 0)) ?_]
  · congr 2
    rw [List.getD_eq_getElem?_getD, List.getD_eq_getElem?_getD, List.getElem?_take, if_pos hj]
  · rw [Nat.add_comm]
    show (cellsB p)[j]? = _
    simp [cellsB, List.getD_eq_getElem?_getD, List.getElem?_eq_getElem (show j < p.length by omega)]
theorem step_copy {P : Program} {ops : Array Oper} {o : Oper} {a : Act} {w w' : World} {K : Act → World → Prop} {Q : Exit → Act → World → Prop} {E : Prop}
    (hg : o.guard = none) (s x : Operand) (t1 t2 : TypeId) (hop : o.op = Op.call { callee := Callee.builtin Builtin.copy, args := #[s, x], argTypes := #[t1, t2] })
    (vs vx v : Value) (hs : a.eval s = vs) (hx : a.eval x = vx) (hrun : (Builtin.copy_ #[t1, t2] o.type #[vs, vx]).run P w = .ok v w') (hK : K (a.put o.dst v) w') :
    if Region.wanted o (yielded ops a.tmps) = true then Oper.wp P o a w K Q else E := by
  have hw : Region.wanted o (yielded ops a.tmps) = true := by simp [Region.wanted, hg]
  rw [if_pos hw]
  unfold Oper.wp
  simp [execOp, hop, resolve, invoke, builtin, hs, hx, hrun, Result.andThen]
  exact hK
theorem behind_at {h : Hd} {B : Nat} {fs ss : List Int} {A : Option Addr} {c : Nat} {ops : List (Int × List Int)} {W : World} (k : DkAt h B fs ss (.slice A ops.length c) ops W) (hF : Fl W) (hO : Oks h.n ops) (h0 : 0 < W.heap.size) (n : Nat) (hn : n ≤ ops.length) :
    Calls Tryd.prog 37 #[ptr h.D, .int .i64 (n : Int)] W fun e w' => ∃ g c', e = .returned (.slice (some ⟨g, 0, none⟩) h.n c') ∧ Mem w' g (behindL fs (ops.take n)) ∧ W.heap.size ≤ g ∧ h.n ≤ c' ∧ Below W.heap.size W w' := by
  have K := Aside0.mk k
  have HF := Aside0.mk hF
  have HO := Aside0.mk hO
  have HN := Aside0.mk hn
  have H0 := Aside0.mk h0
  have HL := Aside0.mk k.few
  have cd := k.row.cell 0 _ rfl
  have HC := Aside0.mk (show Kd.C (Kd.int .u8) W (some ⟨h.gf, 0, none⟩) h.n fs from by
    have := k.f.all (by have := k.lf; have := k.big; omega)
    rwa [k.lf] at this)
  clear k hF hn hO h0
  go_enter Tryd.func37, Tryd.ntmps37
  go_wp2_with fail
  go_at_call 39
  refine (clone_at _ h.n h.cf fs W HC.out K.out.pos (by have := K.out.big; omega)).mono ?_
  rintro e w1 ⟨g, cg, rfl, hM, hg, hcg, hb⟩
  have HM := Aside0.mk hM
  have HB := Aside0.mk hb
  have HG := Aside0.mk (And.intro hg hcg)
  have K1 := K.out.stay hb
  have c2 := K1.row.cell 2 _ rfl
  have hc : ops.length ≤ c := by
    rcases K1.o.2 with ⟨inner, ho, _⟩
    rcases ho.2 with ⟨e, hz⟩ | ⟨_, _, _, e, _, _, hcc, _⟩
    · injection e with _ e2 e3; omega
    · injection e with _ e2 e3; omega
  have K1 := Aside0.mk K1
  have h1 : (0 : Int) ≤ (n : Int) := by omega
  have h2 : (n : Int) ≤ (c : Int) := by have := HN.out; omega
  have h3 : n ≤ c := by have := HN.out; omega
  clear hM hb hg hcg cd hc
  go_wp2_with fail
  go_loopw [21] (fun p wr => ∃ k : Nat, p = .int .i64 (k : Int) ∧ Aside0 (k ≤ n) ∧ Aside0 (Mem wr g (behindL fs (ops.take k))) ∧ Aside0 (Below W.heap.size W wr)) (fun p _ => n - (intOf p).toNat)
  · exact ⟨0, rfl, ⟨Nat.zero_le _⟩, ⟨HM.out⟩, ⟨HB.out⟩⟩
  · obtain ⟨k, rfl, HK, HMr, HBr⟩ := hrel
    by_cases ci : k < n
    · have ci1 : decide ((k : Int) < (n : Int)) = true := decide_eq_true (by omega)
      have ci2 : decide (k < n) = true := decide_eq_true ci
      have ci3 : (0 : Int) ≤ (k : Int) := by omega
      have ci4 : (k : Int) < (n : Int) := by omega
      have hjb : k < 65536 := by have := HN.out; have := HL.out; omega
      have hw1 : IntKind.i64.wrap ((k : Int) + 1) = ((k + 1 : Nat) : Int) := by rw [IntWalk.i64_in _ (by omega)]; omega
      obtain ⟨op, hop⟩ : ∃ op, ops[k]? = some op := ⟨_, List.getElem?_eq_getElem (by have := HN.out; omega)⟩
      have Kr := Aside0.mk (K.out.stay HBr.out)
      obtain ⟨hl, go, e, hc, hcell⟩ := ops_at Kr.out k op hop
      subst e
      have HCE := Aside0.mk hcell
      have HOP := Aside0.mk hop
      have HLE := Aside0.mk hl
      have HFr := Aside0.mk (show Fl wr from fun j v hj => by
        have := HF.out j v hj
        rw [← this]
        exact HBr.out.cell (p := ⟨0, 0 + j, none⟩) H0.out)
      clear hcell hjb hop hl
      go_upto_region 4 with fail
      apply wp_region_lit
      refine Great.wpList_readTo rfl (some 23) rfl (.pointer (some ⟨go, k * 129, none⟩)) (by go_simp) ?_
      simp only [Act.put, List.setIfInBounds_toArray, List.set_cons_zero, List.set_cons_succ]
      refine Great.wpList_readTo rfl (some 24) rfl (.agg (opCells op.1 op.2).toArray) (exec_load83 (x := .tmp 23) rfl rfl (by rw [opCells_len, HLE.out]) HCE.out) ?_
      simp only [Act.put, List.setIfInBounds_toArray, List.set_cons_zero, List.set_cons_succ]
      refine wpList_runAlloc rfl 83 rfl (ptr wr.heap.size) (alloc_op _ wr) ?_
      simp only [Act.put, List.setIfInBounds_toArray, List.set_cons_zero, List.set_cons_succ]
      refine wpList_store_row rfl 83 (.tmp 7) (.tmp 24) rfl wr.heap.size (opCells op.1 op.2).toArray rfl rfl 83 (newOp 0).toArray (heap_alloc_new wr _) (by rw [List.size_toArray, opCells_len, HLE.out]; kernel_rfl) (by rw [List.size_toArray, List.size_toArray, newOp_len, opCells_len, HLE.out]) (opCells_one _ _) ?_
      simp only [Act.put, List.setIfInBounds_toArray, List.set_cons_zero, List.set_cons_succ]
      refine wpList_nil ?_
      obtain ⟨b, hbe⟩ : ∃ b, wr.heap.size = b := ⟨_, rfl⟩
      have HBE := Aside0.mk hbe
      have hr1 : Rt 83 b (opCells op.1 op.2) ((wr.alloc (.cells (newOp 0).toArray 83)).setRow b (opCells op.1 op.2).toArray) := by
        have h0 : Rt 83 b (newOp 0) (wr.alloc (.cells (newOp 0).toArray 83)) := hbe ▸ heap_alloc_new wr _
        exact h0.row _
      have hb1 : Below wr.heap.size wr ((wr.alloc (.cells (newOp 0).toArray 83)).setRow b (opCells op.1 op.2).toArray) := below_setRow' (below_alloc (Below.refl _ _) _) (Nat.le_of_eq hbe) _
      rw [hbe]
      generalize (wr.alloc (.cells (newOp 0).toArray 83)).setRow b (opCells op.1 op.2).toArray = w2 at *
      have HR2 := Aside0.mk hr1
      have HB2 := Aside0.mk hb1
      have HM2 := Aside0.mk (HMr.out.below hb1)
      have HF2 := Aside0.mk (show Fl w2 from fun j v hj => by
        have := HFr.out j v hj
        rw [← this]
        exact hb1.cell (p := ⟨0, 0 + j, none⟩) (Nat.lt_of_lt_of_le H0.out HBr.out.size))
      clear hr1 hb1 hbe
      go_upto_region 5 with fail
      apply wp_region_lit
      refine Great.wpList_readTo rfl (some 25) rfl (.agg (opCells op.1 op.2).toArray) (exec_load83 (x := .tmp 7) rfl rfl (by rw [opCells_len, HLE.out]) (fun j v hj => by rw [Nat.zero_add]; exact HR2.out.cell j v hj)) ?_
      simp only [Act.put, List.setIfInBounds_toArray, List.set_cons_zero, List.set_cons_succ]
      refine Great.wpList_readTo rfl (some 26) rfl (.agg (newOp (-1)).toArray) (exec_load83 (x := .global 0) rfl rfl (newOp_len _) HF2.out) ?_
      simp only [Act.put, List.setIfInBounds_toArray, List.set_cons_zero, List.set_cons_succ]
      refine Great.wpList_readTo rfl (some 27) rfl (.bool (!(op.1 == -1 && op.2 == List.replicate 128 0))) (exec_neq83 (x := .tmp 25) (y := .tmp 26) rfl rfl rfl HLE.out (List.length_replicate ..)) ?_
      simp only [Act.put, List.setIfInBounds_toArray, List.set_cons_zero, List.set_cons_succ]
      refine wpList_nil ?_
      have hfl : (op.1 == -1 && op.2 == List.replicate 128 0) = decide (op = flushOp) := by
        rw [Bool.eq_iff_iff]
        simp [flushOp, Prod.ext_iff]
      rw [hfl]
      by_cases hfo : op = flushOp
      · have hd : decide (op = flushOp) = true := decide_eq_true hfo
        rw [hd]
        have HFO := Aside0.mk hfo
        clear hd hfl hfo
        go_wp2_with fail
        refine ⟨⟨k + 1, rfl, ⟨ci⟩, ⟨?_⟩, ⟨HBr.out.trans (HB2.out.mono HBr.out.size)⟩⟩, ?_⟩
        · rw [take_step HOP.out, layOp, if_pos HFO.out]
          exact HM2.out
        · simp only [intOf]
          omega
      · have hd : decide (op = flushOp) = false := decide_eq_false hfo
        rw [hd]
        have HFO := Aside0.mk hfo
        clear hd hfl hfo
        go_upto_region 6 with fail
        obtain ⟨s, hs, hsn⟩ : ∃ s : Nat, op.1 = (s : Int) ∧ 128 * s + 128 ≤ h.n := ((HO.out op (List.mem_of_getElem? HOP.out)).2).resolve_left HFO.out
        have cb0 : w2.drew.cell? ⟨b, 0, none⟩ = some (.int .i64 (s : Int)) := HR2.out.cell 0 _ (by rw [hs]; rfl)
        have hbl := behindL_len (ops.take k) fs K.out.lf (HO.out.take k)
        obtain ⟨cs, hcp, hM3⟩ := Mem.copy (P := Tryd.prog) (dT := 29) (sT := 29) (ty := 3) Tryd.underlying29 size5' (W := w2.drew) HM2.out (128 * s) 128 128 128 128 (some ⟨b, 1, none⟩) (Rt.bytes (W := w2.drew) HR2.out HLE.out 128 (Nat.le_refl _)) (Nat.le_refl _) (by rw [hbl]; exact hsn)
        rw [List.take_of_length_le (Nat.le_of_eq HLE.out)] at hM3
        have HCP := Aside0.mk hcp
        have HM3 := Aside0.mk hM3
        have HSN := Aside0.mk (And.intro hs hsn)
        clear hcp hM3 hs hsn hbl
        go_region_law (first
          | (refine step_copy rfl (.tmp 31) (.tmp 33) 29 29 rfl (.slice (some ⟨g, 128 * s, none⟩) 128 128) (.slice (some ⟨b, 1, none⟩) 128 128) _ rfl rfl HCP.out ?_)
          | (go_simp; go_at_call 38; refine (part_at g h.n cg s w2.drew HSN.out.2 HG.out.2 (by have := K.out.big; omega)).mono ?_; rintro e w' ⟨rfl, hw⟩; subst w'))
        have HB3 := Aside0.mk (show Below W.heap.size W (w2.drew.setRow g cs) from below_setRow' (below_drew (HBr.out.trans (HB2.out.mono HBr.out.size))) HG.out.1 cs)
        clear HCP
        generalize w2.drew.setRow g cs = w3 at *
        go_wp2_with fail
        refine ⟨⟨k + 1, rfl, ⟨ci⟩, ⟨?_⟩, ⟨HB3.out⟩⟩, ?_⟩
        · rw [take_step HOP.out, layOp, if_neg HFO.out, HSN.out.1, Int.toNat_natCast]
          exact HM3.out
        · simp only [intOf]
          omega
    · have ci1 : decide ((k : Int) < (n : Int)) = false := decide_eq_false (by omega)
      have ci2 : decide (k < n) = false := decide_eq_false ci
      go_wp2_with fail
      go_ret
      obtain rfl : k = n := by have := HK.out; omega
      exact ⟨g, cg, rfl, HMr.out, HG.out.1, HG.out.2, HBr.out⟩
end Go.Proofs.YtpaonoaedjkekaaDoor.Dk
