/- (*disk.Disk).Durable and Pending, walked. -/
import Derived.Test.YtpaonoaedjkekaaDoorDkRead
namespace Go.Proofs.YtpaonoaedjkekaaDoor.Dk
open Go Go.RowKit Go.Proofs.YtpaonoaedjkekaaDoor.PD Go.Proofs.YtpaonoaedjkekaaDoorW.PrintWords Go.Proofs.YtpaonoaedjkekaaDoorW.PrintLast Go.Proofs.YtpaonoaedjkekaaDoorW.PrintMore
set_option linter.unusedVariables false
set_option linter.unusedSimpArgs false
set_option maxHeartbeats 4000000
set_option maxRecDepth 100000
theorem info3' : (Tryd.prog.info? 3).map (fun i => (i.zero, i.size, i.bytes)) = some (some (.int .i64 0), 1, 8) := by kernel_rfl
theorem Fl.below {W W1 : World} (h : Fl W) (h0 : 0 < W.heap.size) (hb : Below W.heap.size W W1) : Fl W1 := fun j v hj => by
  have := h j v hj
  rw [← this]
  exact hb.cell (p := ⟨0, 0 + j, none⟩) h0
theorem durable_at {h : Hd} {B : Nat} {fs ss : List Int} {A : Option Addr} {c : Nat} {ops : List (Int × List Int)} {W : World} (k : DkAt h B fs ss (.slice A ops.length c) ops W) (hF : Fl W) (hO : Oks h.n ops) (h0 : 0 < W.heap.size) :
    Calls Tryd.prog 21 #[ptr h.D] W fun e w' => ∃ g c', e = .returned (.slice (some ⟨g, 0, none⟩) h.n c') ∧ Mem w' g (behindL fs (ops.take (looseN ops ops.length))) ∧ W.heap.size ≤ g ∧ h.n ≤ c' ∧ Below W.heap.size W w' := by
  have K := Aside0.mk k
  have HF := Aside0.mk hF
  have HO := Aside0.mk hO
  have H0 := Aside0.mk h0
  have c2 := k.row.cell 2 _ rfl
  have hll := looseN_le ops ops.length
  have HLL := Aside0.mk hll
  clear k hF hO h0 hll
  go_enter Tryd.func21, Tryd.ntmps21
  go_wp2_with (go_at_call 36; refine (loose_at K.out HF.out ops.length (Nat.le_refl _)).mono ?_; rintro e w1 ⟨rfl, m, rfl⟩)
  have hb : Below W.heap.size W (W.drewN m) := pw_below_drewN (Below.refl _ _) m
  go_at_call 37
  refine (behind_at (K.out.stay hb) (HF.out.below H0.out hb) HO.out H0.out (looseN ops ops.length) HLL.out).mono ?_
  rintro e w2 ⟨g, cg, rfl, hM, hg, hcg, hb2⟩
  have HR := Aside0.mk (show Mem w2 g (behindL fs (ops.take (looseN ops ops.length))) ∧ W.heap.size ≤ g ∧ h.n ≤ cg ∧ Below W.heap.size W w2 from ⟨hM, hg, hcg, hb.trans hb2⟩)
  clear hM hg hcg hb hb2
  go_wp2_with fail
  go_ret
  exact ⟨g, cg, rfl, HR.out⟩
theorem pending_at {h : Hd} {B : Nat} {fs ss : List Int} {A : Option Addr} {c : Nat} {ops : List (Int × List Int)} {W : World} (k : DkAt h B fs ss (.slice A ops.length c) ops W) (hF : Fl W) (h0 : 0 < W.heap.size) :
    Calls Tryd.prog 22 #[ptr h.D] W fun e w' => ∃ v, e = .returned v ∧ Kd.R (Kd.int .i64) 3 w' W.heap.size (fun _ => True) v ((ops.drop (looseN ops ops.length)).map (·.1)) ∧ Below W.heap.size W w' := by
  have K := Aside0.mk k
  have HF := Aside0.mk hF
  have H0 := Aside0.mk h0
  have c2 := k.row.cell 2 _ rfl
  have hll := looseN_le ops ops.length
  have hc : ops.length ≤ c := by
    rcases k.o.2 with ⟨inner, ho, _⟩
    rcases ho.2 with ⟨e, hz⟩ | ⟨_, _, _, e, _, _, hcc, _⟩
    · injection e with _ e2 e3; omega
    · injection e with _ e2 e3; omega
  have HL := Aside0.mk k.few
  obtain ⟨lo, hlo⟩ : ∃ lo, looseN ops ops.length = lo := ⟨_, rfl⟩
  have HLO := Aside0.mk hlo
  rw [hlo] at hll ⊢
  have h1 : (0 : Int) ≤ (lo : Int) := by omega
  have h2 : (lo : Int) ≤ (ops.length : Int) := by omega
  have h3 : (lo : Int) ≤ (c : Int) := by omega
  have h4 : (ops.length : Int) ≤ (c : Int) := by omega
  have HLL := Aside0.mk hll
  clear k hF h0 hlo
  go_enter Tryd.func22, Tryd.ntmps22
  go_wp2_with fail
  have HQ : ∀ n, Calls Tryd.prog 36 #[ptr h.D, .int .i64 (ops.length : Int)] (W.drewN n) fun e w'' => e = .returned (.int .i64 (lo : Int)) ∧ ∃ m, w'' = W.drewN m := fun n => by
    have hq := loose_at (K.out.stay (pw_below_drewN (Below.refl _ _) n)) (HF.out.below H0.out (pw_below_drewN (Below.refl _ _) n)) ops.length (Nat.le_refl _)
    rw [HLO.out] at hq
    exact Calls.quiet_of hq
  go_quiet (first | (go_at_call 36; exact HQ _))
  obtain ⟨S, hS⟩ : ∃ S, (if c = lo then A else Option.map (fun x => x.add (lo * 129)) A) = S := ⟨_, rfl⟩
  rw [hS]
  obtain ⟨m, hm⟩ : ∃ m, ops.length - lo = m := ⟨_, rfl⟩
  rw [hm]
  have hbq : Below W.heap.size W (W.drewN nq) := pw_below_drewN (Below.refl _ _) nq
  have HS := Aside0.mk hS
  have HM := Aside0.mk hm
  have HBQ := Aside0.mk hbq
  have HC := Aside0.mk h4
  clear HQ hS hm hbq h1 h2 h3 h4 hc c2
  go_wp2_with fail
  go_loopw [3, 21] (fun l p wr => ∃ k : Nat, p = .int .i64 (k : Int) ∧ Aside0 (k ≤ m) ∧ Aside0 (Kd.R (Kd.int .i64) 3 wr W.heap.size (fun _ => True) l (((ops.drop lo).take k).map (·.1))) ∧ Aside0 (Below W.heap.size W wr)) (fun _ p _ => m - (intOf p).toNat)
  · exact ⟨0, rfl, ⟨Nat.zero_le _⟩, ⟨Kd.R_nil _ _ _ _ _⟩, ⟨HBQ.out⟩⟩
  · obtain ⟨k, rfl, HK, HRr, HBr⟩ := hrel
    obtain ⟨l, rfl⟩ : ∃ l, u3 = l := ⟨_, rfl⟩
    by_cases ci : k < m
    · have ci1 : decide ((k : Int) < (m : Int)) = true := decide_eq_true (by omega)
      have ci2 : decide (k < m) = true := decide_eq_true ci
      have ci3 : (0 : Int) ≤ (k : Int) := by omega
      have ci4 : (k : Int) < (m : Int) := by omega
      have hjb : k < 65536 := by have := HL.out; have := HM.out; omega
      have hw1 : IntKind.i64.wrap ((k : Int) + 1) = ((k + 1 : Nat) : Int) := by rw [IntWalk.i64_in _ (by omega)]; omega
      obtain ⟨op, hop⟩ : ∃ op, ops[lo + k]? = some op := ⟨_, List.getElem?_eq_getElem (by have := HM.out; omega)⟩
      have Kr := Aside0.mk (K.out.stay HBr.out)
      obtain ⟨hl, go, e, hc, hcell⟩ := ops_at Kr.out (lo + k) op hop
      have hSg : S = some ⟨go, lo * 129, none⟩ := by
        rw [← HS.out, if_neg (by have := HM.out; omega), e, Option.map_some, add_off, Nat.zero_add]
      have HCE := Aside0.mk (show ∀ j v, (opCells op.1 op.2)[j]? = some v → wr.cell? ⟨go, lo * 129 + k * 129 + j, none⟩ = some v from fun j v hj => by
        rw [← Nat.add_mul]; exact hcell j v hj)
      have HOP := Aside0.mk hop
      have HLE := Aside0.mk hl
      subst hSg
      clear hcell hjb hop hl e hc
      go_upto_region 6 with fail
      apply wp_region_lit
      refine Great.wpList_readTo rfl (some 23) rfl (.pointer (some ⟨go, lo * 129 + k * 129, none⟩)) (by go_simp) ?_
      simp only [Act.put, List.setIfInBounds_toArray, List.set_cons_zero, List.set_cons_succ]
      refine Great.wpList_readTo rfl (some 24) rfl (.agg (opCells op.1 op.2).toArray) (exec_load83 (x := .tmp 23) rfl rfl (by rw [opCells_len, HLE.out]) HCE.out) ?_
      simp only [Act.put, List.setIfInBounds_toArray, List.set_cons_zero, List.set_cons_succ]
      refine wpList_runAlloc rfl 83 rfl (ptr wr.heap.size) (alloc_op _ wr) ?_
      simp only [Act.put, List.setIfInBounds_toArray, List.set_cons_zero, List.set_cons_succ]
      refine wpList_store_row rfl 83 (.tmp 5) (.tmp 24) rfl wr.heap.size (opCells op.1 op.2).toArray rfl rfl 83 (newOp 0).toArray (heap_alloc_new wr _) (by rw [List.size_toArray, opCells_len, HLE.out]; kernel_rfl) (by rw [List.size_toArray, List.size_toArray, newOp_len, opCells_len, HLE.out]) (opCells_one _ _) ?_
      simp only [Act.put, List.setIfInBounds_toArray, List.set_cons_zero, List.set_cons_succ]
      refine wpList_nil ?_
      obtain ⟨b, hbe⟩ : ∃ b, wr.heap.size = b := ⟨_, rfl⟩
      have hr1 : Rt 83 b (opCells op.1 op.2) ((wr.alloc (.cells (newOp 0).toArray 83)).setRow b (opCells op.1 op.2).toArray) := by
        have h0 : Rt 83 b (newOp 0) (wr.alloc (.cells (newOp 0).toArray 83)) := hbe ▸ heap_alloc_new wr _
        exact h0.row _
      have hb1 : Below wr.heap.size wr ((wr.alloc (.cells (newOp 0).toArray 83)).setRow b (opCells op.1 op.2).toArray) := below_setRow' (below_alloc (Below.refl _ _) _) (Nat.le_of_eq hbe) _
      rw [hbe]
      generalize (wr.alloc (.cells (newOp 0).toArray 83)).setRow b (opCells op.1 op.2).toArray = w2 at *
      have cb0 : w2.cell? ⟨b, 0, none⟩ = some (.int .i64 op.1) := hr1.cell 0 _ rfl
      have HR2 := Aside0.mk (Kd.R_below HRr.out hb1)
      have HB2 := Aside0.mk (show Below W.heap.size W w2 from HBr.out.trans (hb1.mono HBr.out.size))
      clear hr1 hb1 hbe
      go_wp2_with (first | (
        (with_reducible refine gate_builtin (b := .append) (xs := #[.tmp 25, .tmp 28]) rfl ?_)
        at_builtin
        refine Kd.R_append (Kd.int .i64) (w0 := W) W.heap.size rfl (.tmp 25) (.tmp 28) 23 3 (.int .i64 0) 8 rfl Tryd.underlying23 info3' rfl (by decide) (by omega) _ _ op.1 [.int .i64 op.1] (fun _ => True) (fun _ => False) rfl rfl rfl (fun _ hk => hk.elim) (fun _ _ => trivial) HR2.out HB2.out HB2.out.size (by rw [List.length_map, List.length_take, List.length_drop]; have := HL.out; omega) ?_
        intro v1 w1 ho hb hg hat
        have HO := Aside0.mk ho
        have HB3 := Aside0.mk hb
        clear ho hb hg hat))
      refine ⟨⟨k + 1, congrArg (Value.int .i64) (by omega), ⟨ci⟩, ⟨?_⟩, ⟨HB3.out⟩⟩, ?_⟩
      · have e : (ops.drop lo)[k]? = some op := by rw [List.getElem?_drop]; exact HOP.out
        rw [List.take_add_one, e, List.map_append]
        exact HO.out
      · simp only [intOf]
        omega
    · have ci1 : decide ((k : Int) < (m : Int)) = false := decide_eq_false (by omega)
      have ci2 : decide (k < m) = false := decide_eq_false ci
      go_wp2_with fail
      go_ret
      obtain rfl : k = m := by have := HK.out; omega
      refine ⟨_, rfl, ?_, HBr.out⟩
      have := HRr.out
      rw [List.take_of_length_le (by rw [List.length_drop]; have := HM.out; omega)] at this
      exact this
end Go.Proofs.YtpaonoaedjkekaaDoor.Dk
