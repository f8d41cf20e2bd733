/- (*disk.Disk).Durable and Pending, walked. (*disk.Disk).Choices, walked up to the iterator that it hands out. An iterator that hands over a fact with each element; a range over it. The iterator that (*disk.Disk).Choices hands out, walked. -/
import Derived.Test.YtpaonoaedjkekaaDoorPl2
import Derived.RangeFuncNested
import Derived.RangeFuncBound
import Derived.RangeFuncCalls
import Derived.RangeFuncLeaves
import Derived.Shelf.Abstract
import Derived.OwnWalkIn
import Derived.TacticsInMore
import Derived.RegionIn
import Derived.LoopNIn
import Derived.LoopIn
namespace Go.Proofs.YtpaonoaedjkekaaDoor.Dk
open Go Go.RowKit Go.Proofs.YtpaonoaedjkekaaDoor.PD Go.Proofs.YtpaonoaedjkekaaDoorW.PrintWords Go.Proofs.YtpaonoaedjkekaaDoorW.PrintLast Go.Proofs.YtpaonoaedjkekaaDoorW.PrintMore
set_option linter.unusedVariables false
set_option linter.unusedSimpArgs false
set_option maxHeartbeats 4000000
set_option maxRecDepth 100000
theorem info3' : (Tryd.prog.info? 3).map (fun i => (i.zero, i.size, i.bytes)) = some (some (.int .i64 0), 1, 8) := by kernel_rfl
theorem Fl.below {W W1 : World} (h : Fl W) (h0 : 0 < W.heap.size) (hb : Below W.heap.size W W1) : Fl W1 := fun j v hj => by
  have := h j v hj
  rw [← this]
  exact hb.cell (p := ⟨0, 0 + j, none⟩) h0
theorem durable_at {h : Hd} {B : Nat} {fs ss : List Int} {A : Option Addr} {c : Nat} {ops : List (Int × List Int)} {W : World} (k : DkAt h B fs ss (.slice A ops.length c) ops W) (hF : Fl W) (hO : Oks h.n ops) (h0 : 0 < W.heap.size) :
    Calls Tryd.prog 21 #[ptr h.D] W fun e w' => ∃ g c', e = .returned (.slice (some ⟨g, 0, none⟩) h.n c') ∧ Mem w' g (behindL fs (ops.take (looseN ops ops.length))) ∧ W.heap.size ≤ g ∧ h.n ≤ c' ∧ Below W.heap.size W w' := by
  have K := Aside0.mk k
  have HF := Aside0.mk hF
  have HO := Aside0.mk hO
  have H0 := Aside0.mk h0
  have c2 := k.row.cell 2 _ rfl
  have hll := looseN_le ops ops.length
  have HLL := Aside0.mk hll
  clear k hF hO h0 hll
  go_enter Tryd.func21, Tryd.ntmps21
  go_wp2_with (go_at_call 36; refine (loose_at K.out HF.out ops.length (Nat.le_refl _)).mono ?_; rintro e w1 ⟨rfl, m, rfl⟩)
  have hb : Below W.heap.size W (W.drewN m) := pw_below_drewN (Below.refl _ _) m
  go_at_call 37
  refine (behind_at (K.out.stay hb) (HF.out.below H0.out hb) HO.out H0.out (looseN ops ops.length) HLL.out).mono ?_
  rintro e w2 ⟨g, cg, rfl, hM, hg, hcg, hb2⟩
  have HR := Aside0.mk (show Mem w2 g (behindL fs (ops.take (looseN ops ops.length))) ∧ W.heap.size ≤ g ∧ h.n ≤ cg ∧ Below W.heap.size W w2 from ⟨hM, hg, hcg, hb.trans hb2⟩)
  clear hM hg hcg hb hb2
  go_wp2_with fail
  go_ret
  exact ⟨g, cg, rfl, HR.out⟩
theorem pending_at {h : Hd} {B : Nat} {fs ss : List Int} {A : Option Addr} {c : Nat} {ops : List (Int × List Int)} {W : World} (k : DkAt h B fs ss (.slice A ops.length c) ops W) (hF : Fl W) (h0 : 0 < W.heap.size) :
    Calls Tryd.prog 22 #[ptr h.D] W fun e w' => ∃ v, e = .returned v ∧ Kd.R (Kd.int .i64) 3 w' W.heap.size (fun _ => True) v ((ops.drop (looseN ops ops.length)).map (·.1)) ∧ Below W.heap.size W w' := by
  have K := Aside0.mk k
  have HF := Aside0.mk hF
  have H0 := Aside0.mk h0
  have c2 := k.row.cell 2 _ rfl
  have hll := looseN_le ops ops.length
  have hc : ops.length ≤ c := by
    rcases k.o.2 with ⟨inner, ho, _⟩
    rcases ho.2 with ⟨e, hz⟩ | ⟨_, _, _, e, _, _, hcc, _⟩
    · injection e with _ e2 e3; omega
    · injection e with _ e2 e3; omega
  have HL := Aside0.mk k.few
  obtain ⟨lo, hlo⟩ : ∃ lo, looseN ops ops.length = lo := ⟨_, rfl⟩
  have HLO := Aside0.mk hlo
  rw [hlo] at hll ⊢
  have h1 : (0 : Int) ≤ (lo : Int) := by omega
  have h2 : (lo : Int) ≤ (ops.length : Int) := by omega
  have h3 : (lo : Int) ≤ (c : Int) := by omega
  have h4 : (ops.length : Int) ≤ (c : Int) := by omega
  have HLL := Aside0.mk hll
  clear k hF h0 hlo
  go_enter Tryd.func22, Tryd.ntmps22
  go_wp2_with fail
  have HQ : ∀ n, Calls Tryd.prog 36 #[ptr h.D, .int .i64 (ops.length : Int)] (W.drewN n) fun e w'' => e = .returned (.int .i64 (lo : Int)) ∧ ∃ m, w'' = W.drewN m := fun n => by
    have hq := loose_at (K.out.stay (pw_below_drewN (Below.refl _ _) n)) (HF.out.below H0.out (pw_below_drewN (Below.refl _ _) n)) ops.length (Nat.le_refl _)
    rw [HLO.out] at hq
    exact Calls.quiet_of hq
  go_quiet (first | (go_at_call 36; exact HQ _))
  obtain ⟨S, hS⟩ : ∃ S, (if c = lo then A else Option.map (fun x => x.add (lo * 129)) A) = S := ⟨_, rfl⟩
  rw [hS]
  obtain ⟨m, hm⟩ : ∃ m, ops.length - lo = m := ⟨_, rfl⟩
  rw [hm]
  have hbq : Below W.heap.size W (W.drewN nq) := pw_below_drewN (Below.refl _ _) nq
  have HS := Aside0.mk hS
  have HM := Aside0.mk hm
  have HBQ := Aside0.mk hbq
  have HC := Aside0.mk h4
  clear HQ hS hm hbq h1 h2 h3 h4 hc c2
  go_wp2_with fail
  go_loopw [3, 21] (fun l p wr => ∃ k : Nat, p = .int .i64 (k : Int) ∧ Aside0 (k ≤ m) ∧ Aside0 (Kd.R (Kd.int .i64) 3 wr W.heap.size (fun _ => True) l (((ops.drop lo).take k).map (·.1))) ∧ Aside0 (Below W.heap.size W wr)) (fun _ p _ => m - (intOf p).toNat)
  · exact ⟨0, rfl, ⟨Nat.zero_le _⟩, ⟨Kd.R_nil _ _ _ _ _⟩, ⟨HBQ.out⟩⟩
  · obtain ⟨k, rfl, HK, HRr, HBr⟩ := hrel
    obtain ⟨l, rfl⟩ : ∃ l, u3 = l := ⟨_, rfl⟩
    by_cases ci : k < m
    · have ci1 : decide ((k : Int) < (m : Int)) = true := decide_eq_true (by omega)
      have ci2 : decide (k < m) = true := decide_eq_true ci
      have ci3 : (0 : Int) ≤ (k : Int) := by omega
      have ci4 : (k : Int) < (m : Int) := by omega
      have hjb : k < 65536 := by have := HL.out; have := HM.out; omega
      have hw1 : IntKind.i64.wrap ((k : Int) + 1) = ((k + 1 : Nat) : Int) := by rw [IntWalk.i64_in _ (by omega)]; omega
      obtain ⟨op, hop⟩ : ∃ op, ops[lo + k]? = some op := ⟨_, List.getElem?_eq_getElem (by have := HM.out; omega)⟩
      have Kr := Aside0.mk (K.out.stay HBr.out)
      obtain ⟨hl, go, e, hc, hcell⟩ := ops_at Kr.out (lo + k) op hop
      have hSg : S = some ⟨go, lo * 129, none⟩ := by
        rw [← HS.out, if_neg (by have := HM.out; omega), e, Option.map_some, add_off, Nat.zero_add]
      have HCE := Aside0.mk (show ∀ j v, (opCells op.1 op.2)[j]? = some v → wr.cell? ⟨go, lo * 129 + k * 129 + j, none⟩ = some v from fun j v hj => by
        rw [← Nat.add_mul]; exact hcell j v hj)
      have HOP := Aside0.mk hop
      have HLE := Aside0.mk hl
      subst hSg
      clear hcell hjb hop hl e hc
      go_upto_region 6 with fail
      apply wp_region_lit
      refine Great.wpList_readTo rfl (some 23) rfl (.pointer (some ⟨go, lo * 129 + k * 129, none⟩)) (by go_simp) ?_
      simp only [Act.put, List.setIfInBounds_toArray, List.set_cons_zero, List.set_cons_succ]
      refine Great.wpList_readTo rfl (some 24) rfl (.agg (opCells op.1 op.2).toArray) (exec_load83 (x := .tmp 23) rfl rfl (by rw [opCells_len, HLE.out]) HCE.out) ?_
      simp only [Act.put, List.setIfInBounds_toArray, List.set_cons_zero, List.set_cons_succ]
      refine wpList_runAlloc rfl 83 rfl (ptr wr.heap.size) (alloc_op _ wr) ?_
      simp only [Act.put, List.setIfInBounds_toArray, List.set_cons_zero, List.set_cons_succ]
      refine wpList_store_row rfl 83 (.tmp 5) (.tmp 24) rfl wr.heap.size (opCells op.1 op.2).toArray rfl rfl 83 (newOp 0).toArray (heap_alloc_new wr _) (by rw [List.size_toArray, opCells_len, HLE.out]; kernel_rfl) (by rw [List.size_toArray, List.size_toArray, newOp_len, opCells_len, HLE.out]) (opCells_one _ _) ?_
      simp only [Act.put, List.setIfInBounds_toArray, List.set_cons_zero, List.set_cons_succ]
      refine wpList_nil ?_
      obtain ⟨b, hbe⟩ : ∃ b, wr.heap.size = b := ⟨_, rfl⟩
      have hr1 : Rt 83 b (opCells op.1 op.2) ((wr.alloc (.cells (newOp 0).toArray 83)).setRow b (opCells op.1 op.2).toArray) := by
        have h0 : Rt 83 b (newOp 0) (wr.alloc (.cells (newOp 0).toArray 83)) := hbe ▸ heap_alloc_new wr _
        exact h0.row _
      have hb1 : Below wr.heap.size wr ((wr.alloc (.cells (newOp 0).toArray 83)).setRow b (opCells op.1 op.2).toArray) := below_setRow' (below_alloc (Below.refl _ _) _) (Nat.le_of_eq hbe) _
      rw [hbe]
      generalize (wr.alloc (.cells (newOp 0).toArray 83)).setRow b (opCells op.1 op.2).toArray = w2 at *
      have cb0 : w2.cell? ⟨b, 0, none⟩ = some (.int .i64 op.1) := hr1.cell 0 _ rfl
      have HR2 := Aside0.mk (Kd.R_below HRr.out hb1)
      have HB2 := Aside0.mk (show Below W.heap.size W w2 from HBr.out.trans (hb1.mono HBr.out.size))
      clear hr1 hb1 hbe
      go_wp2_with (first | (
        (with_reducible refine gate_builtin (b := .append) (xs := #[.tmp 25, .tmp 28]) rfl ?_)
        at_builtin
        refine Kd.R_append (Kd.int .i64) (w0 := W) W.heap.size rfl (.tmp 25) (.tmp 28) 23 3 (.int .i64 0) 8 rfl Tryd.underlying23 info3' rfl (by decide) (by omega) _ _ op.1 [.int .i64 op.1] (fun _ => True) (fun _ => False) rfl rfl rfl (fun _ hk => hk.elim) (fun _ _ => trivial) HR2.out HB2.out HB2.out.size (by rw [List.length_map, List.length_take, List.length_drop]; have := HL.out; omega) ?_
        intro v1 w1 ho hb hg hat
        have HO := Aside0.mk ho
        have HB3 := Aside0.mk hb
        clear ho hb hg hat))
      refine ⟨⟨k + 1, congrArg (Value.int .i64) (by omega), ⟨ci⟩, ⟨?_⟩, ⟨HB3.out⟩⟩, ?_⟩
      · have e : (ops.drop lo)[k]? = some op := by rw [List.getElem?_drop]; exact HOP.out
        rw [List.take_add_one, e, List.map_append]
        exact HO.out
      · simp only [intOf]
        omega
    · have ci1 : decide ((k : Int) < (m : Int)) = false := decide_eq_false (by omega)
      have ci2 : decide (k < m) = false := decide_eq_false ci
      go_wp2_with fail
      go_ret
      obtain rfl : k = m := by have := HK.out; omega
      refine ⟨_, rfl, ?_, HBr.out⟩
      have := HRr.out
      rw [List.take_of_length_le (by rw [List.length_drop]; have := HM.out; omega)] at this
      exact this
end Go.Proofs.YtpaonoaedjkekaaDoor.Dk
namespace Go.Proofs.YtpaonoaedjkekaaDoor.Dk
open Go Go.RowKit Go.Proofs.YtpaonoaedjkekaaDoor.PD Go.Proofs.YtpaonoaedjkekaaDoorW.PrintWords Go.Proofs.YtpaonoaedjkekaaDoorW.PrintLast Go.Proofs.YtpaonoaedjkekaaDoorW.PrintMore
set_option linter.unusedVariables false
set_option linter.unusedSimpArgs false
set_option maxHeartbeats 4000000
set_option maxRecDepth 100000
/-- The places of a number's ones, rising. -/
def placesL (m : Nat) : List Int := ((List.range 10).filter fun k => m.testBit k).map fun (k : Nat) => (k : Int)
theorem places_end (m k : Nat) (hk : k ≤ 10) (h : m >>> k = 0) : ((List.range k).filter fun i => m.testBit i).map (fun (i : Nat) => (i : Int)) = placesL m := by
  unfold placesL
  obtain ⟨d, hd⟩ : ∃ d, 10 = k + d := ⟨10 - k, by omega⟩
  rw [hd, List.range_add, List.filter_append, show List.filter (fun i => m.testBit i) (List.map (fun x => k + x) (List.range d)) = [] from ?_, List.append_nil]
  rw [List.filter_eq_nil_iff]
  intro x hx
  obtain ⟨y, _, rfl⟩ := List.mem_map.1 hx
  have : (m >>> k).testBit y = false := by rw [h]; simp
  rw [Nat.testBit_shiftRight] at this
  rw [this]; simp
theorem shr_nat (m k : Nat) (hk : k ≤ 64) : shr .i64 (m : Int) (k : Int) = ((m >>> k : Nat) : Int) := by
  have e : shr .i64 (m : Int) (k : Int) = (m : Int) / 2 ^ min (k : Int).toNat 64 := rfl
  rw [e, Int.toNat_natCast, Nat.min_eq_left hk, Nat.shiftRight_eq_div_pow]
  norm_cast
theorem and_one (z : Nat) (h : z < 1024) : bits .and .i64 (z : Int) 1 = ((z % 2 : Nat) : Int) := by
  have : ∀ m : Fin 1024, bits .and .i64 ((m.val : Nat) : Int) 1 = ((m.val % 2 : Nat) : Int) := by decide +kernel
  exact this ⟨z, h⟩
theorem testBit_shift (m k : Nat) : m.testBit k = decide ((m >>> k) % 2 = 1) := by
  rw [Nat.testBit_eq_decide_div_mod_eq, Nat.shiftRight_eq_div_pow]
theorem shr_lt {m k : Nat} (hm : m < 1024) : m >>> k < 1024 := Nat.lt_of_le_of_lt (Nat.shiftRight_le m k) hm
theorem shr_pos {m k : Nat} (hm : m < 1024) (h : 0 < m >>> k) : k < 10 := by
  rcases Nat.lt_or_ge k 10 with h1 | h1
  · exact h1
  · exfalso
    have : m >>> k = 0 := by
      rw [Nat.shiftRight_eq_div_pow]
      exact Nat.div_eq_of_lt (Nat.lt_of_lt_of_le hm (Nat.pow_le_pow_right (by decide) h1 : 2 ^ 10 ≤ 2 ^ k))
    omega
theorem places_at (m : Nat) (hm : m < 1024) (W : World) : Calls Tryd.prog 41 #[.int .i64 (m : Int)] W fun e w' => ∃ v, e = .returned v ∧ Kd.R (Kd.int .i64) 3 w' W.heap.size (fun _ => True) v (placesL m) ∧ Below W.heap.size W w' := by
  go_enter Tryd.func41, Tryd.ntmps41
  go_wp2_with fail
  go_loopw [3, 4] (fun l p wr => ∃ k : Nat, p = .int .i64 (k : Int) ∧ Aside0 (k ≤ 10) ∧ Aside0 (Kd.R (Kd.int .i64) 3 wr W.heap.size (fun _ => True) l (((List.range k).filter fun i => m.testBit i).map fun (i : Nat) => (i : Int))) ∧ Aside0 (Below W.heap.size W wr)) (fun _ p _ => 10 - (intOf p).toNat)
  · exact ⟨0, rfl, ⟨by decide⟩, ⟨Kd.R_nil _ _ _ _ _⟩, ⟨Below.refl _ _⟩⟩
  · obtain ⟨k, rfl, HK, HR, HB⟩ := hrel
    have hk0 : (0 : Int) ≤ (k : Int) := by omega
    have hs := shr_nat m k (by have := HK.out; omega)
    have hs2 : (m : Int) / 2 ^ min (k : Int).toNat 64 = ((m >>> k : Nat) : Int) := hs
    have hs3 : (m : Int) / 2 ^ min k 64 = ((m >>> k : Nat) : Int) := by rw [← Int.toNat_natCast k]; exact hs
    obtain ⟨z, hz⟩ : ∃ z, m >>> k = z := ⟨_, rfl⟩
    have hs4 : (m : Int) / 2 ^ k = ((m >>> k : Nat) : Int) := by rw [Nat.min_eq_left (show k ≤ 64 by have := HK.out; omega)] at hs3; exact hs3
    rw [hz] at hs hs2 hs3 hs4
    have HZ := Aside0.mk hz
    clear hz
    by_cases hz0 : 0 < z
    · have c1 : decide (0 < (z : Int)) = true := decide_eq_true (by omega)
      have c2 : decide (0 < z) = true := decide_eq_true hz0
      have hk10 : k < 10 := shr_pos hm (by rw [HZ.out]; exact hz0)
      have hw1 : IntKind.i64.wrap ((k : Int) + 1) = ((k + 1 : Nat) : Int) := by rw [IntWalk.i64_in _ (by omega)]; omega
      have hand := and_one z (by rw [← HZ.out]; exact shr_lt hm)
      have htb := testBit_shift m k
      rw [HZ.out] at htb
      by_cases hbit : z % 2 = 1
      · rw [hbit] at hand
        have hand : bits .and .i64 (z : Int) 1 = 1 := hand
        have HT := Aside0.mk (show ((List.range (k + 1)).filter fun i => m.testBit i).map (fun (i : Nat) => (i : Int)) = ((List.range k).filter fun i => m.testBit i).map (fun (i : Nat) => (i : Int)) ++ [(k : Int)] from by
          rw [List.range_succ, List.filter_append, List.filter_cons, htb, decide_eq_true hbit]
          simp)
        have HLN := Aside0.mk (show (((List.range k).filter fun i => m.testBit i).map (fun (i : Nat) => (i : Int))).length ≤ 10 from by
          rw [List.length_map]
          exact Nat.le_trans (List.length_filter_le _ _) (by rw [List.length_range]; omega))
        clear htb hbit
        go_wp2_with (first | (
          (with_reducible refine gate_builtin (b := .append) (xs := #[.tmp 16, .tmp 18]) rfl ?_)
          at_builtin
          refine Kd.R_append (Kd.int .i64) (w0 := W) W.heap.size rfl (.tmp 16) (.tmp 18) 23 3 (.int .i64 0) 8 rfl Tryd.underlying23 info3' rfl (by decide) (by omega) _ _ (k : Int) [.int .i64 (k : Int)] (fun _ => True) (fun _ => False) rfl rfl rfl (fun _ hk => hk.elim) (fun _ _ => trivial) HR.out HB.out HB.out.size (by have := HLN.out; omega) ?_
          intro v1 w8 ho hb hg hat
          have HO := Aside0.mk ho
          have HB8 := Aside0.mk hb
          clear ho hb hg hat))
        refine ⟨⟨k + 1, congrArg (Value.int .i64) (by omega), ⟨hk10⟩, ⟨?_⟩, HB8⟩, ?_⟩
        · rw [HT.out]
          exact HO.out
        · simp only [intOf]
          omega
      · have hz2 : z % 2 = 0 := by omega
        rw [hz2] at hand
        have hand : bits .and .i64 (z : Int) 1 = 0 := hand
        have HT := Aside0.mk (show ((List.range (k + 1)).filter fun i => m.testBit i).map (fun (i : Nat) => (i : Int)) = ((List.range k).filter fun i => m.testBit i).map (fun (i : Nat) => (i : Int)) from by
          rw [List.range_succ, List.filter_append, List.filter_cons, htb, decide_eq_false hbit]
          simp)
        clear htb hbit hz2
        go_wp2_with fail
        refine ⟨⟨k + 1, congrArg (Value.int .i64) (by omega), ⟨hk10⟩, ⟨?_⟩, HB⟩, ?_⟩
        · rw [HT.out]
          exact HR.out
        · simp only [intOf]
          omega
    · have c1 : decide (0 < (z : Int)) = false := decide_eq_false (by omega)
      have c2 : decide (0 < z) = false := decide_eq_false hz0
      go_wp2_with fail
      go_ret
      refine ⟨_, rfl, ?_, HB.out⟩
      rw [← places_end m k HK.out (by rw [HZ.out]; omega)]
      exact HR.out
theorem choices_calls {h : Hd} {B : Nat} {fs ss : List Int} {A : Option Addr} {c : Nat} {ops : List (Int × List Int)} {W : World} (k : DkAt h B fs ss (.slice A ops.length c) ops W) (hF : Fl W) (h0 : 0 < W.heap.size) (n : Nat) (hn : n ≤ ops.length) :
    Calls Tryd.prog 30 #[ptr h.D, .int .i64 (n : Int)] W fun e w' => e = .returned (.func (.func 40) #[] #[ptr W.heap.size]) ∧ w'.cell? ⟨W.heap.size, 0, none⟩ = some (.int .i64 ((n - looseN ops n : Nat) : Int)) ∧ Below W.heap.size W w' := by
  have hlo := looseN_le ops n
  obtain ⟨lo, hlo2⟩ : ∃ lo, looseN ops n = lo := ⟨_, rfl⟩
  rw [hlo2] at hlo ⊢
  have HLO := Aside0.mk hlo2
  have HL := Aside0.mk k.few
  have HN := Aside0.mk hn
  have n1 : (0 : Int) ≤ (n : Int) := by omega
  have n2 : (n : Int) ≤ (ops.length : Int) := by omega
  have hsub : wrap64 ((n : Int) - (lo : Int)) = ((n - lo : Nat) : Int) := by unfold wrap64; have := k.few; omega
  have k1 := k.stay (below_alloc (Below.refl _ _) (.cells #[.int .i64 (-1)] 3))
  have HF1 := hF.below h0 (below_alloc (Below.refl _ _) (.cells #[.int .i64 (-1)] 3))
  have hr1 : Rt 3 W.heap.size [.int .i64 (-1)] (W.alloc (.cells #[.int .i64 (-1)] 3)) := heap_alloc_new W _
  have hb1 : Below W.heap.size W (W.alloc (.cells #[.int .i64 (-1)] 3)) := below_alloc (Below.refl _ _) _
  go_enter Tryd.func30, Tryd.ntmps30
  go_upto_region 2 with fail
  obtain ⟨g, hg⟩ : ∃ g, W.heap.size = g := ⟨_, rfl⟩
  have HG := Aside0.mk hg
  rw [hg] at hr1 ⊢
  generalize W.alloc (.cells #[.int .i64 (-1)] 3) = w1 at *
  have K1 := Aside0.mk k1
  have HF := Aside0.mk HF1
  have HR1 := Aside0.mk hr1
  have HB1 := Aside0.mk hb1
  have c2 := k1.row.cell 2 _ rfl
  clear k k1 hF HF1 hr1 hb1 hg h0 hn hlo hlo2
  go_wp2_with fail
  go_at_call 36
  refine (loose_at K1.out HF.out n HN.out).mono ?_
  rw [HLO.out]
  rintro e w2 ⟨rfl, q, rfl⟩
  have HR2 := Aside0.mk (show Rt 3 g [.int .i64 (-1)] (w1.drewN q) from HR1.out)
  have HB2 := Aside0.mk (show Below W.heap.size W (w1.drewN q) from HB1.out.trans ((pw_below_drewN (Below.refl _ _) q).mono HB1.out.size))
  have cg := HR2.out.cell 0 _ rfl
  have fg := HR2.out.free 0
  generalize w1.drewN q = w2 at *
  go_wp2_with fail
  go_ret
  refine ⟨by rw [HG.out]; rfl, ?_, HB2.out.setCell (p := ⟨g, 0, none⟩) (Nat.le_of_eq HG.out) _⟩
  rw [HR2.out.set 0, HG.out]
  exact (HR2.out.row _).cell 0 _ (by simp [hsub])
end Go.Proofs.YtpaonoaedjkekaaDoor.Dk
namespace Go.Proofs.SeqWith
open Go Go.RowKit
set_option linter.unusedVariables false
variable {α : Type} {F : Fence} {n : Nat} {P : Program}
/-- The contract of an iterator that hands over, with each element, a fact about the world in which it does so. -/
def SeqWith (F : Fence) (n : Nat) (P : Program) (g : Nat) (lb : Array Value) (encs : α → Array Value) (G : List α → α → World → Prop) (Kp : World → World → Prop) (S Sp : List α → Prop) (w : World) : Prop :=
  ∀ (l : Nat) (J Jx : List α → World → Prop) (W : World), Below w.heap.size w W → AbidesFrom W.heap.size J →
    (∀ pre x W1, J pre W1 → G pre x W1 → YieldAt F (n - 1) P l (encs x) W1 fun e W' =>
      (e = .returned (.bool true) ∧ J (pre ++ [x]) W' ∧ Kp W1 W') ∨ (e = .returned (.bool false) ∧ Jx (pre ++ [x]) W')) →
    J [] W →
    CallsIn F n P g (#[.func (.yield l) #[] #[]] ++ lb) W fun e W' => (∃ v, e = .returned v) ∧ ((∃ xs, S xs ∧ J xs W') ∨ (∃ pre, Sp pre ∧ Jx pre W'))

/-- The two blocks that a range over a function lays: the list of its deferred calls at B, its own state behind it. -/
def Marks (rec : LoopState → Option Code → Loop) (B : Nat) (st : LoopState) (pe : Option Code) (W : World) : Prop :=
  W.heap[B + 1]? = some (.loop (rec st pe)) ∧ W.heap[B]? = some (.deferred (some []))
section
variable {rec : LoopState → Option Code → Loop} {B : Nat} {st st' : LoopState} {pe pe' : Option Code} {W W' : World}
theorem Marks.lt (h : Marks rec B st pe W) : B + 1 < W.heap.size := (Array.getElem?_eq_some_iff.1 h.1).1
theorem Marks.turned (h : Marks rec B st pe W) (st' : LoopState) (pe' : Option Code) : Marks rec B st' pe' (W.putObj (B + 1) (.loop (rec st' pe'))) :=
  ⟨World.putObj_heap_same h.lt, (World.putObj_heap_other (by omega)).trans h.2⟩
theorem Marks.kept (h : Marks rec B st pe W) (k : KeepsOthers W W') : Marks rec B st pe W' := ⟨k.same _ _ h.1 rfl, k.same _ _ h.2 rfl⟩
theorem Marks.grown {row : Option Nat} (h : Marks rec B st pe W) (k : W.grownBy W' row) (hr : ∀ r, row = some r → ∃ o : Obj, W.heap[r]? = some o ∧ o.isWalk = true) : Marks rec B st pe W' :=
  ⟨(grownBy_keeps k hr h.1 rfl).trans h.1, (grownBy_keeps k hr h.2 rfl).trans h.2⟩
end

/-- A range over a function, by its iterator's contract: the body may use the fact that comes with the element. -/
theorem range_with {g : Operand} {ps : Array Tmp} {assign body : Code} {Q : Exit → Act → World → Prop} {a : Act} {w w0 : World} {gf : Nat} {lb : Array Value}
    {encs : α → Array Value} {G : List α → α → World → Prop} {Kp : World → World → Prop} {S Sp : List α → Prop}
    (hro : F.round = none) (h1 : 1 ≤ n) (hg : a.eval g = .func (.func gf) #[] lb) (hFg : F.fn gf) (eg : ∀ args w, (callFunc gf args).run P w = .ok (.enter gf args) w)
    (hseq : SeqWith F (n - 1) P gf lb encs G Kp S Sp w0) (hKt : ∀ {A B C : World}, Kp A B → Kp B C → Kp A C)
    (hKb : ∀ (W : World) (l : Nat) (o o' : Obj), w.heap.size ≤ l → W.heap[l]? = some o → o.isCells = false → o.isWalk = false → Kp W (W.putObj l o'))
    (hb0 : Below w0.heap.size w0 w) (hps : ∀ x, (encs x).size = ps.size)
    (I : List α → World → Prop) (Ix : Code → List α → World → Prop) (hI : OwnFrom w.heap.size I) (hIx : ∀ c, OwnFrom w.heap.size (Ix c)) (hG : ∀ pre, OwnFrom w.heap.size (G pre)) (h0 : I [] w) (a₁ : α → Act)
    (hassign : ∀ (l : Nat) (x : α) (W : World) (K : Act → World → Prop), K (a₁ x) W →
      assign.wpIn (F.inRound l) (n - 1 - 1) P (Exit.then K (fun _ _ _ => False)) { tmps := (ps.zip (encs x)).foldl (fun t (p, v) => t.setIfInBounds p v) a.tmps, defers := [] } W)
    (hbody : ∀ (l : Nat) (pre : List α) (x : α) (W : World), I pre W → G pre x W → body.wpIn (F.inRound l) (n - 1 - 1) P (ownPostK Kp I Ix (pre ++ [x]) W) (a₁ x) W)
    (hdone : ∀ (D : Nat) (xs : List α) (W : World), w.heap.size ≤ D → S xs → I xs W → W.heap[D]? = some (.deferred (some [])) → Q .normal { a with defers := { target := .collected D, args := #[] } :: a.defers } W)
    (hstop : ∀ (D : Nat) (c : Code) (pre : List α) (W : World), w.heap.size ≤ D → Sp pre → Ix c pre W → W.heap[D]? = some (.deferred (some [])) → c.wpIn F n P Q { a with defers := { target := .collected D, args := #[] } :: a.defers } W) :
    (Code.rangeFunc g ps assign body).wpIn F n P Q a w := by
  refine wpIn_rangeFunc fun fn hfn => ?_
  rw [hro]
  obtain ⟨rec, hrec⟩ : ∃ rec : LoopState → Option Code → Loop, rec = fun st pe => { state := st, pending := pe, fn, tmps := a.tmps, params := ps, assign, body, defers := w.heap.size } := ⟨_, rfl⟩
  let W1 := (w.alloc (.deferred (some []))).alloc (.loop (rec .ready none))
  have hM : Marks rec w.heap.size .ready none W1 := by
    refine ⟨?_, (Below.heap_alloc _ _ _ (by simp)).trans (World.alloc_heap_new w _)⟩
    have := World.alloc_heap_new (w.alloc (.deferred (some []))) (.loop (rec .ready none))
    rwa [World.size_alloc] at this
  have hW1 : Below w0.heap.size w0 W1 := hb0.trans ((((Below.refl _ w).alloc (Nat.le_refl _) _).alloc (by simp) _).mono hb0.size)
  have hs1 : w.heap.size ≤ W1.heap.size := by simp [W1]; omega
  have turn : ∀ {A : World} {row : Option Nat}, (∀ r, row = some r → W1.heap.size ≤ r ∧ ∃ o : Obj, A.heap[r]? = some o ∧ o.isWalk = true) → ∀ r, row = some r → w.heap.size ≤ r ∧ ∃ o : Obj, A.heap[r]? = some o ∧ o.isCells = false :=
    fun hr r e => let ⟨hB, o, ho, hw⟩ := hr r e; ⟨Nat.le_trans hs1 hB, o, ho, Obj.not_cells_of_walk hw⟩
  refine ⟨w.heap.size + 1, [{ target := .collected w.heap.size, args := #[] }], W1, { target := .fn (.func gf) lb, args := #[.func (.yield (w.heap.size + 1)) #[] #[]] }, W1, gf,
    #[.func (.yield (w.heap.size + 1)) #[] #[]] ++ lb, W1, ?_, by simp only [resolve, hg]; simp [go_sem], fun f' hf' => ?_, by simp [invoke, go_sem, eg], fun _ => h1, ?_⟩
  · show _ = Result.ok _ ((w.alloc (.deferred (some []))).alloc (.loop (rec .ready none)))
    rw [hrec]
    exact run_enterLoop_outer _ _ _ _ _
  · simp [Target.leads] at hf'
    exact hf' ▸ hFg
  refine (hseq (w.heap.size + 1) (fun pre W => I pre W ∧ Marks rec w.heap.size .ready none W) (fun pre W => ∃ c, Ix c pre W ∧ Marks rec w.heap.size .done (some c) W) W1 hW1
    (fun s A B row hs hg' hr => ⟨hI s A B row hs.1 hg' (turn hr), hs.2.grown hg' (fun r e => (hr r e).2)⟩) (fun pre x W hJ hGx => ?_) ⟨hI.alloc _ (hI.alloc _ h0), hM⟩).mono ?_
  · obtain ⟨hi, hm⟩ := hJ
    have hy := run_yield (P := P) (args := encs x) hm.1 (by rw [hrec]; exact hps x)
    have hbg := run_beginRound (P := P) hm.1 (by rw [hrec])
    have hm2 := hm.turned .busy none
    rw [hrec] at hy
    have hb2 := hbody (w.heap.size + 1) pre x _ (hI.putObj (.loop (rec .busy none)) hi (Nat.le_succ _) hm.1 rfl) ((hG pre).putObj (.loop (rec .busy none)) hGx (Nat.le_succ _) hm.1 rfl)
    have hk2 : Kp W (W.putObj (w.heap.size + 1) (.loop (rec .busy none))) := hKb _ _ _ _ (Nat.le_succ _) hm.1 rfl rfl
    refine ⟨fn, _, assign, body, hy, roundIn_of_wpIn hfn (hassign _ x W _ ⟨_, hbg, ?_⟩)⟩
    have hrb : { rec .ready none with state := .busy } = rec .busy none := by rw [hrec]
    rw [hrb]
    refine wpIn_mono hb2 ?_
    have fin : ∀ (jump : Option Code) (W3 : World), KeepsOthers (W.putObj (w.heap.size + 1) (.loop (rec .busy none))) W3 →
        (Instr.endRound (w.heap.size + 1) jump).run P W3 = .ok (.bool jump.isNone) (W3.putObj (w.heap.size + 1) (.loop (rec (if jump.isNone then .ready else .done) jump))) ∧ Marks rec w.heap.size .busy none W3 := fun jump W3 hk3 => by
      have hm3 := hm2.kept hk3
      have := run_endRound (P := P) jump hm3.1
      rw [hrec] at this
      exact ⟨by rw [hrec]; exact this, hm3⟩
    rintro e a3 W3 hp
    cases e with
    | normal =>
      obtain ⟨hk3, hkp3, hi3⟩ := hp
      obtain ⟨hr, hm3⟩ := fin none W3 hk3
      exact ⟨_, _, hr, .inl ⟨rfl, ⟨hI.putObj _ hi3 (Nat.le_succ _) hm3.1 rfl, hm3.turned _ _⟩, hKt (hKt hk2 hkp3) (hKb _ _ _ _ (Nat.le_succ _) hm3.1 rfl rfl)⟩⟩
    | ret =>
      obtain ⟨hk3, hi3⟩ := hp
      obtain ⟨hr, hm3⟩ := fin (some .ret) W3 hk3
      exact ⟨_, _, hr, .inr ⟨rfl, _, (hIx _).putObj _ hi3 (Nat.le_succ _) hm3.1 rfl, hm3.turned _ _⟩⟩
    | exit id =>
      obtain ⟨hk3, hi3⟩ := hp
      obtain ⟨hr, hm3⟩ := fin (some (.exit id)) W3 hk3
      exact ⟨_, _, hr, .inr ⟨rfl, _, (hIx _).putObj _ hi3 (Nat.le_succ _) hm3.1 rfl, hm3.turned _ _⟩⟩
    | goto t =>
      obtain ⟨hk3, hi3⟩ := hp
      obtain ⟨hr, hm3⟩ := fin (some (.goto t)) W3 hk3
      exact ⟨_, _, hr, .inr ⟨rfl, _, (hIx _).putObj _ hi3 (Nat.le_succ _) hm3.1 rfl, hm3.turned _ _⟩⟩
    | panic ch => exact hp.elim
    | outgrown => exact hp.elim
  · rintro e W2 ⟨⟨v, rfl⟩, (⟨xs, hS, hi, hm⟩ | ⟨pre, hSp, c, hi, hm⟩)⟩
    · have hel := run_endLoop (P := P) hm.1 (by rw [hrec]; simp)
      rw [hrec] at hel
      exact ⟨none, _, hel, hdone _ xs _ (Nat.le_refl _) hS (hI.putObj _ hi (Nat.le_succ _) hm.1 rfl) ((World.putObj_heap_other (by omega)).trans hm.2)⟩
    · have hel := run_endLoop (P := P) hm.1 (by rw [hrec]; simp)
      rw [hrec] at hel
      exact ⟨some c, _, hel, hstop _ c pre _ (Nat.le_refl _) hSp ((hIx c).putObj _ hi (Nat.le_succ _) hm.1 rfl) ((World.putObj_heap_other (by omega)).trans hm.2)⟩
theorem grown_of_below' {A B : World} (h : Below A.heap.size A B) : A.grownBy B none := ⟨h.os, h.tape, h.output, h.size, fun i hi _ => h.block i hi⟩
section
variable {rec : LoopState → Option Code → Loop}
/-- The same, where the round begins by making its variables. -/
theorem range_made {g : Operand} {ps : Array Tmp} {assign body : Code} {Q : Exit → Act → World → Prop} {a : Act} {w w0 : World} {gf : Nat} {lb : Array Value}
    {encs : α → Array Value} {G : List α → α → World → Prop} {Kp : World → World → Prop} {S Sp : List α → Prop}
    (hro : F.round = none) (h1 : 1 ≤ n) (hg : a.eval g = .func (.func gf) #[] lb) (hFg : F.fn gf) (eg : ∀ args w, (callFunc gf args).run P w = .ok (.enter gf args) w)
    (hseq : SeqWith F (n - 1) P gf lb encs G Kp S Sp w0) (hKt : ∀ {A B C : World}, Kp A B → Kp B C → Kp A C)
    (hKb : ∀ (W : World) (l : Nat) (o o' : Obj), w.heap.size ≤ l → W.heap[l]? = some o → o.isCells = false → o.isWalk = false → Kp W (W.putObj l o'))
    (hb0 : Below w0.heap.size w0 w) (hps : ∀ x, (encs x).size = ps.size)
    (I : List α → World → Prop) (Ix : Code → List α → World → Prop) (hI : OwnFrom w.heap.size I) (hIx : ∀ c, OwnFrom w.heap.size (Ix c)) (hG : ∀ pre, OwnFrom w.heap.size (G pre)) (h0 : I [] w) (AR : α → Act → World → Prop) (hAR : ∀ x a', OwnFrom w.heap.size (fun (_ : Unit) W => AR x a' W)) (hKa : ∀ W W' : World, w.heap.size ≤ W.heap.size → Below W.heap.size W W' → Kp W W')
    (hassign : ∀ (l : Nat) (pre : List α) (x : α) (W : World) (K : Act → World → Prop), w.heap.size ≤ W.heap.size → G pre x W → (∀ a' W', AR x a' W' → Below W.heap.size W W' → K a' W') →
      assign.wpIn (F.inRound l) (n - 1 - 1) P (Exit.then K (fun _ _ _ => False)) { tmps := (ps.zip (encs x)).foldl (fun t (p, v) => t.setIfInBounds p v) a.tmps, defers := [] } W)
    (hbody : ∀ (l : Nat) (pre : List α) (x : α) (a' : Act) (W : World), I pre W → G pre x W → AR x a' W → body.wpIn (F.inRound l) (n - 1 - 1) P (ownPostK Kp I Ix (pre ++ [x]) W) a' W)
    (hdone : ∀ (D : Nat) (xs : List α) (W : World), w.heap.size ≤ D → S xs → I xs W → W.heap[D]? = some (.deferred (some [])) → Q .normal { a with defers := { target := .collected D, args := #[] } :: a.defers } W)
    (hstop : ∀ (D : Nat) (c : Code) (pre : List α) (W : World), w.heap.size ≤ D → Sp pre → Ix c pre W → W.heap[D]? = some (.deferred (some [])) → c.wpIn F n P Q { a with defers := { target := .collected D, args := #[] } :: a.defers } W) :
    (Code.rangeFunc g ps assign body).wpIn F n P Q a w := by
  refine wpIn_rangeFunc fun fn hfn => ?_
  rw [hro]
  obtain ⟨rec, hrec⟩ : ∃ rec : LoopState → Option Code → Loop, rec = fun st pe => { state := st, pending := pe, fn, tmps := a.tmps, params := ps, assign, body, defers := w.heap.size } := ⟨_, rfl⟩
  let W1 := (w.alloc (.deferred (some []))).alloc (.loop (rec .ready none))
  have hM : Marks rec w.heap.size .ready none W1 := by
    refine ⟨?_, (Below.heap_alloc _ _ _ (by simp)).trans (World.alloc_heap_new w _)⟩
    have := World.alloc_heap_new (w.alloc (.deferred (some []))) (.loop (rec .ready none))
    rwa [World.size_alloc] at this
  have hW1 : Below w0.heap.size w0 W1 := hb0.trans ((((Below.refl _ w).alloc (Nat.le_refl _) _).alloc (by simp) _).mono hb0.size)
  have hs1 : w.heap.size ≤ W1.heap.size := by simp [W1]; omega
  have turn : ∀ {A : World} {row : Option Nat}, (∀ r, row = some r → W1.heap.size ≤ r ∧ ∃ o : Obj, A.heap[r]? = some o ∧ o.isWalk = true) → ∀ r, row = some r → w.heap.size ≤ r ∧ ∃ o : Obj, A.heap[r]? = some o ∧ o.isCells = false :=
    fun hr r e => let ⟨hB, o, ho, hw⟩ := hr r e; ⟨Nat.le_trans hs1 hB, o, ho, Obj.not_cells_of_walk hw⟩
  refine ⟨w.heap.size + 1, [{ target := .collected w.heap.size, args := #[] }], W1, { target := .fn (.func gf) lb, args := #[.func (.yield (w.heap.size + 1)) #[] #[]] }, W1, gf,
    #[.func (.yield (w.heap.size + 1)) #[] #[]] ++ lb, W1, ?_, by simp only [resolve, hg]; simp [go_sem], fun f' hf' => ?_, by simp [invoke, go_sem, eg], fun _ => h1, ?_⟩
  · show _ = Result.ok _ ((w.alloc (.deferred (some []))).alloc (.loop (rec .ready none)))
    rw [hrec]
    exact run_enterLoop_outer _ _ _ _ _
  · simp [Target.leads] at hf'
    exact hf' ▸ hFg
  refine (hseq (w.heap.size + 1) (fun pre W => I pre W ∧ Marks rec w.heap.size .ready none W) (fun pre W => ∃ c, Ix c pre W ∧ Marks rec w.heap.size .done (some c) W) W1 hW1
    (fun s A B row hs hg' hr => ⟨hI s A B row hs.1 hg' (turn hr), hs.2.grown hg' (fun r e => (hr r e).2)⟩) (fun pre x W hJ hGx => ?_) ⟨hI.alloc _ (hI.alloc _ h0), hM⟩).mono ?_
  · obtain ⟨hi, hm⟩ := hJ
    have hy := run_yield (P := P) (args := encs x) hm.1 (by rw [hrec]; exact hps x)
    have hwW : w.heap.size ≤ W.heap.size := by have := hm.lt; omega
    rw [hrec] at hy
    refine ⟨fn, _, assign, body, hy, roundIn_of_wpIn hfn (hassign (w.heap.size + 1) pre x W _ hwW hGx fun a' W' hAR' hbW => ?_)⟩
    have hi1 : I pre W' := hI pre W W' none hi (grown_of_below' hbW) (fun r e => by cases e)
    have hG1 : G pre x W' := (hG pre) x W W' none hGx (grown_of_below' hbW) (fun r e => by cases e)
    have hm1 : Marks rec w.heap.size .ready none W' := hm.grown (grown_of_below' hbW) (fun r e => by cases e)
    have hbg := run_beginRound (P := P) hm1.1 (by rw [hrec])
    have hm2 := hm1.turned .busy none
    have hb2 := hbody (w.heap.size + 1) pre x a' _ (hI.putObj (.loop (rec .busy none)) hi1 (Nat.le_succ _) hm1.1 rfl) ((hG pre).putObj (.loop (rec .busy none)) hG1 (Nat.le_succ _) hm1.1 rfl) ((hAR x a').putObj (s := ()) (.loop (rec .busy none)) hAR' (Nat.le_succ _) hm1.1 rfl)
    have hk2 : Kp W (W'.putObj (w.heap.size + 1) (.loop (rec .busy none))) := hKt (hKa W W' hwW hbW) (hKb _ _ _ _ (Nat.le_succ _) hm1.1 rfl rfl)
    refine ⟨_, hbg, ?_⟩
    have hrb : { rec .ready none with state := .busy } = rec .busy none := by rw [hrec]
    rw [hrb]
    refine wpIn_mono hb2 ?_
    have fin : ∀ (jump : Option Code) (W3 : World), KeepsOthers (W'.putObj (w.heap.size + 1) (.loop (rec .busy none))) W3 →
        (Instr.endRound (w.heap.size + 1) jump).run P W3 = .ok (.bool jump.isNone) (W3.putObj (w.heap.size + 1) (.loop (rec (if jump.isNone then .ready else .done) jump))) ∧ Marks rec w.heap.size .busy none W3 := fun jump W3 hk3 => by
      have hm3 := hm2.kept hk3
      have := run_endRound (P := P) jump hm3.1
      rw [hrec] at this
      exact ⟨by rw [hrec]; exact this, hm3⟩
    rintro e a3 W3 hp
    cases e with
    | normal =>
      obtain ⟨hk3, hkp3, hi3⟩ := hp
      obtain ⟨hr, hm3⟩ := fin none W3 hk3
      exact ⟨_, _, hr, .inl ⟨rfl, ⟨hI.putObj _ hi3 (Nat.le_succ _) hm3.1 rfl, hm3.turned _ _⟩, hKt (hKt hk2 hkp3) (hKb _ _ _ _ (Nat.le_succ _) hm3.1 rfl rfl)⟩⟩
    | ret =>
      obtain ⟨hk3, hi3⟩ := hp
      obtain ⟨hr, hm3⟩ := fin (some .ret) W3 hk3
      exact ⟨_, _, hr, .inr ⟨rfl, _, (hIx _).putObj _ hi3 (Nat.le_succ _) hm3.1 rfl, hm3.turned _ _⟩⟩
    | exit id =>
      obtain ⟨hk3, hi3⟩ := hp
      obtain ⟨hr, hm3⟩ := fin (some (.exit id)) W3 hk3
      exact ⟨_, _, hr, .inr ⟨rfl, _, (hIx _).putObj _ hi3 (Nat.le_succ _) hm3.1 rfl, hm3.turned _ _⟩⟩
    | goto t =>
      obtain ⟨hk3, hi3⟩ := hp
      obtain ⟨hr, hm3⟩ := fin (some (.goto t)) W3 hk3
      exact ⟨_, _, hr, .inr ⟨rfl, _, (hIx _).putObj _ hi3 (Nat.le_succ _) hm3.1 rfl, hm3.turned _ _⟩⟩
    | panic ch => exact hp.elim
    | outgrown => exact hp.elim
  · rintro e W2 ⟨⟨v, rfl⟩, (⟨xs, hS, hi, hm⟩ | ⟨pre, hSp, c, hi, hm⟩)⟩
    · have hel := run_endLoop (P := P) hm.1 (by rw [hrec]; simp)
      rw [hrec] at hel
      exact ⟨none, _, hel, hdone _ xs _ (Nat.le_refl _) hS (hI.putObj _ hi (Nat.le_succ _) hm.1 rfl) ((World.putObj_heap_other (by omega)).trans hm.2)⟩
    · have hel := run_endLoop (P := P) hm.1 (by rw [hrec]; simp)
      rw [hrec] at hel
      exact ⟨some c, _, hel, hstop _ c pre _ (Nat.le_refl _) hSp ((hIx c).putObj _ hi (Nat.le_succ _) hm.1 rfl) ((World.putObj_heap_other (by omega)).trans hm.2)⟩
/-- The same, where what the round makes is one variable. -/
theorem range_var {g : Operand} {ps : Array Tmp} {assign body : Code} {Q : Exit → Act → World → Prop} {a : Act} {w w0 : World} {gf : Nat} {lb : Array Value}
    {encs : α → Array Value} {G : List α → α → World → Prop} {Kp : World → World → Prop} {S Sp : List α → Prop}
    (hro : F.round = none) (h1 : 1 ≤ n) (hg : a.eval g = .func (.func gf) #[] lb) (hFg : F.fn gf) (eg : ∀ args w, (callFunc gf args).run P w = .ok (.enter gf args) w)
    (hseq : SeqWith F (n - 1) P gf lb encs G Kp S Sp w0) (hKt : ∀ {A B C : World}, Kp A B → Kp B C → Kp A C)
    (hKb : ∀ (W : World) (l : Nat) (o o' : Obj), w.heap.size ≤ l → W.heap[l]? = some o → o.isCells = false → o.isWalk = false → Kp W (W.putObj l o'))
    (hb0 : Below w0.heap.size w0 w) (hps : ∀ x, (encs x).size = ps.size)
    (I : List α → World → Prop) (Ix : Code → List α → World → Prop) (hI : OwnFrom w.heap.size I) (hIx : ∀ c, OwnFrom w.heap.size (Ix c)) (hG : ∀ pre, OwnFrom w.heap.size (G pre)) (h0 : I [] w) (q : Tmp) (Pb : Nat → α → World → Prop) (hPb : ∀ b x, OwnFrom w.heap.size (fun (_ : Unit) W => Pb b x W)) (hKa : ∀ W W' : World, w.heap.size ≤ W.heap.size → Below W.heap.size W W' → Kp W W')
    (hassign : ∀ (l : Nat) (pre : List α) (x : α) (W : World) (K : Act → World → Prop), w.heap.size ≤ W.heap.size → G pre x W → (∀ b W', W.heap.size ≤ b → Pb b x W' → Below W.heap.size W W' → K { tmps := ((ps.zip (encs x)).foldl (fun t (p, v) => t.setIfInBounds p v) a.tmps).setIfInBounds q (.pointer (some ⟨b, 0, none⟩)), defers := [] } W') →
      assign.wpIn (F.inRound l) (n - 1 - 1) P (Exit.then K (fun _ _ _ => False)) { tmps := (ps.zip (encs x)).foldl (fun t (p, v) => t.setIfInBounds p v) a.tmps, defers := [] } W)
    (hbody : ∀ (l : Nat) (pre : List α) (x : α) (b : Nat) (W : World), w.heap.size ≤ b → I pre W → G pre x W → Pb b x W → body.wpIn (F.inRound l) (n - 1 - 1) P (ownPostK Kp I Ix (pre ++ [x]) W) { tmps := ((ps.zip (encs x)).foldl (fun t (p, v) => t.setIfInBounds p v) a.tmps).setIfInBounds q (.pointer (some ⟨b, 0, none⟩)), defers := [] } W)
    (hdone : ∀ (D : Nat) (xs : List α) (W : World), w.heap.size ≤ D → S xs → I xs W → W.heap[D]? = some (.deferred (some [])) → Q .normal { a with defers := { target := .collected D, args := #[] } :: a.defers } W)
    (hstop : ∀ (D : Nat) (c : Code) (pre : List α) (W : World), w.heap.size ≤ D → Sp pre → Ix c pre W → W.heap[D]? = some (.deferred (some [])) → c.wpIn F n P Q { a with defers := { target := .collected D, args := #[] } :: a.defers } W) :
    (Code.rangeFunc g ps assign body).wpIn F n P Q a w := by
  refine range_made hro h1 hg hFg eg hseq hKt hKb hb0 hps I Ix hI hIx hG h0
    (fun x a' W => ∃ b, w.heap.size ≤ b ∧ a' = { tmps := ((ps.zip (encs x)).foldl (fun t (p, v) => t.setIfInBounds p v) a.tmps).setIfInBounds q (.pointer (some ⟨b, 0, none⟩)), defers := [] } ∧ Pb b x W)
    (fun x a' s A B row hs hg' hr => ?_) hKa (fun l pre x W K hw hGx hK => ?_) (fun l pre x a' W hi hGx hA => ?_) hdone hstop
  · obtain ⟨b, hb, e, hP⟩ := hs
    exact ⟨b, hb, e, hPb b x () A B row hP hg' hr⟩
  · exact hassign l pre x W K hw hGx (fun b W' hb hP hB => hK _ W' ⟨b, Nat.le_trans hw hb, rfl, hP⟩ hB)
  · obtain ⟨b, hb, rfl, hP⟩ := hA
    exact hbody l pre x b W hb hi hGx hP
/-- The same, for one parameter. -/
theorem range_one {g : Operand} {p0 : Tmp} {enc : α → Value} {assign body : Code} {Q : Exit → Act → World → Prop} {a : Act} {w w0 : World} {gf : Nat} {lb : Array Value}
    {G : List α → α → World → Prop} {Kp : World → World → Prop} {S Sp : List α → Prop}
    (hro : F.round = none) (h1 : 1 ≤ n) (hg : a.eval g = .func (.func gf) #[] lb) (hFg : F.fn gf) (eg : ∀ args w, (callFunc gf args).run P w = .ok (.enter gf args) w)
    (hseq : SeqWith F (n - 1) P gf lb (fun x => #[enc x]) G Kp S Sp w0) (hKt : ∀ {A B C : World}, Kp A B → Kp B C → Kp A C)
    (hKb : ∀ (W : World) (l : Nat) (o o' : Obj), w.heap.size ≤ l → W.heap[l]? = some o → o.isCells = false → o.isWalk = false → Kp W (W.putObj l o'))
    (hb0 : Below w0.heap.size w0 w)
    (I : List α → World → Prop) (Ix : Code → List α → World → Prop) (hI : OwnFrom w.heap.size I) (hIx : ∀ c, OwnFrom w.heap.size (Ix c)) (hG : ∀ pre, OwnFrom w.heap.size (G pre)) (h0 : I [] w) (q : Tmp) (Pb : Nat → α → World → Prop) (hPb : ∀ b x, OwnFrom w.heap.size (fun (_ : Unit) W => Pb b x W)) (hKa : ∀ W W' : World, w.heap.size ≤ W.heap.size → Below W.heap.size W W' → Kp W W')
    (hassign : ∀ (l : Nat) (pre : List α) (x : α) (W : World) (K : Act → World → Prop), w.heap.size ≤ W.heap.size → G pre x W → (∀ b W', W.heap.size ≤ b → Pb b x W' → Below W.heap.size W W' → K { tmps := (a.tmps.setIfInBounds p0 (enc x)).setIfInBounds q (.pointer (some ⟨b, 0, none⟩)), defers := [] } W') →
      assign.wpIn (F.inRound l) (n - 1 - 1) P (Exit.then K (fun _ _ _ => False)) { tmps := a.tmps.setIfInBounds p0 (enc x), defers := [] } W)
    (hbody : ∀ (l : Nat) (pre : List α) (x : α) (b : Nat) (W : World), w.heap.size ≤ b → I pre W → G pre x W → Pb b x W → body.wpIn (F.inRound l) (n - 1 - 1) P (ownPostK Kp I Ix (pre ++ [x]) W) { tmps := (a.tmps.setIfInBounds p0 (enc x)).setIfInBounds q (.pointer (some ⟨b, 0, none⟩)), defers := [] } W)
    (hdone : ∀ (D : Nat) (xs : List α) (W : World), w.heap.size ≤ D → S xs → I xs W → W.heap[D]? = some (.deferred (some [])) → Q .normal { a with defers := { target := .collected D, args := #[] } :: a.defers } W)
    (hstop : ∀ (D : Nat) (c : Code) (pre : List α) (W : World), w.heap.size ≤ D → Sp pre → Ix c pre W → W.heap[D]? = some (.deferred (some [])) → c.wpIn F n P Q { a with defers := { target := .collected D, args := #[] } :: a.defers } W) :
    (Code.rangeFunc g #[p0] assign body).wpIn F n P Q a w := by
  have e : ∀ x : α, (((#[p0] : Array Tmp).zip #[enc x]).foldl (fun t (p, v) => t.setIfInBounds p v) a.tmps) = a.tmps.setIfInBounds p0 (enc x) := fun x => by simp
  refine range_var hro h1 hg hFg eg hseq hKt hKb hb0 (fun _ => rfl) I Ix hI hIx hG h0 q Pb hPb hKa (fun l pre x W K hw hGx hK => ?_) (fun l pre x b W hb hi hGx hP => ?_) hdone hstop
  · rw [e x]
    refine hassign l pre x W K hw hGx (fun b W' hb hP hB => ?_)
    have := hK b W' hb hP hB
    rwa [e x] at this
  · rw [e x]
    exact hbody l pre x b W hb hi hGx hP
end
end Go.Proofs.SeqWith
namespace Go.Proofs.YtpaonoaedjkekaaDoor.Dk
open Go Go.RowKit Go.Proofs.SeqWith Go.Proofs.YtpaonoaedjkekaaDoor.PD Go.Proofs.YtpaonoaedjkekaaDoorW.PrintWords Go.Proofs.YtpaonoaedjkekaaDoorW.PrintLast Go.Proofs.YtpaonoaedjkekaaDoorW.PrintMore
set_option linter.unusedVariables false
set_option linter.unusedSimpArgs false
set_option maxHeartbeats 4000000
set_option maxRecDepth 100000
abbrev Ck := List Int × Int × Int
def keepC (m : Nat) : Ck := (placesL m, -1, 0)
def tornC (t m : Nat) : Ck := (placesL m, (t : Int), 64)
/-- The choices with one torn write, up to a number. -/
def tornsL (k t : Nat) : List Ck := (List.range t).flatMap fun i => ((List.range (2 ^ k)).filter fun m => !m.testBit i).map (tornC i)
def choicesL (k : Nat) : List Ck := if 10 < k then [] else (List.range (2 ^ k)).map keepC ++ tornsL k k
theorem tornsL_succ (k t : Nat) : tornsL k (t + 1) = tornsL k t ++ ((List.range (2 ^ k)).filter fun m => !m.testBit t).map (tornC t) := by
  unfold tornsL; rw [List.range_succ, List.flatMap_append]; simp
theorem range_pre {m n : Nat} (h : m ≤ n) : List.range m <+: List.range n := by
  obtain ⟨d, rfl⟩ : ∃ d, n = m + d := ⟨n - m, by omega⟩
  rw [List.range_add]
  exact List.prefix_append _ _
theorem tornsL_pre {k s t : Nat} (h : s ≤ t) : tornsL k s <+: tornsL k t := by
  obtain ⟨r, hr⟩ := range_pre h
  unfold tornsL
  rw [← hr, List.flatMap_append]
  exact List.prefix_append _ _
theorem keep_pre {k m : Nat} (hk : k ≤ 10) (hm : m < 2 ^ k) : (List.range m).map keepC ++ [keepC m] <+: choicesL k := by
  have e : (List.range m).map keepC ++ [keepC m] = (List.range (m + 1)).map keepC := by rw [List.range_succ, List.map_append]; rfl
  unfold choicesL
  rw [if_neg (by omega), e]
  exact (List.IsPrefix.map keepC (range_pre hm)).trans (List.prefix_append _ _)
theorem torn_pre {k t m : Nat} (hk : k ≤ 10) (ht : t < k) (hm : m < 2 ^ k) (hb : m.testBit t = false) :
    (List.range (2 ^ k)).map keepC ++ tornsL k t ++ ((List.range m).filter fun m => !m.testBit t).map (tornC t) ++ [tornC t m] <+: choicesL k := by
  have e : ((List.range m).filter fun m => !m.testBit t).map (tornC t) ++ [tornC t m] = ((List.range (m + 1)).filter fun m => !m.testBit t).map (tornC t) := by
    rw [List.range_succ, List.filter_append, List.map_append]
    simp [hb]
  unfold choicesL
  rw [if_neg (by omega), List.append_assoc, e, List.append_assoc]
  refine (List.prefix_append_right_inj _).2 ?_
  refine List.IsPrefix.trans ?_ (tornsL_pre (k := k) (show t + 1 ≤ k from ht))
  rw [tornsL_succ]
  exact (List.prefix_append_right_inj _).2 (List.IsPrefix.map _ (List.IsPrefix.filter _ (range_pre hm)))
abbrev El := Value × Ck
abbrev encs (x : El) : Array Value := #[.agg #[x.1, .int .i64 x.2.2.1, .int .i64 x.2.2.2]]
def key (x : El) : Ck := x.2
/-- With an element comes: it is the next choice, and its slice is a row of its own that reads its kept writes. -/
def With (B : Nat) (fs : List Ck) (pre : List El) (x : El) (W : World) : Prop :=
  (pre ++ [x]).map key <+: fs ∧ Kd.R (Kd.int .i64) 3 W B (fun _ => True) x.1 x.2.1
theorem two_pow (k : Nat) (h : k ≤ 10) : wrap64 (2 ^ min k 64) = ((2 ^ k : Nat) : Int) := by
  have : ∀ k : Fin 11, wrap64 (2 ^ min k.val 64) = ((2 ^ k.val : Nat) : Int) := by decide +kernel
  exact this ⟨k, by omega⟩
theorem choices_seq (n : Nat) (hn : 1 ≤ n) (g k : Nat) (w : World) (hg : g < w.heap.size) (hbox : w.cell? ⟨g, 0, none⟩ = some (.int .i64 (k : Int))) :
    SeqWith Fence.wide n Tryd.prog 40 #[ptr g] encs (With w.heap.size (choicesL k)) (Below w.heap.size) (fun xs => xs.map key = choicesL k) (fun _ => True) w := fun lp J Jx W hW hJ hY h0 => by
  have HX := Aside0.mk hbox
  have HW := Aside0.mk hW
  have H0 := Aside0.mk h0
  have hc : W.cell? ⟨g, 0, none⟩ = some (.int .i64 (k : Int)) := (hW.cell (p := ⟨g, 0, none⟩) hg).trans hbox
  clear hbox hW h0
  have k0 : ¬ ((k : Int) < 0) := by omega
  refine callsIn_of_wp Tryd.func40 rfl trivial ?_ rfl
  simp only [Tryd.ntmps40, List.size_toArray, List.length_cons, List.length_nil, Nat.reduceAdd, Nat.reduceSub, Array.replicate_succ, Array.replicate_zero, List.push_toArray, List.append_toArray, List.nil_append, List.cons_append]
  by_cases hk : 10 < k
  · have k1 : decide ((10 : Int) < (k : Int)) = true := decide_eq_true (by omega)
    have k2 : decide (10 < k) = true := decide_eq_true hk
    have HK := Aside0.mk hk
    clear hk
    gi_wp2
    refine bodyPost_ret (results_none rfl _ _ _) rfl ?_
    exact ⟨⟨_, rfl⟩, .inl ⟨[], by unfold choicesL; rw [if_pos HK.out]; rfl, H0.out⟩⟩
  · have k1 : decide ((10 : Int) < (k : Int)) = false := decide_eq_false (by omega)
    have k2 : decide (10 < k) = false := decide_eq_false hk
    have HK := Aside0.mk (show k ≤ 10 by omega)
    obtain ⟨T, hT⟩ : ∃ T, 2 ^ k = T := ⟨_, rfl⟩
    have HT := Aside0.mk hT
    have hs2 := two_pow k (by omega)
    rw [hT] at hs2
    have HS2 := Aside0.mk hs2
    have HTS := Aside0.mk (show T ≤ 1024 from by rw [← hT]; exact Nat.pow_le_pow_right (by decide) (by omega : k ≤ 10))
    clear hk hT
    gi_wp2
    clear hs2
    gi_loopw [14] (fun p wr => ∃ (m : Nat) (pre : List El), p = .int .i64 (m : Int) ∧ Aside0 (m ≤ T) ∧ Aside0 (pre.map key = (List.range m).map keepC) ∧ Aside0 (J pre wr) ∧ Aside0 (Below w.heap.size w wr)) (fun p _ => T - (intOf p).toNat)
    case atStart => exact ⟨0, [], rfl, ⟨Nat.zero_le _⟩, ⟨rfl⟩, H0, HW⟩
    case round =>
      obtain ⟨m, pre, rfl, HM, HP, HJ, HB⟩ := hrel
      by_cases cm : m < T
      · have cm1 : decide ((m : Int) < (T : Int)) = true := decide_eq_true (by omega)
        have cm2 : decide (m < T) = true := decide_eq_true cm
        have hw1 : IntKind.i64.wrap ((m : Int) + 1) = ((m + 1 : Nat) : Int) := by rw [IntWalk.i64_in _ (by have := HTS.out; omega)]; omega
        gi_wp2_with fail
        refine ⟨trivial, ?_⟩
        gi_at_call 41
        refine (callsIn_wide.2 (places_at m (by have := HTS.out; omega) wr)).mono ?_
        rintro e W2 ⟨v, rfl, hR, hB2⟩
        have HJ2 := Aside0.mk (hJ pre wr W2 none HJ.out (grown_of_below hB2 none) (fun r e => by cases e))
        have HB2 := Aside0.mk (HB.out.trans (hB2.mono HB.out.size))
        have HPX := Aside0.mk (show ∀ v : Value, (pre ++ [((v, keepC m) : El)]).map key = (List.range (m + 1)).map keepC from fun v => by
          rw [List.map_append, HP.out, List.range_succ, List.map_append]; rfl)
        obtain ⟨Av, cv, rfl⟩ := Kd.R_slice hR
        obtain ⟨fn, tmps, assign, body, hy, hRo⟩ := hY pre (.slice Av (placesL m).length cv, keepC m) W2 HJ2.out ⟨by
          have := keep_pre (k := k) (m := m) HK.out (by rw [HT.out]; exact cm)
          rw [List.map_append, HP.out]
          exact this, Kd.R_lower hR HB.out.size⟩
        dsimp only [encs, keepC] at hy
        clear hB2 HB HJ hR
        gi_wp2
        refine hRo.mono ?_
        rintro e W3 (⟨rfl, hJ3, hk3⟩ | ⟨rfl, hJx3⟩)
        · gi_wp2
          go_roundw
          case rel => exact ⟨m + 1, pre ++ [(.slice Av (placesL m).length cv, keepC m)], congrArg (Value.int .i64) (by omega), ⟨cm⟩, ⟨HPX.out _⟩, ⟨hJ3⟩, ⟨HB2.out.trans hk3⟩⟩
          case measure => simp only [intOf]; omega
        · gi_wp2
          refine bodyPost_ret (results_none rfl _ _ _) rfl ?_
          exact ⟨⟨_, rfl⟩, .inr ⟨_, trivial, hJx3⟩⟩
      · have cm1 : decide ((m : Int) < (T : Int)) = false := decide_eq_false (by omega)
        have cm2 : decide (m < T) = false := decide_eq_false cm
        have hc : wr.cell? ⟨g, 0, none⟩ = some (.int .i64 (k : Int)) := (HB.out.cell (p := ⟨g, 0, none⟩) hg).trans HX.out
        have HPA := Aside0.mk (show pre.map key = (List.range T).map keepC from by
          rw [HP.out, show m = T by have := HM.out; omega])
        gi_wp2
        clear hc HM HP
        gi_loopw [25] (fun p wr => ∃ (t : Nat) (pre : List El), p = .int .i64 (t : Int) ∧ Aside0 (t ≤ k) ∧ Aside0 (pre.map key = (List.range T).map keepC ++ tornsL k t) ∧ Aside0 (J pre wr) ∧ Aside0 (Below w.heap.size w wr)) (fun p _ => k - (intOf p).toNat)
        case atStart => exact ⟨0, pre, rfl, ⟨Nat.zero_le _⟩, ⟨by rw [HPA.out]; simp [tornsL]⟩, HJ, HB⟩
        case round =>
          clear HPA HJ HB
          obtain ⟨t, pre, rfl, HM, HP, HJ, HB⟩ := hrel
          have hc : wr.cell? ⟨g, 0, none⟩ = some (.int .i64 (k : Int)) := (HB.out.cell (p := ⟨g, 0, none⟩) hg).trans HX.out
          by_cases ct : t < k
          · have ct1 : decide ((t : Int) < (k : Int)) = true := decide_eq_true (by omega)
            have ct2 : decide (t < k) = true := decide_eq_true ct
            have hwt : IntKind.i64.wrap ((t : Int) + 1) = ((t + 1 : Nat) : Int) := by rw [IntWalk.i64_in _ (by have := HK.out; omega)]; omega
            gi_wp2
            rw [HS2.out]
            clear hc
            gi_loopw [30] (fun p wr => ∃ (m : Nat) (pre : List El), p = .int .i64 (m : Int) ∧ Aside0 (m ≤ T) ∧ Aside0 (pre.map key = (List.range T).map keepC ++ tornsL k t ++ ((List.range m).filter fun m => !m.testBit t).map (tornC t)) ∧ Aside0 (J pre wr) ∧ Aside0 (Below w.heap.size w wr)) (fun p _ => T - (intOf p).toNat)
            case atStart => exact ⟨0, pre, rfl, ⟨Nat.zero_le _⟩, ⟨by rw [HP.out]; simp⟩, HJ, HB⟩
            case round =>
              clear HP HJ HB
              obtain ⟨m, pre, rfl, HMm, HP, HJ, HB⟩ := hrel
              by_cases cm' : m < T
              · have cm1 : decide ((m : Int) < (T : Int)) = true := decide_eq_true (by omega)
                have cm2 : decide (m < T) = true := decide_eq_true cm'
                have hw1 : IntKind.i64.wrap ((m : Int) + 1) = ((m + 1 : Nat) : Int) := by rw [IntWalk.i64_in _ (by have := HTS.out; omega)]; omega
                have ht0 : (0 : Int) ≤ (t : Int) := by omega
                have hs := shr_nat m t (by have := HK.out; omega)
                have hs2 : (m : Int) / 2 ^ min (t : Int).toNat 64 = ((m >>> t : Nat) : Int) := hs
                have hs3 : (m : Int) / 2 ^ min t 64 = ((m >>> t : Nat) : Int) := by rw [← Int.toNat_natCast t]; exact hs
                have hs4 : (m : Int) / 2 ^ t = ((m >>> t : Nat) : Int) := by rw [Nat.min_eq_left (show t ≤ 64 by have := HK.out; omega)] at hs3; exact hs3
                have hand := and_one (m >>> t) (shr_lt (by have := HTS.out; omega))
                have htb := testBit_shift m t
                obtain ⟨z, hz⟩ : ∃ z, m >>> t = z := ⟨_, rfl⟩
                rw [hz] at hs hs2 hs3 hs4 hand htb
                clear hz
                by_cases hbit : z % 2 = 1
                · rw [hbit] at hand
                  have hand : bits .and .i64 (z : Int) 1 = 1 := hand
                  have HTB := Aside0.mk (show m.testBit t = true by rw [htb, decide_eq_true hbit])
                  clear htb hbit
                  gi_wp2
                  refine ⟨trivial, ?_⟩
                  gi_wp2
                  refine ⟨fun _ h => (by cases h), ?_⟩
                  gi_wp2
                  go_roundw
                  case rel =>
                    refine ⟨m + 1, pre, congrArg (Value.int .i64) (by omega), ⟨cm'⟩, ⟨?_⟩, HJ, HB⟩
                    rw [HP.out, List.range_succ, List.filter_append]
                    simp [HTB.out]
                  case measure => simp only [intOf]; omega
                · rw [show z % 2 = 0 by omega] at hand
                  have hand : bits .and .i64 (z : Int) 1 = 0 := hand
                  have HTB := Aside0.mk (show m.testBit t = false by rw [htb, decide_eq_false hbit])
                  clear htb hbit
                  gi_wp2_with fail
                  refine ⟨trivial, ?_⟩
                  gi_at_call 41
                  refine (callsIn_wide.2 (places_at m (by have := HTS.out; omega) wr)).mono ?_
                  rintro e W2 ⟨v, rfl, hR, hB2⟩
                  have HJ2 := Aside0.mk (hJ pre wr W2 none HJ.out (grown_of_below hB2 none) (fun r e => by cases e))
                  have HB2 := Aside0.mk (HB.out.trans (hB2.mono HB.out.size))
                  have HPX := Aside0.mk (show ∀ v : Value, (pre ++ [((v, tornC t m) : El)]).map key = (List.range T).map keepC ++ tornsL k t ++ ((List.range (m + 1)).filter fun m => !m.testBit t).map (tornC t) from fun v => by
                    rw [List.map_append, HP.out, List.range_succ, List.filter_append, List.map_append, List.append_assoc]
                    simp [HTB.out, key])
                  obtain ⟨Av, cv, rfl⟩ := Kd.R_slice hR
                  obtain ⟨fn, tmps, assign, body, hy, hRo⟩ := hY pre (.slice Av (placesL m).length cv, tornC t m) W2 HJ2.out ⟨by
                    have := torn_pre (k := k) (t := t) (m := m) HK.out ct (by rw [HT.out]; exact cm') HTB.out
                    rw [HT.out] at this
                    rw [List.map_append, HP.out]
                    exact this, Kd.R_lower hR HB.out.size⟩
                  dsimp only [encs, tornC] at hy
                  clear hB2 HB HJ hR
                  gi_wp2
                  refine hRo.mono ?_
                  rintro e W3 (⟨rfl, hJ3, hk3⟩ | ⟨rfl, hJx3⟩)
                  · gi_wp2
                    go_roundw
                    case rel => exact ⟨m + 1, pre ++ [(.slice Av (placesL m).length cv, tornC t m)], congrArg (Value.int .i64) (by omega), ⟨cm'⟩, ⟨HPX.out _⟩, ⟨hJ3⟩, ⟨HB2.out.trans hk3⟩⟩
                    case measure => simp only [intOf]; omega
                  · gi_wp2
                    refine bodyPost_ret (results_none rfl _ _ _) rfl ?_
                    exact ⟨⟨_, rfl⟩, .inr ⟨_, trivial, hJx3⟩⟩
              · have cm1 : decide ((m : Int) < (T : Int)) = false := decide_eq_false (by omega)
                have cm2 : decide (m < T) = false := decide_eq_false cm'
                gi_wp2
                go_roundw
                case rel =>
                  refine ⟨t + 1, pre, congrArg (Value.int .i64) (by omega), ⟨ct⟩, ⟨?_⟩, HJ, HB⟩
                  rw [HP.out, tornsL_succ, HT.out, show m = T by have := HMm.out; omega, List.append_assoc]
                case measure => simp only [intOf]; omega
          · have ct1 : decide ((t : Int) < (k : Int)) = false := decide_eq_false (by omega)
            have ct2 : decide (t < k) = false := decide_eq_false ct
            gi_wp2
            go_end0
            refine ⟨⟨_, rfl⟩, .inl ⟨pre, ?_, HJ.out⟩⟩
            have htk : t = k := by have := HM.out; omega
            show pre.map key = choicesL k
            rw [HP.out]
            unfold choicesL
            rw [if_neg (by have := HK.out; omega), htk, HT.out]
end Go.Proofs.YtpaonoaedjkekaaDoor.Dk
