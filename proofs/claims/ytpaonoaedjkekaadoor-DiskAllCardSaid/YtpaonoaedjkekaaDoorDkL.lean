/- (*disk.Disk).loose, walked. -/
import Derived.Test.YtpaonoaedjkekaaDoorDkF
namespace Go.Proofs.YtpaonoaedjkekaaDoor.Dk
open Go Go.RowKit Go.Proofs.YtpaonoaedjkekaaDoor.PD Go.Proofs.YtpaonoaedjkekaaDoorW.PrintWords Go.Proofs.YtpaonoaedjkekaaDoorW.PrintLast Go.Proofs.YtpaonoaedjkekaaDoorW.PrintMore
set_option linter.unusedVariables false
set_option linter.unusedSimpArgs false
set_option maxHeartbeats 4000000
set_option maxRecDepth 100000
/-- Where the loose writes of a moment begin. -/
def looseN (ops : List (Int × List Int)) : Nat → Nat
  | 0 => 0
  | n + 1 => if ops[n]? = some flushOp then n + 1 else looseN ops n
theorem looseN_le (ops : List (Int × List Int)) : ∀ n, looseN ops n ≤ n
  | 0 => Nat.le_refl _
  | n + 1 => by
    unfold looseN
    split
    · exact Nat.le_refl _
    · exact Nat.le_succ_of_le (looseN_le ops n)
theorem Fl.same {W W1 : World} (h : Fl W) (e : W1.heap = W.heap) : Fl W1 := fun j v hj => by
  have := h j v hj
  simpa [World.cell?, e] using this
theorem loose_at {h : Hd} {B : Nat} {fs ss : List Int} {A : Option Addr} {c : Nat} {ops : List (Int × List Int)} {W : World} (k : DkAt h B fs ss (.slice A ops.length c) ops W) (hF : Fl W) (n : Nat) (hn : n ≤ ops.length) :
    Calls Tryd.prog 36 #[ptr h.D, .int .i64 (n : Int)] W fun e w' => e = .returned (.int .i64 (looseN ops n : Int)) ∧ ∃ m, w' = W.drewN m := by
  have K := Aside0.mk k
  have HF := Aside0.mk hF
  have HN := Aside0.mk hn
  have HL := Aside0.mk k.few
  have cd := k.row.cell 2 _ rfl
  clear k hF hn
  go_enter Tryd.func36, Tryd.ntmps36
  go_wp2_with fail
  go_loopw [1] (fun p wr => ∃ (j m : Nat), p = .int .i64 (j : Int) ∧ Aside0 (j ≤ n) ∧ Aside0 (looseN ops j = looseN ops n) ∧ wr = W.drewN m) (fun p _ => (intOf p).toNat)
  · exact ⟨n, 0, rfl, ⟨Nat.le_refl _⟩, ⟨rfl⟩, rfl⟩
  · obtain ⟨j, m, rfl, HJ, HE, rfl⟩ := hrel
    rcases j with _ | j
    · go_wp2_with fail
      go_quiet (fail)
      go_wp2_with fail
      go_ret
      refine ⟨?_, m + nq, (World.drewN_drewN ..)⟩
      rw [← HE.out]
      rfl
    · have hj0 : decide ((0 : Int) < ((j + 1 : Nat) : Int)) = true := decide_eq_true (by omega)
      have hjb : j < 65536 := by have := HJ.out; have := HN.out; have := HL.out; omega
      have hw1 : IntKind.i64.wrap (((j + 1 : Nat) : Int) - 1) = (j : Int) := by rw [IntWalk.i64_in _ (by omega)]; omega
      clear hjb
      obtain ⟨op, hop⟩ : ∃ op, ops[j]? = some op := ⟨_, List.getElem?_eq_getElem (by have := HJ.out; have := HN.out; omega)⟩
      obtain ⟨hl, g, e, hc, hcell⟩ := ops_at K.out j op hop
      subst e
      have HCE := Aside0.mk hcell
      clear hcell
      obtain ⟨J, hJ⟩ : ∃ J, ((j + 1 : Nat) : Int) = J := ⟨_, rfl⟩
      rw [hJ] at hj0 hw1 ⊢
      have h1 : (j : Int) < (ops.length : Int) := by have := HJ.out; have := HN.out; omega
      have HJJ := Aside0.mk hJ
      clear hJ
      go_upto_region 1 with fail
      refine wp_region_quiet_lit (by kernel_rfl) (by kernel_rfl) ?_
      iterate 10 (quiet_step (fail))
      refine wpQuiet_val (.agg (opCells op.1 op.2).toArray) (by rfl) (fun w' hw' => by
        obtain ⟨q, rfl⟩ := hw'
        exact exec_load83 (x := .tmp 14) rfl rfl (by rw [opCells_len, hl]) HCE.out) ?_
      simp only [Act.put, List.setIfInBounds_toArray, List.set_cons_zero, List.set_cons_succ]
      refine wpQuiet_val (.agg (newOp (-1)).toArray) (by rfl) (fun w' hw' => by
        obtain ⟨q, rfl⟩ := hw'
        exact exec_load83 (x := .global 0) rfl rfl (newOp_len _) HF.out) ?_
      simp only [Act.put, List.setIfInBounds_toArray, List.set_cons_zero, List.set_cons_succ]
      refine wpQuiet_val (.bool (!(op.1 == -1 && op.2 == List.replicate 128 0))) (by rfl) (fun w' hw' => by
        obtain ⟨q, rfl⟩ := hw'
        exact exec_neq83 (x := .tmp 15) (y := .tmp 16) rfl rfl rfl hl (List.length_replicate ..)) ?_
      simp only [Act.put, List.setIfInBounds_toArray, List.set_cons_zero, List.set_cons_succ]
      have hfl : (op.1 == -1 && op.2 == List.replicate 128 0) = decide (op = flushOp) := by
        rw [Bool.eq_iff_iff]
        simp [flushOp, Prod.ext_iff]
      rw [hfl]
      by_cases hfo : op = flushOp
      · have hd : decide (op = flushOp) = true := decide_eq_true hfo
        rw [hd]
        quiet_step (fail)
        refine wpQuiet_nil ?_
        intro w' hw'
        obtain ⟨nq, rfl⟩ := hw'
        go_wp2_with fail
        go_ret
        refine ⟨?_, m + nq, (World.drewN_drewN ..)⟩
        rw [← HE.out, looseN, if_pos (by rw [hop, hfo])]
        show Ending.returned (Value.int .i64 J) = _
        rw [HJJ.out]
      · have hd : decide (op = flushOp) = false := decide_eq_false hfo
        rw [hd]
        quiet_step (fail)
        refine wpQuiet_nil ?_
        intro w' hw'
        obtain ⟨nq, rfl⟩ := hw'
        go_wp2_with fail
        refine ⟨⟨j, m + nq, rfl, ⟨by have := HJ.out; omega⟩, ⟨?_⟩, rfl⟩, ?_⟩
        · rw [← HE.out, looseN, if_neg (by rw [hop]; intro e; injection e with e; exact hfo e)]
        · have := HJJ.out
          simp only [intOf]
          omega
end Go.Proofs.YtpaonoaedjkekaaDoor.Dk
