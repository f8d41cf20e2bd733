-- Written by a program of this session (wip/pp), out of the translation.
import Derived.Test.YtlblleideihhmabPSx0
import Derived.Test.YtlblleideihhmabPSx1
import Derived.Test.YtlblleideihhmabPSx2
namespace Go.Proofs.Ytlblleideihhmab.PS
open Go.RowKit Go.Proofs.Ytlblleideihhmab.Mine Go.Proofs.YtlblleideihhmabW.PrintWords Go.Proofs.YtlblleideihhmabW.PrintLast Go.Proofs.YtlblleideihhmabW.PrintMore
attribute [local go_sem] max2_int min2_int max_two min_two max_three min_three max_four min_four   -- for this text's walks alone
set_option linter.unusedVariables false
set_option linter.unusedSimpArgs false

/-! ### larderref10_Sector: function 10 -/
def larderref10_Sector.l0 : Nat → Int → List Int → Option (List Int × Int)
  | 0, _, _ => none
  | k + 1, x8, x9 => if (x9.length : Int) < 120 then (if x9.length < 140737488355328 then (larderref10_Sector.l0 k x8 (x9 ++ [0])) else (none)) else ((larderref01_PutWord.f k x9 x8).bind fun t141 => (some (t141, 0)))
def larderref10_Sector.f (k : Nat) (a0 : Int) (a1 : Int) (l2 : List Int) : Option (List Int × Int) := (larderref10_Stamp.f a0 a1).bind fun t128 => (if t128 = 0 then (some (([] : List Int), 2)) else (if (l2.length : Int) > 111 then (some (([] : List Int), 102)) else ((larderref01_PutWord.f k ([] : List Int) t128).bind fun t129 => (if t129.length < 140737488355328 then ((some (t129 ++ [((l2.length : Int)) % 256] : List Int)).bind fun y132 => (if y132.length + l2.length < 140737488355328 then (larderref10_Sector.l0 k t128 (y132 ++ l2)) else (none))) else (none)))))
theorem larderref10_Sector.mono_l : ∀ k, (∀ y0 y1, LeO (larderref10_Sector.l0 k y0 y1) (larderref10_Sector.l0 (k + 1) y0 y1))
  | 0 => fun _ _ r h => by simp [larderref10_Sector.l0] at h
  | k + 1 => by
    have ih0 := larderref10_Sector.mono_l k
    · intro y0 y1
      unfold larderref10_Sector.l0
      repeat' first
      | (with_reducible exact ih0 _ _)
      | (with_reducible exact larderref01_PutWord.mono _ _ _)
      | (with_reducible exact LeO.refl _)
      | (with_reducible exact LeO.none _)
      | (with_reducible refine LeO.ite ?_ ?_)
      | (with_reducible refine LeO.bind ?_ (fun _ => ?_))
      | exact ih0 _ _
      | exact larderref01_PutWord.mono _ _ _
      | exact LeO.none _
      | refine LeO.ite ?_ ?_
      | refine LeO.bind ?_ (fun _ => ?_)
theorem larderref10_Sector.mono : ∀ a0 a1 a2 k, LeO (larderref10_Sector.f k a0 a1 a2) (larderref10_Sector.f (k + 1) a0 a1 a2) := by
  intro a0 a1 a2 k
  have ih0 := larderref10_Sector.mono_l k
  unfold larderref10_Sector.f
  repeat' first
      | (with_reducible exact ih0 _ _)
      | (with_reducible exact larderref01_PutWord.mono _ _ _)
      | (with_reducible exact LeO.refl _)
      | (with_reducible exact LeO.none _)
      | (with_reducible refine LeO.ite ?_ ?_)
      | (with_reducible refine LeO.bind ?_ (fun _ => ?_))
      | exact ih0 _ _
      | exact larderref01_PutWord.mono _ _ _
      | exact LeO.none _
      | refine LeO.ite ?_ ?_
      | refine LeO.bind ?_ (fun _ => ?_)
set_option maxHeartbeats 8000000 in
set_option maxRecDepth 100000 in
theorem larderref10_Sector.calls (k : Nat) (a0 : Int) (a1 : Int) (A2 : Option Addr) (c2 : Nat) (l2 : List Int) (r1 : List Int) (r2 : Int) (w : World) (hr2 : Kd.C (Kd.int .u8) w A2 l2.length l2) (hc2 : l2.length ≤ c2) (h : larderref10_Sector.f k a0 a1 l2 = some (r1, r2)) :
    Calls Try.prog 10 #[.int .i64 a0, .int .i64 a1, .slice A2 l2.length c2] w fun e w' => ∃ v0_ : Value, e = .returned (.tuple #[v0_, .int .i64 r2]) ∧ Kd.R (Kd.int .u8) 5 w' w.heap.size (fun _ => True) v0_ r1 ∧ Below w.heap.size w w' := by
  have HR2 := Aside0.mk hr2
  have HC2 := Aside0.mk hc2
  clear hr2 hc2
  have HB := Aside0.mk (Below.refl w.heap.size w)
  have H : ((larderref10_Stamp.f a0 a1).bind fun t128 => (if t128 = 0 then (some (([] : List Int), 2)) else (if (l2.length : Int) > 111 then (some (([] : List Int), 102)) else ((larderref01_PutWord.f k ([] : List Int) t128).bind fun t129 => (if t129.length < 140737488355328 then ((some (t129 ++ [((l2.length : Int)) % 256] : List Int)).bind fun y132 => (if y132.length + l2.length < 140737488355328 then (larderref10_Sector.l0 k t128 (y132 ++ l2)) else (none))) else (none)))))) = some (r1, r2) := h
  clear h
  replace H := Option.bind_eq_some_iff.mp H
  obtain ⟨t128, A40, H⟩ := H
  replace H : (if t128 = 0 then (some (([] : List Int), 2)) else (if (l2.length : Int) > 111 then (some (([] : List Int), 102)) else ((larderref01_PutWord.f k ([] : List Int) t128).bind fun t129 => (if t129.length < 140737488355328 then ((some (t129 ++ [((l2.length : Int)) % 256] : List Int)).bind fun y132 => (if y132.length + l2.length < 140737488355328 then (larderref10_Sector.l0 k t128 (y132 ++ l2)) else (none))) else (none))))) = some (r1, r2) := H
  have A4 := Aside0.mk A40
  clear A40
  by_cases c5 : t128 = 0
  · rw [if_pos c5] at H
    have c5b0 : (t128 == 0) = true := beq_iff_eq.mpr c5
    have c5b1 : (t128 != 0) = false := bne_eq_false_iff_eq.mpr c5
    clear c5
    simp only [Option.some.injEq, Prod.mk.injEq] at H
    obtain ⟨rfl, rfl⟩ := H
    go_enter Try.func10, Try.ntmps10
    go_wp2_with (first | ((with_reducible refine gate_callee (f := 7) rfl ?_); refine goesL_ (some 12) rfl rfl Try.func7 (by kernel_rfl) rfl #[.int .i64 a0, .int .i64 a1] rfl (by (try simp only [List.map_toArray, List.map_cons, List.map_nil]); first | done | rfl | (simp only [List.length_drop, List.length_take]; rfl)) ?_; (with_reducible refine (larderref10_Stamp.calls a0 a1 t128 _ A4.out).mono ?_); rintro e w' ⟨rfl, ⟨nd, rfl⟩⟩; refine ⟨_, rfl, ?_⟩))
    go_ret2
    exact ⟨_, by first | rfl | (simp [errW_none, errW_some] <;> rfl) | (simp [*, errW_none, errW_some] <;> rfl), by first | exact Kd.R_nil _ _ _ _ _ | exact Kd.N_nil _ _ _ _ _ | exact Kd.V_nil _ _ _ _ _ | exact Kd.Q_nil _ _ _ _ _ | exact Kd.S_nil _ _ _ _ _, by repeat (first | (with_reducible first | exact HB.out | apply below_alloc | apply pw_below_drewN | apply below_drew1) | exact HB.out)⟩
  · rw [if_neg c5] at H
    have c5b0 : (t128 == 0) = false := beq_eq_false_iff_ne.mpr c5
    have c5b1 : (t128 != 0) = true := bne_iff_ne.mpr c5
    by_cases c6 : (l2.length : Int) > 111
    · rw [if_pos c6] at H
      have c6b0 : decide (111 < (l2.length : Int)) = true := decide_eq_true c6
      have c6b1 : decide (111 < l2.length) = true := decide_eq_true (by omega)
      clear c6
      simp only [Option.some.injEq, Prod.mk.injEq] at H
      obtain ⟨rfl, rfl⟩ := H
      go_enter Try.func10, Try.ntmps10
      go_wp2_with (first | ((with_reducible refine gate_callee (f := 7) rfl ?_); refine goesL_ (some 12) rfl rfl Try.func7 (by kernel_rfl) rfl #[.int .i64 a0, .int .i64 a1] rfl (by (try simp only [List.map_toArray, List.map_cons, List.map_nil]); first | done | rfl | (simp only [List.length_drop, List.length_take]; rfl)) ?_; (with_reducible refine (larderref10_Stamp.calls a0 a1 t128 _ A4.out).mono ?_); rintro e w' ⟨rfl, ⟨nd, rfl⟩⟩; refine ⟨_, rfl, ?_⟩))
      go_ret2
      exact ⟨_, by first | rfl | (simp [errW_none, errW_some] <;> rfl) | (simp [*, errW_none, errW_some] <;> rfl), by first | exact Kd.R_nil _ _ _ _ _ | exact Kd.N_nil _ _ _ _ _ | exact Kd.V_nil _ _ _ _ _ | exact Kd.Q_nil _ _ _ _ _ | exact Kd.S_nil _ _ _ _ _, by repeat (first | (with_reducible first | exact HB.out | apply below_alloc | apply pw_below_drewN | apply below_drew1) | exact HB.out)⟩
    · rw [if_neg c6] at H
      have c6b0 : decide (111 < (l2.length : Int)) = false := decide_eq_false c6
      have c6b1 : decide (111 < l2.length) = false := decide_eq_false (by omega)
      clear c6
      replace H := Option.bind_eq_some_iff.mp H
      obtain ⟨t129, A70, H⟩ := H
      replace H : (if t129.length < 140737488355328 then ((some (t129 ++ [((l2.length : Int)) % 256] : List Int)).bind fun y132 => (if y132.length + l2.length < 140737488355328 then (larderref10_Sector.l0 k t128 (y132 ++ l2)) else (none))) else (none)) = some (r1, r2) := H
      have A7 := Aside0.mk A70
      clear A70
      by_cases c8 : t129.length < 140737488355328
      · rw [if_pos c8] at H
        have LMc8 := Aside0.mk c8
        clear c8
        obtain ⟨y132, hy132⟩ : ∃ y_ : List Int, y_ = (t129 ++ [((l2.length : Int)) % 256]) := ⟨_, rfl⟩
        replace H : (if y132.length + l2.length < 140737488355328 then (larderref10_Sector.l0 k t128 (y132 ++ l2)) else (none)) = some (r1, r2) := by first | (rw [hy132]; with_reducible exact H) | (have H2_ := (Option.bind_some _ _).symm.trans H; rw [hy132]; with_reducible exact H2_) | (have H2_ := (Option.bind_some _ _).symm.trans H; with_reducible exact H2_) | with_reducible exact H | (rw [hy132]; exact H) | exact H
        have Ny132 := Aside0.mk hy132
        clear hy132
        by_cases c9 : y132.length + l2.length < 140737488355328
        · rw [if_pos c9] at H
          have LMc9 := Aside0.mk c9
          clear c9
          obtain ⟨y135, hy135⟩ : ∃ y_ : List Int, y_ = (y132 ++ l2) := ⟨_, rfl⟩
          replace H : (larderref10_Sector.l0 k t128 y135) = some (r1, r2) := by first | (rw [hy135]; with_reducible exact H) | (have H2_ := (Option.bind_some _ _).symm.trans H; rw [hy135]; with_reducible exact H2_) | (have H2_ := (Option.bind_some _ _).symm.trans H; with_reducible exact H2_) | with_reducible exact H | (rw [hy135]; exact H) | exact H
          have Ny135 := Aside0.mk hy135
          clear hy135
          have H' := Aside0.mk H
          clear H
          go_enter Try.func10, Try.ntmps10
          go_wp2_with (first | ((with_reducible refine gate_callee (f := 7) rfl ?_); refine goesL_ (some 12) rfl rfl Try.func7 (by kernel_rfl) rfl #[.int .i64 a0, .int .i64 a1] rfl (by (try simp only [List.map_toArray, List.map_cons, List.map_nil]); first | done | rfl | (simp only [List.length_drop, List.length_take]; rfl)) ?_; (with_reducible refine (larderref10_Stamp.calls a0 a1 t128 _ A4.out).mono ?_); rintro e w' ⟨rfl, ⟨nd, rfl⟩⟩; refine ⟨_, rfl, ?_⟩) | ((with_reducible refine gate_callee (f := 13) rfl ?_); refine goesL_ (some 19) rfl rfl Try.func13 (by kernel_rfl) rfl #[.slice none 0 0, .int .u64 t128] rfl (by (try simp only [List.map_toArray, List.map_cons, List.map_nil]); first | done | rfl | (simp only [List.length_drop, List.length_take]; rfl)) ?_; (refine (larderref01_PutWord.calls k _ _ ([] : List Int) t128 t129 _ ?side1 ?side2 A7.out).mono ?_); (case side1 => exact Kd.C_nil _ _); (case side2 => exact Nat.le_refl _); rintro e w10 ⟨v130, rfl, ho0, hb⟩; refine ⟨_, rfl, ?_⟩; have n0_ := Aside0.mk (Kd.R_lower ho0 (below_size (by repeat (first | (with_reducible first | exact HB.out | apply below_alloc | apply pw_below_drewN | apply below_drew1) | exact HB.out)))); have n1_ := Aside0.mk (below_step (by repeat (first | (with_reducible first | exact HB.out | apply below_alloc | apply pw_below_drewN | apply below_drew1) | exact HB.out)) hb); clear HB; have HO131 := n0_; have HB := n1_; clear n0_ n1_; (try clear hb); (try clear hb2); (try clear hk); (try clear hi); (try clear ho0)) | ((with_reducible refine gate_builtin (b := .append) (xs := #[.tmp 20, .tmp 24]) rfl ?_); at_builtin; refine Kd.R_append (Kd.int .u8) (w0 := w) w.heap.size rfl (.tmp 20) (.tmp 24) 22 5 (.int .u8 0) 1 rfl Try.underlying22 info5 rfl (by decide) (by omega) v130 t129 (((l2.length : Int)) % 256) [.int .u8 (((l2.length : Int)) % 256)] (fun _ => True) (fun _ => False) rfl rfl ?aP (fun _ hk => hk.elim) ?aF ?aO ?aB ?aS ?aL ?_; (case aP => exact rfl); (case aB => exact (by repeat (first | (with_reducible first | exact HB.out | apply below_alloc | apply pw_below_drewN | apply below_drew1) | exact HB.out))); (case aF => exact (fun _ _ => trivial)); (case aO => exact (by (with_reducible repeat (first | apply Kd.R_alloc | apply Kd.R_drewN | apply Kd.R_drew)); exact HO131.out)); (case aS => exact (below_size (by repeat (first | (with_reducible first | exact HB.out | apply below_alloc | apply pw_below_drewN | apply below_drew1) | exact HB.out)))); (case aL => have := LMc8.out; omega); intro v133 w11 ho hb hg hat; rw [← Ny132.out] at ho; have n0_ := Aside0.mk (hb); have n1_ := Aside0.mk (ho); clear HB; clear HO131; have HB := n0_; have HO134 := n1_; clear n0_ n1_; clear ho hb hg hat) | ((with_reducible refine gate_builtin (b := .append) (xs := #[.tmp 26, .tmp 27]) rfl ?_); at_builtin; refine Kd.R_append_rows (Kd.int .u8) (w0 := w) w.heap.size rfl (.tmp 26) (.tmp 27) 22 5 (.int .u8 0) 1 rfl Try.underlying22 info5 rfl (by decide) (by omega) v133 y132 l2 _ _ _ (fun _ => True) (fun _ => False) rfl rfl ?aO ?aR (fun _ _ h => h) (fun _ h => h.elim) ?aF ?aB ?aS ?aL ?_; (case aR => repeat (first | exact (Kd.C_below HR2.out HB.out) | (with_reducible refine Kd.C_alloc ?_ _) | (with_reducible refine Kd.C_drewN ?_ _) | (with_reducible refine Kd.C_drew ?_))); (case aB => exact (by repeat (first | (with_reducible first | exact HB.out | apply below_alloc | apply pw_below_drewN | apply below_drew1) | exact HB.out))); (case aF => exact (fun _ _ => trivial)); (case aO => exact (by (with_reducible repeat (first | apply Kd.R_alloc | apply Kd.R_drewN | apply Kd.R_drew)); exact HO134.out)); (case aS => exact (below_size (by repeat (first | (with_reducible first | exact HB.out | apply below_alloc | apply pw_below_drewN | apply below_drew1) | exact HB.out)))); (case aL => have := LMc9.out; omega); intro v136 w12 ho hb hg hat; rw [← Ny135.out] at ho; have n0_ := Aside0.mk (hb); have n1_ := Aside0.mk (ho); clear HB; clear HO134; have HB := n0_; have HO137 := n1_; clear n0_ n1_; clear ho hb hg hat))
          go_loopg [9] k (fun kq v9 w' => ∃ (x9_1 : List Int), Aside0 (larderref10_Sector.l0 kq t128 x9_1 = some (r1, r2)) ∧ Aside0 (kq ≤ k) ∧ Aside0 (Kd.R (Kd.int .u8) 5 w' w.heap.size (fun _ => True) v9 x9_1) ∧ Aside0 (Below w.heap.size w w'))
          case atStart => exact ⟨(y135), H', ⟨Nat.le_refl _⟩, ⟨by (with_reducible repeat (first | apply Kd.R_alloc | apply Kd.R_drewN | apply Kd.R_drew)); exact HO137.out⟩, ⟨by repeat (first | (with_reducible first | exact HB.out | apply below_alloc | apply pw_below_drewN | apply below_drew1) | exact HB.out)⟩⟩
          case round =>
            clear H'
            try clear c1
            try clear c2
            try clear p2
            try clear c5
            try clear c5b0
            try clear c5b1
            try clear c6
            try clear c6b0
            try clear c6b1
            try clear c7
            try clear c8
            try clear c9
            try clear c10
            obtain ⟨x9_1, HA, HK1, HO_9, HB⟩ := hrel
            cases gk with
            | zero => exact absurd HA.out (by simp [larderref10_Sector.l0])
            | succ k1 =>
              have H := HA.out
              clear HA
              simp only [larderref10_Sector.l0] at H
              by_cases c13 : (x9_1.length : Int) < 120
              · rw [if_pos c13] at H
                have c13b0 : decide ((x9_1.length : Int) < 120) = true := decide_eq_true c13
                have c13b1 : decide (x9_1.length < 120) = true := decide_eq_true (by omega)
                clear c13
                by_cases c14 : x9_1.length < 140737488355328
                · rw [if_pos c14] at H
                  have LMc14 := Aside0.mk c14
                  clear c14
                  obtain ⟨y138, hy138⟩ : ∃ y_ : List Int, y_ = (x9_1 ++ [0]) := ⟨_, rfl⟩
                  replace H : (larderref10_Sector.l0 k1 t128 y138) = some (r1, r2) := by first | (rw [hy138]; with_reducible exact H) | (have H2_ := (Option.bind_some _ _).symm.trans H; rw [hy138]; with_reducible exact H2_) | (have H2_ := (Option.bind_some _ _).symm.trans H; with_reducible exact H2_) | with_reducible exact H | (rw [hy138]; exact H) | exact H
                  have Ny138 := Aside0.mk hy138
                  clear hy138
                  have H' := Aside0.mk H
                  clear H
                  obtain ⟨Ao15, co15, eo15⟩ := Kd.R_slice HO_9.out
                  subst eo15
                  go_wp2_with (first | ((with_reducible refine gate_builtin (b := .append) (xs := #[.tmp 32, .tmp 33]) rfl ?_); at_builtin; refine Kd.R_append (Kd.int .u8) (w0 := w) w.heap.size rfl (.tmp 32) (.tmp 33) 22 5 (.int .u8 0) 1 rfl Try.underlying22 info5 rfl (by decide) (by omega) (.slice Ao15 x9_1.length co15) x9_1 0 [.int .u8 0] (fun _ => True) (fun _ => False) rfl rfl ?aP (fun _ hk => hk.elim) ?aF ?aO ?aB ?aS ?aL ?_; (case aP => exact rfl); (case aB => exact (by repeat (first | (with_reducible first | exact HB.out | apply below_alloc | apply pw_below_drewN | apply below_drew1) | exact HB.out))); (case aF => exact (fun _ _ => trivial)); (case aO => exact (by (with_reducible repeat (first | apply Kd.R_alloc | apply Kd.R_drewN | apply Kd.R_drew)); exact HO_9.out)); (case aS => exact (below_size (by repeat (first | (with_reducible first | exact HB.out | apply below_alloc | apply pw_below_drewN | apply below_drew1) | exact HB.out)))); (case aL => have := LMc14.out; omega); intro v139 w16 ho hb hg hat; rw [← Ny138.out] at ho; have n0_ := Aside0.mk (hb); have n1_ := Aside0.mk (ho); clear HB; clear HO_9; have HB := n0_; have HO140 := n1_; clear n0_ n1_; clear ho hb hg hat))
                  go_roundg k1
                  case measure => have := HK1.out; omega
                  case rel => exact ⟨(y138), H', ⟨by have := HK1.out; omega⟩, ⟨by (with_reducible repeat (first | apply Kd.R_alloc | apply Kd.R_drewN | apply Kd.R_drew)); exact HO140.out⟩, ⟨by repeat (first | (with_reducible first | exact HB.out | apply below_alloc | apply pw_below_drewN | apply below_drew1) | exact HB.out)⟩⟩
                · rw [if_neg c14] at H
                  exact absurd H (by simp)
              · rw [if_neg c13] at H
                have c13b0 : decide ((x9_1.length : Int) < 120) = false := decide_eq_false c13
                have c13b1 : decide (x9_1.length < 120) = false := decide_eq_false (by omega)
                clear c13
                replace H := Option.bind_eq_some_iff.mp H
                obtain ⟨t141, A170, H⟩ := H
                replace H : (some (t141, 0)) = some (r1, r2) := H
                have A17 := Aside0.mk A170
                clear A170
                simp only [Option.some.injEq, Prod.mk.injEq] at H
                obtain ⟨rfl, rfl⟩ := H
                obtain ⟨Ao18, co18, eo18⟩ := Kd.R_slice HO_9.out
                subst eo18
                go_wp2_with (first | ((with_reducible refine gate_callee (f := 13) rfl ?_); refine goesL_ (some 37) rfl rfl Try.func13 (by kernel_rfl) rfl #[.slice Ao18 x9_1.length co18, .int .u64 t128] rfl (by (try simp only [List.map_toArray, List.map_cons, List.map_nil]); first | done | rfl | (simp only [List.length_drop, List.length_take]; rfl)) ?_; (with_reducible refine (larderref01_PutWord.calls k1 _ _ x9_1 t128 t141 _ ?side1 ?side2 A17.out).mono ?_); (case side1 => repeat (first | exact (Kd.R_reads' HO_9.out).2.2 | (with_reducible refine Kd.C_alloc ?_ _) | (with_reducible refine Kd.C_drewN ?_ _) | (with_reducible refine Kd.C_drew ?_))); (case side2 => exact (Kd.R_reads' HO_9.out).2.1); rintro e w19 ⟨v142, rfl, ho0, hb⟩; refine ⟨_, rfl, ?_⟩; have n0_ := Aside0.mk (Kd.R_elder' (by (with_reducible repeat (first | apply Kd.R_alloc | apply Kd.R_drewN | apply Kd.R_drew)); exact HO_9.out) (Kd.R_base ho0) hb); have n1_ := Aside0.mk (Kd.R_lower (Kd.R_new' ho0 (Kd.R_lt (by (with_reducible repeat (first | apply Kd.R_alloc | apply Kd.R_drewN | apply Kd.R_drew)); exact HO_9.out))) (below_size (by repeat (first | (with_reducible first | exact HB.out | apply below_alloc | apply pw_below_drewN | apply below_drew1) | exact HB.out)))); have n2_ := Aside0.mk (below_step (by repeat (first | (with_reducible first | exact HB.out | apply below_alloc | apply pw_below_drewN | apply below_drew1) | exact HB.out)) hb); clear HO_9; clear HB; have HO_9 := n0_; have HO143 := n1_; have HB := n2_; clear n0_ n1_ n2_; (try clear hb); (try clear hb2); (try clear hk); (try clear hi); (try clear ho0)))
                go_ret2
                exact ⟨_, by first | rfl | (simp [errW_none, errW_some] <;> rfl) | (simp [*, errW_none, errW_some] <;> rfl), by (with_reducible repeat (first | apply Kd.R_alloc | apply Kd.R_drewN | apply Kd.R_drew)); exact Kd.R_mono HO143.out (fun _ hk => trivial), by repeat (first | (with_reducible first | exact HB.out | apply below_alloc | apply pw_below_drewN | apply below_drew1) | exact HB.out)⟩
        · rw [if_neg c9] at H
          exact absurd H (by simp)
      · rw [if_neg c8] at H
        exact absurd H (by simp)

/-! ### larderref01_Kept: function 11 (given) -/
def larderref01_Kept.f (l0 : List Int) (l1 : List Int) : Option (Bool) := if l0 = l1 then some true else none
set_option maxHeartbeats 8000000 in
set_option maxRecDepth 100000 in
theorem larderref01_Kept.calls (A0 : Option Addr) (c0 : Nat) (l0 : List Int) (A1 : Option Addr) (c1 : Nat) (l1 : List Int) (r : Bool) (w : World) (hr0 : Kd.C (Kd.int .u8) w A0 l0.length l0) (hc0 : l0.length ≤ c0) (hr1 : Kd.C (Kd.int .u8) w A1 l1.length l1) (hc1 : l1.length ≤ c1) (hsp : Kd.C (Kd.int .u8) w A0 (l0 ++ marks9).length (l0 ++ marks9)) (hcp : (l0 ++ marks9).length ≤ c0) (h : larderref01_Kept.f l0 l1 = some r) :
    Calls Try.prog 11 #[.slice A0 l0.length c0, .slice A1 l1.length c1] w fun e w' => e = .returned (.bool r) ∧ Drawn0 w w' := by
  unfold larderref01_Kept.f at h
  by_cases he : l0 = l1
  · rw [if_pos he] at h
    obtain rfl := Option.some.inj h
    subst he
    clear h
    obtain ⟨y, hy⟩ : ∃ y, l0 ++ marks9 = y := ⟨_, rfl⟩
    have hfl : y.length = l0.length + 9 := by rw [← hy, List.length_append]; rfl
    have hrd : ∀ x : Int, 0 ≤ x → x < 9 → rd y ((l0.length : Int) + x) = (wrap64 (208 + x)) % 256 := fun x h0 h1 => by rw [← hy]; exact marks9_rd l0 x h0 h1
    rw [hy] at hsp hcp
    clear hy
    have HRD := Aside0.mk hrd
    clear hrd
    have hmx : y.length ≤ 9223372036854775807 := (Kd.reads_of_C (d := (0 : Int)) (h1 := fun _ => rfl) hsp).2.1
    obtain ⟨ji8, hji8⟩ : ∃ j_ : Int, (wrap64 ((l0.length : Int) + 9)) = j_ := ⟨_, rfl⟩
    have hv8 : ji8 = (l0.length : Int) + 9 := by rw [← hji8]; unfold wrap64; omega
    have HFN := Aside0.mk (show ji8.toNat = y.length by omega)
    have HV8 := Aside0.mk hv8
    have HMX := Aside0.mk hmx
    have HFL := Aside0.mk hfl
    have HR0 := Aside0.mk hr0
    have HC0 := Aside0.mk hc0
    clear hr0 hc0
    have HR1 := Aside0.mk hr1
    have HC1 := Aside0.mk hc1
    clear hr1 hc1
    have HSP := Aside0.mk hsp
    have HCP := Aside0.mk hcp
    clear hsp hcp hv8 hmx hfl
    have c4b0 : ((l0.length : Int) == (l0.length : Int)) = true := beq_self_eq_true _
    have c4b1 : ((l0.length : Int) != (l0.length : Int)) = false := bne_self_eq_false _
    have c4b2 : (l0.length == l0.length) = true := beq_self_eq_true _
    have hcv5 := Kd.C_string (P := Try.prog) (A := A0) (c := c0) Try.underlying22 Try.underlying5 Try.underlying9 HR0.out
    have hcv6 := Kd.C_string (P := Try.prog) (A := A1) (c := c1) Try.underlying22 Try.underlying5 Try.underlying9 HR1.out
    go_enter Try.func11, Try.ntmps11
    go_upto_region 1 with (fail)
    go_cut [18] (fun v18 wc => v18 = .bool false ∧ Drawn0 w wc)
    case first =>
      go_wp2
      go_meet
      case rel => exact ⟨by first | rfl | (simp; done) | (simp [*]; done), by repeat (first | exact Drawn0.refl _ | apply Drawn0.step)⟩
    case rest =>
      clear hcv5 hcv6 c4b0 c4b1 c4b2
      obtain ⟨rfl, ⟨mc2, rfl⟩⟩ := hcut
      have hji8w : (IntKind.i64.wrap ((l0.length : Int) + 9)) = ji8 := (i64_w _).trans hji8
      have c9b0 : (0 ≤ ji8) = True := eq_true (by have := HV8.out; omega)
      have c9b1 : decide (0 ≤ (ji8)) = true := decide_eq_true (by have := HV8.out; omega)
      obtain ⟨i011, hi011, _, hsz11, _⟩ := info_parts info5
      have hcut11 := cut_cap (P := Try.prog) 22 5 .i64 Try.underlying22 hi011 A0 l0.length c0 ji8 (by have := HV8.out; omega) (by have := HV8.out; have := HFL.out; have := HCP.out; omega)
      rw [HFN.out] at hcut11
      clear hi011 hsz11
      go_wp2
      go_loopg [6] 10 (fun kq v6 w' => ∃ (x6_2 : Int), v6 = .int .i64 x6_2 ∧ Aside0 (0 ≤ x6_2 ∧ x6_2 + (kq : Int) = 10 ∧ x6_2 ≤ 9) ∧ Drawn0 w w')
      case atStart => exact ⟨(0), (by first | rfl | (simp; done) | (simp [*]; done)), ⟨by omega⟩, by repeat (first | exact Drawn0.refl _ | apply Drawn0.step)⟩
      case round =>
        try clear c9b0
        try clear c9b1
        try clear hcut11
        obtain ⟨x6_2, rfl, HA, ⟨m2, rfl⟩⟩ := hrel
        cases gk with
        | zero => exact absurd HA.out (by omega)
        | succ k2 =>
          by_cases c12 : x6_2 < 9
          · have c12b0 : decide (x6_2 < 9) = true := decide_eq_true c12
            have HLT := Aside0.mk c12
            clear c12
            obtain ⟨ji13, hji13⟩ : ∃ j_ : Int, (wrap64 ((l0.length : Int) + x6_2)) = j_ := ⟨_, rfl⟩
            have hji13w : (IntKind.i64.wrap ((l0.length : Int) + x6_2)) = ji13 := (i64_w _).trans hji13
            have HV13 := Aside0.mk (show ji13 = (l0.length : Int) + x6_2 by rw [← hji13]; unfold wrap64; have := HMX.out; have := HA.out; have := HFL.out; have := HLT.out; omega)
            have c16 : (rd y (ji13)) = ((wrap64 (208 + x6_2)) % 256) := by
              rw [HV13.out]
              exact HRD.out x6_2 HA.out.1 HLT.out
            have c16b0 : ((rd y (ji13)) == ((wrap64 (208 + x6_2)) % 256)) = true := beq_iff_eq.mpr c16
            have c16b1 : ((rd y (ji13)) != ((wrap64 (208 + x6_2)) % 256)) = false := bne_eq_false_iff_eq.mpr c16
            clear c16
            have p165 : 0 ≤ ((ji13) : Int) := by have := HV13.out; have := HA.out; omega
            have q165 : (ji13) < (y.length : Int) := by have := HV13.out; have := HA.out; have := HFL.out; have := HLT.out; omega
            obtain ⟨ad165, e165, hx165_0⟩ := Kd.at_int HSP.out (ji13) p165 q165
            cases e165
            have c14b0 : decide (0 ≤ (ji13)) = true := decide_eq_true p165
            have c15b0 : decide ((ji13) < (y.length : Int)) = true := decide_eq_true q165
            replace p165 := eq_true p165
            replace q165 := eq_true q165
            go_wp2
            go_roundg k2
            case measure => omega
            case rel => exact ⟨(wrap64 (x6_2 + 1)), (by first | rfl | (simp; done) | (simp [*]; done)), ⟨by have := HA.out; have := HLT.out; unfold wrap64; omega⟩, by repeat (first | exact Drawn0.refl _ | apply Drawn0.step)⟩
          · have c12b0 : decide (x6_2 < 9) = false := decide_eq_false c12
            clear c12
            go_wp2
            go_ret
            exact ⟨by first | rfl | (simp; done) | (simp [*]; done), by repeat (first | exact Drawn0.refl _ | apply Drawn0.step)⟩
  · rw [if_neg he] at h
    exact absurd h (by simp)

end Go.Proofs.Ytlblleideihhmab.PS
