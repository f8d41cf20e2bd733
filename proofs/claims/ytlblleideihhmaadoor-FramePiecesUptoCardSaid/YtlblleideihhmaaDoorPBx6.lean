-- Written by a program of this session (wip/pp), out of the translation.
import Derived.Test.YtlblleideihhmaaDoorPBx0
import Derived.Test.YtlblleideihhmaaDoorPBx4
import Derived.Test.YtlblleideihhmaaDoorPBx5
namespace Go.Proofs.YtlblleideihhmaaDoor.PB
open Go.RowKit Go.Proofs.YtlblleideihhmaaDoor.Mine Go.Proofs.YtlblleideihhmaaDoorW.PrintWords Go.Proofs.YtlblleideihhmaaDoorW.PrintLast Go.Proofs.YtlblleideihhmaaDoorW.PrintMore
attribute [local go_sem] max2_int min2_int max_two min_two max_three min_three max_four min_four   -- for this text's walks alone
set_option linter.unusedVariables false
set_option linter.unusedSimpArgs false

/-! ### larderref01_Unseal: function 37 -/
def larderref01_Unseal.f (k : Nat) (l0 : List Int) : Option (List Int × Int × Int × Int) := if (l0.length : Int) = 0 then (some (([] : List Int), 0, 3, 0)) else (if 0 < (l0.length : Int) then (if (rd l0 0) = 167 then (if 1 ≤ (l0.length : Int) then ((larderref01_Uint.f k (l0.drop 1)).bind fun bt136 => (if bt136.2.2 = 0 then (if bt136.1 > 65536 then (some (([] : List Int), 0, 12, 1)) else (if (wrap64 ((wrap64 ((wrap64 (bt136.2.1 + 1)) + (wrap64 (bt136.1)))) + 4)) > (l0.length : Int) then (some (([] : List Int), 0, 3, (l0.length : Int))) else (if 0 ≤ (wrap64 ((wrap64 (bt136.2.1 + 1)) + (wrap64 (bt136.1)))) then (if (wrap64 ((wrap64 (bt136.2.1 + 1)) + (wrap64 (bt136.1)))) ≤ (l0.length : Int) then ((larderref01_Crc.f k (l0.take ((wrap64 ((wrap64 (bt136.2.1 + 1)) + (wrap64 (bt136.1)))) : Int).toNat)).bind fun t140 => ((larderref01_four.f t140).bind fun t141 => (if (wrap64 ((wrap64 (bt136.2.1 + 1)) + (wrap64 (bt136.1)))) ≤ (wrap64 ((wrap64 ((wrap64 (bt136.2.1 + 1)) + (wrap64 (bt136.1)))) + 4)) then (if (wrap64 ((wrap64 ((wrap64 (bt136.2.1 + 1)) + (wrap64 (bt136.1)))) + 4)) ≤ (l0.length : Int) then (if (strOfNums t141).toList = (strOfNums ((l0.take ((wrap64 ((wrap64 ((wrap64 (bt136.2.1 + 1)) + (wrap64 (bt136.1)))) + 4)) : Int).toNat).drop ((wrap64 ((wrap64 (bt136.2.1 + 1)) + (wrap64 (bt136.1)))) : Int).toNat)).toList then (if 0 ≤ (wrap64 (bt136.2.1 + 1)) then (if (wrap64 (bt136.2.1 + 1)) ≤ (wrap64 ((wrap64 (bt136.2.1 + 1)) + (wrap64 (bt136.1)))) then ((larderref01_joined.f ([] : List Int) ((l0.take ((wrap64 ((wrap64 (bt136.2.1 + 1)) + (wrap64 (bt136.1)))) : Int).toNat).drop ((wrap64 (bt136.2.1 + 1)) : Int).toNat)).bind fun t146 => (some (t146, wrap64 ((wrap64 ((wrap64 (bt136.2.1 + 1)) + (wrap64 (bt136.1)))) + 4), 0, 0))) else (none)) else (none)) else (some (([] : List Int), 0, 13, wrap64 ((wrap64 (bt136.2.1 + 1)) + (wrap64 (bt136.1)))))) else (none)) else (none)))) else (none)) else (none)))) else (some (([] : List Int), 0, bt136.2.2, wrap64 (bt136.2.1 + 1))))) else (none)) else (some (([] : List Int), 0, 14, 0))) else (none))
theorem larderref01_Unseal.mono : ∀ a0 k, LeO (larderref01_Unseal.f k a0) (larderref01_Unseal.f (k + 1) a0) := by
  intro a0 k
  unfold larderref01_Unseal.f
  repeat' first
      | (with_reducible exact larderref01_Crc.mono _ _)
      | (with_reducible exact larderref01_Uint.mono _ _)
      | (with_reducible exact LeO.refl _)
      | (with_reducible exact LeO.none _)
      | (with_reducible refine LeO.ite ?_ ?_)
      | (with_reducible refine LeO.bind ?_ (fun _ => ?_))
      | exact larderref01_Crc.mono _ _
      | exact larderref01_Uint.mono _ _
      | exact LeO.none _
      | refine LeO.ite ?_ ?_
      | refine LeO.bind ?_ (fun _ => ?_)
def larderref01_Unseal.T14 : Bool × List (List Nat × List Nat) := (true, [([], []), ([], []), ([0, 1], [0, 1]), ([2], [2]), ([3, 3], [3]), ([4], [4]), ([], []), ([], []), ([], []), ([8], [8]), ([6, 7, 9], [6, 7, 9]), ([10], [10]), ([5, 11], [5, 11])])
def larderref01_Unseal.B14 : List Nat := [0, 0, 3, 7, 15, 31, 0, 0, 0, 256, 960, 1984, 4095]
theorem larderref01_Unseal.tab14 : rtab .any (opsOf Tryd.f37 14) = larderref01_Unseal.T14 := by kernel_rfl
theorem larderref01_Unseal.bits14 : waitsOk larderref01_Unseal.T14.2 larderref01_Unseal.B14 = true := by kernel_rfl
set_option maxHeartbeats 8000000 in
set_option maxRecDepth 100000 in
theorem larderref01_Unseal.calls (k : Nat) (A0 : Option Addr) (c0 : Nat) (l0 : List Int) (r1 : List Int) (r2 : Int) (r3 : Int) (r4 : Int) (w : World) (hr0 : Kd.C (Kd.int .u8) w A0 l0.length l0) (hc0 : l0.length ≤ c0) (h : larderref01_Unseal.f k l0 = some (r1, r2, r3, r4)) :
    Calls Tryd.prog 37 #[.slice A0 l0.length c0] w fun e w' => ∃ v0_ : Value, e = .returned (.tuple #[v0_, .int .i64 r2, .int .i64 r3, .int .i64 r4]) ∧ Kd.R (Kd.int .u8) 5 w' w.heap.size (fun _ => True) v0_ r1 ∧ Below w.heap.size w w' := by
  have HR0 := Aside0.mk hr0
  have HC0 := Aside0.mk hc0
  clear hr0 hc0
  have HB := Aside0.mk (Below.refl w.heap.size w)
  have H : (if (l0.length : Int) = 0 then (some (([] : List Int), 0, 3, 0)) else (if 0 < (l0.length : Int) then (if (rd l0 0) = 167 then (if 1 ≤ (l0.length : Int) then ((larderref01_Uint.f k (l0.drop 1)).bind fun bt136 => (if bt136.2.2 = 0 then (if bt136.1 > 65536 then (some (([] : List Int), 0, 12, 1)) else (if (wrap64 ((wrap64 ((wrap64 (bt136.2.1 + 1)) + (wrap64 (bt136.1)))) + 4)) > (l0.length : Int) then (some (([] : List Int), 0, 3, (l0.length : Int))) else (if 0 ≤ (wrap64 ((wrap64 (bt136.2.1 + 1)) + (wrap64 (bt136.1)))) then (if (wrap64 ((wrap64 (bt136.2.1 + 1)) + (wrap64 (bt136.1)))) ≤ (l0.length : Int) then ((larderref01_Crc.f k (l0.take ((wrap64 ((wrap64 (bt136.2.1 + 1)) + (wrap64 (bt136.1)))) : Int).toNat)).bind fun t140 => ((larderref01_four.f t140).bind fun t141 => (if (wrap64 ((wrap64 (bt136.2.1 + 1)) + (wrap64 (bt136.1)))) ≤ (wrap64 ((wrap64 ((wrap64 (bt136.2.1 + 1)) + (wrap64 (bt136.1)))) + 4)) then (if (wrap64 ((wrap64 ((wrap64 (bt136.2.1 + 1)) + (wrap64 (bt136.1)))) + 4)) ≤ (l0.length : Int) then (if (strOfNums t141).toList = (strOfNums ((l0.take ((wrap64 ((wrap64 ((wrap64 (bt136.2.1 + 1)) + (wrap64 (bt136.1)))) + 4)) : Int).toNat).drop ((wrap64 ((wrap64 (bt136.2.1 + 1)) + (wrap64 (bt136.1)))) : Int).toNat)).toList then (if 0 ≤ (wrap64 (bt136.2.1 + 1)) then (if (wrap64 (bt136.2.1 + 1)) ≤ (wrap64 ((wrap64 (bt136.2.1 + 1)) + (wrap64 (bt136.1)))) then ((larderref01_joined.f ([] : List Int) ((l0.take ((wrap64 ((wrap64 (bt136.2.1 + 1)) + (wrap64 (bt136.1)))) : Int).toNat).drop ((wrap64 (bt136.2.1 + 1)) : Int).toNat)).bind fun t146 => (some (t146, wrap64 ((wrap64 ((wrap64 (bt136.2.1 + 1)) + (wrap64 (bt136.1)))) + 4), 0, 0))) else (none)) else (none)) else (some (([] : List Int), 0, 13, wrap64 ((wrap64 (bt136.2.1 + 1)) + (wrap64 (bt136.1)))))) else (none)) else (none)))) else (none)) else (none)))) else (some (([] : List Int), 0, bt136.2.2, wrap64 (bt136.2.1 + 1))))) else (none)) else (some (([] : List Int), 0, 14, 0))) else (none))) = some (r1, r2, r3, r4) := h
  clear h
  by_cases c2 : (l0.length : Int) = 0
  · rw [if_pos c2] at H
    have c2b0 : ((l0.length : Int) == 0) = true := beq_iff_eq.mpr c2
    have c2b1 : ((l0.length : Int) != 0) = false := bne_eq_false_iff_eq.mpr c2
    clear c2
    simp only [Option.some.injEq, Prod.mk.injEq] at H
    obtain ⟨rfl, rfl, rfl, rfl⟩ := H
    go_enter Tryd.func37, Tryd.ntmps37
    go_wp2
    refine bodyPost_ret (results_list (rs := [.tmp 2, .tmp 3, .tmp 4, .tmp 5]) rfl (by simp) (.tmp (.tmp (.tmp (.tmp .nil))))) rfl ?_
    exact ⟨_, by first | rfl | (simp [errW_none, errW_some] <;> rfl) | (simp [*, errW_none, errW_some] <;> rfl), by first | exact Kd.R_nil _ _ _ _ _ | exact Kd.N_nil _ _ _ _ _ | exact Kd.V_nil _ _ _ _ _ | exact Kd.Q_nil _ _ _ _ _ | exact Kd.S_nil _ _ _ _ _, by repeat (first | (with_reducible first | exact HB.out | apply below_alloc | apply pw_below_drewN | apply below_drew1) | exact HB.out)⟩
  · rw [if_neg c2] at H
    have c2b0 : ((l0.length : Int) == 0) = false := beq_eq_false_iff_ne.mpr c2
    have c2b1 : ((l0.length : Int) != 0) = true := bne_iff_ne.mpr c2
    have c2b2 : ¬ (l0 = []) := fun h_ => c2 (by rw [h_]; rfl)
    by_cases c3 : 0 < (l0.length : Int)
    · rw [if_pos c3] at H
      have c3b0 : decide (0 < (l0.length : Int)) = true := decide_eq_true c3
      have c3b1 : decide (0 < l0.length) = true := decide_eq_true (by omega)
      clear c3
      by_cases c4 : (rd l0 0) = 167
      · rw [if_pos c4] at H
        have c4b0 : ((rd l0 0) == 167) = true := beq_iff_eq.mpr c4
        have c4b1 : ((rd l0 0) != 167) = false := bne_eq_false_iff_eq.mpr c4
        clear c4
        by_cases c5 : 1 ≤ (l0.length : Int)
        · rw [if_pos c5] at H
          have c5b0 := eq_true c5
          have c5b1 : decide (1 ≤ (l0.length : Int)) = true := decide_eq_true c5
          clear c5
          replace H := Option.bind_eq_some_iff.mp H
          obtain ⟨⟨t136, t137, t138⟩, A60, H⟩ := H
          replace H : (if t138 = 0 then (if t136 > 65536 then (some (([] : List Int), 0, 12, 1)) else (if (wrap64 ((wrap64 ((wrap64 (t137 + 1)) + (wrap64 (t136)))) + 4)) > (l0.length : Int) then (some (([] : List Int), 0, 3, (l0.length : Int))) else (if 0 ≤ (wrap64 ((wrap64 (t137 + 1)) + (wrap64 (t136)))) then (if (wrap64 ((wrap64 (t137 + 1)) + (wrap64 (t136)))) ≤ (l0.length : Int) then ((larderref01_Crc.f k (l0.take ((wrap64 ((wrap64 (t137 + 1)) + (wrap64 (t136)))) : Int).toNat)).bind fun t140 => ((larderref01_four.f t140).bind fun t141 => (if (wrap64 ((wrap64 (t137 + 1)) + (wrap64 (t136)))) ≤ (wrap64 ((wrap64 ((wrap64 (t137 + 1)) + (wrap64 (t136)))) + 4)) then (if (wrap64 ((wrap64 ((wrap64 (t137 + 1)) + (wrap64 (t136)))) + 4)) ≤ (l0.length : Int) then (if (strOfNums t141).toList = (strOfNums ((l0.take ((wrap64 ((wrap64 ((wrap64 (t137 + 1)) + (wrap64 (t136)))) + 4)) : Int).toNat).drop ((wrap64 ((wrap64 (t137 + 1)) + (wrap64 (t136)))) : Int).toNat)).toList then (if 0 ≤ (wrap64 (t137 + 1)) then (if (wrap64 (t137 + 1)) ≤ (wrap64 ((wrap64 (t137 + 1)) + (wrap64 (t136)))) then ((larderref01_joined.f ([] : List Int) ((l0.take ((wrap64 ((wrap64 (t137 + 1)) + (wrap64 (t136)))) : Int).toNat).drop ((wrap64 (t137 + 1)) : Int).toNat)).bind fun t146 => (some (t146, wrap64 ((wrap64 ((wrap64 (t137 + 1)) + (wrap64 (t136)))) + 4), 0, 0))) else (none)) else (none)) else (some (([] : List Int), 0, 13, wrap64 ((wrap64 (t137 + 1)) + (wrap64 (t136)))))) else (none)) else (none)))) else (none)) else (none)))) else (some (([] : List Int), 0, t138, wrap64 (t137 + 1)))) = some (r1, r2, r3, r4) := H
          have A6 := Aside0.mk A60
          clear A60
          by_cases c7 : t138 = 0
          · rw [if_pos c7] at H
            have c7b0 : (t138 == 0) = true := beq_iff_eq.mpr c7
            have c7b1 : (t138 != 0) = false := bne_eq_false_iff_eq.mpr c7
            clear c7
            by_cases c8 : t136 > 65536
            · rw [if_pos c8] at H
              have c8b0 : decide (65536 < t136) = true := decide_eq_true c8
              clear c8
              simp only [Option.some.injEq, Prod.mk.injEq] at H
              obtain ⟨rfl, rfl, rfl, rfl⟩ := H
              have p134 : 0 ≤ (0 : Int) := (by omega)
              have q134 : 0 < (l0.length : Int) := of_decide_eq_true (by first | (with_reducible assumption) | assumption)
              obtain ⟨ad134, e134, hx134_0⟩ := Kd.at_int HR0.out 0 p134 q134
              cases e134
              have qi134 : (0 < l0.length) = True := eq_true (by omega)
              (try rw [show ((0 : Int)).toNat = 0 from rfl] at hx134_0)
              (try rw [Addr.add_zero'] at hx134_0)
              replace p134 := eq_true p134
              replace q134 := eq_true q134
              obtain ⟨i09, hi09, _, hsz9, _⟩ := info_parts info5
              obtain ⟨A9, hcut9, hA9, hC9⟩ := print_drop_of (P := Tryd.prog) (Value.int .u8) 0 22 5 .i64 Tryd.underlying22 hi09 hsz9 (some ad134) c0 l0 1 (by omega) (of_decide_eq_true (by first | (with_reducible assumption) | assumption)) HC0.out
              have HR135 := Aside0.mk (Kd.C_of_reads (h1 := fun _ => rfl) (hA9 _ (Kd.reads_of_C HR0.out)))
              have HC135 := Aside0.mk hC9
              clear hA9 hC9 hi09 hsz9
              go_enter Tryd.func37, Tryd.ntmps37
              go_wp2_with (first | ((with_reducible refine gate_callee (f := 71) rfl ?_); refine goesL_ (some 21) rfl rfl Tryd.func71 (by kernel_rfl) rfl #[.slice A9 (l0.drop 1).length (c0 - 1)] rfl (by (try simp only [List.map_toArray, List.map_cons, List.map_nil]); first | done | (rw [show (l0.drop 1).length = (l0.length - 1) from List.length_drop] <;> rfl) | rfl | (simp only [List.length_drop, List.length_take]; rfl)) ?_; (with_reducible refine (larderref01_Uint.calls k _ _ (l0.drop 1) t136 t137 t138 _ ?side1 ?side2 A6.out).mono ?_); (case side1 => repeat (first | exact HR135.out | (with_reducible refine Kd.C_alloc ?_ _) | (with_reducible refine Kd.C_drewN ?_ _) | (with_reducible refine Kd.C_drew ?_))); (case side2 => exact HC135.out); rintro e w' ⟨rfl, ⟨nd, rfl⟩⟩; refine ⟨_, rfl, ?_⟩))
              refine bodyPost_ret (results_list (rs := [.tmp 2, .tmp 3, .tmp 4, .tmp 5]) rfl (by simp) (.tmp (.tmp (.tmp (.tmp .nil))))) rfl ?_
              exact ⟨_, by first | rfl | (simp [errW_none, errW_some] <;> rfl) | (simp [*, errW_none, errW_some] <;> rfl), by first | exact Kd.R_nil _ _ _ _ _ | exact Kd.N_nil _ _ _ _ _ | exact Kd.V_nil _ _ _ _ _ | exact Kd.Q_nil _ _ _ _ _ | exact Kd.S_nil _ _ _ _ _, by repeat (first | (with_reducible first | exact HB.out | apply below_alloc | apply pw_below_drewN | apply below_drew1) | exact HB.out)⟩
            · rw [if_neg c8] at H
              have c8b0 : decide (65536 < t136) = false := decide_eq_false c8
              clear c8
              by_cases c10 : (wrap64 ((wrap64 ((wrap64 (t137 + 1)) + (wrap64 (t136)))) + 4)) > (l0.length : Int)
              · rw [if_pos c10] at H
                have c10b0 : decide ((l0.length : Int) < (wrap64 ((wrap64 ((wrap64 (t137 + 1)) + (wrap64 (t136)))) + 4))) = true := decide_eq_true c10
                clear c10
                simp only [Option.some.injEq, Prod.mk.injEq] at H
                obtain ⟨rfl, rfl, rfl, rfl⟩ := H
                have p134 : 0 ≤ (0 : Int) := (by omega)
                have q134 : 0 < (l0.length : Int) := of_decide_eq_true (by first | (with_reducible assumption) | assumption)
                obtain ⟨ad134, e134, hx134_0⟩ := Kd.at_int HR0.out 0 p134 q134
                cases e134
                have qi134 : (0 < l0.length) = True := eq_true (by omega)
                (try rw [show ((0 : Int)).toNat = 0 from rfl] at hx134_0)
                (try rw [Addr.add_zero'] at hx134_0)
                replace p134 := eq_true p134
                replace q134 := eq_true q134
                obtain ⟨i011, hi011, _, hsz11, _⟩ := info_parts info5
                obtain ⟨A11, hcut11, hA11, hC11⟩ := print_drop_of (P := Tryd.prog) (Value.int .u8) 0 22 5 .i64 Tryd.underlying22 hi011 hsz11 (some ad134) c0 l0 1 (by omega) (of_decide_eq_true (by first | (with_reducible assumption) | assumption)) HC0.out
                have HR135 := Aside0.mk (Kd.C_of_reads (h1 := fun _ => rfl) (hA11 _ (Kd.reads_of_C HR0.out)))
                have HC135 := Aside0.mk hC11
                clear hA11 hC11 hi011 hsz11
                go_enter Tryd.func37, Tryd.ntmps37
                go_wp2_with (first | ((with_reducible refine gate_callee (f := 71) rfl ?_); refine goesL_ (some 21) rfl rfl Tryd.func71 (by kernel_rfl) rfl #[.slice A11 (l0.drop 1).length (c0 - 1)] rfl (by (try simp only [List.map_toArray, List.map_cons, List.map_nil]); first | done | (rw [show (l0.drop 1).length = (l0.length - 1) from List.length_drop] <;> rfl) | rfl | (simp only [List.length_drop, List.length_take]; rfl)) ?_; (with_reducible refine (larderref01_Uint.calls k _ _ (l0.drop 1) t136 t137 t138 _ ?side1 ?side2 A6.out).mono ?_); (case side1 => repeat (first | exact HR135.out | (with_reducible refine Kd.C_alloc ?_ _) | (with_reducible refine Kd.C_drewN ?_ _) | (with_reducible refine Kd.C_drew ?_))); (case side2 => exact HC135.out); rintro e w' ⟨rfl, ⟨nd, rfl⟩⟩; refine ⟨_, rfl, ?_⟩))
                refine bodyPost_ret (results_list (rs := [.tmp 2, .tmp 3, .tmp 4, .tmp 5]) rfl (by simp) (.tmp (.tmp (.tmp (.tmp .nil))))) rfl ?_
                exact ⟨_, by first | rfl | (simp [errW_none, errW_some] <;> rfl) | (simp [*, errW_none, errW_some] <;> rfl), by first | exact Kd.R_nil _ _ _ _ _ | exact Kd.N_nil _ _ _ _ _ | exact Kd.V_nil _ _ _ _ _ | exact Kd.Q_nil _ _ _ _ _ | exact Kd.S_nil _ _ _ _ _, by repeat (first | (with_reducible first | exact HB.out | apply below_alloc | apply pw_below_drewN | apply below_drew1) | exact HB.out)⟩
              · rw [if_neg c10] at H
                have c10b0 : decide ((l0.length : Int) < (wrap64 ((wrap64 ((wrap64 (t137 + 1)) + (wrap64 (t136)))) + 4))) = false := decide_eq_false c10
                clear c10
                obtain ⟨ji12, hji12⟩ : ∃ j_ : Int, (wrap64 ((wrap64 (t137 + 1)) + (wrap64 (t136)))) = j_ := ⟨_, rfl⟩
                replace H : (if 0 ≤ (ji12) then (if (ji12) ≤ (l0.length : Int) then ((larderref01_Crc.f k (l0.take ((ji12) : Int).toNat)).bind fun t140 => ((larderref01_four.f t140).bind fun t141 => (if (ji12) ≤ (wrap64 ((ji12) + 4)) then (if (wrap64 ((ji12) + 4)) ≤ (l0.length : Int) then (if (strOfNums t141).toList = (strOfNums ((l0.take ((wrap64 ((ji12) + 4)) : Int).toNat).drop ((ji12) : Int).toNat)).toList then (if 0 ≤ (wrap64 (t137 + 1)) then (if (wrap64 (t137 + 1)) ≤ (ji12) then ((larderref01_joined.f ([] : List Int) ((l0.take ((ji12) : Int).toNat).drop ((wrap64 (t137 + 1)) : Int).toNat)).bind fun t146 => (some (t146, wrap64 ((ji12) + 4), 0, 0))) else (none)) else (none)) else (some (([] : List Int), 0, 13, ji12))) else (none)) else (none)))) else (none)) else (none)) = some (r1, r2, r3, r4) := by first | (rw [hji12] at H; exact H) | (simp only [hji12] at H ⊢; exact H)
                (try rw [hji12] at c10b0)
                (try rw [hji12] at A6)
                have hji12w : (IntKind.i64.wrap ((wrap64 (t137 + 1)) + (wrap64 (t136)))) = ji12 := (i64_w _).trans hji12
                by_cases c13 : 0 ≤ (ji12)
                · rw [if_pos c13] at H
                  have c13b0 := eq_true c13
                  have c13b1 : decide (0 ≤ (ji12)) = true := decide_eq_true c13
                  clear c13
                  by_cases c14 : (ji12) ≤ (l0.length : Int)
                  · rw [if_pos c14] at H
                    have c14b0 := eq_true c14
                    have c14b1 : decide ((ji12) ≤ (l0.length : Int)) = true := decide_eq_true c14
                    clear c14
                    replace H := Option.bind_eq_some_iff.mp H
                    obtain ⟨t140, A150, H⟩ := H
                    replace H : ((larderref01_four.f t140).bind fun t141 => (if (ji12) ≤ (wrap64 ((ji12) + 4)) then (if (wrap64 ((ji12) + 4)) ≤ (l0.length : Int) then (if (strOfNums t141).toList = (strOfNums ((l0.take ((wrap64 ((ji12) + 4)) : Int).toNat).drop ((ji12) : Int).toNat)).toList then (if 0 ≤ (wrap64 (t137 + 1)) then (if (wrap64 (t137 + 1)) ≤ (ji12) then ((larderref01_joined.f ([] : List Int) ((l0.take ((ji12) : Int).toNat).drop ((wrap64 (t137 + 1)) : Int).toNat)).bind fun t146 => (some (t146, wrap64 ((ji12) + 4), 0, 0))) else (none)) else (none)) else (some (([] : List Int), 0, 13, ji12))) else (none)) else (none))) = some (r1, r2, r3, r4) := H
                    have A15 := Aside0.mk A150
                    clear A150
                    replace H := Option.bind_eq_some_iff.mp H
                    obtain ⟨t141, A160, H⟩ := H
                    replace H : (if (ji12) ≤ (wrap64 ((ji12) + 4)) then (if (wrap64 ((ji12) + 4)) ≤ (l0.length : Int) then (if (strOfNums t141).toList = (strOfNums ((l0.take ((wrap64 ((ji12) + 4)) : Int).toNat).drop ((ji12) : Int).toNat)).toList then (if 0 ≤ (wrap64 (t137 + 1)) then (if (wrap64 (t137 + 1)) ≤ (ji12) then ((larderref01_joined.f ([] : List Int) ((l0.take ((ji12) : Int).toNat).drop ((wrap64 (t137 + 1)) : Int).toNat)).bind fun t146 => (some (t146, wrap64 ((ji12) + 4), 0, 0))) else (none)) else (none)) else (some (([] : List Int), 0, 13, ji12))) else (none)) else (none)) = some (r1, r2, r3, r4) := H
                    have A16 := Aside0.mk A160
                    clear A160
                    have c17b0 := eq_true (of_decide_eq_true (by first | (with_reducible assumption) | assumption) : 0 ≤ (ji12))
                    by_cases c18 : (ji12) ≤ (wrap64 ((ji12) + 4))
                    · rw [if_pos c18] at H
                      have c18b0 := eq_true c18
                      have c18b1 : decide ((ji12) ≤ (wrap64 ((ji12) + 4))) = true := decide_eq_true c18
                      by_cases c19 : (wrap64 ((ji12) + 4)) ≤ (l0.length : Int)
                      · rw [if_pos c19] at H
                        have c19b0 := eq_true c19
                        have c19b1 : decide ((wrap64 ((ji12) + 4)) ≤ (l0.length : Int)) = true := decide_eq_true c19
                        by_cases c20 : (strOfNums t141).toList = (strOfNums ((l0.take ((wrap64 ((ji12) + 4)) : Int).toNat).drop ((ji12) : Int).toNat)).toList
                        · rw [if_pos c20] at H
                          have c20b0 : ((strOfNums t141).toList == (strOfNums ((l0.take ((wrap64 ((ji12) + 4)) : Int).toNat).drop ((ji12) : Int).toNat)).toList) = true := beq_iff_eq.mpr c20
                          have c20b1 : ((strOfNums t141).toList != (strOfNums ((l0.take ((wrap64 ((ji12) + 4)) : Int).toNat).drop ((ji12) : Int).toNat)).toList) = false := bne_eq_false_iff_eq.mpr c20
                          clear c20
                          obtain ⟨ji21, hji21⟩ : ∃ j_ : Int, (wrap64 (t137 + 1)) = j_ := ⟨_, rfl⟩
                          replace H : (if 0 ≤ (ji21) then (if (ji21) ≤ (ji12) then ((larderref01_joined.f ([] : List Int) ((l0.take ((ji12) : Int).toNat).drop ((ji21) : Int).toNat)).bind fun t146 => (some (t146, wrap64 ((ji12) + 4), 0, 0))) else (none)) else (none)) = some (r1, r2, r3, r4) := by first | (rw [hji21] at H; exact H) | (simp only [hji21] at H ⊢; exact H)
                          (try rw [hji21] at c10b0)
                          (try rw [hji21] at A6)
                          (try rw [hji21] at A15)
                          (try rw [hji21] at A16)
                          have hji21w : (IntKind.i64.wrap (t137 + 1)) = ji21 := (i64_w _).trans hji21
                          (try rw [hji21] at hji12)
                          (try rw [hji21] at hji12w)
                          by_cases c22 : 0 ≤ (ji21)
                          · rw [if_pos c22] at H
                            have c22b0 := eq_true c22
                            have c22b1 : decide (0 ≤ (ji21)) = true := decide_eq_true c22
                            clear c22
                            by_cases c23 : (ji21) ≤ (ji12)
                            · rw [if_pos c23] at H
                              have c23b0 := eq_true c23
                              have c23b1 : decide ((ji21) ≤ (ji12)) = true := decide_eq_true c23
                              clear c23
                              have c24b0 := eq_true (of_decide_eq_true (by first | (with_reducible assumption) | assumption) : (ji12) ≤ (l0.length : Int))
                              replace H := Option.bind_eq_some_iff.mp H
                              obtain ⟨t146, A250, H⟩ := H
                              replace H : (some (t146, wrap64 ((ji12) + 4), 0, 0)) = some (r1, r2, r3, r4) := H
                              have A25 := Aside0.mk A250
                              clear A250
                              simp only [Option.some.injEq, Prod.mk.injEq] at H
                              obtain ⟨rfl, rfl, rfl, rfl⟩ := H
                              have p134 : 0 ≤ (0 : Int) := (by omega)
                              have q134 : 0 < (l0.length : Int) := of_decide_eq_true (by first | (with_reducible assumption) | assumption)
                              obtain ⟨ad134, e134, hx134_0⟩ := Kd.at_int HR0.out 0 p134 q134
                              cases e134
                              have qi134 : (0 < l0.length) = True := eq_true (by omega)
                              (try rw [show ((0 : Int)).toNat = 0 from rfl] at hx134_0)
                              (try rw [Addr.add_zero'] at hx134_0)
                              replace p134 := eq_true p134
                              replace q134 := eq_true q134
                              obtain ⟨i026, hi026, _, hsz26, _⟩ := info_parts info5
                              obtain ⟨A26, hcut26, hA26, hC26⟩ := print_drop_of (P := Tryd.prog) (Value.int .u8) 0 22 5 .i64 Tryd.underlying22 hi026 hsz26 (some ad134) c0 l0 1 (by omega) (of_decide_eq_true (by first | (with_reducible assumption) | assumption)) HC0.out
                              have HR135 := Aside0.mk (Kd.C_of_reads (h1 := fun _ => rfl) (hA26 _ (Kd.reads_of_C HR0.out)))
                              have HC135 := Aside0.mk hC26
                              clear hA26 hC26 hi026 hsz26
                              go_enter Tryd.func37, Tryd.ntmps37
                              try go_wp2_with (first | ((with_reducible refine gate_callee (f := 71) rfl ?_); refine goesL_ (some 21) rfl rfl Tryd.func71 (by kernel_rfl) rfl #[.slice A26 (l0.drop 1).length (c0 - 1)] rfl (by (try simp only [List.map_toArray, List.map_cons, List.map_nil]); first | done | (rw [show (l0.drop 1).length = (l0.length - 1) from List.length_drop] <;> rfl) | rfl | (simp only [List.length_drop, List.length_take]; rfl)) ?_; (with_reducible refine (larderref01_Uint.calls k _ _ (l0.drop 1) t136 t137 t138 _ ?side1 ?side2 A6.out).mono ?_); (case side1 => repeat (first | exact HR135.out | (with_reducible refine Kd.C_alloc ?_ _) | (with_reducible refine Kd.C_drewN ?_ _) | (with_reducible refine Kd.C_drew ?_))); (case side2 => exact HC135.out); rintro e w' ⟨rfl, ⟨nd, rfl⟩⟩; refine ⟨_, rfl, ?_⟩))
                              (rw [drewN_self w]; generalize hq_ : World.drewN w _ = w27; have n0_ : Aside0 (Below w.heap.size w w27) := ⟨by rw [← hq_]; repeat (first | exact HB.out | apply pw_below_drewN)⟩; clear HB hq_; have HB := n0_; clear n0_)
                              have n0_ := Aside0.mk (below_drew1 HB.out)
                              clear HB
                              have HB := n0_
                              clear n0_
                              obtain ⟨i029, hi029, _, hsz29, _⟩ := info_parts info5
                              obtain ⟨hcut29, hA29, hC29⟩ := print_take_of (P := Tryd.prog) (Value.int .u8) 0 22 5 .i64 Tryd.underlying22 hi029 hsz29 (some ad134) c0 l0 (ji12) (of_decide_eq_true (by first | (with_reducible assumption) | assumption)) (of_decide_eq_true (by first | (with_reducible assumption) | assumption)) HC0.out
                              have HR139 := Aside0.mk (Kd.C_of_reads (h1 := fun _ => rfl) (hA29 _ (Kd.reads_of_C HR0.out)))
                              have HC139 := Aside0.mk hC29
                              clear hA29 hC29 hi029 hsz29
                              obtain ⟨i030, hi030, _, hsz30, _⟩ := info_parts info5
                              obtain ⟨A30, hcut30, hA30, hC30⟩ := print_mid_of (P := Tryd.prog) (Value.int .u8) 0 22 5 .i64 .i64 Tryd.underlying22 hi030 hsz30 (some ad134) c0 l0 (ji12) (wrap64 ((ji12) + 4)) (of_decide_eq_true (by first | (with_reducible assumption) | assumption)) (by first | omega | exact of_decide_eq_true (by first | (with_reducible assumption) | assumption)) (of_decide_eq_true (by first | (with_reducible assumption) | assumption)) HC0.out
                              have HR144 := Aside0.mk (Kd.C_of_reads (h1 := fun _ => rfl) (hA30 _ (Kd.reads_of_C HR0.out)))
                              have HC144 := Aside0.mk hC30
                              clear hA30 hC30 hi030 hsz30
                              refine start_ (n := 13) (S := fun w' => Kd.C (Kd.int .u8) w' A30 ((l0.take ((wrap64 ((ji12) + 4)) : Int).toNat).drop ((ji12) : Int).toNat).length ((l0.take ((wrap64 ((ji12) + 4)) : Int).toNat).drop ((ji12) : Int).toNat)) (ds := []) #[false, false, false, false, false, false, false, false, false, false, false, false, false] (by kernel_rfl) rfl rfl ((by repeat (first | exact (Kd.C_below HR144.out HB.out) | (with_reducible refine Kd.C_drewN ?_ _) | (with_reducible refine Kd.C_drew ?_)))) (fun hHeld => ?_); refine with_tabW larderref01_Unseal.tab14 larderref01_Unseal.bits14 (fun HT_ HW_ => ?_)
                              generalize w27.drew = w28 at HB HR139 HR144 hHeld ⊢
                              refine pure_ (i := 0) (N := some 45) (v := ?_) (a' := ?_) #[true, false, false, false, false, false, false, false, false, false, false, false, false] rfl rfl (any_of HT_.out (by kernel_rfl)) (fun _ _ _ h => h) (Or.inl ⟨by rfl, ?_⟩) ?_ ?_
                              rotate_left
                              · intro w'
                                go_simp
                                with_reducible rfl
                              rotate_left
                              · simp only [Act.put, List.setIfInBounds_toArray, List.set_cons_zero, List.set_cons_succ, i64_w, i32_w]
                                rfl
                              refine pure_ (i := 1) (N := some 46) (v := ?_) (a' := ?_) #[true, true, false, false, false, false, false, false, false, false, false, false, false] rfl rfl (any_of HT_.out (by kernel_rfl)) (fun _ _ _ h => h) (Or.inl ⟨by rfl, ?_⟩) ?_ ?_
                              rotate_left
                              · intro w'
                                go_simp
                                with_reducible rfl
                              rotate_left
                              · simp only [Act.put, List.setIfInBounds_toArray, List.set_cons_zero, List.set_cons_succ, i64_w, i32_w]
                                rfl
                              refine pure_ (i := 2) (N := some 47) (v := ?_) (a' := ?_) #[true, true, true, false, false, false, false, false, false, false, false, false, false] rfl rfl (any_of HT_.out (by kernel_rfl)) (fun _ _ _ h => h) (Or.inl ⟨by rfl, ?_⟩) ?_ ?_
                              rotate_left
                              · intro w'
                                go_simp
                                with_reducible rfl
                              rotate_left
                              · simp only [Act.put, List.setIfInBounds_toArray, List.set_cons_zero, List.set_cons_succ, i64_w, i32_w]
                                rfl
                              refine pure_ (i := 6) (N := some 51) (v := ?_) (a' := ?_) #[true, true, true, false, false, false, true, false, false, false, false, false, false] rfl rfl (any_of HT_.out (by kernel_rfl)) (fun _ _ _ h => h) (Or.inl ⟨by rfl, ?_⟩) ?_ ?_
                              rotate_left
                              · intro w'
                                go_simp
                                with_reducible rfl
                              rotate_left
                              · simp only [Act.put, List.setIfInBounds_toArray, List.set_cons_zero, List.set_cons_succ, i64_w, i32_w]
                                rfl
                              refine pure_ (i := 7) (N := some 52) (v := ?_) (a' := ?_) #[true, true, true, false, false, false, true, true, false, false, false, false, false] rfl rfl (any_of HT_.out (by kernel_rfl)) (fun _ _ _ h => h) (Or.inl ⟨by rfl, ?_⟩) ?_ ?_
                              rotate_left
                              · intro w'
                                go_simp
                                with_reducible rfl
                              rotate_left
                              · simp only [Act.put, List.setIfInBounds_toArray, List.set_cons_zero, List.set_cons_succ, i64_w, i32_w]
                                rfl
                              refine pure_ (i := 8) (N := some 53) (v := ?_) (a' := ?_) #[true, true, true, false, false, false, true, true, true, false, false, false, false] rfl rfl (any_of HT_.out (by kernel_rfl)) (fun _ _ _ h => h) (Or.inl ⟨by rfl, ?_⟩) ?_ ?_
                              rotate_left
                              · intro w'
                                go_simp
                                with_reducible rfl
                              rotate_left
                              · simp only [Act.put, List.setIfInBounds_toArray, List.set_cons_zero, List.set_cons_succ, i64_w, i32_w]
                                rfl
                              refine pure_ (i := 9) (N := some 54) (v := ?_) (a' := ?_) #[true, true, true, false, false, false, true, true, true, true, false, false, false] rfl rfl (any_of HT_.out (by kernel_rfl)) (fun _ _ _ h => h) (Or.inl ⟨by rfl, ?_⟩) ?_ ?_
                              rotate_left
                              · intro w'
                                go_simp
                                with_reducible rfl
                              rotate_left
                              · simp only [Act.put, List.setIfInBounds_toArray, List.set_cons_zero, List.set_cons_succ, i64_w, i32_w]
                                rfl
                              refine pure_ (i := 10) (N := some 55) (v := ?_) (a' := ?_) #[true, true, true, false, false, false, true, true, true, true, true, false, false] rfl rfl (any_of HT_.out (by kernel_rfl)) (fun _ _ _ h => h) (Or.inl ⟨by rfl, ?_⟩) ?_ ?_
                              rotate_left
                              · intro w'
                                go_simp
                                with_reducible rfl
                              rotate_left
                              · simp only [Act.put, List.setIfInBounds_toArray, List.set_cons_zero, List.set_cons_succ, i64_w, i32_w]
                                rfl
                              refine take_ (i := 11) (N := some 56) (v := ?_) (a' := ?_) #[true, true, true, false, false, false, true, true, true, true, true, true, false] rfl rfl (take_ofW HT_.out HW_.out (by kernel_rfl)) (fun _ _ _ h => h) (Or.inl ⟨by rfl, ?_⟩) hHeld ?_ ?_
                              rotate_left
                              · intro w' s0
                                have hcv_ := Kd.C_string (P := Tryd.prog) (A := A30) (c := (c0 - (ji12).toNat)) Tryd.underlying22 Tryd.underlying5 Tryd.underlying9 s0
                                (try rw [show ((l0.take ((wrap64 ((ji12) + 4)) : Int).toNat).drop ((ji12) : Int).toNat).length = ((wrap64 ((ji12) + 4)).toNat - (ji12).toNat) from (by rw [List.length_drop, List.length_take]; have h_ : ((wrap64 ((ji12) + 4)) : Int) ≤ (l0.length : Int) := of_decide_eq_true (by first | (with_reducible assumption) | assumption); omega)] at hcv_)
                                go_simp
                                with_reducible rfl
                              rotate_left
                              · simp only [Act.put, List.setIfInBounds_toArray, List.set_cons_zero, List.set_cons_succ, i64_w, i32_w]
                                rfl
                              refine one_ (i := 3) (N := some 48) #[true, true, true, true, false, false, true, true, true, true, true, true, false] rfl rfl (one_of HT_.out (by kernel_rfl)) (by decide) (fun K hK => ?_)
                              refine goes_ Tryd.func25 (by kernel_rfl) rfl #[.slice (some ad134) (l0.take ((ji12) : Int).toNat).length c0] (by rfl) rfl rfl (by (try simp only [List.map_toArray, List.map_cons, List.map_nil]); first | done | (rw [show (l0.take ((ji12) : Int).toNat).length = (ji12).toNat from (by rw [List.length_take]; have h_ : ((ji12) : Int) ≤ (l0.length : Int) := of_decide_eq_true (by first | (with_reducible assumption) | assumption); omega)] <;> rfl) | (simp only [hji12]; rfl) | rfl | (simp only [List.length_drop, List.length_take]; rfl)) ?_
                              with_reducible refine (larderref01_Crc.calls k _ _ (l0.take ((ji12) : Int).toNat) t140 _ ?side1 ?side2 A15.out).mono ?_
                              (case side1 => repeat (first | exact (Kd.C_below HR139.out HB.out) | (with_reducible refine Kd.C_alloc ?_ _) | (with_reducible refine Kd.C_drewN ?_ _) | (with_reducible refine Kd.C_drew ?_)))
                              (case side2 => exact HC139.out)
                              rintro e w' ⟨rfl, ⟨nd, rfl⟩⟩
                              refine ⟨_, rfl, ?_⟩
                              refine hK.out _ _ ((by repeat (first | exact (Kd.C_below HR144.out HB.out) | (with_reducible refine Kd.C_drewN ?_ _) | (with_reducible refine Kd.C_drew ?_)))) (fun hHeld => ?_)
                              clear hK K
                              refine norm_ (a' := ?_) ?_ ?_
                              rotate_left
                              · show Act.put _ (some 48) _ = _
                                simp only [Act.put, List.setIfInBounds_toArray, List.set_cons_zero, List.set_cons_succ, i64_w, i32_w]
                                rfl
                              refine one_ (i := 4) (N := some 49) #[true, true, true, true, true, false, true, true, true, true, true, true, false] rfl rfl (one_of HT_.out (by kernel_rfl)) (by decide) (fun K hK => ?_)
                              refine goes_ Tryd.func67 (by kernel_rfl) rfl #[.int .u32 t140] (by rfl) rfl rfl (by (try simp only [List.map_toArray, List.map_cons, List.map_nil]); first | done | rfl | (simp only [List.length_drop, List.length_take]; rfl)) ?_
                              with_reducible refine (larderref01_four.calls t140 t141 _ A16.out).mono ?_
                              rintro e w31 ⟨v142, rfl, ho0, hb⟩
                              refine ⟨_, rfl, ?_⟩
                              have n0_ := Aside0.mk (Kd.R_lower ho0 (below_size (by repeat (first | (with_reducible first | exact HB.out | apply below_alloc | apply pw_below_drewN | apply below_drew1) | exact HB.out))))
                              have n1_ := Aside0.mk (below_step (by repeat (first | (with_reducible first | exact HB.out | apply below_alloc | apply pw_below_drewN | apply below_drew1) | exact HB.out)) hb)
                              clear HB
                              have HO143 := n0_
                              have HB := n1_
                              clear n0_ n1_
                              (try clear hb)
                              (try clear hb2)
                              (try clear hk)
                              (try clear hi)
                              (try clear ho0)
                              refine hK.out _ _ ((by repeat (first | exact (Kd.C_below HR144.out HB.out) | (with_reducible refine Kd.C_drewN ?_ _) | (with_reducible refine Kd.C_drew ?_)))) (fun hHeld => ?_)
                              clear hK K
                              refine norm_ (a' := ?_) ?_ ?_
                              rotate_left
                              · show Act.put _ (some 49) _ = _
                                simp only [Act.put, List.setIfInBounds_toArray, List.set_cons_zero, List.set_cons_succ, i64_w, i32_w]
                                rfl
                              refine one_ (i := 5) (N := some 50) #[true, true, true, true, true, true, true, true, true, true, true, true, false] rfl rfl (one_of HT_.out (by kernel_rfl)) (by decide) (fun K hK => ?_)
                              have hcv32 := own_string (P := Tryd.prog) Tryd.underlying22 Tryd.underlying5 Tryd.underlying9 (Kd.own_of_R HO143.out)
                              refine value_ (w1 := ?_) (v := ?_) (by rfl) rfl ?_ ?_
                              rotate_left 2
                              · go_simp
                                constructor
                                · rfl
                                · rfl
                              clear hcv32
                              refine hK.out _ _ ((by repeat (first | exact (Kd.C_below HR144.out HB.out) | (with_reducible refine Kd.C_drewN ?_ _) | (with_reducible refine Kd.C_drew ?_)))) (fun hHeld => ?_)
                              clear hK K
                              refine norm_ (a' := ?_) ?_ ?_
                              rotate_left
                              · show Act.put _ (some 50) _ = _
                                simp only [Act.put, List.setIfInBounds_toArray, List.set_cons_zero, List.set_cons_succ, i64_w, i32_w]
                                rfl
                              refine pure_ (i := 12) (N := some 57) (v := ?_) (a' := ?_) #[true, true, true, true, true, true, true, true, true, true, true, true, true] rfl rfl (any_of HT_.out (by kernel_rfl)) (fun _ _ _ h => h) (Or.inl ⟨by rfl, ?_⟩) ?_ ?_
                              rotate_left
                              · intro w'
                                go_simp
                                with_reducible rfl
                              rotate_left
                              · simp only [Act.put, List.setIfInBounds_toArray, List.set_cons_zero, List.set_cons_succ, i64_w, i32_w]
                                rfl
                              refine done_ (done_of HT_.out (by kernel_rfl)) ?_
                              obtain ⟨i035, hi035, _, hsz35, _⟩ := info_parts info5
                              obtain ⟨A35, hcut35, hA35, hC35⟩ := print_mid_of (P := Tryd.prog) (Value.int .u8) 0 22 5 .i64 .i64 Tryd.underlying22 hi035 hsz35 (some ad134) c0 l0 (ji21) (ji12) (of_decide_eq_true (by first | (with_reducible assumption) | assumption)) (by first | omega | exact of_decide_eq_true (by first | (with_reducible assumption) | assumption)) (of_decide_eq_true (by first | (with_reducible assumption) | assumption)) HC0.out
                              have HR145 := Aside0.mk (Kd.C_of_reads (h1 := fun _ => rfl) (hA35 _ (Kd.reads_of_C HR0.out)))
                              have HC145 := Aside0.mk hC35
                              clear hA35 hC35 hi035 hsz35
                              try go_wp2_with (first | ((with_reducible refine gate_callee (f := 65) rfl ?_); refine goesL_ (some 63) rfl rfl Tryd.func65 (by kernel_rfl) rfl #[.slice none 0 0, .slice A35 ((l0.take ((ji12) : Int).toNat).drop ((ji21) : Int).toNat).length (c0 - (ji21).toNat)] rfl (by (try simp only [List.map_toArray, List.map_cons, List.map_nil]); first | done | (rw [show ((l0.take ((ji12) : Int).toNat).drop ((ji21) : Int).toNat).length = ((ji12).toNat - (ji21).toNat) from (by rw [List.length_drop, List.length_take]; have h_ : ((ji12) : Int) ≤ (l0.length : Int) := of_decide_eq_true (by first | (with_reducible assumption) | assumption); omega)] <;> rfl) | (simp only [hji12, hji21]; rfl) | rfl | (simp only [List.length_drop, List.length_take]; rfl)) ?_; (refine (larderref01_joined.calls _ _ ([] : List Int) _ _ ((l0.take ((ji12) : Int).toNat).drop ((ji21) : Int).toNat) t146 _ ?side1 ?side2 ?side3 ?side4 A25.out).mono ?_); (case side1 => exact Kd.C_nil _ _); (case side2 => exact Nat.le_refl _); (case side3 => repeat (first | exact (Kd.C_below HR145.out HB.out) | (with_reducible refine Kd.C_alloc ?_ _) | (with_reducible refine Kd.C_drewN ?_ _) | (with_reducible refine Kd.C_drew ?_))); (case side4 => exact HC145.out); rintro e w36 ⟨v147, rfl, ho0, hb⟩; refine ⟨_, rfl, ?_⟩; have n0_ := Aside0.mk (Kd.R_elder' (by (with_reducible repeat (first | apply Kd.R_alloc | apply Kd.R_drewN | apply Kd.R_drew)); exact HO143.out) (Kd.R_base ho0) hb); have n1_ := Aside0.mk (Kd.R_lower (Kd.R_new' ho0 (Kd.R_lt (by (with_reducible repeat (first | apply Kd.R_alloc | apply Kd.R_drewN | apply Kd.R_drew)); exact HO143.out))) (below_size (by repeat (first | (with_reducible first | exact HB.out | apply below_alloc | apply pw_below_drewN | apply below_drew1) | exact HB.out)))); have n2_ := Aside0.mk (below_step (by repeat (first | (with_reducible first | exact HB.out | apply below_alloc | apply pw_below_drewN | apply below_drew1) | exact HB.out)) hb); clear HO143; clear HB; have HO143 := n0_; have HO148 := n1_; have HB := n2_; clear n0_ n1_ n2_; (try clear hb); (try clear hb2); (try clear hk); (try clear hi); (try clear ho0)))
                              refine bodyPost_ret (results_list (rs := [.tmp 2, .tmp 3, .tmp 4, .tmp 5]) rfl (by simp) (.tmp (.tmp (.tmp (.tmp .nil))))) rfl ?_
                              exact ⟨_, by first | rfl | (simp [errW_none, errW_some] <;> rfl) | (simp only [← hji12, ← hji21]; first | rfl | (simp [errW_none, errW_some] <;> rfl)) | (simp [*, errW_none, errW_some] <;> rfl), by (with_reducible repeat (first | apply Kd.R_alloc | apply Kd.R_drewN | apply Kd.R_drew)); exact Kd.R_mono HO148.out (fun _ hk => trivial), by repeat (first | (with_reducible first | exact HB.out | apply below_alloc | apply pw_below_drewN | apply below_drew1) | exact HB.out)⟩
                            · rw [if_neg c23] at H
                              exact absurd H (by simp)
                          · rw [if_neg c22] at H
                            exact absurd H (by simp)
                        · rw [if_neg c20] at H
                          have c20b0 : ((strOfNums t141).toList == (strOfNums ((l0.take ((wrap64 ((ji12) + 4)) : Int).toNat).drop ((ji12) : Int).toNat)).toList) = false := beq_eq_false_iff_ne.mpr c20
                          have c20b1 : ((strOfNums t141).toList != (strOfNums ((l0.take ((wrap64 ((ji12) + 4)) : Int).toNat).drop ((ji12) : Int).toNat)).toList) = true := bne_iff_ne.mpr c20
                          simp only [Option.some.injEq, Prod.mk.injEq] at H
                          obtain ⟨rfl, rfl, rfl, rfl⟩ := H
                          have p134 : 0 ≤ (0 : Int) := (by omega)
                          have q134 : 0 < (l0.length : Int) := of_decide_eq_true (by first | (with_reducible assumption) | assumption)
                          obtain ⟨ad134, e134, hx134_0⟩ := Kd.at_int HR0.out 0 p134 q134
                          cases e134
                          have qi134 : (0 < l0.length) = True := eq_true (by omega)
                          (try rw [show ((0 : Int)).toNat = 0 from rfl] at hx134_0)
                          (try rw [Addr.add_zero'] at hx134_0)
                          replace p134 := eq_true p134
                          replace q134 := eq_true q134
                          obtain ⟨i037, hi037, _, hsz37, _⟩ := info_parts info5
                          obtain ⟨A37, hcut37, hA37, hC37⟩ := print_drop_of (P := Tryd.prog) (Value.int .u8) 0 22 5 .i64 Tryd.underlying22 hi037 hsz37 (some ad134) c0 l0 1 (by omega) (of_decide_eq_true (by first | (with_reducible assumption) | assumption)) HC0.out
                          have HR135 := Aside0.mk (Kd.C_of_reads (h1 := fun _ => rfl) (hA37 _ (Kd.reads_of_C HR0.out)))
                          have HC135 := Aside0.mk hC37
                          clear hA37 hC37 hi037 hsz37
                          go_enter Tryd.func37, Tryd.ntmps37
                          try go_wp2_with (first | ((with_reducible refine gate_callee (f := 71) rfl ?_); refine goesL_ (some 21) rfl rfl Tryd.func71 (by kernel_rfl) rfl #[.slice A37 (l0.drop 1).length (c0 - 1)] rfl (by (try simp only [List.map_toArray, List.map_cons, List.map_nil]); first | done | (rw [show (l0.drop 1).length = (l0.length - 1) from List.length_drop] <;> rfl) | rfl | (simp only [List.length_drop, List.length_take]; rfl)) ?_; (with_reducible refine (larderref01_Uint.calls k _ _ (l0.drop 1) t136 t137 t138 _ ?side1 ?side2 A6.out).mono ?_); (case side1 => repeat (first | exact HR135.out | (with_reducible refine Kd.C_alloc ?_ _) | (with_reducible refine Kd.C_drewN ?_ _) | (with_reducible refine Kd.C_drew ?_))); (case side2 => exact HC135.out); rintro e w' ⟨rfl, ⟨nd, rfl⟩⟩; refine ⟨_, rfl, ?_⟩))
                          (rw [drewN_self w]; generalize hq_ : World.drewN w _ = w38; have n0_ : Aside0 (Below w.heap.size w w38) := ⟨by rw [← hq_]; repeat (first | exact HB.out | apply pw_below_drewN)⟩; clear HB hq_; have HB := n0_; clear n0_)
                          have n0_ := Aside0.mk (below_drew1 HB.out)
                          clear HB
                          have HB := n0_
                          clear n0_
                          obtain ⟨i040, hi040, _, hsz40, _⟩ := info_parts info5
                          obtain ⟨hcut40, hA40, hC40⟩ := print_take_of (P := Tryd.prog) (Value.int .u8) 0 22 5 .i64 Tryd.underlying22 hi040 hsz40 (some ad134) c0 l0 (ji12) (of_decide_eq_true (by first | (with_reducible assumption) | assumption)) (of_decide_eq_true (by first | (with_reducible assumption) | assumption)) HC0.out
                          have HR139 := Aside0.mk (Kd.C_of_reads (h1 := fun _ => rfl) (hA40 _ (Kd.reads_of_C HR0.out)))
                          have HC139 := Aside0.mk hC40
                          clear hA40 hC40 hi040 hsz40
                          obtain ⟨i041, hi041, _, hsz41, _⟩ := info_parts info5
                          obtain ⟨A41, hcut41, hA41, hC41⟩ := print_mid_of (P := Tryd.prog) (Value.int .u8) 0 22 5 .i64 .i64 Tryd.underlying22 hi041 hsz41 (some ad134) c0 l0 (ji12) (wrap64 ((ji12) + 4)) (of_decide_eq_true (by first | (with_reducible assumption) | assumption)) (by first | omega | exact of_decide_eq_true (by first | (with_reducible assumption) | assumption)) (of_decide_eq_true (by first | (with_reducible assumption) | assumption)) HC0.out
                          have HR144 := Aside0.mk (Kd.C_of_reads (h1 := fun _ => rfl) (hA41 _ (Kd.reads_of_C HR0.out)))
                          have HC144 := Aside0.mk hC41
                          clear hA41 hC41 hi041 hsz41
                          refine start_ (n := 13) (S := fun w' => Kd.C (Kd.int .u8) w' A41 ((l0.take ((wrap64 ((ji12) + 4)) : Int).toNat).drop ((ji12) : Int).toNat).length ((l0.take ((wrap64 ((ji12) + 4)) : Int).toNat).drop ((ji12) : Int).toNat)) (ds := []) #[false, false, false, false, false, false, false, false, false, false, false, false, false] (by kernel_rfl) rfl rfl ((by repeat (first | exact (Kd.C_below HR144.out HB.out) | (with_reducible refine Kd.C_drewN ?_ _) | (with_reducible refine Kd.C_drew ?_)))) (fun hHeld => ?_); refine with_tabW larderref01_Unseal.tab14 larderref01_Unseal.bits14 (fun HT_ HW_ => ?_)
                          generalize w38.drew = w39 at HB HR139 HR144 hHeld ⊢
                          refine pure_ (i := 0) (N := some 45) (v := ?_) (a' := ?_) #[true, false, false, false, false, false, false, false, false, false, false, false, false] rfl rfl (any_of HT_.out (by kernel_rfl)) (fun _ _ _ h => h) (Or.inl ⟨by rfl, ?_⟩) ?_ ?_
                          rotate_left
                          · intro w'
                            go_simp
                            with_reducible rfl
                          rotate_left
                          · simp only [Act.put, List.setIfInBounds_toArray, List.set_cons_zero, List.set_cons_succ, i64_w, i32_w]
                            rfl
                          refine pure_ (i := 1) (N := some 46) (v := ?_) (a' := ?_) #[true, true, false, false, false, false, false, false, false, false, false, false, false] rfl rfl (any_of HT_.out (by kernel_rfl)) (fun _ _ _ h => h) (Or.inl ⟨by rfl, ?_⟩) ?_ ?_
                          rotate_left
                          · intro w'
                            go_simp
                            with_reducible rfl
                          rotate_left
                          · simp only [Act.put, List.setIfInBounds_toArray, List.set_cons_zero, List.set_cons_succ, i64_w, i32_w]
                            rfl
                          refine pure_ (i := 2) (N := some 47) (v := ?_) (a' := ?_) #[true, true, true, false, false, false, false, false, false, false, false, false, false] rfl rfl (any_of HT_.out (by kernel_rfl)) (fun _ _ _ h => h) (Or.inl ⟨by rfl, ?_⟩) ?_ ?_
                          rotate_left
                          · intro w'
                            go_simp
                            with_reducible rfl
                          rotate_left
                          · simp only [Act.put, List.setIfInBounds_toArray, List.set_cons_zero, List.set_cons_succ, i64_w, i32_w]
                            rfl
                          refine pure_ (i := 6) (N := some 51) (v := ?_) (a' := ?_) #[true, true, true, false, false, false, true, false, false, false, false, false, false] rfl rfl (any_of HT_.out (by kernel_rfl)) (fun _ _ _ h => h) (Or.inl ⟨by rfl, ?_⟩) ?_ ?_
                          rotate_left
                          · intro w'
                            go_simp
                            with_reducible rfl
                          rotate_left
                          · simp only [Act.put, List.setIfInBounds_toArray, List.set_cons_zero, List.set_cons_succ, i64_w, i32_w]
                            rfl
                          refine pure_ (i := 7) (N := some 52) (v := ?_) (a' := ?_) #[true, true, true, false, false, false, true, true, false, false, false, false, false] rfl rfl (any_of HT_.out (by kernel_rfl)) (fun _ _ _ h => h) (Or.inl ⟨by rfl, ?_⟩) ?_ ?_
                          rotate_left
                          · intro w'
                            go_simp
                            with_reducible rfl
                          rotate_left
                          · simp only [Act.put, List.setIfInBounds_toArray, List.set_cons_zero, List.set_cons_succ, i64_w, i32_w]
                            rfl
                          refine pure_ (i := 8) (N := some 53) (v := ?_) (a' := ?_) #[true, true, true, false, false, false, true, true, true, false, false, false, false] rfl rfl (any_of HT_.out (by kernel_rfl)) (fun _ _ _ h => h) (Or.inl ⟨by rfl, ?_⟩) ?_ ?_
                          rotate_left
                          · intro w'
                            go_simp
                            with_reducible rfl
                          rotate_left
                          · simp only [Act.put, List.setIfInBounds_toArray, List.set_cons_zero, List.set_cons_succ, i64_w, i32_w]
                            rfl
                          refine pure_ (i := 9) (N := some 54) (v := ?_) (a' := ?_) #[true, true, true, false, false, false, true, true, true, true, false, false, false] rfl rfl (any_of HT_.out (by kernel_rfl)) (fun _ _ _ h => h) (Or.inl ⟨by rfl, ?_⟩) ?_ ?_
                          rotate_left
                          · intro w'
                            go_simp
                            with_reducible rfl
                          rotate_left
                          · simp only [Act.put, List.setIfInBounds_toArray, List.set_cons_zero, List.set_cons_succ, i64_w, i32_w]
                            rfl
                          refine pure_ (i := 10) (N := some 55) (v := ?_) (a' := ?_) #[true, true, true, false, false, false, true, true, true, true, true, false, false] rfl rfl (any_of HT_.out (by kernel_rfl)) (fun _ _ _ h => h) (Or.inl ⟨by rfl, ?_⟩) ?_ ?_
                          rotate_left
                          · intro w'
                            go_simp
                            with_reducible rfl
                          rotate_left
                          · simp only [Act.put, List.setIfInBounds_toArray, List.set_cons_zero, List.set_cons_succ, i64_w, i32_w]
                            rfl
                          refine take_ (i := 11) (N := some 56) (v := ?_) (a' := ?_) #[true, true, true, false, false, false, true, true, true, true, true, true, false] rfl rfl (take_ofW HT_.out HW_.out (by kernel_rfl)) (fun _ _ _ h => h) (Or.inl ⟨by rfl, ?_⟩) hHeld ?_ ?_
                          rotate_left
                          · intro w' s0
                            have hcv_ := Kd.C_string (P := Tryd.prog) (A := A41) (c := (c0 - (ji12).toNat)) Tryd.underlying22 Tryd.underlying5 Tryd.underlying9 s0
                            (try rw [show ((l0.take ((wrap64 ((ji12) + 4)) : Int).toNat).drop ((ji12) : Int).toNat).length = ((wrap64 ((ji12) + 4)).toNat - (ji12).toNat) from (by rw [List.length_drop, List.length_take]; have h_ : ((wrap64 ((ji12) + 4)) : Int) ≤ (l0.length : Int) := of_decide_eq_true (by first | (with_reducible assumption) | assumption); omega)] at hcv_)
                            go_simp
                            with_reducible rfl
                          rotate_left
                          · simp only [Act.put, List.setIfInBounds_toArray, List.set_cons_zero, List.set_cons_succ, i64_w, i32_w]
                            rfl
                          refine one_ (i := 3) (N := some 48) #[true, true, true, true, false, false, true, true, true, true, true, true, false] rfl rfl (one_of HT_.out (by kernel_rfl)) (by decide) (fun K hK => ?_)
                          refine goes_ Tryd.func25 (by kernel_rfl) rfl #[.slice (some ad134) (l0.take ((ji12) : Int).toNat).length c0] (by rfl) rfl rfl (by (try simp only [List.map_toArray, List.map_cons, List.map_nil]); first | done | (rw [show (l0.take ((ji12) : Int).toNat).length = (ji12).toNat from (by rw [List.length_take]; have h_ : ((ji12) : Int) ≤ (l0.length : Int) := of_decide_eq_true (by first | (with_reducible assumption) | assumption); omega)] <;> rfl) | (simp only [hji12]; rfl) | rfl | (simp only [List.length_drop, List.length_take]; rfl)) ?_
                          with_reducible refine (larderref01_Crc.calls k _ _ (l0.take ((ji12) : Int).toNat) t140 _ ?side1 ?side2 A15.out).mono ?_
                          (case side1 => repeat (first | exact (Kd.C_below HR139.out HB.out) | (with_reducible refine Kd.C_alloc ?_ _) | (with_reducible refine Kd.C_drewN ?_ _) | (with_reducible refine Kd.C_drew ?_)))
                          (case side2 => exact HC139.out)
                          rintro e w' ⟨rfl, ⟨nd, rfl⟩⟩
                          refine ⟨_, rfl, ?_⟩
                          refine hK.out _ _ ((by repeat (first | exact (Kd.C_below HR144.out HB.out) | (with_reducible refine Kd.C_drewN ?_ _) | (with_reducible refine Kd.C_drew ?_)))) (fun hHeld => ?_)
                          clear hK K
                          refine norm_ (a' := ?_) ?_ ?_
                          rotate_left
                          · show Act.put _ (some 48) _ = _
                            simp only [Act.put, List.setIfInBounds_toArray, List.set_cons_zero, List.set_cons_succ, i64_w, i32_w]
                            rfl
                          refine one_ (i := 4) (N := some 49) #[true, true, true, true, true, false, true, true, true, true, true, true, false] rfl rfl (one_of HT_.out (by kernel_rfl)) (by decide) (fun K hK => ?_)
                          refine goes_ Tryd.func67 (by kernel_rfl) rfl #[.int .u32 t140] (by rfl) rfl rfl (by (try simp only [List.map_toArray, List.map_cons, List.map_nil]); first | done | rfl | (simp only [List.length_drop, List.length_take]; rfl)) ?_
                          with_reducible refine (larderref01_four.calls t140 t141 _ A16.out).mono ?_
                          rintro e w42 ⟨v142, rfl, ho0, hb⟩
                          refine ⟨_, rfl, ?_⟩
                          have n0_ := Aside0.mk (Kd.R_lower ho0 (below_size (by repeat (first | (with_reducible first | exact HB.out | apply below_alloc | apply pw_below_drewN | apply below_drew1) | exact HB.out))))
                          have n1_ := Aside0.mk (below_step (by repeat (first | (with_reducible first | exact HB.out | apply below_alloc | apply pw_below_drewN | apply below_drew1) | exact HB.out)) hb)
                          clear HB
                          have HO143 := n0_
                          have HB := n1_
                          clear n0_ n1_
                          (try clear hb)
                          (try clear hb2)
                          (try clear hk)
                          (try clear hi)
                          (try clear ho0)
                          refine hK.out _ _ ((by repeat (first | exact (Kd.C_below HR144.out HB.out) | (with_reducible refine Kd.C_drewN ?_ _) | (with_reducible refine Kd.C_drew ?_)))) (fun hHeld => ?_)
                          clear hK K
                          refine norm_ (a' := ?_) ?_ ?_
                          rotate_left
                          · show Act.put _ (some 49) _ = _
                            simp only [Act.put, List.setIfInBounds_toArray, List.set_cons_zero, List.set_cons_succ, i64_w, i32_w]
                            rfl
                          refine one_ (i := 5) (N := some 50) #[true, true, true, true, true, true, true, true, true, true, true, true, false] rfl rfl (one_of HT_.out (by kernel_rfl)) (by decide) (fun K hK => ?_)
                          have hcv43 := own_string (P := Tryd.prog) Tryd.underlying22 Tryd.underlying5 Tryd.underlying9 (Kd.own_of_R HO143.out)
                          refine value_ (w1 := ?_) (v := ?_) (by rfl) rfl ?_ ?_
                          rotate_left 2
                          · go_simp
                            constructor
                            · rfl
                            · rfl
                          clear hcv43
                          refine hK.out _ _ ((by repeat (first | exact (Kd.C_below HR144.out HB.out) | (with_reducible refine Kd.C_drewN ?_ _) | (with_reducible refine Kd.C_drew ?_)))) (fun hHeld => ?_)
                          clear hK K
                          refine norm_ (a' := ?_) ?_ ?_
                          rotate_left
                          · show Act.put _ (some 50) _ = _
                            simp only [Act.put, List.setIfInBounds_toArray, List.set_cons_zero, List.set_cons_succ, i64_w, i32_w]
                            rfl
                          refine pure_ (i := 12) (N := some 57) (v := ?_) (a' := ?_) #[true, true, true, true, true, true, true, true, true, true, true, true, true] rfl rfl (any_of HT_.out (by kernel_rfl)) (fun _ _ _ h => h) (Or.inl ⟨by rfl, ?_⟩) ?_ ?_
                          rotate_left
                          · intro w'
                            go_simp
                            with_reducible rfl
                          rotate_left
                          · simp only [Act.put, List.setIfInBounds_toArray, List.set_cons_zero, List.set_cons_succ, i64_w, i32_w]
                            rfl
                          refine done_ (done_of HT_.out (by kernel_rfl)) ?_
                          try go_wp2
                          refine bodyPost_ret (results_list (rs := [.tmp 2, .tmp 3, .tmp 4, .tmp 5]) rfl (by simp) (.tmp (.tmp (.tmp (.tmp .nil))))) rfl ?_
                          exact ⟨_, by first | rfl | (simp [errW_none, errW_some] <;> rfl) | (simp only [← hji12]; first | rfl | (simp [errW_none, errW_some] <;> rfl)) | (simp [*, errW_none, errW_some] <;> rfl), by first | exact Kd.R_nil _ _ _ _ _ | exact Kd.N_nil _ _ _ _ _ | exact Kd.V_nil _ _ _ _ _ | exact Kd.Q_nil _ _ _ _ _ | exact Kd.S_nil _ _ _ _ _, by repeat (first | (with_reducible first | exact HB.out | apply below_alloc | apply pw_below_drewN | apply below_drew1) | exact HB.out)⟩
                      · rw [if_neg c19] at H
                        exact absurd H (by simp)
                    · rw [if_neg c18] at H
                      exact absurd H (by simp)
                  · rw [if_neg c14] at H
                    exact absurd H (by simp)
                · rw [if_neg c13] at H
                  exact absurd H (by simp)
          · rw [if_neg c7] at H
            have c7b0 : (t138 == 0) = false := beq_eq_false_iff_ne.mpr c7
            have c7b1 : (t138 != 0) = true := bne_iff_ne.mpr c7
            simp only [Option.some.injEq, Prod.mk.injEq] at H
            obtain ⟨rfl, rfl, rfl, rfl⟩ := H
            have p134 : 0 ≤ (0 : Int) := (by omega)
            have q134 : 0 < (l0.length : Int) := of_decide_eq_true (by first | (with_reducible assumption) | assumption)
            obtain ⟨ad134, e134, hx134_0⟩ := Kd.at_int HR0.out 0 p134 q134
            cases e134
            have qi134 : (0 < l0.length) = True := eq_true (by omega)
            (try rw [show ((0 : Int)).toNat = 0 from rfl] at hx134_0)
            (try rw [Addr.add_zero'] at hx134_0)
            replace p134 := eq_true p134
            replace q134 := eq_true q134
            obtain ⟨i046, hi046, _, hsz46, _⟩ := info_parts info5
            obtain ⟨A46, hcut46, hA46, hC46⟩ := print_drop_of (P := Tryd.prog) (Value.int .u8) 0 22 5 .i64 Tryd.underlying22 hi046 hsz46 (some ad134) c0 l0 1 (by omega) (of_decide_eq_true (by first | (with_reducible assumption) | assumption)) HC0.out
            have HR135 := Aside0.mk (Kd.C_of_reads (h1 := fun _ => rfl) (hA46 _ (Kd.reads_of_C HR0.out)))
            have HC135 := Aside0.mk hC46
            clear hA46 hC46 hi046 hsz46
            go_enter Tryd.func37, Tryd.ntmps37
            go_wp2_with (first | ((with_reducible refine gate_callee (f := 71) rfl ?_); refine goesL_ (some 21) rfl rfl Tryd.func71 (by kernel_rfl) rfl #[.slice A46 (l0.drop 1).length (c0 - 1)] rfl (by (try simp only [List.map_toArray, List.map_cons, List.map_nil]); first | done | (rw [show (l0.drop 1).length = (l0.length - 1) from List.length_drop] <;> rfl) | rfl | (simp only [List.length_drop, List.length_take]; rfl)) ?_; (with_reducible refine (larderref01_Uint.calls k _ _ (l0.drop 1) t136 t137 t138 _ ?side1 ?side2 A6.out).mono ?_); (case side1 => repeat (first | exact HR135.out | (with_reducible refine Kd.C_alloc ?_ _) | (with_reducible refine Kd.C_drewN ?_ _) | (with_reducible refine Kd.C_drew ?_))); (case side2 => exact HC135.out); rintro e w' ⟨rfl, ⟨nd, rfl⟩⟩; refine ⟨_, rfl, ?_⟩))
            refine bodyPost_ret (results_list (rs := [.tmp 2, .tmp 3, .tmp 4, .tmp 5]) rfl (by simp) (.tmp (.tmp (.tmp (.tmp .nil))))) rfl ?_
            exact ⟨_, by first | rfl | (simp [errW_none, errW_some] <;> rfl) | (simp [*, errW_none, errW_some] <;> rfl), by first | exact Kd.R_nil _ _ _ _ _ | exact Kd.N_nil _ _ _ _ _ | exact Kd.V_nil _ _ _ _ _ | exact Kd.Q_nil _ _ _ _ _ | exact Kd.S_nil _ _ _ _ _, by repeat (first | (with_reducible first | exact HB.out | apply below_alloc | apply pw_below_drewN | apply below_drew1) | exact HB.out)⟩
        · rw [if_neg c5] at H
          exact absurd H (by simp)
      · rw [if_neg c4] at H
        have c4b0 : ((rd l0 0) == 167) = false := beq_eq_false_iff_ne.mpr c4
        have c4b1 : ((rd l0 0) != 167) = true := bne_iff_ne.mpr c4
        simp only [Option.some.injEq, Prod.mk.injEq] at H
        obtain ⟨rfl, rfl, rfl, rfl⟩ := H
        have p134 : 0 ≤ (0 : Int) := (by omega)
        have q134 : 0 < (l0.length : Int) := of_decide_eq_true (by first | (with_reducible assumption) | assumption)
        obtain ⟨ad134, e134, hx134_0⟩ := Kd.at_int HR0.out 0 p134 q134
        cases e134
        have qi134 : (0 < l0.length) = True := eq_true (by omega)
        (try rw [show ((0 : Int)).toNat = 0 from rfl] at hx134_0)
        (try rw [Addr.add_zero'] at hx134_0)
        replace p134 := eq_true p134
        replace q134 := eq_true q134
        go_enter Tryd.func37, Tryd.ntmps37
        go_wp2
        refine bodyPost_ret (results_list (rs := [.tmp 2, .tmp 3, .tmp 4, .tmp 5]) rfl (by simp) (.tmp (.tmp (.tmp (.tmp .nil))))) rfl ?_
        exact ⟨_, by first | rfl | (simp [errW_none, errW_some] <;> rfl) | (simp [*, errW_none, errW_some] <;> rfl), by first | exact Kd.R_nil _ _ _ _ _ | exact Kd.N_nil _ _ _ _ _ | exact Kd.V_nil _ _ _ _ _ | exact Kd.Q_nil _ _ _ _ _ | exact Kd.S_nil _ _ _ _ _, by repeat (first | (with_reducible first | exact HB.out | apply below_alloc | apply pw_below_drewN | apply below_drew1) | exact HB.out)⟩
    · rw [if_neg c3] at H
      exact absurd H (by simp)

end Go.Proofs.YtlblleideihhmaaDoor.PB
