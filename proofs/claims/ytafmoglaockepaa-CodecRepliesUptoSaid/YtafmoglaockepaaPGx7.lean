-- Written by a program of this session (wip/pp), out of the translation.
import Derived.Test.YtafmoglaockepaaPGx0
import Derived.Test.YtafmoglaockepaaPGx6
namespace Go.Proofs.Ytafmoglaockepaa.PG
open Go.RowKit Go.Proofs.Ytafmoglaockepaa.Mine Go.Proofs.YtafmoglaockepaaW.PrintWords Go.Proofs.YtafmoglaockepaaW.PrintLast Go.Proofs.YtafmoglaockepaaW.PrintMore
attribute [local go_sem] max2_int min2_int max_two min_two max_three min_three max_four min_four   -- for this text's walks alone
set_option linter.unusedVariables false
set_option linter.unusedSimpArgs false

/-! ### larderref01_Int: function 122 -/
def larderref01_Int.f (k : Nat) (l0 : List Int) : Option (Int × Int × Int) := (larderref01_Uint.f k l0).bind fun bt184 => (if bt184.2.2 = 0 then (if (Int.tmod bt184.1 2) = 1 then (some (wrap64 ((wrap64 (-(wrap64 (IntKind.u64.wrap (Int.tdiv bt184.1 2))))) - 1), bt184.2.1, 0)) else (some (wrap64 (IntKind.u64.wrap (Int.tdiv bt184.1 2)), bt184.2.1, 0))) else (some (0, bt184.2.1, bt184.2.2)))
theorem larderref01_Int.mono : ∀ a0 k, LeO (larderref01_Int.f k a0) (larderref01_Int.f (k + 1) a0) := by
  intro a0 k
  unfold larderref01_Int.f
  repeat' first
      | (with_reducible exact larderref01_Uint.mono _ _)
      | (with_reducible exact LeO.refl _)
      | (with_reducible exact LeO.none _)
      | (with_reducible refine LeO.ite ?_ ?_)
      | (with_reducible refine LeO.bind ?_ (fun _ => ?_))
      | exact larderref01_Uint.mono _ _
      | exact LeO.none _
      | refine LeO.ite ?_ ?_
      | refine LeO.bind ?_ (fun _ => ?_)
set_option maxHeartbeats 8000000 in
set_option maxRecDepth 100000 in
theorem larderref01_Int.calls (k : Nat) (A0 : Option Addr) (c0 : Nat) (l0 : List Int) (r1 : Int) (r2 : Int) (r3 : Int) (w : World) (hr0 : Kd.C (Kd.int .u8) w A0 l0.length l0) (hc0 : l0.length ≤ c0) (h : larderref01_Int.f k l0 = some (r1, r2, r3)) :
    Calls Try.prog 122 #[.slice A0 l0.length c0] w fun e w' => e = .returned (.tuple #[.int .i64 r1, .int .i64 r2, .int .i64 r3]) ∧ Drawn0 w w' := by
  have HR0 := Aside0.mk hr0
  have HC0 := Aside0.mk hc0
  clear hr0 hc0
  have H : ((larderref01_Uint.f k l0).bind fun bt184 => (if bt184.2.2 = 0 then (if (Int.tmod bt184.1 2) = 1 then (some (wrap64 ((wrap64 (-(wrap64 (IntKind.u64.wrap (Int.tdiv bt184.1 2))))) - 1), bt184.2.1, 0)) else (some (wrap64 (IntKind.u64.wrap (Int.tdiv bt184.1 2)), bt184.2.1, 0))) else (some (0, bt184.2.1, bt184.2.2)))) = some (r1, r2, r3) := h
  clear h
  replace H := Option.bind_eq_some_iff.mp H
  obtain ⟨⟨t184, t185, t186⟩, A20, H⟩ := H
  replace H : (if t186 = 0 then (if (Int.tmod t184 2) = 1 then (some (wrap64 ((wrap64 (-(wrap64 (IntKind.u64.wrap (Int.tdiv t184 2))))) - 1), t185, 0)) else (some (wrap64 (IntKind.u64.wrap (Int.tdiv t184 2)), t185, 0))) else (some (0, t185, t186))) = some (r1, r2, r3) := H
  have A2 := Aside0.mk A20
  clear A20
  by_cases c3 : t186 = 0
  · rw [if_pos c3] at H
    have c3b0 : (t186 == 0) = true := beq_iff_eq.mpr c3
    have c3b1 : (t186 != 0) = false := bne_eq_false_iff_eq.mpr c3
    clear c3
    by_cases c4 : (Int.tmod t184 2) = 1
    · rw [if_pos c4] at H
      have c4b0 : ((Int.tmod t184 2) == 1) = true := beq_iff_eq.mpr c4
      have c4b1 : ((Int.tmod t184 2) != 1) = false := bne_eq_false_iff_eq.mpr c4
      clear c4
      simp only [Option.some.injEq, Prod.mk.injEq] at H
      obtain ⟨rfl, rfl, rfl⟩ := H
      go_enter Try.func122, Try.ntmps122
      go_wp2_with (first | ((with_reducible refine gate_callee (f := 132) rfl ?_); refine goesL_ (some 10) rfl rfl Try.func132 (by kernel_rfl) rfl #[.slice A0 l0.length c0] rfl (by (try simp only [List.map_toArray, List.map_cons, List.map_nil]); first | done | rfl | (simp only [List.length_drop, List.length_take]; rfl)) ?_; (with_reducible refine (larderref01_Uint.calls k _ _ l0 t184 t185 t186 _ ?side1 ?side2 A2.out).mono ?_); (case side1 => repeat (first | exact HR0.out | (with_reducible refine Kd.C_alloc ?_ _) | (with_reducible refine Kd.C_drewN ?_ _) | (with_reducible refine Kd.C_drew ?_))); (case side2 => exact HC0.out); rintro e w' ⟨rfl, ⟨nd, rfl⟩⟩; refine ⟨_, rfl, ?_⟩))
      go_ret3
      exact ⟨by first | rfl | (simp; done) | (simp [*]; done), by repeat (first | exact Drawn0.refl _ | apply Drawn0.step)⟩
    · rw [if_neg c4] at H
      have c4b0 : ((Int.tmod t184 2) == 1) = false := beq_eq_false_iff_ne.mpr c4
      have c4b1 : ((Int.tmod t184 2) != 1) = true := bne_iff_ne.mpr c4
      simp only [Option.some.injEq, Prod.mk.injEq] at H
      obtain ⟨rfl, rfl, rfl⟩ := H
      go_enter Try.func122, Try.ntmps122
      go_wp2_with (first | ((with_reducible refine gate_callee (f := 132) rfl ?_); refine goesL_ (some 10) rfl rfl Try.func132 (by kernel_rfl) rfl #[.slice A0 l0.length c0] rfl (by (try simp only [List.map_toArray, List.map_cons, List.map_nil]); first | done | rfl | (simp only [List.length_drop, List.length_take]; rfl)) ?_; (with_reducible refine (larderref01_Uint.calls k _ _ l0 t184 t185 t186 _ ?side1 ?side2 A2.out).mono ?_); (case side1 => repeat (first | exact HR0.out | (with_reducible refine Kd.C_alloc ?_ _) | (with_reducible refine Kd.C_drewN ?_ _) | (with_reducible refine Kd.C_drew ?_))); (case side2 => exact HC0.out); rintro e w' ⟨rfl, ⟨nd, rfl⟩⟩; refine ⟨_, rfl, ?_⟩))
      go_ret3
      exact ⟨by first | rfl | (simp; done) | (simp [*]; done), by repeat (first | exact Drawn0.refl _ | apply Drawn0.step)⟩
  · rw [if_neg c3] at H
    have c3b0 : (t186 == 0) = false := beq_eq_false_iff_ne.mpr c3
    have c3b1 : (t186 != 0) = true := bne_iff_ne.mpr c3
    simp only [Option.some.injEq, Prod.mk.injEq] at H
    obtain ⟨rfl, rfl, rfl⟩ := H
    go_enter Try.func122, Try.ntmps122
    go_wp2_with (first | ((with_reducible refine gate_callee (f := 132) rfl ?_); refine goesL_ (some 10) rfl rfl Try.func132 (by kernel_rfl) rfl #[.slice A0 l0.length c0] rfl (by (try simp only [List.map_toArray, List.map_cons, List.map_nil]); first | done | rfl | (simp only [List.length_drop, List.length_take]; rfl)) ?_; (with_reducible refine (larderref01_Uint.calls k _ _ l0 t184 t185 t186 _ ?side1 ?side2 A2.out).mono ?_); (case side1 => repeat (first | exact HR0.out | (with_reducible refine Kd.C_alloc ?_ _) | (with_reducible refine Kd.C_drewN ?_ _) | (with_reducible refine Kd.C_drew ?_))); (case side2 => exact HC0.out); rintro e w' ⟨rfl, ⟨nd, rfl⟩⟩; refine ⟨_, rfl, ?_⟩))
    go_ret3
    exact ⟨by first | rfl | (simp; done) | (simp [*]; done), by repeat (first | exact Drawn0.refl _ | apply Drawn0.step)⟩

/-! ### larderref01_Text: function 121 -/
def larderref01_Text.f (k : Nat) (l0 : List Int) (a1 : Int) : Option (ByteArray × Int × Int) := if a1 < 0 then (some ((⟨#[]⟩ : ByteArray), 0, 2)) else ((larderref01_Uint.f k l0).bind fun bt187 => (if bt187.2.2 = 0 then (if bt187.1 > (IntKind.u64.wrap (a1)) then (some ((⟨#[]⟩ : ByteArray), 0, 12)) else (if bt187.1 > (IntKind.u64.wrap (wrap64 ((l0.length : Int) - bt187.2.1))) then (some ((⟨#[]⟩ : ByteArray), (l0.length : Int), 3)) else (if 0 ≤ bt187.2.1 then (if bt187.2.1 ≤ (wrap64 (bt187.2.1 + (wrap64 (bt187.1)))) then (if (wrap64 (bt187.2.1 + (wrap64 (bt187.1)))) ≤ (l0.length : Int) then (some (strOfNums ((l0.take ((wrap64 (bt187.2.1 + (wrap64 (bt187.1)))) : Int).toNat).drop (bt187.2.1 : Int).toNat), wrap64 (bt187.2.1 + (wrap64 (bt187.1))), 0)) else (none)) else (none)) else (none)))) else (some ((⟨#[]⟩ : ByteArray), bt187.2.1, bt187.2.2))))
theorem larderref01_Text.mono : ∀ a0 a1 k, LeO (larderref01_Text.f k a0 a1) (larderref01_Text.f (k + 1) a0 a1) := by
  intro a0 a1 k
  unfold larderref01_Text.f
  repeat' first
      | (with_reducible exact larderref01_Uint.mono _ _)
      | (with_reducible exact LeO.refl _)
      | (with_reducible exact LeO.none _)
      | (with_reducible refine LeO.ite ?_ ?_)
      | (with_reducible refine LeO.bind ?_ (fun _ => ?_))
      | exact larderref01_Uint.mono _ _
      | exact LeO.none _
      | refine LeO.ite ?_ ?_
      | refine LeO.bind ?_ (fun _ => ?_)
set_option maxHeartbeats 8000000 in
set_option maxRecDepth 100000 in
theorem larderref01_Text.calls (k : Nat) (A0 : Option Addr) (c0 : Nat) (l0 : List Int) (a1 : Int) (r1 : ByteArray) (r2 : Int) (r3 : Int) (w : World) (hr0 : Kd.C (Kd.int .u8) w A0 l0.length l0) (hc0 : l0.length ≤ c0) (h : larderref01_Text.f k l0 a1 = some (r1, r2, r3)) :
    Calls Try.prog 121 #[.slice A0 l0.length c0, .int .i64 a1] w fun e w' => e = .returned (.tuple #[.string r1, .int .i64 r2, .int .i64 r3]) ∧ Drawn0 w w' := by
  have HR0 := Aside0.mk hr0
  have HC0 := Aside0.mk hc0
  clear hr0 hc0
  have H : (if a1 < 0 then (some ((⟨#[]⟩ : ByteArray), 0, 2)) else ((larderref01_Uint.f k l0).bind fun bt187 => (if bt187.2.2 = 0 then (if bt187.1 > (IntKind.u64.wrap (a1)) then (some ((⟨#[]⟩ : ByteArray), 0, 12)) else (if bt187.1 > (IntKind.u64.wrap (wrap64 ((l0.length : Int) - bt187.2.1))) then (some ((⟨#[]⟩ : ByteArray), (l0.length : Int), 3)) else (if 0 ≤ bt187.2.1 then (if bt187.2.1 ≤ (wrap64 (bt187.2.1 + (wrap64 (bt187.1)))) then (if (wrap64 (bt187.2.1 + (wrap64 (bt187.1)))) ≤ (l0.length : Int) then (some (strOfNums ((l0.take ((wrap64 (bt187.2.1 + (wrap64 (bt187.1)))) : Int).toNat).drop (bt187.2.1 : Int).toNat), wrap64 (bt187.2.1 + (wrap64 (bt187.1))), 0)) else (none)) else (none)) else (none)))) else (some ((⟨#[]⟩ : ByteArray), bt187.2.1, bt187.2.2))))) = some (r1, r2, r3) := h
  clear h
  by_cases c3 : a1 < 0
  · rw [if_pos c3] at H
    have c3b0 : decide (a1 < 0) = true := decide_eq_true c3
    clear c3
    simp only [Option.some.injEq, Prod.mk.injEq] at H
    obtain ⟨rfl, rfl, rfl⟩ := H
    go_enter Try.func121, Try.ntmps121
    go_wp2
    go_ret3
    exact ⟨by first | rfl | (simp; done) | (simp [*]; done), by repeat (first | exact Drawn0.refl _ | apply Drawn0.step)⟩
  · rw [if_neg c3] at H
    have c3b0 : decide (a1 < 0) = false := decide_eq_false c3
    clear c3
    replace H := Option.bind_eq_some_iff.mp H
    obtain ⟨⟨t187, t188, t189⟩, A40, H⟩ := H
    replace H : (if t189 = 0 then (if t187 > (IntKind.u64.wrap (a1)) then (some ((⟨#[]⟩ : ByteArray), 0, 12)) else (if t187 > (IntKind.u64.wrap (wrap64 ((l0.length : Int) - t188))) then (some ((⟨#[]⟩ : ByteArray), (l0.length : Int), 3)) else (if 0 ≤ t188 then (if t188 ≤ (wrap64 (t188 + (wrap64 (t187)))) then (if (wrap64 (t188 + (wrap64 (t187)))) ≤ (l0.length : Int) then (some (strOfNums ((l0.take ((wrap64 (t188 + (wrap64 (t187)))) : Int).toNat).drop (t188 : Int).toNat), wrap64 (t188 + (wrap64 (t187))), 0)) else (none)) else (none)) else (none)))) else (some ((⟨#[]⟩ : ByteArray), t188, t189))) = some (r1, r2, r3) := H
    have A4 := Aside0.mk A40
    clear A40
    by_cases c5 : t189 = 0
    · rw [if_pos c5] at H
      have c5b0 : (t189 == 0) = true := beq_iff_eq.mpr c5
      have c5b1 : (t189 != 0) = false := bne_eq_false_iff_eq.mpr c5
      clear c5
      by_cases c6 : t187 > (IntKind.u64.wrap (a1))
      · rw [if_pos c6] at H
        have c6b0 : decide ((IntKind.u64.wrap (a1)) < t187) = true := decide_eq_true c6
        clear c6
        simp only [Option.some.injEq, Prod.mk.injEq] at H
        obtain ⟨rfl, rfl, rfl⟩ := H
        go_enter Try.func121, Try.ntmps121
        go_wp2_with (first | ((with_reducible refine gate_callee (f := 132) rfl ?_); refine goesL_ (some 14) rfl rfl Try.func132 (by kernel_rfl) rfl #[.slice A0 l0.length c0] rfl (by (try simp only [List.map_toArray, List.map_cons, List.map_nil]); first | done | rfl | (simp only [List.length_drop, List.length_take]; rfl)) ?_; (with_reducible refine (larderref01_Uint.calls k _ _ l0 t187 t188 t189 _ ?side1 ?side2 A4.out).mono ?_); (case side1 => repeat (first | exact HR0.out | (with_reducible refine Kd.C_alloc ?_ _) | (with_reducible refine Kd.C_drewN ?_ _) | (with_reducible refine Kd.C_drew ?_))); (case side2 => exact HC0.out); rintro e w' ⟨rfl, ⟨nd, rfl⟩⟩; refine ⟨_, rfl, ?_⟩))
        go_ret3
        exact ⟨by first | rfl | (simp; done) | (simp [*]; done), by repeat (first | exact Drawn0.refl _ | apply Drawn0.step)⟩
      · rw [if_neg c6] at H
        have c6b0 : decide ((IntKind.u64.wrap (a1)) < t187) = false := decide_eq_false c6
        clear c6
        by_cases c7 : t187 > (IntKind.u64.wrap (wrap64 ((l0.length : Int) - t188)))
        · rw [if_pos c7] at H
          have c7b0 : decide ((IntKind.u64.wrap (wrap64 ((l0.length : Int) - t188))) < t187) = true := decide_eq_true c7
          clear c7
          simp only [Option.some.injEq, Prod.mk.injEq] at H
          obtain ⟨rfl, rfl, rfl⟩ := H
          go_enter Try.func121, Try.ntmps121
          go_wp2_with (first | ((with_reducible refine gate_callee (f := 132) rfl ?_); refine goesL_ (some 14) rfl rfl Try.func132 (by kernel_rfl) rfl #[.slice A0 l0.length c0] rfl (by (try simp only [List.map_toArray, List.map_cons, List.map_nil]); first | done | rfl | (simp only [List.length_drop, List.length_take]; rfl)) ?_; (with_reducible refine (larderref01_Uint.calls k _ _ l0 t187 t188 t189 _ ?side1 ?side2 A4.out).mono ?_); (case side1 => repeat (first | exact HR0.out | (with_reducible refine Kd.C_alloc ?_ _) | (with_reducible refine Kd.C_drewN ?_ _) | (with_reducible refine Kd.C_drew ?_))); (case side2 => exact HC0.out); rintro e w' ⟨rfl, ⟨nd, rfl⟩⟩; refine ⟨_, rfl, ?_⟩))
          go_ret3
          exact ⟨by first | rfl | (simp; done) | (simp [*]; done), by repeat (first | exact Drawn0.refl _ | apply Drawn0.step)⟩
        · rw [if_neg c7] at H
          have c7b0 : decide ((IntKind.u64.wrap (wrap64 ((l0.length : Int) - t188))) < t187) = false := decide_eq_false c7
          clear c7
          by_cases c8 : 0 ≤ t188
          · rw [if_pos c8] at H
            have c8b0 := eq_true c8
            have c8b1 : decide (0 ≤ t188) = true := decide_eq_true c8
            clear c8
            by_cases c9 : t188 ≤ (wrap64 (t188 + (wrap64 (t187))))
            · rw [if_pos c9] at H
              have c9b0 := eq_true c9
              have c9b1 : decide (t188 ≤ (wrap64 (t188 + (wrap64 (t187))))) = true := decide_eq_true c9
              by_cases c10 : (wrap64 (t188 + (wrap64 (t187)))) ≤ (l0.length : Int)
              · rw [if_pos c10] at H
                have c10b0 := eq_true c10
                have c10b1 : decide ((wrap64 (t188 + (wrap64 (t187)))) ≤ (l0.length : Int)) = true := decide_eq_true c10
                simp only [Option.some.injEq, Prod.mk.injEq] at H
                obtain ⟨rfl, rfl, rfl⟩ := H
                go_enter Try.func121, Try.ntmps121
                go_wp2_with (first | ((with_reducible refine gate_callee (f := 132) rfl ?_); refine goesL_ (some 14) rfl rfl Try.func132 (by kernel_rfl) rfl #[.slice A0 l0.length c0] rfl (by (try simp only [List.map_toArray, List.map_cons, List.map_nil]); first | done | rfl | (simp only [List.length_drop, List.length_take]; rfl)) ?_; (with_reducible refine (larderref01_Uint.calls k _ _ l0 t187 t188 t189 _ ?side1 ?side2 A4.out).mono ?_); (case side1 => repeat (first | exact HR0.out | (with_reducible refine Kd.C_alloc ?_ _) | (with_reducible refine Kd.C_drewN ?_ _) | (with_reducible refine Kd.C_drew ?_))); (case side2 => exact HC0.out); rintro e w' ⟨rfl, ⟨nd, rfl⟩⟩; refine ⟨_, rfl, ?_⟩; obtain ⟨i011, hi011, _, hsz11, _⟩ := info_parts info5; obtain ⟨A11, hcut11, hA11, hC11⟩ := print_mid_of (P := Try.prog) (Value.int .u8) 0 26 5 .i64 .i64 Try.underlying26 hi011 hsz11 A0 c0 l0 t188 (wrap64 (t188 + (wrap64 (t187)))) (of_decide_eq_true (by first | (with_reducible assumption) | assumption)) (by first | omega | exact of_decide_eq_true (by first | (with_reducible assumption) | assumption)) (of_decide_eq_true (by first | (with_reducible assumption) | assumption)) HC0.out; have HR190 := Aside0.mk (Kd.C_of_reads (h1 := fun _ => rfl) (hA11 _ (Kd.reads_of_C HR0.out))); have HC190 := Aside0.mk hC11; clear hA11 hC11 hi011 hsz11; have hcv12 := Kd.C_string (P := Try.prog) (A := A11) (c := (c0 - t188.toNat)) Try.underlying26 Try.underlying5 Try.underlying9 HR190.out; rw [show ((l0.take ((wrap64 (t188 + (wrap64 (t187)))) : Int).toNat).drop (t188 : Int).toNat).length = ((wrap64 (t188 + (wrap64 (t187)))).toNat - t188.toNat) from (by rw [List.length_drop, List.length_take]; have h_ : ((wrap64 (t188 + (wrap64 (t187)))) : Int) ≤ (l0.length : Int) := of_decide_eq_true (by first | (with_reducible assumption) | assumption); omega)] at hcv12; have hcw12 := fun nd_ : Nat => Kd.C_string (P := Try.prog) (A := A11) (c := (c0 - t188.toNat)) Try.underlying26 Try.underlying5 Try.underlying9 (Kd.C_drewN HR190.out nd_); simp only [show ((l0.take ((wrap64 (t188 + (wrap64 (t187)))) : Int).toNat).drop (t188 : Int).toNat).length = ((wrap64 (t188 + (wrap64 (t187)))).toNat - t188.toNat) from (by rw [List.length_drop, List.length_take]; have h_ : ((wrap64 (t188 + (wrap64 (t187)))) : Int) ≤ (l0.length : Int) := of_decide_eq_true (by first | (with_reducible assumption) | assumption); omega)] at hcw12))
                go_ret3
                exact ⟨by first | rfl | (simp; done) | (simp [*]; done), by repeat (first | exact Drawn0.refl _ | apply Drawn0.step)⟩
              · rw [if_neg c10] at H
                exact absurd H (by simp)
            · rw [if_neg c9] at H
              exact absurd H (by simp)
          · rw [if_neg c8] at H
            exact absurd H (by simp)
    · rw [if_neg c5] at H
      have c5b0 : (t189 == 0) = false := beq_eq_false_iff_ne.mpr c5
      have c5b1 : (t189 != 0) = true := bne_iff_ne.mpr c5
      simp only [Option.some.injEq, Prod.mk.injEq] at H
      obtain ⟨rfl, rfl, rfl⟩ := H
      go_enter Try.func121, Try.ntmps121
      go_wp2_with (first | ((with_reducible refine gate_callee (f := 132) rfl ?_); refine goesL_ (some 14) rfl rfl Try.func132 (by kernel_rfl) rfl #[.slice A0 l0.length c0] rfl (by (try simp only [List.map_toArray, List.map_cons, List.map_nil]); first | done | rfl | (simp only [List.length_drop, List.length_take]; rfl)) ?_; (with_reducible refine (larderref01_Uint.calls k _ _ l0 t187 t188 t189 _ ?side1 ?side2 A4.out).mono ?_); (case side1 => repeat (first | exact HR0.out | (with_reducible refine Kd.C_alloc ?_ _) | (with_reducible refine Kd.C_drewN ?_ _) | (with_reducible refine Kd.C_drew ?_))); (case side2 => exact HC0.out); rintro e w' ⟨rfl, ⟨nd, rfl⟩⟩; refine ⟨_, rfl, ?_⟩))
      go_ret3
      exact ⟨by first | rfl | (simp; done) | (simp [*]; done), by repeat (first | exact Drawn0.refl _ | apply Drawn0.step)⟩

/-! ### larderref01_Lent: function 14 (given) -/
def larderref01_Lent.f (l0 : List Int) : Option (List Int) := if l0.length + 9 < 140737488355328 then some l0 else none
set_option maxHeartbeats 8000000 in
set_option maxRecDepth 100000 in
theorem larderref01_Lent.calls (A0 : Option Addr) (c0 : Nat) (l0 : List Int) (r : List Int) (w : World) (hr0 : Kd.C (Kd.int .u8) w A0 l0.length l0) (hc0 : l0.length ≤ c0) (h : larderref01_Lent.f l0 = some r) :
    Calls Try.prog 14 #[.slice A0 l0.length c0] w fun e w' => ∃ v0_ : Value, e = .returned (v0_) ∧ Kd.R (Kd.int .u8) 5 w' w.heap.size (fun _ => True) v0_ r ∧ (Kd.C (Kd.int .u8) w' (adOf v0_) (r ++ marks9).length (r ++ marks9) ∧ (r ++ marks9).length ≤ capOf v0_) ∧ Below w.heap.size w w' := by
  unfold larderref01_Lent.f at h
  by_cases hL : l0.length + 9 < 140737488355328
  · rw [if_pos hL] at h
    obtain rfl := Option.some.inj h
    clear h
    have HL := Aside0.mk hL
    clear hL
    have HR0 := Aside0.mk hr0
    have HC0 := Aside0.mk hc0
    clear hr0 hc0
    have HB := Aside0.mk (Below.refl w.heap.size w)
    have LMc2 := Aside0.mk (show ([] : List Int).length + l0.length < 140737488355328 by have := HL.out; simp; omega)
    obtain ⟨y101, hy101⟩ : ∃ y_ : List Int, y_ = (([] : List Int) ++ l0) := ⟨_, rfl⟩
    have Ny101 := Aside0.mk hy101
    clear hy101
    go_enter Try.func14, Try.ntmps14
    go_wp2_with (first | ((with_reducible refine gate_builtin (b := .append) (xs := #[.tmp 5, .tmp 6]) rfl ?_); at_builtin; refine Kd.R_append_rows (Kd.int .u8) (w0 := w) w.heap.size rfl (.tmp 5) (.tmp 6) 26 5 (.int .u8 0) 1 rfl Try.underlying26 info5 rfl (by decide) (by omega) (.slice none 0 0) ([] : List Int) l0 _ _ _ (fun _ => True) (fun _ => False) rfl rfl ?aO ?aR (fun _ _ h => h) (fun _ h => h.elim) ?aF ?aB ?aS ?aL ?_; (case aR => repeat (first | exact HR0.out | (with_reducible refine Kd.C_alloc ?_ _) | (with_reducible refine Kd.C_drewN ?_ _) | (with_reducible refine Kd.C_drew ?_))); (case aB => exact (by repeat (first | (with_reducible first | exact HB.out | apply below_alloc | apply pw_below_drewN | apply below_drew1) | exact HB.out))); (case aF => exact (fun _ _ => trivial)); (case aO => exact ((Kd.R_nil _ _ _ _ (fun _ => True)))); (case aS => exact (below_size (by repeat (first | (with_reducible first | exact HB.out | apply below_alloc | apply pw_below_drewN | apply below_drew1) | exact HB.out)))); (case aL => have := LMc2.out; omega); intro v102 w3 ho hb hg hat; rw [← Ny101.out] at ho; have n0_ := Aside0.mk (hb); have n1_ := Aside0.mk (ho); clear HB; have HB := n0_; have HO103 := n1_; clear n0_ n1_; clear ho hb hg hat))
    go_loopg [3, 4] 10 (fun kq v3 v4 w' => ∃ (x3_1 : List Int) (x4_1 : Int), v4 = .int .i64 x4_1 ∧ Aside0 (0 ≤ x4_1 ∧ x4_1 + (kq : Int) = 10 ∧ x4_1 ≤ 9 ∧ x3_1 = l0 ++ marks9.take x4_1.toNat) ∧ Aside0 (Kd.R (Kd.int .u8) 5 w' w.heap.size (fun _ => True) v3 x3_1) ∧ Aside0 (Below w.heap.size w w'))
    case atStart => exact ⟨(y101), (0), (by first | rfl | (simp; done) | (simp [*]; done)), ⟨by rw [Ny101.out]; simp⟩, ⟨by (with_reducible repeat (first | apply Kd.R_alloc | apply Kd.R_drewN | apply Kd.R_drew)); exact HO103.out⟩, ⟨by repeat (first | (with_reducible first | exact HB.out | apply below_alloc | apply pw_below_drewN | apply below_drew1) | exact HB.out)⟩⟩
    case round =>
      obtain ⟨x3_1, x4_1, rfl, HA, HO_3, HB⟩ := hrel
      cases gk with
      | zero => exact absurd HA.out (by omega)
      | succ k1 =>
        by_cases c4 : x4_1 < 9
        · have c4b0 : decide (x4_1 < 9) = true := decide_eq_true c4
          have HLT := Aside0.mk c4
          clear c4
          have LMc5 := Aside0.mk (show x3_1.length < 140737488355328 by rw [HA.out.2.2.2, List.length_append, List.length_take]; have := HL.out; have := marks9_length; omega)
          obtain ⟨y104, hy104⟩ : ∃ y_ : List Int, y_ = (x3_1 ++ [(wrap64 (208 + x4_1)) % 256]) := ⟨_, rfl⟩
          have Ny104 := Aside0.mk hy104
          clear hy104
          go_wp2_with (first | ((with_reducible refine gate_builtin (b := .append) (xs := #[.tmp 12, .tmp 16]) rfl ?_); at_builtin; refine Kd.R_append (Kd.int .u8) (w0 := w) w.heap.size rfl (.tmp 12) (.tmp 16) 26 5 (.int .u8 0) 1 rfl Try.underlying26 info5 rfl (by decide) (by omega) u3 x3_1 ((wrap64 (208 + x4_1)) % 256) [.int .u8 ((wrap64 (208 + x4_1)) % 256)] (fun _ => True) (fun _ => False) rfl rfl ?aP (fun _ hk => hk.elim) ?aF ?aO ?aB ?aS ?aL ?_; (case aP => exact rfl); (case aB => exact (by repeat (first | (with_reducible first | exact HB.out | apply below_alloc | apply pw_below_drewN | apply below_drew1) | exact HB.out))); (case aF => exact (fun _ _ => trivial)); (case aO => exact (by (with_reducible repeat (first | apply Kd.R_alloc | apply Kd.R_drewN | apply Kd.R_drew)); exact HO_3.out)); (case aS => exact (below_size (by repeat (first | (with_reducible first | exact HB.out | apply below_alloc | apply pw_below_drewN | apply below_drew1) | exact HB.out)))); (case aL => have := LMc5.out; omega); intro v105 w6 ho hb hg hat; rw [← Ny104.out] at ho; have n0_ := Aside0.mk (hb); have n1_ := Aside0.mk (ho); clear HB; clear HO_3; have HB := n0_; have HO106 := n1_; clear n0_ n1_; clear ho hb hg hat))
          go_roundg k1
          case measure => omega
          case rel => exact ⟨(y104), (wrap64 (x4_1 + 1)), (by first | rfl | (simp; done) | (simp [*]; done)), ⟨marks9_grow HA.out HLT.out Ny104.out⟩, ⟨by (with_reducible repeat (first | apply Kd.R_alloc | apply Kd.R_drewN | apply Kd.R_drew)); exact HO106.out⟩, ⟨by repeat (first | (with_reducible first | exact HB.out | apply below_alloc | apply pw_below_drewN | apply below_drew1) | exact HB.out)⟩⟩
        · have c4b0 : decide (x4_1 < 9) = false := decide_eq_false c4
          have hx3 : x3_1 = l0 ++ marks9 := by
            rw [HA.out.2.2.2, show x4_1.toNat = 9 by have := HA.out; omega]
            rfl
          clear c4 HA
          have hle : l0.length ≤ x3_1.length := by rw [hx3, List.length_append]; omega
          have HX3 := Aside0.mk hx3
          clear hx3
          have c7b0 : (0 ≤ (l0.length : Int)) = True := eq_true (by omega)
          have c7b1 : decide (0 ≤ (l0.length : Int)) = true := decide_eq_true (by omega)
          have c8b0 : ((l0.length : Int) ≤ (x3_1.length : Int)) = True := eq_true (by omega)
          have c8b1 : decide ((l0.length : Int) ≤ (x3_1.length : Int)) = true := decide_eq_true (by omega)
          obtain ⟨Ao9, co9, eo9⟩ := Kd.R_slice HO_3.out
          subst eo9
          obtain ⟨i010, hi010, _, hsz10, _⟩ := info_parts info5
          have hcut10 := cut_to (P := Try.prog) 26 5 .i64 Try.underlying26 hi010 Ao9 x3_1.length co9 (l0.length : Int) (by omega) (by omega) (Kd.R_reads' HO_3.out).2.1
          have hr10 := Kd.R_take (m := ((l0.length : Int) : Int).toNat) HO_3.out (by omega)
          have HSP := Aside0.mk (Kd.R_reads' HO_3.out).2.2
          have HCP := Aside0.mk (Kd.R_reads' HO_3.out).2.1
          have hy10 : (x3_1.take ((l0.length : Int) : Int).toNat) = l0 := by rw [HX3.out]; simp
          rw [hy10] at hr10
          rw [show ((l0.length : Int) : Int).toNat = l0.length by omega] at hr10 hcut10
          clear hy10 hi010 hsz10 HO_3 hle
          have HO109 := Aside0.mk hr10
          clear hr10
          go_wp2
          go_ret
          exact ⟨.slice Ao9 l0.length co9, by first | rfl | (simp [errW_none, errW_some] <;> rfl) | (simp [*, errW_none, errW_some] <;> rfl), by (with_reducible repeat (first | apply Kd.R_alloc | apply Kd.R_drewN | apply Kd.R_drew)); exact HO109.out, ⟨by rw [← HX3.out]; repeat (first | exact HSP.out | (with_reducible refine Kd.C_alloc ?_ _) | (with_reducible refine Kd.C_drewN ?_ _) | (with_reducible refine Kd.C_drew ?_)), by rw [← HX3.out]; exact HCP.out⟩, by repeat (first | (with_reducible first | exact HB.out | apply below_alloc | apply pw_below_drewN | apply below_drew1) | exact HB.out)⟩
  · rw [if_neg hL] at h
    exact absurd h (by simp)

/-! ### larderref01_Kept: function 18 (given) -/
def larderref01_Kept.f (l0 : List Int) (l1 : List Int) : Option (Bool) := if l0 = l1 then some true else none
set_option maxHeartbeats 8000000 in
set_option maxRecDepth 100000 in
theorem larderref01_Kept.calls (A0 : Option Addr) (c0 : Nat) (l0 : List Int) (A1 : Option Addr) (c1 : Nat) (l1 : List Int) (r : Bool) (w : World) (hr0 : Kd.C (Kd.int .u8) w A0 l0.length l0) (hc0 : l0.length ≤ c0) (hr1 : Kd.C (Kd.int .u8) w A1 l1.length l1) (hc1 : l1.length ≤ c1) (hsp : Kd.C (Kd.int .u8) w A0 (l0 ++ marks9).length (l0 ++ marks9)) (hcp : (l0 ++ marks9).length ≤ c0) (h : larderref01_Kept.f l0 l1 = some r) :
    Calls Try.prog 18 #[.slice A0 l0.length c0, .slice A1 l1.length c1] w fun e w' => e = .returned (.bool r) ∧ Drawn0 w w' := by
  unfold larderref01_Kept.f at h
  by_cases he : l0 = l1
  · rw [if_pos he] at h
    obtain rfl := Option.some.inj h
    subst he
    clear h
    obtain ⟨y, hy⟩ : ∃ y, l0 ++ marks9 = y := ⟨_, rfl⟩
    have hfl : y.length = l0.length + 9 := by rw [← hy, List.length_append]; rfl
    have hrd : ∀ x : Int, 0 ≤ x → x < 9 → rd y ((l0.length : Int) + x) = (wrap64 (208 + x)) % 256 := fun x h0 h1 => by rw [← hy]; exact marks9_rd l0 x h0 h1
    rw [hy] at hsp hcp
    clear hy
    have HRD := Aside0.mk hrd
    clear hrd
    have hmx : y.length ≤ 9223372036854775807 := (Kd.reads_of_C (d := (0 : Int)) (h1 := fun _ => rfl) hsp).2.1
    obtain ⟨ji8, hji8⟩ : ∃ j_ : Int, (wrap64 ((l0.length : Int) + 9)) = j_ := ⟨_, rfl⟩
    have hv8 : ji8 = (l0.length : Int) + 9 := by rw [← hji8]; unfold wrap64; omega
    have HFN := Aside0.mk (show ji8.toNat = y.length by omega)
    have HV8 := Aside0.mk hv8
    have HMX := Aside0.mk hmx
    have HFL := Aside0.mk hfl
    have HR0 := Aside0.mk hr0
    have HC0 := Aside0.mk hc0
    clear hr0 hc0
    have HR1 := Aside0.mk hr1
    have HC1 := Aside0.mk hc1
    clear hr1 hc1
    have HSP := Aside0.mk hsp
    have HCP := Aside0.mk hcp
    clear hsp hcp hv8 hmx hfl
    have c4b0 : ((l0.length : Int) == (l0.length : Int)) = true := beq_self_eq_true _
    have c4b1 : ((l0.length : Int) != (l0.length : Int)) = false := bne_self_eq_false _
    have c4b2 : (l0.length == l0.length) = true := beq_self_eq_true _
    have hcv5 := Kd.C_string (P := Try.prog) (A := A0) (c := c0) Try.underlying26 Try.underlying5 Try.underlying9 HR0.out
    have hcv6 := Kd.C_string (P := Try.prog) (A := A1) (c := c1) Try.underlying26 Try.underlying5 Try.underlying9 HR1.out
    go_enter Try.func18, Try.ntmps18
    go_upto_region 1 with (fail)
    go_cut [18] (fun v18 wc => v18 = .bool false ∧ Drawn0 w wc)
    case first =>
      go_wp2
      go_meet
      case rel => exact ⟨by first | rfl | (simp; done) | (simp [*]; done), by repeat (first | exact Drawn0.refl _ | apply Drawn0.step)⟩
    case rest =>
      clear hcv5 hcv6 c4b0 c4b1 c4b2
      obtain ⟨rfl, ⟨mc2, rfl⟩⟩ := hcut
      have hji8w : (IntKind.i64.wrap ((l0.length : Int) + 9)) = ji8 := (i64_w _).trans hji8
      have c9b0 : (0 ≤ ji8) = True := eq_true (by have := HV8.out; omega)
      have c9b1 : decide (0 ≤ (ji8)) = true := decide_eq_true (by have := HV8.out; omega)
      obtain ⟨i011, hi011, _, hsz11, _⟩ := info_parts info5
      have hcut11 := cut_cap (P := Try.prog) 26 5 .i64 Try.underlying26 hi011 A0 l0.length c0 ji8 (by have := HV8.out; omega) (by have := HV8.out; have := HFL.out; have := HCP.out; omega)
      rw [HFN.out] at hcut11
      clear hi011 hsz11
      go_wp2
      go_loopg [6] 10 (fun kq v6 w' => ∃ (x6_2 : Int), v6 = .int .i64 x6_2 ∧ Aside0 (0 ≤ x6_2 ∧ x6_2 + (kq : Int) = 10 ∧ x6_2 ≤ 9) ∧ Drawn0 w w')
      case atStart => exact ⟨(0), (by first | rfl | (simp; done) | (simp [*]; done)), ⟨by omega⟩, by repeat (first | exact Drawn0.refl _ | apply Drawn0.step)⟩
      case round =>
        try clear c9b0
        try clear c9b1
        try clear hcut11
        obtain ⟨x6_2, rfl, HA, ⟨m2, rfl⟩⟩ := hrel
        cases gk with
        | zero => exact absurd HA.out (by omega)
        | succ k2 =>
          by_cases c12 : x6_2 < 9
          · have c12b0 : decide (x6_2 < 9) = true := decide_eq_true c12
            have HLT := Aside0.mk c12
            clear c12
            obtain ⟨ji13, hji13⟩ : ∃ j_ : Int, (wrap64 ((l0.length : Int) + x6_2)) = j_ := ⟨_, rfl⟩
            have hji13w : (IntKind.i64.wrap ((l0.length : Int) + x6_2)) = ji13 := (i64_w _).trans hji13
            have HV13 := Aside0.mk (show ji13 = (l0.length : Int) + x6_2 by rw [← hji13]; unfold wrap64; have := HMX.out; have := HA.out; have := HFL.out; have := HLT.out; omega)
            have c16 : (rd y (ji13)) = ((wrap64 (208 + x6_2)) % 256) := by
              rw [HV13.out]
              exact HRD.out x6_2 HA.out.1 HLT.out
            have c16b0 : ((rd y (ji13)) == ((wrap64 (208 + x6_2)) % 256)) = true := beq_iff_eq.mpr c16
            have c16b1 : ((rd y (ji13)) != ((wrap64 (208 + x6_2)) % 256)) = false := bne_eq_false_iff_eq.mpr c16
            clear c16
            have p165 : 0 ≤ ((ji13) : Int) := by have := HV13.out; have := HA.out; omega
            have q165 : (ji13) < (y.length : Int) := by have := HV13.out; have := HA.out; have := HFL.out; have := HLT.out; omega
            obtain ⟨ad165, e165, hx165_0⟩ := Kd.at_int HSP.out (ji13) p165 q165
            cases e165
            have c14b0 : decide (0 ≤ (ji13)) = true := decide_eq_true p165
            have c15b0 : decide ((ji13) < (y.length : Int)) = true := decide_eq_true q165
            replace p165 := eq_true p165
            replace q165 := eq_true q165
            go_wp2
            go_roundg k2
            case measure => omega
            case rel => exact ⟨(wrap64 (x6_2 + 1)), (by first | rfl | (simp; done) | (simp [*]; done)), ⟨by have := HA.out; have := HLT.out; unfold wrap64; omega⟩, by repeat (first | exact Drawn0.refl _ | apply Drawn0.step)⟩
          · have c12b0 : decide (x6_2 < 9) = false := decide_eq_false c12
            clear c12
            go_wp2
            go_ret
            exact ⟨by first | rfl | (simp; done) | (simp [*]; done), by repeat (first | exact Drawn0.refl _ | apply Drawn0.step)⟩
  · rw [if_neg he] at h
    exact absurd h (by simp)

end Go.Proofs.Ytafmoglaockepaa.PG
