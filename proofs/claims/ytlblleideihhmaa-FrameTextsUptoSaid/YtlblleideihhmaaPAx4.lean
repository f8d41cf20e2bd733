-- Written by a program of this session (wip/pp), out of the translation.
import Derived.Test.YtlblleideihhmaaPAx0
import Derived.Test.YtlblleideihhmaaPAx3
namespace Go.Proofs.Ytlblleideihhmaa.PA
open Go.RowKit Go.Proofs.Ytlblleideihhmaa.Mine Go.Proofs.YtlblleideihhmaaW.PrintWords Go.Proofs.YtlblleideihhmaaW.PrintLast Go.Proofs.YtlblleideihhmaaW.PrintMore
attribute [local go_sem] max2_int min2_int max_two min_two max_three min_three max_four min_four   -- for this text's walks alone
set_option linter.unusedVariables false
set_option linter.unusedSimpArgs false

/-! ### larderref01_Int: function 15 -/
def larderref01_Int.f (k : Nat) (l0 : List Int) : Option (Int × Int × Int) := (larderref01_Uint.f k l0).bind fun bt152 => (if bt152.2.2 = 0 then (if (Int.tmod bt152.1 2) = 1 then (some (wrap64 ((wrap64 (-(wrap64 (IntKind.u64.wrap (Int.tdiv bt152.1 2))))) - 1), bt152.2.1, 0)) else (some (wrap64 (IntKind.u64.wrap (Int.tdiv bt152.1 2)), bt152.2.1, 0))) else (some (0, bt152.2.1, bt152.2.2)))
theorem larderref01_Int.mono : ∀ a0 k, LeO (larderref01_Int.f k a0) (larderref01_Int.f (k + 1) a0) := by
  intro a0 k
  unfold larderref01_Int.f
  repeat' first
      | (with_reducible exact larderref01_Uint.mono _ _)
      | (with_reducible exact LeO.refl _)
      | (with_reducible exact LeO.none _)
      | (with_reducible refine LeO.ite ?_ ?_)
      | (with_reducible refine LeO.bind ?_ (fun _ => ?_))
      | exact larderref01_Uint.mono _ _
      | exact LeO.none _
      | refine LeO.ite ?_ ?_
      | refine LeO.bind ?_ (fun _ => ?_)
set_option maxHeartbeats 8000000 in
set_option maxRecDepth 100000 in
theorem larderref01_Int.calls (k : Nat) (A0 : Option Addr) (c0 : Nat) (l0 : List Int) (r1 : Int) (r2 : Int) (r3 : Int) (w : World) (hr0 : Kd.C (Kd.int .u8) w A0 l0.length l0) (hc0 : l0.length ≤ c0) (h : larderref01_Int.f k l0 = some (r1, r2, r3)) :
    Calls Try.prog 15 #[.slice A0 l0.length c0] w fun e w' => e = .returned (.tuple #[.int .i64 r1, .int .i64 r2, .int .i64 r3]) ∧ Drawn0 w w' := by
  have HR0 := Aside0.mk hr0
  have HC0 := Aside0.mk hc0
  clear hr0 hc0
  have H : ((larderref01_Uint.f k l0).bind fun bt152 => (if bt152.2.2 = 0 then (if (Int.tmod bt152.1 2) = 1 then (some (wrap64 ((wrap64 (-(wrap64 (IntKind.u64.wrap (Int.tdiv bt152.1 2))))) - 1), bt152.2.1, 0)) else (some (wrap64 (IntKind.u64.wrap (Int.tdiv bt152.1 2)), bt152.2.1, 0))) else (some (0, bt152.2.1, bt152.2.2)))) = some (r1, r2, r3) := h
  clear h
  replace H := Option.bind_eq_some_iff.mp H
  obtain ⟨⟨t152, t153, t154⟩, A20, H⟩ := H
  replace H : (if t154 = 0 then (if (Int.tmod t152 2) = 1 then (some (wrap64 ((wrap64 (-(wrap64 (IntKind.u64.wrap (Int.tdiv t152 2))))) - 1), t153, 0)) else (some (wrap64 (IntKind.u64.wrap (Int.tdiv t152 2)), t153, 0))) else (some (0, t153, t154))) = some (r1, r2, r3) := H
  have A2 := Aside0.mk A20
  clear A20
  by_cases c3 : t154 = 0
  · rw [if_pos c3] at H
    have c3b0 : (t154 == 0) = true := beq_iff_eq.mpr c3
    have c3b1 : (t154 != 0) = false := bne_eq_false_iff_eq.mpr c3
    clear c3
    by_cases c4 : (Int.tmod t152 2) = 1
    · rw [if_pos c4] at H
      have c4b0 : ((Int.tmod t152 2) == 1) = true := beq_iff_eq.mpr c4
      have c4b1 : ((Int.tmod t152 2) != 1) = false := bne_eq_false_iff_eq.mpr c4
      clear c4
      simp only [Option.some.injEq, Prod.mk.injEq] at H
      obtain ⟨rfl, rfl, rfl⟩ := H
      go_enter Try.func15, Try.ntmps15
      go_wp2_with (first | ((with_reducible refine gate_callee (f := 22) rfl ?_); refine goesL_ (some 10) rfl rfl Try.func22 (by kernel_rfl) rfl #[.slice A0 l0.length c0] rfl (by (try simp only [List.map_toArray, List.map_cons, List.map_nil]); first | done | rfl | (simp only [List.length_drop, List.length_take]; rfl)) ?_; (with_reducible refine (larderref01_Uint.calls k _ _ l0 t152 t153 t154 _ ?side1 ?side2 A2.out).mono ?_); (case side1 => repeat (first | exact HR0.out | (with_reducible refine Kd.C_alloc ?_ _) | (with_reducible refine Kd.C_drewN ?_ _) | (with_reducible refine Kd.C_drew ?_))); (case side2 => exact HC0.out); rintro e w' ⟨rfl, ⟨nd, rfl⟩⟩; refine ⟨_, rfl, ?_⟩))
      go_ret3
      exact ⟨by first | rfl | (simp; done) | (simp [*]; done), by repeat (first | exact Drawn0.refl _ | apply Drawn0.step)⟩
    · rw [if_neg c4] at H
      have c4b0 : ((Int.tmod t152 2) == 1) = false := beq_eq_false_iff_ne.mpr c4
      have c4b1 : ((Int.tmod t152 2) != 1) = true := bne_iff_ne.mpr c4
      simp only [Option.some.injEq, Prod.mk.injEq] at H
      obtain ⟨rfl, rfl, rfl⟩ := H
      go_enter Try.func15, Try.ntmps15
      go_wp2_with (first | ((with_reducible refine gate_callee (f := 22) rfl ?_); refine goesL_ (some 10) rfl rfl Try.func22 (by kernel_rfl) rfl #[.slice A0 l0.length c0] rfl (by (try simp only [List.map_toArray, List.map_cons, List.map_nil]); first | done | rfl | (simp only [List.length_drop, List.length_take]; rfl)) ?_; (with_reducible refine (larderref01_Uint.calls k _ _ l0 t152 t153 t154 _ ?side1 ?side2 A2.out).mono ?_); (case side1 => repeat (first | exact HR0.out | (with_reducible refine Kd.C_alloc ?_ _) | (with_reducible refine Kd.C_drewN ?_ _) | (with_reducible refine Kd.C_drew ?_))); (case side2 => exact HC0.out); rintro e w' ⟨rfl, ⟨nd, rfl⟩⟩; refine ⟨_, rfl, ?_⟩))
      go_ret3
      exact ⟨by first | rfl | (simp; done) | (simp [*]; done), by repeat (first | exact Drawn0.refl _ | apply Drawn0.step)⟩
  · rw [if_neg c3] at H
    have c3b0 : (t154 == 0) = false := beq_eq_false_iff_ne.mpr c3
    have c3b1 : (t154 != 0) = true := bne_iff_ne.mpr c3
    simp only [Option.some.injEq, Prod.mk.injEq] at H
    obtain ⟨rfl, rfl, rfl⟩ := H
    go_enter Try.func15, Try.ntmps15
    go_wp2_with (first | ((with_reducible refine gate_callee (f := 22) rfl ?_); refine goesL_ (some 10) rfl rfl Try.func22 (by kernel_rfl) rfl #[.slice A0 l0.length c0] rfl (by (try simp only [List.map_toArray, List.map_cons, List.map_nil]); first | done | rfl | (simp only [List.length_drop, List.length_take]; rfl)) ?_; (with_reducible refine (larderref01_Uint.calls k _ _ l0 t152 t153 t154 _ ?side1 ?side2 A2.out).mono ?_); (case side1 => repeat (first | exact HR0.out | (with_reducible refine Kd.C_alloc ?_ _) | (with_reducible refine Kd.C_drewN ?_ _) | (with_reducible refine Kd.C_drew ?_))); (case side2 => exact HC0.out); rintro e w' ⟨rfl, ⟨nd, rfl⟩⟩; refine ⟨_, rfl, ?_⟩))
    go_ret3
    exact ⟨by first | rfl | (simp; done) | (simp [*]; done), by repeat (first | exact Drawn0.refl _ | apply Drawn0.step)⟩

/-! ### larderref01_Kept: function 16 (given) -/
def larderref01_Kept.f (l0 : List Int) (l1 : List Int) : Option (Bool) := if l0 = l1 then some true else none
set_option maxHeartbeats 8000000 in
set_option maxRecDepth 100000 in
theorem larderref01_Kept.calls (A0 : Option Addr) (c0 : Nat) (l0 : List Int) (A1 : Option Addr) (c1 : Nat) (l1 : List Int) (r : Bool) (w : World) (hr0 : Kd.C (Kd.int .u8) w A0 l0.length l0) (hc0 : l0.length ≤ c0) (hr1 : Kd.C (Kd.int .u8) w A1 l1.length l1) (hc1 : l1.length ≤ c1) (hsp : Kd.C (Kd.int .u8) w A0 (l0 ++ marks9).length (l0 ++ marks9)) (hcp : (l0 ++ marks9).length ≤ c0) (h : larderref01_Kept.f l0 l1 = some r) :
    Calls Try.prog 16 #[.slice A0 l0.length c0, .slice A1 l1.length c1] w fun e w' => e = .returned (.bool r) ∧ Drawn0 w w' := by
  unfold larderref01_Kept.f at h
  by_cases he : l0 = l1
  · rw [if_pos he] at h
    obtain rfl := Option.some.inj h
    subst he
    clear h
    obtain ⟨y, hy⟩ : ∃ y, l0 ++ marks9 = y := ⟨_, rfl⟩
    have hfl : y.length = l0.length + 9 := by rw [← hy, List.length_append]; rfl
    have hrd : ∀ x : Int, 0 ≤ x → x < 9 → rd y ((l0.length : Int) + x) = (wrap64 (208 + x)) % 256 := fun x h0 h1 => by rw [← hy]; exact marks9_rd l0 x h0 h1
    rw [hy] at hsp hcp
    clear hy
    have HRD := Aside0.mk hrd
    clear hrd
    have hmx : y.length ≤ 9223372036854775807 := (Kd.reads_of_C (d := (0 : Int)) (h1 := fun _ => rfl) hsp).2.1
    obtain ⟨ji8, hji8⟩ : ∃ j_ : Int, (wrap64 ((l0.length : Int) + 9)) = j_ := ⟨_, rfl⟩
    have hv8 : ji8 = (l0.length : Int) + 9 := by rw [← hji8]; unfold wrap64; omega
    have HFN := Aside0.mk (show ji8.toNat = y.length by omega)
    have HV8 := Aside0.mk hv8
    have HMX := Aside0.mk hmx
    have HFL := Aside0.mk hfl
    have HR0 := Aside0.mk hr0
    have HC0 := Aside0.mk hc0
    clear hr0 hc0
    have HR1 := Aside0.mk hr1
    have HC1 := Aside0.mk hc1
    clear hr1 hc1
    have HSP := Aside0.mk hsp
    have HCP := Aside0.mk hcp
    clear hsp hcp hv8 hmx hfl
    have c4b0 : ((l0.length : Int) == (l0.length : Int)) = true := beq_self_eq_true _
    have c4b1 : ((l0.length : Int) != (l0.length : Int)) = false := bne_self_eq_false _
    have c4b2 : (l0.length == l0.length) = true := beq_self_eq_true _
    have hcv5 := Kd.C_string (P := Try.prog) (A := A0) (c := c0) Try.underlying28 Try.underlying5 Try.underlying9 HR0.out
    have hcv6 := Kd.C_string (P := Try.prog) (A := A1) (c := c1) Try.underlying28 Try.underlying5 Try.underlying9 HR1.out
    go_enter Try.func16, Try.ntmps16
    go_upto_region 1 with (fail)
    go_cut [18] (fun v18 wc => v18 = .bool false ∧ Drawn0 w wc)
    case first =>
      go_wp2
      go_meet
      case rel => exact ⟨by first | rfl | (simp; done) | (simp [*]; done), by repeat (first | exact Drawn0.refl _ | apply Drawn0.step)⟩
    case rest =>
      clear hcv5 hcv6 c4b0 c4b1 c4b2
      obtain ⟨rfl, ⟨mc2, rfl⟩⟩ := hcut
      have hji8w : (IntKind.i64.wrap ((l0.length : Int) + 9)) = ji8 := (i64_w _).trans hji8
      have c9b0 : (0 ≤ ji8) = True := eq_true (by have := HV8.out; omega)
      have c9b1 : decide (0 ≤ (ji8)) = true := decide_eq_true (by have := HV8.out; omega)
      obtain ⟨i011, hi011, _, hsz11, _⟩ := info_parts info5
      have hcut11 := cut_cap (P := Try.prog) 28 5 .i64 Try.underlying28 hi011 A0 l0.length c0 ji8 (by have := HV8.out; omega) (by have := HV8.out; have := HFL.out; have := HCP.out; omega)
      rw [HFN.out] at hcut11
      clear hi011 hsz11
      go_wp2
      go_loopg [6] 10 (fun kq v6 w' => ∃ (x6_2 : Int), v6 = .int .i64 x6_2 ∧ Aside0 (0 ≤ x6_2 ∧ x6_2 + (kq : Int) = 10 ∧ x6_2 ≤ 9) ∧ Drawn0 w w')
      case atStart => exact ⟨(0), (by first | rfl | (simp; done) | (simp [*]; done)), ⟨by omega⟩, by repeat (first | exact Drawn0.refl _ | apply Drawn0.step)⟩
      case round =>
        try clear c9b0
        try clear c9b1
        try clear hcut11
        obtain ⟨x6_2, rfl, HA, ⟨m2, rfl⟩⟩ := hrel
        cases gk with
        | zero => exact absurd HA.out (by omega)
        | succ k2 =>
          by_cases c12 : x6_2 < 9
          · have c12b0 : decide (x6_2 < 9) = true := decide_eq_true c12
            have HLT := Aside0.mk c12
            clear c12
            obtain ⟨ji13, hji13⟩ : ∃ j_ : Int, (wrap64 ((l0.length : Int) + x6_2)) = j_ := ⟨_, rfl⟩
            have hji13w : (IntKind.i64.wrap ((l0.length : Int) + x6_2)) = ji13 := (i64_w _).trans hji13
            have HV13 := Aside0.mk (show ji13 = (l0.length : Int) + x6_2 by rw [← hji13]; unfold wrap64; have := HMX.out; have := HA.out; have := HFL.out; have := HLT.out; omega)
            have c16 : (rd y (ji13)) = ((wrap64 (208 + x6_2)) % 256) := by
              rw [HV13.out]
              exact HRD.out x6_2 HA.out.1 HLT.out
            have c16b0 : ((rd y (ji13)) == ((wrap64 (208 + x6_2)) % 256)) = true := beq_iff_eq.mpr c16
            have c16b1 : ((rd y (ji13)) != ((wrap64 (208 + x6_2)) % 256)) = false := bne_eq_false_iff_eq.mpr c16
            clear c16
            have p165 : 0 ≤ ((ji13) : Int) := by have := HV13.out; have := HA.out; omega
            have q165 : (ji13) < (y.length : Int) := by have := HV13.out; have := HA.out; have := HFL.out; have := HLT.out; omega
            obtain ⟨ad165, e165, hx165_0⟩ := Kd.at_int HSP.out (ji13) p165 q165
            cases e165
            have c14b0 : decide (0 ≤ (ji13)) = true := decide_eq_true p165
            have c15b0 : decide ((ji13) < (y.length : Int)) = true := decide_eq_true q165
            replace p165 := eq_true p165
            replace q165 := eq_true q165
            go_wp2
            go_roundg k2
            case measure => omega
            case rel => exact ⟨(wrap64 (x6_2 + 1)), (by first | rfl | (simp; done) | (simp [*]; done)), ⟨by have := HA.out; have := HLT.out; unfold wrap64; omega⟩, by repeat (first | exact Drawn0.refl _ | apply Drawn0.step)⟩
          · have c12b0 : decide (x6_2 < 9) = false := decide_eq_false c12
            clear c12
            go_wp2
            go_ret
            exact ⟨by first | rfl | (simp; done) | (simp [*]; done), by repeat (first | exact Drawn0.refl _ | apply Drawn0.step)⟩
  · rw [if_neg he] at h
    exact absurd h (by simp)

end Go.Proofs.Ytlblleideihhmaa.PA
