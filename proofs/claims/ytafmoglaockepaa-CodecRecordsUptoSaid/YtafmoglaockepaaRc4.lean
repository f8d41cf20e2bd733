/- What the codec writes and reads: texts of this session joined, with what is not needed left out. -/
import Derived.Test.YtafmoglaockepaaRc2
import Derived.Test.YtafmoglaockepaaRc3
import Derived.Deep.RegionHeld3
import Derived.Deep.RegionLaw
import Derived.WalkLawsBesides
import Derived.Defers
import Derived.Recover
section
namespace Go.Proofs.Ytafmoglaockepaa.Cd
open Go Go.RowKit Go.Proofs.Ytafmoglaockepaa.Mine Go.Proofs.Ytafmoglaockepaa.Num Go.Proofs.Ytafmoglaockepaa.PG Go.Proofs.YtafmoglaockepaaW.PrintWords Go.Proofs.YtafmoglaockepaaW.PrintLast Go.Proofs.YtafmoglaockepaaW.PrintMore
attribute [local go_sem] max2_int min2_int max_two min_two max_three min_three max_four min_four
attribute [local go_sem high] eqA110
set_option linter.unusedVariables false
set_option linter.unusedSimpArgs false
set_option maxHeartbeats 8000000
set_option maxRecDepth 100000
def lentS (x : Int) : S110 := ⟨(⟨#[108, 101, 110, 116]⟩ : ByteArray), x⟩
def marksN : List S110 := (List.range 9).map (fun (i : Nat) => lentS ((i : Nat) : Int))
theorem marksN_length : marksN.length = 9 := by simp [marksN]
theorem marksN_get (i : Nat) (h : i < 9) : marksN[i]? = some (lentS (i : Int)) := by
  simp [marksN, List.getElem?_range, h]
theorem marksN_grow {l x3 y : List S110} {x : Int} {kq : Nat} (h : 0 ≤ x ∧ x + ((kq + 1 : Nat) : Int) = 10 ∧ x ≤ 9 ∧ x3 = l ++ marksN.take x.toNat) (hx : x < 9) (hy : y = x3 ++ [lentS x]) :
    0 ≤ wrap64 (x + 1) ∧ wrap64 (x + 1) + (kq : Int) = 10 ∧ wrap64 (x + 1) ≤ 9 ∧ y = l ++ marksN.take (wrap64 (x + 1)).toNat := by
  obtain ⟨h0, h1, _, rfl⟩ := h
  obtain ⟨j, rfl⟩ := Int.eq_ofNat_of_zero_le h0
  have hw : wrap64 ((j : Int) + 1) = ((j + 1 : Nat) : Int) := by unfold wrap64; omega
  have hj : j < 9 := by omega
  rw [hw]
  refine ⟨by omega, by omega, by omega, ?_⟩
  rw [hy, Int.toNat_natCast, Int.toNat_natCast, List.append_assoc]
  congr 1
  rw [take_snoc (marksN_get j hj)]
theorem LentLines_at (A0 : Option Addr) (c0 : Nat) (l0 : List S110) (w : World) (hr0 : Kd.C k110 w A0 l0.length l0) (hc0 : l0.length ≤ c0) (hL : l0.length + 9 < 5864062014805) :
    Calls Try.prog 69 #[.slice A0 l0.length c0] w fun e w' => ∃ v0_ : Value, e = .returned (v0_) ∧ Kd.R k110 110 w' w.heap.size (fun _ => True) v0_ l0 ∧ (Kd.C k110 w' (adOf v0_) (l0 ++ marksN).length (l0 ++ marksN) ∧ (l0 ++ marksN).length ≤ capOf v0_) ∧ Below w.heap.size w w' := by
  have hu110 := Try.underlying110
  have HL := Aside0.mk hL
  clear hL
  have HR0 := Aside0.mk hr0
  have HC0 := Aside0.mk hc0
  clear hr0 hc0
  have HB := Aside0.mk (Below.refl w.heap.size w)
  have LMc2 := Aside0.mk (show ([] : List S110).length + l0.length < 5864062014805 by have := HL.out; simp; omega)
  obtain ⟨y191, hy191⟩ : ∃ y_ : List S110, y_ = (([] : List S110) ++ l0) := ⟨_, rfl⟩
  have Ny191 := Aside0.mk hy191
  clear hy191
  go_enter Try.func69, Try.ntmps69
  go_wp2_with (first | ((with_reducible refine gate_builtin (b := .append) (xs := #[.tmp 5, .tmp 6]) rfl ?_); at_builtin; refine Kd.R_append_rows k110 (w0 := w) w.heap.size rfl (.tmp 5) (.tmp 6) 38 110 (.agg #[(.string ⟨#[]⟩), (.int .i64 0)]) 24 rfl Try.underlying38 info110 rfl (by decide) (by omega) (.slice none 0 0) ([] : List (S110)) l0 _ _ _ (fun _ => True) (fun _ => False) rfl rfl ?aO ?aR (fun _ _ h => h) (fun _ h => h.elim) ?aF ?aB ?aS ?aL ?_; (case aR => repeat (first | exact HR0.out | (with_reducible refine Kd.C_alloc ?_ _) | (with_reducible refine Kd.C_drewN ?_ _) | (with_reducible refine Kd.C_drew ?_))); (case aB => exact (by repeat (first | (with_reducible first | exact HB.out | apply below_alloc | apply pw_below_drewN | apply below_drew1) | exact HB.out))); (case aF => exact (fun _ _ => trivial)); (case aO => exact ((Kd.R_nil _ _ _ _ (fun _ => True)))); (case aS => exact (below_size (by repeat (first | (with_reducible first | exact HB.out | apply below_alloc | apply pw_below_drewN | apply below_drew1) | exact HB.out)))); (case aL => have := LMc2.out; omega); intro v192 w3 ho hb hg hat; rw [← Ny191.out] at ho; have n0_ := Aside0.mk (hb); have n1_ := Aside0.mk (ho); clear HB; have HB := n0_; have HO193 := n1_; clear n0_ n1_; clear ho hb hg hat))
  go_loopg [3, 4] 10 (fun kq v3 v4 w' => ∃ (x3_1 : List S110) (x4_1 : Int), v4 = .int .i64 x4_1 ∧ Aside0 (0 ≤ x4_1 ∧ x4_1 + (kq : Int) = 10 ∧ x4_1 ≤ 9 ∧ x3_1 = l0 ++ marksN.take x4_1.toNat) ∧ Aside0 (Kd.R k110 110 w' w.heap.size (fun _ => True) v3 x3_1) ∧ Aside0 (Below w.heap.size w w'))
  case atStart => exact ⟨(y191), (0), (by first | rfl | (simp; done) | (simp [*]; done)), ⟨by rw [Ny191.out]; simp⟩, ⟨by (with_reducible repeat (first | apply Kd.R_alloc | apply Kd.R_drewN | apply Kd.R_drew)); exact HO193.out⟩, ⟨by repeat (first | (with_reducible first | exact HB.out | apply below_alloc | apply pw_below_drewN | apply below_drew1) | exact HB.out)⟩⟩
  case round =>
    obtain ⟨x3_1, x4_1, rfl, HA, HO_3, HB⟩ := hrel
    cases gk with
    | zero => exact absurd HA.out (by omega)
    | succ k1 =>
      by_cases c4 : x4_1 < 9
      · have c4b0 : decide (x4_1 < 9) = true := decide_eq_true c4
        have HLT := Aside0.mk c4
        clear c4
        have LMc5 := Aside0.mk (show x3_1.length < 5864062014805 by rw [HA.out.2.2.2, List.length_append, List.length_take]; have := HL.out; have := marksN_length; omega)
        obtain ⟨y194, hy194⟩ : ∃ y_ : List S110, y_ = (x3_1 ++ [(⟨(⟨#[108, 101, 110, 116]⟩ : ByteArray), x4_1⟩ : S110)]) := ⟨_, rfl⟩
        have Ny194 := Aside0.mk hy194
        clear hy194
        go_wp2_with (first | ((with_reducible refine gate_builtin (b := .append) (xs := #[.tmp 12, .tmp 15]) rfl ?_); at_builtin; refine Kd.R_append k110 (w0 := w) w.heap.size rfl (.tmp 12) (.tmp 15) 38 110 (.agg #[(.string ⟨#[]⟩), (.int .i64 0)]) 24 rfl Try.underlying38 info110 rfl (by decide) (by omega) u3 x3_1 (⟨(⟨#[108, 101, 110, 116]⟩ : ByteArray), x4_1⟩ : S110) [.string (⟨#[108, 101, 110, 116]⟩ : ByteArray), .int .i64 x4_1] (fun _ => True) (fun _ => False) rfl rfl ?aP (fun _ hk => hk.elim) ?aF ?aO ?aB ?aS ?aL ?_; (case aP => exact k110_mkM _ _ _ (⟨(⟨#[108, 101, 110, 116]⟩ : ByteArray), x4_1⟩ : S110)); (case aB => exact (by repeat (first | (with_reducible first | exact HB.out | apply below_alloc | apply pw_below_drewN | apply below_drew1) | exact HB.out))); (case aF => exact (fun _ _ => trivial)); (case aO => exact (by (with_reducible repeat (first | apply Kd.R_alloc | apply Kd.R_drewN | apply Kd.R_drew)); exact HO_3.out)); (case aS => exact (below_size (by repeat (first | (with_reducible first | exact HB.out | apply below_alloc | apply pw_below_drewN | apply below_drew1) | exact HB.out)))); (case aL => have := LMc5.out; omega); intro v195 w6 ho hb hg hat; rw [← Ny194.out] at ho; have n0_ := Aside0.mk (hb); have n1_ := Aside0.mk (ho); clear HB; clear HO_3; have HB := n0_; have HO196 := n1_; clear n0_ n1_; clear ho hb hg hat))
        go_roundg k1
        case measure => omega
        case rel => exact ⟨(y194), (wrap64 (x4_1 + 1)), (by first | rfl | (simp; done) | (simp [*]; done)), ⟨marksN_grow HA.out HLT.out Ny194.out⟩, ⟨by (with_reducible repeat (first | apply Kd.R_alloc | apply Kd.R_drewN | apply Kd.R_drew)); exact HO196.out⟩, ⟨by repeat (first | (with_reducible first | exact HB.out | apply below_alloc | apply pw_below_drewN | apply below_drew1) | exact HB.out)⟩⟩
      · have c4b0 : decide (x4_1 < 9) = false := decide_eq_false c4
        have hx3 : x3_1 = l0 ++ marksN := by
          rw [HA.out.2.2.2, show x4_1.toNat = 9 by have := HA.out; omega, List.take_of_length_le (Nat.le_of_eq marksN_length)]
        clear c4 HA
        have hle : l0.length ≤ x3_1.length := by rw [hx3, List.length_append]; omega
        have HX3 := Aside0.mk hx3
        clear hx3
        have c7b0 : (0 ≤ (l0.length : Int)) = True := eq_true (by omega)
        have c7b1 : decide (0 ≤ (l0.length : Int)) = true := decide_eq_true (by omega)
        have c8b0 : ((l0.length : Int) ≤ (x3_1.length : Int)) = True := eq_true (by omega)
        have c8b1 : decide ((l0.length : Int) ≤ (x3_1.length : Int)) = true := decide_eq_true (by omega)
        obtain ⟨Ao9, co9, eo9⟩ := Kd.R_slice HO_3.out
        subst eo9
        obtain ⟨i010, hi010, _, hsz10, _⟩ := info_parts info110
        have hcut10 := cut_to (P := Try.prog) 38 110 .i64 Try.underlying38 hi010 Ao9 x3_1.length co9 (l0.length : Int) (by omega) (by omega) (Kd.R_reads' HO_3.out).2.1
        have hr10 := Kd.R_take (m := ((l0.length : Int) : Int).toNat) HO_3.out (by omega)
        have HSP := Aside0.mk (Kd.R_reads' HO_3.out).2.2
        have HCP := Aside0.mk (Kd.R_reads' HO_3.out).2.1
        have hy10 : (x3_1.take ((l0.length : Int) : Int).toNat) = l0 := by rw [HX3.out]; simp
        rw [hy10] at hr10
        rw [show ((l0.length : Int) : Int).toNat = l0.length by omega] at hr10 hcut10
        clear hy10 hi010 hsz10 HO_3 hle
        have HO109 := Aside0.mk hr10
        clear hr10
        go_wp2
        go_ret
        exact ⟨.slice Ao9 l0.length co9, by first | rfl | (simp [*]; done), by (with_reducible repeat (first | apply Kd.R_alloc | apply Kd.R_drewN | apply Kd.R_drew)); exact HO109.out, ⟨by rw [← HX3.out]; repeat (first | exact HSP.out | (with_reducible refine Kd.C_alloc ?_ _) | (with_reducible refine Kd.C_drewN ?_ _) | (with_reducible refine Kd.C_drew ?_)), by rw [← HX3.out]; exact HCP.out⟩, by repeat (first | (with_reducible first | exact HB.out | apply below_alloc | apply pw_below_drewN | apply below_drew1) | exact HB.out)⟩
theorem KeptLines_at (k : Nat) (A0 : Option Addr) (c0 : Nat) (A1 : Option Addr) (c1 : Nat) (l1 y200 : List S110) (r : Bool) (w : World) (hr0 : Kd.C k110 w A0 y200.length y200) (hyl : y200.length = l1.length + 9) (hc0 : y200.length ≤ c0) (hr1 : Kd.C k110 w A1 l1.length l1) (hc1 : l1.length ≤ c1) (hl1 : l1.length < 9223372036854775000) (H : larderref01_KeptLines.l0 k l1 y200 0 = some r) :
    Calls Try.prog 73 #[.slice A0 l1.length c0, .slice A1 l1.length c1] w fun e w' => e = .returned (.bool r) ∧ Drawn0 w w' := by
  have hu110 := Try.underlying110
  have HR203 := Aside0.mk hr0
  have HC203 := Aside0.mk hc0
  have HR1 := Aside0.mk hr1
  have HC1 := Aside0.mk hc1
  have H' := Aside0.mk H
  have c3b0 : ((l1.length : Int) == (l1.length : Int)) = true := beq_self_eq_true _
  have c3b1 : ((l1.length : Int) != (l1.length : Int)) = false := bne_self_eq_false _
  have c3b2 : (l1.length == l1.length) = true := beq_self_eq_true _
  obtain ⟨ji4, hji4⟩ : ∃ j_ : Int, (wrap64 ((l1.length : Int) + 9)) = j_ := ⟨_, rfl⟩
  have hv : ji4 = (l1.length : Int) + 9 := by rw [← hji4]; unfold wrap64; omega
  have hji4w : (IntKind.i64.wrap ((l1.length : Int) + 9)) = ji4 := (i64_w _).trans hji4
  have c5b0 : (0 ≤ ji4) = True := eq_true (by omega)
  have c5b1 : decide (0 ≤ ji4) = true := decide_eq_true (by omega)
  obtain ⟨i07, hi07, _, hsz7, _⟩ := info_parts info110
  have hcut7 := cut_cap (P := Try.prog) 38 110 .i64 Try.underlying38 hi07 A0 l1.length c0 ji4 (by omega) (by omega)
  rw [show ji4.toNat = y200.length by omega] at hcut7
  clear hr0 hc0 hr1 hc1 H hyl hl1 hv hi07 hsz7
  go_enter Try.func73, Try.ntmps73
  go_wp2
  repeat (go_quiet (fail); try go_wp2)
  go_loopg [6] k (fun kq v6 w' => ∃ (x6_1 : Int), v6 = .int .i64 x6_1 ∧ Aside0 (larderref01_KeptLines.l0 kq l1 y200 x6_1 = some r) ∧ Aside0 (kq ≤ k) ∧ Drawn0 w w')
  case atStart => exact ⟨(0), (by first | rfl | (simp; done) | (simp [*]; done)), H', ⟨Nat.le_refl _⟩, by repeat (first | exact Drawn0.refl _ | apply Drawn0.step)⟩
  case round =>
    clear H'
    try clear c1
    try clear p2
    try clear c3
    try clear c3b0
    try clear c3b1
    try clear c3b2
    try clear c5
    try clear c5b0
    try clear c5b1
    try clear c6
    try clear c6b0
    try clear c6b1
    try clear p6
    try clear c7
    try clear q7
    try clear q7
    obtain ⟨x6_1, rfl, HA, HK1, ⟨m1, rfl⟩⟩ := hrel
    cases gk with
    | zero => exact absurd HA.out (by simp [larderref01_KeptLines.l0])
    | succ k1 =>
      have H := HA.out
      clear HA
      simp only [larderref01_KeptLines.l0] at H
      by_cases c8 : x6_1 < (y200.length : Int)
      · rw [if_pos c8] at H
        have c8b0 : decide (x6_1 < (y200.length : Int)) = true := decide_eq_true c8
        clear c8
        by_cases c9 : x6_1 < (l1.length : Int)
        · rw [if_pos c9] at H
          have c9b0 : decide (x6_1 < (l1.length : Int)) = true := decide_eq_true c9
          clear c9
          by_cases c10 : 0 ≤ x6_1
          · rw [if_pos c10] at H
            have c10b0 : decide (0 ≤ x6_1) = true := decide_eq_true c10
            clear c10
            by_cases c11 : (!((((rd_T110 y200 x6_1).f0).toList) == (((rd_T110 l1 x6_1).f0).toList)) || (!(((rd_T110 y200 x6_1).f1) == ((rd_T110 l1 x6_1).f1)))) = true
            · rw [if_pos c11] at H
              have c11b0 : (!((((rd_T110 y200 x6_1).f0).toList) == (((rd_T110 l1 x6_1).f0).toList)) || (!(((rd_T110 y200 x6_1).f1) == ((rd_T110 l1 x6_1).f1)))) = true := c11
              clear c11
              obtain rfl := Option.some.inj H
              have p204 : 0 ≤ (x6_1 : Int) := of_decide_eq_true (by first | (with_reducible assumption) | assumption)
              have q204 : x6_1 < (y200.length : Int) := of_decide_eq_true (by first | (with_reducible assumption) | assumption)
              obtain ⟨ad204, e204, hx204_0, hx204_1⟩ := at_T110 HR203.out x6_1 p204 q204
              cases e204
              replace p204 := eq_true p204
              replace q204 := eq_true q204
              have p205 : 0 ≤ (x6_1 : Int) := of_decide_eq_true (by first | (with_reducible assumption) | assumption)
              have q205 : x6_1 < (l1.length : Int) := of_decide_eq_true (by first | (with_reducible assumption) | assumption)
              obtain ⟨ad205, e205, hx205_0, hx205_1⟩ := at_T110 HR1.out x6_1 p205 q205
              cases e205
              replace p205 := eq_true p205
              replace q205 := eq_true q205
              go_wp2
              repeat (go_quiet (fail); try go_wp2)
              go_ret
              exact ⟨by first | rfl | (simp; done) | (simp only [← hji4] <;> (first | rfl | simp)) | (simp [*]; done), by repeat (first | exact Drawn0.refl _ | apply Drawn0.step)⟩
            · rw [if_neg c11] at H
              have c11b0 : (!((((rd_T110 y200 x6_1).f0).toList) == (((rd_T110 l1 x6_1).f0).toList)) || (!(((rd_T110 y200 x6_1).f1) == ((rd_T110 l1 x6_1).f1)))) = false := by simpa using c11
              clear c11
              by_cases c12 : x6_1 ≥ (l1.length : Int)
              · rw [if_pos c12] at H
                have c12b0 : decide ((l1.length : Int) ≤ x6_1) = true := decide_eq_true c12
                clear c12
                by_cases c13 : (!((((rd_T110 y200 x6_1).f0).toList) == ([108, 101, 110, 116] : List UInt8)) || (!(((rd_T110 y200 x6_1).f1) == (wrap64 (x6_1 - (l1.length : Int)))))) = true
                · rw [if_pos c13] at H
                  have c13b0 : (!((((rd_T110 y200 x6_1).f0).toList) == ([108, 101, 110, 116] : List UInt8)) || (!(((rd_T110 y200 x6_1).f1) == (wrap64 (x6_1 - (l1.length : Int)))))) = true := c13
                  clear c13
                  obtain rfl := Option.some.inj H
                  have p204 : 0 ≤ (x6_1 : Int) := of_decide_eq_true (by first | (with_reducible assumption) | assumption)
                  have q204 : x6_1 < (y200.length : Int) := of_decide_eq_true (by first | (with_reducible assumption) | assumption)
                  obtain ⟨ad204, e204, hx204_0, hx204_1⟩ := at_T110 HR203.out x6_1 p204 q204
                  cases e204
                  replace p204 := eq_true p204
                  replace q204 := eq_true q204
                  have p205 : 0 ≤ (x6_1 : Int) := of_decide_eq_true (by first | (with_reducible assumption) | assumption)
                  have q205 : x6_1 < (l1.length : Int) := of_decide_eq_true (by first | (with_reducible assumption) | assumption)
                  obtain ⟨ad205, e205, hx205_0, hx205_1⟩ := at_T110 HR1.out x6_1 p205 q205
                  cases e205
                  replace p205 := eq_true p205
                  replace q205 := eq_true q205
                  have p206 : 0 ≤ (x6_1 : Int) := of_decide_eq_true (by first | (with_reducible assumption) | assumption)
                  have q206 : x6_1 < (y200.length : Int) := of_decide_eq_true (by first | (with_reducible assumption) | assumption)
                  obtain ⟨ad206, e206, hx206_0, hx206_1⟩ := at_T110 HR203.out x6_1 p206 q206
                  obtain rfl : ad204 = ad206 := (by injection e206)
                  replace p206 := eq_true p206
                  replace q206 := eq_true q206
                  go_wp2
                  repeat (go_quiet (fail); try go_wp2)
                  go_ret
                  exact ⟨by first | rfl | (simp; done) | (simp only [← hji4] <;> (first | rfl | simp)) | (simp [*]; done), by repeat (first | exact Drawn0.refl _ | apply Drawn0.step)⟩
                · rw [if_neg c13] at H
                  have c13b0 : (!((((rd_T110 y200 x6_1).f0).toList) == ([108, 101, 110, 116] : List UInt8)) || (!(((rd_T110 y200 x6_1).f1) == (wrap64 (x6_1 - (l1.length : Int)))))) = false := by simpa using c13
                  clear c13
                  have H' := Aside0.mk H
                  clear H
                  have p204 : 0 ≤ (x6_1 : Int) := of_decide_eq_true (by first | (with_reducible assumption) | assumption)
                  have q204 : x6_1 < (y200.length : Int) := of_decide_eq_true (by first | (with_reducible assumption) | assumption)
                  obtain ⟨ad204, e204, hx204_0, hx204_1⟩ := at_T110 HR203.out x6_1 p204 q204
                  cases e204
                  replace p204 := eq_true p204
                  replace q204 := eq_true q204
                  have p205 : 0 ≤ (x6_1 : Int) := of_decide_eq_true (by first | (with_reducible assumption) | assumption)
                  have q205 : x6_1 < (l1.length : Int) := of_decide_eq_true (by first | (with_reducible assumption) | assumption)
                  obtain ⟨ad205, e205, hx205_0, hx205_1⟩ := at_T110 HR1.out x6_1 p205 q205
                  cases e205
                  replace p205 := eq_true p205
                  replace q205 := eq_true q205
                  have p206 : 0 ≤ (x6_1 : Int) := of_decide_eq_true (by first | (with_reducible assumption) | assumption)
                  have q206 : x6_1 < (y200.length : Int) := of_decide_eq_true (by first | (with_reducible assumption) | assumption)
                  obtain ⟨ad206, e206, hx206_0, hx206_1⟩ := at_T110 HR203.out x6_1 p206 q206
                  obtain rfl : ad204 = ad206 := (by injection e206)
                  replace p206 := eq_true p206
                  replace q206 := eq_true q206
                  go_wp2
                  repeat (go_quiet (fail); try go_wp2)
                  go_roundg k1
                  case measure => have := HK1.out; omega
                  case rel => exact ⟨(wrap64 (x6_1 + 1)), (by first | rfl | (simp; done) | (simp [*]; done)), H', ⟨by have := HK1.out; omega⟩, by repeat (first | exact Drawn0.refl _ | apply Drawn0.step)⟩
              · rw [if_neg c12] at H
                have c12b0 : decide ((l1.length : Int) ≤ x6_1) = false := decide_eq_false c12
                clear c12
                have H' := Aside0.mk H
                clear H
                have p204 : 0 ≤ (x6_1 : Int) := of_decide_eq_true (by first | (with_reducible assumption) | assumption)
                have q204 : x6_1 < (y200.length : Int) := of_decide_eq_true (by first | (with_reducible assumption) | assumption)
                obtain ⟨ad204, e204, hx204_0, hx204_1⟩ := at_T110 HR203.out x6_1 p204 q204
                cases e204
                replace p204 := eq_true p204
                replace q204 := eq_true q204
                have p205 : 0 ≤ (x6_1 : Int) := of_decide_eq_true (by first | (with_reducible assumption) | assumption)
                have q205 : x6_1 < (l1.length : Int) := of_decide_eq_true (by first | (with_reducible assumption) | assumption)
                obtain ⟨ad205, e205, hx205_0, hx205_1⟩ := at_T110 HR1.out x6_1 p205 q205
                cases e205
                replace p205 := eq_true p205
                replace q205 := eq_true q205
                go_wp2
                repeat (go_quiet (fail); try go_wp2)
                go_roundg k1
                case measure => have := HK1.out; omega
                case rel => exact ⟨(wrap64 (x6_1 + 1)), (by first | rfl | (simp; done) | (simp [*]; done)), H', ⟨by have := HK1.out; omega⟩, by repeat (first | exact Drawn0.refl _ | apply Drawn0.step)⟩
          · rw [if_neg c10] at H
            exact absurd H (by simp)
        · rw [if_neg c9] at H
          have c9b0 : decide (x6_1 < (l1.length : Int)) = false := decide_eq_false c9
          clear c9
          by_cases c14 : x6_1 ≥ (l1.length : Int)
          · rw [if_pos c14] at H
            have c14b0 : decide ((l1.length : Int) ≤ x6_1) = true := decide_eq_true c14
            clear c14
            by_cases c15 : 0 ≤ x6_1
            · rw [if_pos c15] at H
              have c15b0 : decide (0 ≤ x6_1) = true := decide_eq_true c15
              clear c15
              by_cases c16 : (!((((rd_T110 y200 x6_1).f0).toList) == ([108, 101, 110, 116] : List UInt8)) || (!(((rd_T110 y200 x6_1).f1) == (wrap64 (x6_1 - (l1.length : Int)))))) = true
              · rw [if_pos c16] at H
                have c16b0 : (!((((rd_T110 y200 x6_1).f0).toList) == ([108, 101, 110, 116] : List UInt8)) || (!(((rd_T110 y200 x6_1).f1) == (wrap64 (x6_1 - (l1.length : Int)))))) = true := c16
                clear c16
                obtain rfl := Option.some.inj H
                have p207 : 0 ≤ (x6_1 : Int) := of_decide_eq_true (by first | (with_reducible assumption) | assumption)
                have q207 : x6_1 < (y200.length : Int) := of_decide_eq_true (by first | (with_reducible assumption) | assumption)
                obtain ⟨ad207, e207, hx207_0, hx207_1⟩ := at_T110 HR203.out x6_1 p207 q207
                cases e207
                replace p207 := eq_true p207
                replace q207 := eq_true q207
                go_wp2
                repeat (go_quiet (fail); try go_wp2)
                go_ret
                exact ⟨by first | rfl | (simp; done) | (simp only [← hji4] <;> (first | rfl | simp)) | (simp [*]; done), by repeat (first | exact Drawn0.refl _ | apply Drawn0.step)⟩
              · rw [if_neg c16] at H
                have c16b0 : (!((((rd_T110 y200 x6_1).f0).toList) == ([108, 101, 110, 116] : List UInt8)) || (!(((rd_T110 y200 x6_1).f1) == (wrap64 (x6_1 - (l1.length : Int)))))) = false := by simpa using c16
                clear c16
                have H' := Aside0.mk H
                clear H
                have p207 : 0 ≤ (x6_1 : Int) := of_decide_eq_true (by first | (with_reducible assumption) | assumption)
                have q207 : x6_1 < (y200.length : Int) := of_decide_eq_true (by first | (with_reducible assumption) | assumption)
                obtain ⟨ad207, e207, hx207_0, hx207_1⟩ := at_T110 HR203.out x6_1 p207 q207
                cases e207
                replace p207 := eq_true p207
                replace q207 := eq_true q207
                go_wp2
                repeat (go_quiet (fail); try go_wp2)
                go_roundg k1
                case measure => have := HK1.out; omega
                case rel => exact ⟨(wrap64 (x6_1 + 1)), (by first | rfl | (simp; done) | (simp [*]; done)), H', ⟨by have := HK1.out; omega⟩, by repeat (first | exact Drawn0.refl _ | apply Drawn0.step)⟩
            · rw [if_neg c15] at H
              exact absurd H (by simp)
          · rw [if_neg c14] at H
            have c14b0 : decide ((l1.length : Int) ≤ x6_1) = false := decide_eq_false c14
            clear c14
            have H' := Aside0.mk H
            clear H
            go_wp2
            repeat (go_quiet (fail); try go_wp2)
            go_roundg k1
            case measure => have := HK1.out; omega
            case rel => exact ⟨(wrap64 (x6_1 + 1)), (by first | rfl | (simp; done) | (simp [*]; done)), H', ⟨by have := HK1.out; omega⟩, by repeat (first | exact Drawn0.refl _ | apply Drawn0.step)⟩
      · rw [if_neg c8] at H
        have c8b0 : decide (x6_1 < (y200.length : Int)) = false := decide_eq_false c8
        clear c8
        obtain rfl := Option.some.inj H
        go_wp2
        repeat (go_quiet (fail); try go_wp2)
        go_ret
        exact ⟨by first | rfl | (simp; done) | (simp only [← hji4] <;> (first | rfl | simp)) | (simp [*]; done), by repeat (first | exact Drawn0.refl _ | apply Drawn0.step)⟩
theorem rd110 {l : List S110} {i : Nat} {x : S110} (h : l[i]? = some x) : rd_T110 l (i : Int) = x := by
  unfold rd_T110
  rw [Int.toNat_natCast, List.getD_eq_getElem?_getD, h]
  rfl
theorem keptLines_l0 (l : List S110) (hl : l.length < 9223372036854775000) : ∀ d i : Nat, i + d = l.length + 9 → larderref01_KeptLines.l0 (d + 1) l (l ++ marksN) (i : Int) = some true
  | 0, i, h => by
    unfold larderref01_KeptLines.l0
    rw [if_neg (by rw [List.length_append, marksN_length]; omega)]
  | d + 1, i, h => by
    have ih := keptLines_l0 l hl d (i + 1) (by omega)
    have hw : wrap64 ((i : Int) + 1) = ((i + 1 : Nat) : Int) := by unfold wrap64; omega
    unfold larderref01_KeptLines.l0
    rw [if_pos (by rw [List.length_append, marksN_length]; omega), hw, ih]
    by_cases hi : i < l.length
    · obtain ⟨x, hx⟩ : ∃ x, l[i]? = some x := ⟨_, List.getElem?_eq_getElem hi⟩
      have hx2 : (l ++ marksN)[i]? = some x := by rw [List.getElem?_append_left hi]; exact hx
      rw [if_pos (by omega), if_pos (by omega), rd110 hx, rd110 hx2, if_neg (by simp), if_neg (by omega)]
    · have hx2 : (l ++ marksN)[i]? = some (lentS ((i - l.length : Nat) : Int)) := by rw [List.getElem?_append_right (by omega)]; exact marksN_get _ (by omega)
      have hw2 : wrap64 ((i : Int) - (l.length : Int)) = ((i - l.length : Nat) : Int) := by unfold wrap64; omega
      rw [if_neg (by omega), if_pos (by omega), if_pos (by omega), rd110 hx2, hw2, if_neg (by simp only [lentS]; rw [show ((⟨#[108, 101, 110, 116]⟩ : ByteArray).toList == ([108, 101, 110, 116] : List UInt8)) = true from by decide +kernel]; simp)]
end Go.Proofs.Ytafmoglaockepaa.Cd
end
section
namespace Go.Proofs.Ytafmoglaockepaa.Cd
open Go Go.RowKit Go.Proofs.Ytafmoglaockepaa.Num Go.Proofs.Ytafmoglaockepaa.PG Go.Proofs.YtafmoglaockepaaW.PrintWords Go.Proofs.YtafmoglaockepaaW.PrintLast Go.Proofs.YtafmoglaockepaaW.PrintMore
set_option linter.unusedVariables false
set_option linter.unusedSimpArgs false
set_option maxHeartbeats 4000000
set_option maxRecDepth 100000
def encN (x : S110) : List Int := encT x.f0 ++ encI x.f1
theorem encN_len (x : S110) : (encN x).length ≤ 20 + x.f0.size := by
  have h0 := encT_len x.f0
  have h1 := encI_len x.f1
  unfold encN
  rw [List.length_append]
  omega
theorem w_line {g B gb : Nat} {xs : List Int} {W : World} (k : WrAt g B xs W) (hbx : Rt 92 gb [ptr g] W) (x : S110) (h1 : Int64 x.f1) (hl : xs.length + x.f0.size + 100 < 140737488355328) :
    Calls Try.prog 127 #[.agg #[.string x.f0, .int .i64 x.f1], ptr gb] W fun e w' => e = .returned (.tuple #[]) ∧ WrAt g B (xs ++ encN x) w' ∧ Below B W w' ∧ Others W w' := by
  have HK := Aside0.mk k
  have HBX := Aside0.mk hbx
  have H1 := Aside0.mk h1
  have HL := Aside0.mk hl
  have HS := Aside0.mk k.size
  clear k hbx h1 hl
  go_enter Try.func127, Try.ntmps127
  go_upto_region 1 with fail
  have hr2 : Rt 110 W.heap.size [.string x.f0, .int .i64 x.f1] (W.alloc (.cells #[.string x.f0, .int .i64 x.f1] 110)) := heap_alloc_new W _
  have hb1 : Below W.heap.size W (W.alloc (.cells #[.string x.f0, .int .i64 x.f1] 110)) := below_alloc (Below.refl _ _) _
  obtain ⟨b2, hb2⟩ : ∃ b2, W.heap.size = b2 := ⟨_, rfl⟩
  have K1 := Aside0.mk (HK.out.below hb1)
  have B1 := Aside0.mk (hb1.mono HS.out)
  have O1 := Aside0.mk (Others.of_below hb1)
  have X1 := Aside0.mk (HBX.out.below hb1)
  rw [hb2] at hr2 ⊢
  have R1 := Aside0.mk hr2
  clear hr2 hb1 hb2
  generalize W.alloc (.cells #[.string x.f0, .int .i64 x.f1] 110) = w1 at *
  have c0 := R1.out.cell 0 _ rfl
  have cx := X1.out.cell 0 _ rfl
  go_wp2_with fail
  go_at_call 52
  refine (w_text K1.out x.f0 (by have := HL.out; omega)).mono ?_
  rintro e w2 ⟨rfl, hk, hb, ho⟩
  have K2 := Aside0.mk hk
  have B2 := Aside0.mk (B1.out.trans hb)
  have O2 := Aside0.mk (O1.out.trans ho)
  have R2 := Aside0.mk (ho.row R1.out (by decide) (by decide))
  have X2 := Aside0.mk (ho.row X1.out (by decide) (by decide))
  clear hk hb ho c0 cx
  have c1 := R2.out.cell 1 _ rfl
  have cx := X2.out.cell 0 _ rfl
  go_wp2_with fail
  go_at_call 53
  refine (w_int K2.out x.f1 H1.out (by have := HL.out; have := encT_len x.f0; rw [List.length_append]; omega)).mono ?_
  rintro e w3 ⟨rfl, hk, hb, ho⟩
  have K3 := Aside0.mk hk
  have B3 := Aside0.mk (B2.out.trans hb)
  have O3 := Aside0.mk (O2.out.trans ho)
  have R3 := Aside0.mk (ho.row R2.out (by decide) (by decide))
  have X3 := Aside0.mk (ho.row X2.out (by decide) (by decide))
  clear hk hb ho c1 cx
  go_wp2_with fail
  go_end0
  have e : xs ++ encN x = xs ++ encT x.f0 ++ encI x.f1 := by unfold encN; simp only [List.append_assoc]
  rw [e]
  exact ⟨rfl, K3.out, B3.out, O3.out⟩
def encNs (l : List S110) : List Int := l.flatMap encN
def bulkN (l : List S110) : Nat := (l.map fun x => 20 + x.f0.size).sum
theorem encNs_len : ∀ l : List S110, (encNs l).length ≤ bulkN l
  | [] => by simp [encNs, bulkN]
  | x :: l => by
    have h1 := encNs_len l
    have h2 := encN_len x
    simp only [encNs, bulkN, List.flatMap_cons, List.length_append, List.map_cons, List.sum_cons] at h1 ⊢
    omega
theorem bulkN_take : ∀ (l : List S110) (i : Nat), bulkN (l.take i) ≤ bulkN l
  | [], i => by simp [bulkN]
  | x :: l, 0 => by simp [bulkN]
  | x :: l, i + 1 => by
    have h1 := bulkN_take l i
    simp only [bulkN, List.take_succ_cons, List.map_cons, List.sum_cons] at h1 ⊢
    omega
theorem bulkN_mem : ∀ (l : List S110) (x : S110), x ∈ l → 20 + x.f0.size ≤ bulkN l
  | y :: l, x, h => by
    simp only [bulkN, List.map_cons, List.sum_cons]
    rcases List.mem_cons.1 h with rfl | h
    · omega
    · have := bulkN_mem l x h
      simp only [bulkN] at this
      omega
def LinOk (l : List S110) : Prop := ∀ x ∈ l, Int64 x.f1
theorem w_putLines {g B gb : Nat} {xs : List Int} {W : World} (k : WrAt g B xs W) (hbx : Rt 92 gb [ptr g] W) (A : Option Addr) (n c : Nat) (l : List S110) (hC : ∀ W', Below B W W' → Kd.C k110 W' A n l) (hlo : LinOk l) (hl : xs.length + bulkN l + 200 < 140737488355328) :
    Calls Try.prog 126 #[ptr g, .slice A n c, .func (.func 127) #[] #[ptr gb]] W fun e w' => e = .returned (.tuple #[]) ∧ WrAt g B (xs ++ (encU n ++ encNs l)) w' ∧ Below B W w' ∧ Others W w' := by
  have hln : l.length = n := Kd.C_len (hC W (Below.refl _ _))
  have hn63 := (Kd.C_len (hC W (Below.refl _ _)))
  have hbl : 20 * l.length ≤ bulkN l := by
    clear hC hl hlo hln hn63
    induction l with
    | nil => simp [bulkN]
    | cons x l ih => simp only [bulkN, List.map_cons, List.sum_cons, List.length_cons] at ih ⊢; omega
  have HN := Aside0.mk (show n < 140737488355328 by omega)
  have HLN := Aside0.mk hln
  have HCC := Aside0.mk hC
  have HLO := Aside0.mk hlo
  have HLL := Aside0.mk hl
  have HBX := Aside0.mk hbx
  have HSZ := Aside0.mk k.size
  have HBG := Aside0.mk k.b
  obtain ⟨v, hr, hR⟩ := k.ex
  have HR := Aside0.mk hr
  have HX := Aside0.mk hR
  have HLEN := Aside0.mk (show (xs.length + (encU n).length) * 1 ≤ 140737488355328 by have := encU_len n; omega)
  have c0 := hr.cell 0 _ rfl
  have hw64 : IntKind.u64.wrap (n : Int) = (n : Int) := by rw [IntKind.wrap_u64]; omega
  clear k hr hR hln hn63 hbl hC hlo hl hbx
  go_enter Try.func126, Try.ntmps126
  go_upto_region 0 with fail
  go_region_law (first
    | (go_simp
       go_at_call 125
       refine (frame_PutUint.calls 11 none 0 [] (n : Int) (encU n) _ (Kd.C_nil _ _) (Nat.le_refl _) (by have := putUint_ok 11 (by decide) [] n (by have := HN.out; omega) (by decide); rwa [List.nil_append] at this)).mono ?_
       rintro e wa ⟨v0, rfl, hR, hb⟩
       obtain ⟨Av, cv, rfl, hcv, hC⟩ := Kd.R_reads hR
       have hb0 : Below W.heap.size W wa := (below_drew (Below.refl _ _)).trans hb
       have HRa := Aside0.mk (HR.out.below hb0)
       have HXa := Aside0.mk (Kd.R_below HX.out hb0)
       have HBa := Aside0.mk (hb0.mono HSZ.out)
       have HSB := Aside0.mk (Nat.le_trans HSZ.out hb0.size)
       have HCa := Aside0.mk hC
       have HOa := Aside0.mk (Others.of_below hb0)
       have ca := HRa.out.cell 0 _ rfl
       clear hR hb hcv hC hb0)
    | (refine Kd.R_append_rows_step (Kd.int .u8) (Rr := (Kd.int .u8).K wa) (w0 := W) B (by rfl) (.tmp 12) (.tmp 16) 26 5 (.int .u8 0) 1 rfl Try.underlying26 info5' rfl (by decide) (by decide) v xs (encU n) Av (encU n).length cv (fun _ => True) (fun _ => False) rfl rfl HXa.out HCa.out (fun _ _ h => h) (fun _ h => h.elim) (fun _ _ => trivial) HBa.out HSB.out HLEN.out ?_
       intro v1 w1 ho hb hg hat
       obtain ⟨Al, cl, el⟩ := Kd.R_slice ho
       obtain ⟨n1, hn1⟩ : ∃ n1, (xs ++ encU n).length = n1 := ⟨_, rfl⟩
       rw [hn1] at el
       subst el
       clear hn1
       have hfin := WrAt.appended HRa.out HXa.out HBG.out ho ((Below.refl _ _).grown hg HSB.out (Kd.R_base HXa.out)) hg
       have HFIN := Aside0.mk (show WrAt g B (xs ++ encU n) (w1.setRow g [Value.slice Al n1 cl].toArray) ∧ Below B W (w1.setRow g [Value.slice Al n1 cl].toArray) ∧ Others W (w1.setRow g [Value.slice Al n1 cl].toArray) from ⟨hfin.2.1, HBa.out.trans hfin.2.2.1, HOa.out.trans hfin.2.2.2⟩)
       have HR1 := Aside0.mk hfin.1
       have c1 := hfin.1.cell 0 _ rfl
       have f1 := hfin.1.free 0
       clear ho hb hg hat hfin))
  all_goals
    have e1 := HR1.out.set 0 (.slice Al n1 cl)
    rw [show [v].set 0 (.slice Al n1 cl) = [Value.slice Al n1 cl] from rfl] at e1
    rw [e1]
    clear e1 c0 ca c1 f1 hw64
    have X1 := Aside0.mk (HFIN.out.2.2.row HBX.out (by decide) (by decide))
    generalize w1.setRow g [Value.slice Al n1 cl].toArray = w2 at *
    go_wp2_with fail
    go_loopw [22] (fun p wr => ∃ i : Nat, p = .int .i64 (i : Int) ∧ Aside0 (i ≤ n) ∧ Aside0 (WrAt g B (xs ++ encU n ++ encNs (l.take i)) wr) ∧ Aside0 (Below B W wr) ∧ Aside0 (Others W wr) ∧ Aside0 (Rt 92 gb [ptr g] wr)) (fun p _ => n - (intOf p).toNat)
    · exact ⟨0, rfl, ⟨Nat.zero_le _⟩, ⟨by rw [List.take_zero]; show WrAt g B (xs ++ encU n ++ []) w2; rw [List.append_nil]; exact HFIN.out.1⟩, ⟨HFIN.out.2.1⟩, ⟨HFIN.out.2.2⟩, X1⟩
    · obtain ⟨i, rfl, HI, HK, HB, HO, HXr⟩ := hrel
      by_cases ci : i < n
      · have ci1 : decide ((i : Int) < (n : Int)) = true := decide_eq_true (by omega)
        have ci2 : (i : Int) < (n : Int) := by omega
        have ci3 : (0 : Int) ≤ (i : Int) := by omega
        have hw1 : IntKind.i64.wrap ((i : Int) + 1) = ((i + 1 : Nat) : Int) := by rw [IntWalk.i64_in _ (by have := HN.out; omega)]; omega
        obtain ⟨x, hx⟩ : ∃ x, l[i]? = some x := ⟨_, List.getElem?_eq_getElem (by have := HLN.out; omega)⟩
        obtain ⟨ad, rfl, d0, d1⟩ := at_T110 (HCC.out wr HB.out) (i : Int) ci3 ci2
        have hrd : rd_T110 l (i : Int) = x := by unfold rd_T110; rw [Int.toNat_natCast, List.getD_eq_getElem?_getD, hx]; rfl
        rw [hrd, Int.toNat_natCast] at d0 d1
        have HX2 := Aside0.mk hx
        clear hrd hx
        have hsz : B ≤ wr.heap.size := HK.out.size
        have hba : Below wr.heap.size wr (wr.alloc (.cells #[.string x.f0, .int .i64 x.f1] 110)) := below_alloc (Below.refl _ _) _
        have HK2 := Aside0.mk (HK.out.below hba)
        have HB2 := Aside0.mk (HB.out.trans (hba.mono hsz))
        have HO2 := Aside0.mk (HO.out.trans (Others.of_below hba))
        have HXr2 := Aside0.mk (HXr.out.below hba)
        have hr7 : Rt 110 wr.heap.size [.string x.f0, .int .i64 x.f1] (wr.alloc (.cells #[.string x.f0, .int .i64 x.f1] 110)) := heap_alloc_new wr _
        have s0 := hr7.cell 0 _ rfl
        have s1 := hr7.cell 1 _ rfl
        have hmem : x ∈ l := List.mem_of_getElem? HX2.out
        have HLV := Aside0.mk (HLO.out x hmem)
        have HSM := Aside0.mk (show (xs ++ encU n ++ encNs (l.take i)).length + x.f0.size + 100 < 140737488355328 by
          have h1 := encU_len n
          have h2 := encNs_len (l.take (i + 1))
          have h3 := bulkN_take l (i + 1)
          have h4 := HLL.out
          have h5 := bulkN_mem _ x (show x ∈ l.take (i + 1) by rw [take_snoc HX2.out]; simp)
          have h6 := encNs_len (l.take i)
          have h7 : bulkN (l.take (i + 1)) = bulkN (l.take i) + (20 + x.f0.size) := by rw [take_snoc HX2.out]; simp [bulkN]
          rw [List.length_append, List.length_append]
          omega)
        clear hba hsz hr7 hmem HK
        go_upto_region 4 with fail
        generalize wr.alloc (.cells #[.string x.f0, .int .i64 x.f1] 110) = w5 at *
        go_wp2_with fail
        go_at_call 127
        refine (w_line HK2.out HXr2.out x HLV.out HSM.out).mono ?_
        rintro e w6 ⟨rfl, hk, hb, ho⟩
        have HK3 := Aside0.mk (show WrAt g B (xs ++ encU n ++ encNs (l.take (i + 1))) w6 from by
          have e : xs ++ encU n ++ encNs (l.take (i + 1)) = xs ++ encU n ++ encNs (l.take i) ++ encN x := by
            rw [take_snoc HX2.out]
            simp [encNs]
          rw [e]
          exact hk)
        have HB3 := Aside0.mk (HB2.out.trans hb)
        have HO3 := Aside0.mk (HO2.out.trans ho)
        have HX3 := Aside0.mk (ho.row HXr2.out (by decide) (by decide))
        clear hk hb ho s0 s1 d0 d1
        go_wp2_with fail
        refine ⟨⟨i + 1, rfl, ⟨ci⟩, HK3, HB3, HO3, HX3⟩, ?_⟩
        simp only [intOf]
        omega
      · have ci1 : decide ((i : Int) < (n : Int)) = false := decide_eq_false (by omega)
        go_wp2_with fail
        go_end0
        obtain rfl : i = n := by have := HI.out; omega
        have hk := HK.out
        rw [List.take_of_length_le (Nat.le_of_eq HLN.out), List.append_assoc] at hk
        exact ⟨rfl, hk, HB.out, HO.out⟩
theorem w_lines {g B : Nat} {xs : List Int} {W : World} (k : WrAt g B xs W) (A : Option Addr) (n c : Nat) (l : List S110) (hC : ∀ W', Below B W W' → Kd.C k110 W' A n l) (hlo : LinOk l) (hl : xs.length + bulkN l + 200 < 140737488355328) :
    Calls Try.prog 84 #[ptr g, .slice A n c] W fun e w' => e = .returned (.tuple #[]) ∧ WrAt g B (xs ++ (encU n ++ encNs l)) w' ∧ Below B W w' ∧ Others W w' := by
  have HK := Aside0.mk k
  have HC := Aside0.mk hC
  have HLO := Aside0.mk hlo
  have HLL := Aside0.mk hl
  have hr2 : Rt 92 W.heap.size [ptr g] (W.alloc (.cells #[ptr g] 92)) := heap_alloc_new W _
  have hb1 : Below W.heap.size W (W.alloc (.cells #[ptr g] 92)) := below_alloc (Below.refl _ _) _
  have hmf : ∀ (fn : Fn) (first cap : Array Value) (w : World), (Instr.makeFunc fn first cap).run Try.prog w = .ok (.func fn first cap) w := fun _ _ _ _ => rfl
  clear k hC hlo hl
  go_enter Try.func84, Try.ntmps84
  go_upto_region 1 with fail
  obtain ⟨b2, hb2⟩ : ∃ b2, W.heap.size = b2 := ⟨_, rfl⟩
  have K1 := Aside0.mk (HK.out.below hb1)
  have B1 := Aside0.mk (hb1.mono HK.out.size)
  have O1 := Aside0.mk (Others.of_below hb1)
  rw [hb2] at hr2 ⊢
  have R1 := Aside0.mk hr2
  clear hr2 hb1 hb2
  generalize W.alloc (.cells #[ptr g] 92) = w1 at *
  have c0 := R1.out.cell 0 _ rfl
  go_wp2_with fail
  go_at_call 126
  refine (w_putLines K1.out R1.out A n c l (fun W' hb => HC.out W' (B1.out.trans hb)) HLO.out HLL.out).mono ?_
  rintro e w2 ⟨rfl, hk, hb, ho⟩
  have K2 := Aside0.mk hk
  have B2 := Aside0.mk (B1.out.trans hb)
  have O2 := Aside0.mk (O1.out.trans ho)
  clear hk hb ho c0 hmf
  go_wp2_with fail
  go_end0
  exact ⟨rfl, K2.out, B2.out, O2.out⟩
def encReq (id : ByteArray) (ki : Int) (l : List S110) (ho : ByteArray) (ttl now : Int) : List Int := encT id ++ (encI ki ++ ((encU l.length ++ encNs l) ++ (encT ho ++ (encI ttl ++ encI now))))
theorem w_request {g B : Nat} {xs : List Int} {W : World} (k : WrAt g B xs W) (id : ByteArray) (ki : Int) (A : Option Addr) (n c : Nat) (l : List S110) (ho : ByteArray) (ttl now : Int) (hC : ∀ W', Below B W W' → Kd.C k110 W' A n l) (hlo : LinOk l)
    (h1 : Int64 ki) (h2 : Int64 ttl) (h3 : Int64 now) (hl : xs.length + id.size + ho.size + bulkN l + 400 < 140737488355328) :
    Calls Try.prog 71 #[ptr g, .agg #[.string id, .int .i64 ki, .slice A n c, .string ho, .int .i64 ttl, .int .i64 now]] W fun e w' => e = .returned (.tuple #[]) ∧ WrAt g B (xs ++ encReq id ki l ho ttl now) w' ∧ Below B W w' ∧ Others W w' := by
  have HLL := Aside0.mk hl
  have HN := Aside0.mk (show l.length = n from Kd.C_len (hC W (Below.refl _ _)))
  have HC := Aside0.mk hC
  have HLO := Aside0.mk hlo
  have H1 := Aside0.mk h1
  have H2 := Aside0.mk h2
  have H3 := Aside0.mk h3
  have HT := Aside0.mk (encT_len id)
  have HT2 := Aside0.mk (encT_len ho)
  have HI := Aside0.mk (fun a => encI_len a)
  have HU := Aside0.mk (encU_len n)
  have HE := Aside0.mk (encNs_len l)
  have hr2 : Rt 40 W.heap.size [.string id, .int .i64 ki, .slice A n c, .string ho, .int .i64 ttl, .int .i64 now] (W.alloc (.cells #[.string id, .int .i64 ki, .slice A n c, .string ho, .int .i64 ttl, .int .i64 now] 40)) := heap_alloc_new W _
  have hb1 : Below W.heap.size W (W.alloc (.cells #[.string id, .int .i64 ki, .slice A n c, .string ho, .int .i64 ttl, .int .i64 now] 40)) := below_alloc (Below.refl _ _) _
  have HS := Aside0.mk k.size
  obtain ⟨b2, hb2⟩ : ∃ b2, W.heap.size = b2 := ⟨_, rfl⟩
  have HB2 := Aside0.mk hb2
  have K1 := Aside0.mk (k.below hb1)
  have B1 := Aside0.mk (hb1.mono HS.out)
  have O1 := Aside0.mk (Others.of_below hb1)
  rw [hb2] at hr2
  have R1 := Aside0.mk hr2
  clear k hC hlo hl h1 h2 h3 hr2 hb1 hb2
  go_enter Try.func71, Try.ntmps71
  go_upto_region 1 with fail
  have hb2 := HB2.out
  rw [hb2]
  clear hb2
  generalize W.alloc (.cells #[.string id, .int .i64 ki, .slice A n c, .string ho, .int .i64 ttl, .int .i64 now] 40) = w1 at *
  have c0 := R1.out.cell 0 _ rfl
  go_wp2_with fail
  go_at_call 52
  refine (w_text K1.out id (by have := HLL.out; have := HT.out; have := HT2.out; have := HI.out ki; have := HI.out ttl; have := HI.out now; have := HU.out; have := HE.out; (try simp only [List.length_append]); omega)).mono ?_
  rintro e w2 ⟨rfl, hk, hb, ho⟩
  have K2 := Aside0.mk hk
  have B2 := Aside0.mk (B1.out.trans hb)
  have O2 := Aside0.mk (O1.out.trans ho)
  have R2 := Aside0.mk (ho.row R1.out (by decide) (by decide))
  clear hk hb ho c0
  have c0 := R2.out.cell 1 _ rfl
  go_wp2_with fail
  go_at_call 53
  refine (w_int K2.out ki H1.out (by have := HLL.out; have := HT.out; have := HT2.out; have := HI.out ki; have := HI.out ttl; have := HI.out now; have := HU.out; have := HE.out; (try simp only [List.length_append]); omega)).mono ?_
  rintro e w3 ⟨rfl, hk, hb, ho⟩
  have K3 := Aside0.mk hk
  have B3 := Aside0.mk (B2.out.trans hb)
  have O3 := Aside0.mk (O2.out.trans ho)
  have R3 := Aside0.mk (ho.row R2.out (by decide) (by decide))
  clear hk hb ho c0
  have c0 := R3.out.cell 2 _ rfl
  go_wp2_with fail
  go_at_call 84
  refine (w_lines K3.out A n c l (fun W' hb => HC.out W' (B3.out.trans hb)) HLO.out (by have := HLL.out; have := HT.out; have := HT2.out; have := HI.out ki; have := HI.out ttl; have := HI.out now; have := HU.out; have := HE.out; (try simp only [List.length_append]); omega)).mono ?_
  rintro e w4 ⟨rfl, hk, hb, ho⟩
  have K4 := Aside0.mk hk
  have B4 := Aside0.mk (B3.out.trans hb)
  have O4 := Aside0.mk (O3.out.trans ho)
  have R4 := Aside0.mk (ho.row R3.out (by decide) (by decide))
  clear hk hb ho c0
  have c0 := R4.out.cell 3 _ rfl
  go_wp2_with fail
  go_at_call 52
  refine (w_text K4.out ho (by have := HLL.out; have := HT.out; have := HT2.out; have := HI.out ki; have := HI.out ttl; have := HI.out now; have := HU.out; have := HE.out; (try simp only [List.length_append]); omega)).mono ?_
  rintro e w5 ⟨rfl, hk, hb, ho⟩
  have K5 := Aside0.mk hk
  have B5 := Aside0.mk (B4.out.trans hb)
  have O5 := Aside0.mk (O4.out.trans ho)
  have R5 := Aside0.mk (ho.row R4.out (by decide) (by decide))
  clear hk hb ho c0
  have c0 := R5.out.cell 4 _ rfl
  go_wp2_with fail
  go_at_call 53
  refine (w_int K5.out ttl H2.out (by have := HLL.out; have := HT.out; have := HT2.out; have := HI.out ki; have := HI.out ttl; have := HI.out now; have := HU.out; have := HE.out; (try simp only [List.length_append]); omega)).mono ?_
  rintro e w6 ⟨rfl, hk, hb, ho⟩
  have K6 := Aside0.mk hk
  have B6 := Aside0.mk (B5.out.trans hb)
  have O6 := Aside0.mk (O5.out.trans ho)
  have R6 := Aside0.mk (ho.row R5.out (by decide) (by decide))
  clear hk hb ho c0
  have c0 := R6.out.cell 5 _ rfl
  go_wp2_with fail
  go_at_call 53
  refine (w_int K6.out now H3.out (by have := HLL.out; have := HT.out; have := HT2.out; have := HI.out ki; have := HI.out ttl; have := HI.out now; have := HU.out; have := HE.out; (try simp only [List.length_append]); omega)).mono ?_
  rintro e w7 ⟨rfl, hk, hb, ho⟩
  have K7 := Aside0.mk hk
  have B7 := Aside0.mk (B6.out.trans hb)
  have O7 := Aside0.mk (O6.out.trans ho)
  have R7 := Aside0.mk (ho.row R6.out (by decide) (by decide))
  clear hk hb ho c0
  go_wp2_with fail
  go_end0
  have e : xs ++ encReq id ki l ho ttl now = xs ++ encT id ++ encI ki ++ (encU n ++ encNs l) ++ encT ho ++ encI ttl ++ encI now := by
    unfold encReq
    rw [HN.out]
    simp only [List.append_assoc]
  rw [e]
  exact ⟨rfl, K7.out, B7.out, O7.out⟩
end Go.Proofs.Ytafmoglaockepaa.Cd
end
section
namespace Go.Proofs.Ytafmoglaockepaa.Cd
open Go Go.RowKit Go.Proofs.Ytafmoglaockepaa.Num Go.Proofs.Ytafmoglaockepaa.PG Go.Proofs.YtafmoglaockepaaW.PrintWords Go.Proofs.YtafmoglaockepaaW.PrintLast Go.Proofs.YtafmoglaockepaaW.PrintMore
set_option linter.unusedVariables false
set_option linter.unusedSimpArgs false
set_option maxHeartbeats 4000000
set_option maxRecDepth 100000
def encQ (q : S40) : List Int := encReq q.f0 q.f1 q.f2 q.f3 q.f4 q.f5
def bulkQ (q : S40) : Nat := 60 + q.f0.size + q.f3.size + bulkN q.f2
def ReqOk (q : S40) : Prop := Int64 q.f1 ∧ LinOk q.f2 ∧ Int64 q.f4 ∧ Int64 q.f5
theorem encQ_len (q : S40) : (encQ q).length ≤ bulkQ q := by
  have h0 := encT_len q.f0
  have h1 := encI_len q.f1
  have h2 := encU_len q.f2.length
  have h3 := encNs_len q.f2
  have h4 := encT_len q.f3
  have h5 := encI_len q.f4
  have h6 := encI_len q.f5
  unfold encQ encReq bulkQ
  simp only [List.length_append]
  omega
end Go.Proofs.Ytafmoglaockepaa.Cd
end
section
namespace Go.Proofs.Ytafmoglaockepaa.Cd
open Go Go.RowKit Go.Proofs.Ytafmoglaockepaa.Num Go.Proofs.Ytafmoglaockepaa.PG Go.Proofs.YtafmoglaockepaaW.PrintWords Go.Proofs.YtafmoglaockepaaW.PrintLast Go.Proofs.YtafmoglaockepaaW.PrintMore
set_option linter.unusedVariables false
set_option linter.unusedSimpArgs false
set_option maxHeartbeats 4000000
set_option maxRecDepth 100000
def fault (e p : Int) : Value := .iface 155 (.agg #[.int .i64 e, .int .i64 p])
def gaveUp (e p : Int) : Ending := .panicked [{ v := fault e p, recovered := false }]
structure CrAt (g B : Nat) (A : Option Addr) (n c : Nat) (xs : List Int) (m most : Nat) (W : World) : Prop where
  row : Rt 158 g [.slice A n c, .int .i64 (m : Int), .int .i64 (most : Int)] W
  foot : ∀ W', Below B W W' → Kd.C (Kd.int .u8) W' A n xs
  b : B ≤ g
  nc : n ≤ c
  le : m ≤ n
  big : n < 1000000000
  mb : most < 1000000000
  by_ : IsBytes xs
def Out {α : Type} (g B : Nat) (A : Option Addr) (n c : Nat) (xs : List Int) (most : Nat) (enc : α → Value) (r : Res α) (e : Ending) (w' : World) : Prop :=
  match r with
  | .ok x m' => e = .returned (enc x) ∧ CrAt g B A n c xs m' most w'
  | .fail er p => e = gaveUp er p
theorem CrAt.len {g B : Nat} {A : Option Addr} {n c : Nat} {xs : List Int} {m most : Nat} {W : World} (k : CrAt g B A n c xs m most W) : xs.length = n := Kd.C_len (k.foot W (Below.refl _ _))
theorem CrAt.size {g B : Nat} {A : Option Addr} {n c : Nat} {xs : List Int} {m most : Nat} {W : World} (k : CrAt g B A n c xs m most W) : B ≤ W.heap.size := Nat.le_of_lt (Nat.lt_of_le_of_lt k.b k.row.lt)
theorem CrAt.below {g B : Nat} {A : Option Addr} {n c : Nat} {xs : List Int} {m most : Nat} {W W' : World} (k : CrAt g B A n c xs m most W) (hb : Below W.heap.size W W') : CrAt g B A n c xs m most W' :=
  { k with row := k.row.below hb, foot := fun W2 hb2 => k.foot W2 ((hb.mono k.size).trans hb2) }
theorem CrAt.moved {g B : Nat} {A : Option Addr} {n c : Nat} {xs : List Int} {m m' most : Nat} {W : World} (k : CrAt g B A n c xs m most W) (hm : m' ≤ n) :
    CrAt g B A n c xs m' most (W.setRow g [Value.slice A n c, .int .i64 (m' : Int), .int .i64 (most : Int)].toArray) ∧ Below B W (W.setRow g [Value.slice A n c, .int .i64 (m' : Int), .int .i64 (most : Int)].toArray) ∧ Kept W (W.setRow g [Value.slice A n c, .int .i64 (m' : Int), .int .i64 (most : Int)].toArray) (fun j => j = g) := by
  have hb : Below B W (W.setRow g [Value.slice A n c, .int .i64 (m' : Int), .int .i64 (most : Int)].toArray) := below_setRow' (Below.refl _ _) k.b _
  refine ⟨{ k with row := k.row.row _, foot := fun W2 hb2 => k.foot W2 (hb.trans hb2), le := hm }, hb, ?_⟩
  exact ⟨by rw [setRow_size]; exact Nat.le_refl _, fun j hj hn => setRow_other _ _ _ _ hn⟩
theorem took_ok {g B : Nat} {A : Option Addr} {n c : Nat} {xs : List Int} {m most : Nat} {W : World} (k : CrAt g B A n c xs m most W) (d : Nat) (hd : m + d ≤ n) :
    Calls Try.prog 116 #[ptr g, .int .i64 (d : Int), .int .i64 0] W fun e w' => e = .returned (.tuple #[]) ∧ CrAt g B A n c xs (m + d) most w' ∧ Below B W w' ∧ Kept W w' (fun j => j = g) := by
  have HK := Aside0.mk k
  have HM := Aside0.mk (k.moved (m' := m + d) hd)
  have c1 := k.row.cell 1 _ rfl
  have f1 := k.row.free 1
  have hw : wrap64 ((m : Int) + (d : Int)) = ((m + d : Nat) : Int) := by have := k.big; unfold wrap64; omega
  clear k hd
  go_enter Try.func116, Try.ntmps116
  go_wp2_with fail
  go_end0
  have e1 := HK.out.row.set 1 (.int .i64 ((m + d : Nat) : Int))
  rw [show [Value.slice A n c, .int .i64 (m : Int), .int .i64 (most : Int)].set 1 (.int .i64 ((m + d : Nat) : Int)) = [Value.slice A n c, .int .i64 ((m + d : Nat) : Int), .int .i64 (most : Int)] from rfl] at e1
  rw [show (m : Int) + (d : Int) = ((m + d : Nat) : Int) from by omega, e1]
  exact ⟨rfl, HM.out⟩
theorem took_fail {g B : Nat} {A : Option Addr} {n c : Nat} {xs : List Int} {m most : Nat} {W : World} (k : CrAt g B A n c xs m most W) (d e : Int) (hd : 0 ≤ d ∧ d ≤ 2000000000) (he : e ≠ 0) :
    Calls Try.prog 116 #[ptr g, .int .i64 d, .int .i64 e] W fun e' w' => e' = gaveUp e ((m : Int) + d) ∧ w' = W := by
  have c1 := k.row.cell 1 _ rfl
  have hw : wrap64 ((m : Int) + d) = (m : Int) + d := by have := k.big; have := k.le; unfold wrap64; omega
  have h0 : (e == 0) = false := by simpa using he
  have h1 : decide (e = 0) = false := decide_eq_false he
  clear k hd he
  go_enter Try.func116, Try.ntmps116
  go_wp2_with fail
  exact ⟨rfl, rfl, rfl⟩
theorem CrAt.rest {g B : Nat} {A : Option Addr} {n c : Nat} {xs : List Int} {m most : Nat} {W : World} (k : CrAt g B A n c xs m most W) {W' : World} (hb : Below B W W') : Kd.C (Kd.int .u8) W' (if c = m then A else A.map (·.add m)) (xs.drop m).length (xs.drop m) := by
  have hl := k.len
  have hC := k.foot W' hb
  rw [← hl] at hC
  have h1 := k.le
  have h2 := k.nc
  have := Kd.C_drop (m := m) (c := c) hC (by omega) (by omega)
  rwa [show m * (Kd.int .u8).sz = m from Nat.mul_one m] at this
theorem CrAt.dl {g B : Nat} {A : Option Addr} {n c : Nat} {xs : List Int} {m most : Nat} {W : World} (k : CrAt g B A n c xs m most W) : (xs.drop m).length = n - m := by rw [List.length_drop, k.len]
theorem ug_place (xs : List Int) (m n : Nat) (h : xs.length = n) (hm : m ≤ n) : 0 ≤ (ug 0 0 (xs.drop m)).2.1 ∧ (ug 0 0 (xs.drop m)).2.1 ≤ ((n - m : Nat) : Int) := by
  have := ug_at (xs.drop m) 0 0
  rw [List.length_drop, h] at this
  omega
theorem r_int {g B : Nat} {A : Option Addr} {n c : Nat} {xs : List Int} {m most : Nat} {W : World} (k : CrAt g B A n c xs m most W) :
    Calls Try.prog 62 #[ptr g] W fun e w' => Below B W w' ∧ Kept W w' (fun j => j = g) ∧ Out g B A n c xs most (Value.int .i64) (pI xs m) e w' := by
  have HK := Aside0.mk k
  have c1 : (m : Int) ≤ (n : Int) := by have := k.le; omega
  have c2 : (n : Int) ≤ (c : Int) := by have := k.nc; omega
  have c3 : (0 : Int) ≤ (m : Int) := by omega
  have MKS := Aside0.mk (show ∀ w', Below W.heap.size W w' → (fun w' => w'.cell? ⟨g, 0, none⟩ = some (.slice A n c) ∧ w'.cell? ⟨g, 1, none⟩ = some (.int .i64 (m : Int)) ∧ w'.cell? ⟨g, 2, none⟩ = some (.int .i64 (most : Int))) w' from fun w' hb => by
    have r := HK.out.row.below hb
    exact ⟨r.cell 0 _ rfl, r.cell 1 _ rfl, r.cell 2 _ rfl⟩)
  clear k
  have hdl := HK.out.dl
  obtain ⟨q, hq⟩ : ∃ q, ig (ug 0 0 (xs.drop m)) = q := ⟨_, rfl⟩
  have HQ := Aside0.mk hq
  have hpl := (show 0 ≤ (ig (ug 0 0 (xs.drop m))).2.1 ∧ (ig (ug 0 0 (xs.drop m))).2.1 ≤ ((n - m : Nat) : Int) from ug_place xs m n HK.out.len HK.out.le)
  have HF := Aside0.mk (show ∀ w', Below W.heap.size W w' → Calls Try.prog 117 #[.slice (if c = m then A else A.map (·.add m)) (n - m) (c - m)] w' fun e w2 => e = .returned (.tuple #[.int .i64 q.1, .int .i64 q.2.1, .int .i64 q.2.2]) ∧ Drawn0 w' w2 from fun w' hb => by
    have := frame_Int.calls ((xs.drop m).length + 2) (if c = m then A else A.map (·.add m)) (c - m) (xs.drop m) q.1 q.2.1 q.2.2 w' (HK.out.rest (hb.mono HK.out.size)) (by rw [hdl]; have := HK.out.nc; omega) (by rw [frame_int _ (HK.out.by_.drop m) (by rw [hdl]; have := HK.out.big; omega) _ (by omega), hq])
    rwa [hdl] at this)
  rw [hq] at hpl
  obtain ⟨v, d, er⟩ := q
  obtain ⟨dn, hdn⟩ : ∃ dn : Nat, d = (dn : Int) := ⟨d.toNat, by have h1 : 0 ≤ d := hpl.1; omega⟩
  subst hdn
  have HPL := Aside0.mk (show m + dn ≤ n by have h1 : (dn : Int) ≤ ((n - m : Nat) : Int) := hpl.2; have := HK.out.le; omega)
  clear hdl hq hpl
  go_enter Try.func62, Try.ntmps62
  go_upto_region 1 with fail
  refine wp_region_held_drew (S := fun w' => w'.cell? ⟨g, 0, none⟩ = some (.slice A n c) ∧ w'.cell? ⟨g, 1, none⟩ = some (.int .i64 (m : Int)) ∧ w'.cell? ⟨g, 2, none⟩ = some (.int .i64 (most : Int))) (by kernel_rfl) (MKS.out _ (below_drew (Below.refl _ _))) (fun hHeld => ?_)
  refine wpAnyH_take (i := 0) (oi := { dst := some 7, op := Op.move (Operand.tmp 0), type := 101, pos := "read.go:30", after := #[], guard := none }) (v := ?_) rfl (by kernel_rfl) (by kernel_rfl) (by kernel_rfl) (fun _ _ _ h => h) (Or.inl ⟨by rfl, ?_⟩) hHeld ?_
  rotate_left
  · intro w' hS; obtain ⟨hS0, hS1, hS2⟩ := hS; go_simp; all_goals (with_reducible rfl)
  (try simp only [Act.put, List.setIfInBounds_toArray, List.set_cons_zero, List.set_cons_succ])
  refine wpAnyH_take (i := 1) (oi := { dst := some 8, op := Op.nilCheck (Operand.tmp 7), type := 0, pos := "read.go:30", after := #[{ on := 0, ground := Ground.data }], guard := none }) (v := ?_) rfl (by kernel_rfl) (by kernel_rfl) (by kernel_rfl) (fun _ _ _ h => h) (Or.inl ⟨by rfl, ?_⟩) hHeld ?_
  rotate_left
  · intro w' hS; obtain ⟨hS0, hS1, hS2⟩ := hS; go_simp; all_goals (with_reducible rfl)
  (try simp only [Act.put, List.setIfInBounds_toArray, List.set_cons_zero, List.set_cons_succ])
  refine wpAnyH_take (i := 2) (oi := { dst := some 9, op := Op.fieldAddr 158 (Operand.tmp 8) 0, type := 0, pos := "read.go:30", after := #[{ on := 1, ground := Ground.data }], guard := none }) (v := ?_) rfl (by kernel_rfl) (by kernel_rfl) (by kernel_rfl) (fun _ _ _ h => h) (Or.inl ⟨by rfl, ?_⟩) hHeld ?_
  rotate_left
  · intro w' hS; obtain ⟨hS0, hS1, hS2⟩ := hS; go_simp; all_goals (with_reducible rfl)
  (try simp only [Act.put, List.setIfInBounds_toArray, List.set_cons_zero, List.set_cons_succ])
  refine wpAnyH_take (i := 3) (oi := { dst := some 10, op := Op.load 26 (Operand.tmp 9), type := 26, pos := "read.go:30", after := #[{ on := 2, ground := Ground.data }], guard := none }) (v := ?_) rfl (by kernel_rfl) (by kernel_rfl) (by kernel_rfl) (fun _ _ _ h => h) (Or.inl ⟨by rfl, ?_⟩) hHeld ?_
  rotate_left
  · intro w' hS; obtain ⟨hS0, hS1, hS2⟩ := hS; go_simp; all_goals (with_reducible rfl)
  (try simp only [Act.put, List.setIfInBounds_toArray, List.set_cons_zero, List.set_cons_succ])
  refine wpAnyH_take (i := 4) (oi := { dst := some 11, op := Op.move (Operand.tmp 0), type := 101, pos := "read.go:30", after := #[], guard := none }) (v := ?_) rfl (by kernel_rfl) (by kernel_rfl) (by kernel_rfl) (fun _ _ _ h => h) (Or.inl ⟨by rfl, ?_⟩) hHeld ?_
  rotate_left
  · intro w' hS; obtain ⟨hS0, hS1, hS2⟩ := hS; go_simp; all_goals (with_reducible rfl)
  (try simp only [Act.put, List.setIfInBounds_toArray, List.set_cons_zero, List.set_cons_succ])
  refine wpAnyH_take (i := 5) (oi := { dst := some 12, op := Op.nilCheck (Operand.tmp 11), type := 0, pos := "read.go:30", after := #[{ on := 4, ground := Ground.data }], guard := none }) (v := ?_) rfl (by kernel_rfl) (by kernel_rfl) (by kernel_rfl) (fun _ _ _ h => h) (Or.inl ⟨by rfl, ?_⟩) hHeld ?_
  rotate_left
  · intro w' hS; obtain ⟨hS0, hS1, hS2⟩ := hS; go_simp; all_goals (with_reducible rfl)
  (try simp only [Act.put, List.setIfInBounds_toArray, List.set_cons_zero, List.set_cons_succ])
  refine wpAnyH_take (i := 6) (oi := { dst := some 13, op := Op.fieldAddr 158 (Operand.tmp 12) 1, type := 0, pos := "read.go:30", after := #[{ on := 5, ground := Ground.data }], guard := none }) (v := ?_) rfl (by kernel_rfl) (by kernel_rfl) (by kernel_rfl) (fun _ _ _ h => h) (Or.inl ⟨by rfl, ?_⟩) hHeld ?_
  rotate_left
  · intro w' hS; obtain ⟨hS0, hS1, hS2⟩ := hS; go_simp; all_goals (with_reducible rfl)
  (try simp only [Act.put, List.setIfInBounds_toArray, List.set_cons_zero, List.set_cons_succ])
  refine wpAnyH_take (i := 7) (oi := { dst := some 14, op := Op.load 3 (Operand.tmp 13), type := 3, pos := "read.go:30", after := #[{ on := 6, ground := Ground.data }], guard := none }) (v := ?_) rfl (by kernel_rfl) (by kernel_rfl) (by kernel_rfl) (fun _ _ _ h => h) (Or.inl ⟨by rfl, ?_⟩) hHeld ?_
  rotate_left
  · intro w' hS; obtain ⟨hS0, hS1, hS2⟩ := hS; go_simp; all_goals (with_reducible rfl)
  (try simp only [Act.put, List.setIfInBounds_toArray, List.set_cons_zero, List.set_cons_succ])
  refine wpAnyH_take (i := 8) (oi := { dst := some 15, op := Op.slice 26 (Operand.tmp 10) (some (Operand.tmp 14)) none none, type := 26, pos := "read.go:30", after := #[{ on := 3, ground := Ground.data }, { on := 7, ground := Ground.data }], guard := none }) (v := ?_) rfl (by kernel_rfl) (by kernel_rfl) (by kernel_rfl) (fun _ _ _ h => h) (Or.inl ⟨by rfl, ?_⟩) hHeld ?_
  rotate_left
  · intro w' hS; obtain ⟨hS0, hS1, hS2⟩ := hS; go_simp; all_goals (with_reducible rfl)
  (try simp only [Act.put, List.setIfInBounds_toArray, List.set_cons_zero, List.set_cons_succ])
  refine wpAnyH_ready (rs := [9]) (by kernel_rfl) (by simp) ?_
  refine AllReadyH.cons (o := { dst := some 16, op := Op.call { callee := Callee.value (Operand.func 117), args := #[Operand.tmp 15], argTypes := #[26] }, type := 162, pos := "read.go:30", after := #[{ on := 8, ground := Ground.data }], guard := none }) rfl (fun K hK => ?_) AllReadyH.nil
  go_simp
  go_at_call 117
  refine (HF.out _ (below_drew (Below.refl _ _))).mono ?_
  rintro e wa ⟨rfl, hd⟩
  have HB1 := Aside0.mk (show Below W.heap.size W wa from by
    obtain ⟨md, rfl⟩ := hd
    exact pw_below_drewN (below_drew (Below.refl _ _)) md)
  clear hd
  refine hK.out _ _ (MKS.out _ HB1.out) (fun hHeld => ?_)
  clear hK K
  (try simp only [Act.put, List.setIfInBounds_toArray, List.set_cons_zero, List.set_cons_succ])
  refine wpAnyH_take (i := 10) (oi := { dst := some 6, op := Op.move (Operand.tmp 16), type := 162, pos := "read.go:30", after := #[{ on := 9, ground := Ground.data }], guard := none }) (v := ?_) rfl (by kernel_rfl) (by kernel_rfl) (by kernel_rfl) (fun _ _ _ h => h) (Or.inl ⟨by rfl, ?_⟩) hHeld ?_
  rotate_left
  · intro w' hS; obtain ⟨hS0, hS1, hS2⟩ := hS; go_simp; all_goals (with_reducible rfl)
  (try simp only [Act.put, List.setIfInBounds_toArray, List.set_cons_zero, List.set_cons_succ])
  refine wpAnyH_take (i := 11) (oi := { dst := some 17, op := Op.extract (Operand.tmp 6) 0, type := 3, pos := "read.go:30", after := #[{ on := 10, ground := Ground.data }], guard := none }) (v := ?_) rfl (by kernel_rfl) (by kernel_rfl) (by kernel_rfl) (fun _ _ _ h => h) (Or.inl ⟨by rfl, ?_⟩) hHeld ?_
  rotate_left
  · intro w' hS; obtain ⟨hS0, hS1, hS2⟩ := hS; go_simp; all_goals (with_reducible rfl)
  (try simp only [Act.put, List.setIfInBounds_toArray, List.set_cons_zero, List.set_cons_succ])
  refine wpAnyH_take (i := 12) (oi := { dst := some 18, op := Op.extract (Operand.tmp 6) 1, type := 3, pos := "read.go:30", after := #[{ on := 10, ground := Ground.data }, { on := 14, ground := Ground.gcOnly Departure.lateStores }], guard := none }) (v := ?_) rfl (by kernel_rfl) (by kernel_rfl) (by kernel_rfl) (fun _ _ _ h => h) (Or.inl ⟨by rfl, ?_⟩) hHeld ?_
  rotate_left
  · intro w' hS; obtain ⟨hS0, hS1, hS2⟩ := hS; go_simp; all_goals (with_reducible rfl)
  (try simp only [Act.put, List.setIfInBounds_toArray, List.set_cons_zero, List.set_cons_succ])
  refine wpAnyH_take (i := 13) (oi := { dst := some 19, op := Op.extract (Operand.tmp 6) 2, type := 22, pos := "read.go:30", after := #[{ on := 10, ground := Ground.data }, { on := 15, ground := Ground.gcOnly Departure.lateStores }], guard := none }) (v := ?_) rfl (by kernel_rfl) (by kernel_rfl) (by kernel_rfl) (fun _ _ _ h => h) (Or.inl ⟨by rfl, ?_⟩) hHeld ?_
  rotate_left
  · intro w' hS; obtain ⟨hS0, hS1, hS2⟩ := hS; go_simp; all_goals (with_reducible rfl)
  (try simp only [Act.put, List.setIfInBounds_toArray, List.set_cons_zero, List.set_cons_succ])
  refine wpAnyH_take (i := 14) (oi := { dst := some 3, op := Op.assign (Operand.tmp 17), type := 3, pos := "read.go:30", after := #[{ on := 11, ground := Ground.data }, { on := 9, ground := Ground.chain }, { on := 0, ground := Ground.phase }, { on := 1, ground := Ground.phase }, { on := 2, ground := Ground.phase }, { on := 3, ground := Ground.phase }, { on := 4, ground := Ground.phase }, { on := 5, ground := Ground.phase }, { on := 6, ground := Ground.phase }, { on := 7, ground := Ground.phase }, { on := 8, ground := Ground.phase }, { on := 9, ground := Ground.phase }, { on := 10, ground := Ground.phase }, { on := 11, ground := Ground.phase }, { on := 12, ground := Ground.textOnly Departure.lateStores }, { on := 13, ground := Ground.textOnly Departure.lateStores }], guard := none }) (v := ?_) rfl (by kernel_rfl) (by kernel_rfl) (by kernel_rfl) (fun _ _ _ h => h) (Or.inl ⟨by rfl, ?_⟩) hHeld ?_
  rotate_left
  · intro w' hS; obtain ⟨hS0, hS1, hS2⟩ := hS; go_simp; all_goals (with_reducible rfl)
  (try simp only [Act.put, List.setIfInBounds_toArray, List.set_cons_zero, List.set_cons_succ])
  refine wpAnyH_take (i := 15) (oi := { dst := some 4, op := Op.assign (Operand.tmp 18), type := 3, pos := "read.go:30", after := #[{ on := 12, ground := Ground.data }, { on := 14, ground := Ground.chain }, { on := 0, ground := Ground.phase }, { on := 1, ground := Ground.phase }, { on := 2, ground := Ground.phase }, { on := 3, ground := Ground.phase }, { on := 4, ground := Ground.phase }, { on := 5, ground := Ground.phase }, { on := 6, ground := Ground.phase }, { on := 7, ground := Ground.phase }, { on := 8, ground := Ground.phase }, { on := 9, ground := Ground.phase }, { on := 10, ground := Ground.phase }, { on := 11, ground := Ground.phase }, { on := 12, ground := Ground.phase }, { on := 13, ground := Ground.textOnly Departure.lateStores }, { on := 14, ground := Ground.phase }], guard := none }) (v := ?_) rfl (by kernel_rfl) (by kernel_rfl) (by kernel_rfl) (fun _ _ _ h => h) (Or.inl ⟨by rfl, ?_⟩) hHeld ?_
  rotate_left
  · intro w' hS; obtain ⟨hS0, hS1, hS2⟩ := hS; go_simp; all_goals (with_reducible rfl)
  (try simp only [Act.put, List.setIfInBounds_toArray, List.set_cons_zero, List.set_cons_succ])
  refine wpAnyH_take (i := 16) (oi := { dst := some 5, op := Op.assign (Operand.tmp 19), type := 22, pos := "read.go:30", after := #[{ on := 13, ground := Ground.data }, { on := 15, ground := Ground.chain }, { on := 0, ground := Ground.phase }, { on := 1, ground := Ground.phase }, { on := 2, ground := Ground.phase }, { on := 3, ground := Ground.phase }, { on := 4, ground := Ground.phase }, { on := 5, ground := Ground.phase }, { on := 6, ground := Ground.phase }, { on := 7, ground := Ground.phase }, { on := 8, ground := Ground.phase }, { on := 9, ground := Ground.phase }, { on := 10, ground := Ground.phase }, { on := 11, ground := Ground.phase }, { on := 12, ground := Ground.phase }, { on := 13, ground := Ground.phase }, { on := 14, ground := Ground.phase }, { on := 15, ground := Ground.phase }], guard := none }) (v := ?_) rfl (by kernel_rfl) (by kernel_rfl) (by kernel_rfl) (fun _ _ _ h => h) (Or.inl ⟨by rfl, ?_⟩) hHeld ?_
  rotate_left
  · intro w' hS; obtain ⟨hS0, hS1, hS2⟩ := hS; go_simp; all_goals (with_reducible rfl)
  (try simp only [Act.put, List.setIfInBounds_toArray, List.set_cons_zero, List.set_cons_succ])
  refine wpAnyH_done (by kernel_rfl) ?_ _
  (try simp only [Act.put, List.setIfInBounds_toArray, List.set_cons_zero, List.set_cons_succ])
  clear HF
  generalize (if c = m then A else Option.map (fun x => x.add m) A) = Am at *
  by_cases he : er = 0
  · subst he
    have HP := Aside0.mk (show pI xs m = Res.ok v (m + dn) from by unfold pI took; rw [HQ.out, if_pos rfl]; rfl)
    go_wp2_with fail
    go_at_call 116
    refine (took_ok (HK.out.below HB1.out) dn HPL.out).mono ?_
    rintro e w2 ⟨rfl, hk, hb, hkp⟩
    have K2 := Aside0.mk hk
    have B2 := Aside0.mk ((HB1.out.mono HK.out.size).trans hb)
    have P2 := Aside0.mk ((Kept.of_below HB1.out (fun j => j = g)).then_ hkp (fun _ h => .inl h))
    clear hk hb hkp
    go_wp2_with fail
    go_ret
    refine ⟨B2.out, P2.out, ?_⟩
    rw [HP.out]
    exact ⟨rfl, K2.out⟩
  · have HP := Aside0.mk (show pI xs m = Res.fail er ((m : Int) + (dn : Int)) from by unfold pI took; rw [HQ.out, if_neg he])
    have HE := Aside0.mk he
    clear he
    go_wp2_with fail
    go_at_call 116
    refine (took_fail (HK.out.below HB1.out) (dn : Int) er (by have := HPL.out; have := HK.out.big; omega) HE.out).mono ?_
    rintro e w2 ⟨rfl, rfl⟩
    refine ⟨rfl, HB1.out.mono HK.out.size, Kept.of_below HB1.out _, ?_⟩
    rw [HP.out]
    rfl
theorem tx_place (most : Int) (l : List Int) (hb : IsBytes l) : 0 ≤ (tx most l).2.1 ∧ (tx most l).2.1 ≤ (l.length : Int) := by
  have h1 := ug_at l 0 0
  have h2 := ug_lt l 0 0 (by omega) (by decide) hb
  unfold tx
  repeat' split
  all_goals simp only
  all_goals omega
theorem r_text {g B : Nat} {A : Option Addr} {n c : Nat} {xs : List Int} {m most : Nat} {W : World} (k : CrAt g B A n c xs m most W) :
    Calls Try.prog 61 #[ptr g] W fun e w' => Below B W w' ∧ Kept W w' (fun j => j = g) ∧ Out g B A n c xs most (Value.string) (pT xs most m) e w' := by
  have HK := Aside0.mk k
  have c1 : (m : Int) ≤ (n : Int) := by have := k.le; omega
  have c2 : (n : Int) ≤ (c : Int) := by have := k.nc; omega
  have c3 : (0 : Int) ≤ (m : Int) := by omega
  have MKS := Aside0.mk (show ∀ w', Below W.heap.size W w' → (fun w' => w'.cell? ⟨g, 0, none⟩ = some (.slice A n c) ∧ w'.cell? ⟨g, 1, none⟩ = some (.int .i64 (m : Int)) ∧ w'.cell? ⟨g, 2, none⟩ = some (.int .i64 (most : Int))) w' from fun w' hb => by
    have r := HK.out.row.below hb
    exact ⟨r.cell 0 _ rfl, r.cell 1 _ rfl, r.cell 2 _ rfl⟩)
  clear k
  have hdl := HK.out.dl
  obtain ⟨q, hq⟩ : ∃ q, tx (most : Int) (xs.drop m) = q := ⟨_, rfl⟩
  have HQ := Aside0.mk hq
  have hpl := (show 0 ≤ (tx (most : Int) (xs.drop m)).2.1 ∧ (tx (most : Int) (xs.drop m)).2.1 ≤ ((n - m : Nat) : Int) from by have := tx_place (most : Int) (xs.drop m) (HK.out.by_.drop m); rwa [hdl] at this)
  have HF := Aside0.mk (show ∀ w', Below W.heap.size W w' → Calls Try.prog 115 #[.slice (if c = m then A else A.map (·.add m)) (n - m) (c - m), .int .i64 (most : Int)] w' fun e w2 => e = .returned (.tuple #[.string q.1, .int .i64 q.2.1, .int .i64 q.2.2]) ∧ Below w'.heap.size w' w2 from fun w' hb => by
    have := frame_Text.calls (3 * (xs.drop m).length + 30) (if c = m then A else A.map (·.add m)) (c - m) (xs.drop m) (most : Int) q.1 q.2.1 q.2.2 w' (HK.out.rest (hb.mono HK.out.size)) (by rw [hdl]; have := HK.out.nc; omega) (by rw [(text_ok (3 * (xs.drop m).length + 30) _ most (HK.out.by_.drop m) (by rw [hdl]; have := HK.out.big; omega) (by omega) (by have := HK.out.mb; omega)).1, hq])
    rwa [hdl] at this)
  rw [hq] at hpl
  obtain ⟨v, d, er⟩ := q
  obtain ⟨dn, hdn⟩ : ∃ dn : Nat, d = (dn : Int) := ⟨d.toNat, by have h1 : 0 ≤ d := hpl.1; omega⟩
  subst hdn
  have HPL := Aside0.mk (show m + dn ≤ n by have h1 : (dn : Int) ≤ ((n - m : Nat) : Int) := hpl.2; have := HK.out.le; omega)
  clear hdl hq hpl
  go_enter Try.func61, Try.ntmps61
  go_upto_region 1 with fail
  refine wp_region_held_drew (S := fun w' => w'.cell? ⟨g, 0, none⟩ = some (.slice A n c) ∧ w'.cell? ⟨g, 1, none⟩ = some (.int .i64 (m : Int)) ∧ w'.cell? ⟨g, 2, none⟩ = some (.int .i64 (most : Int))) (by kernel_rfl) (MKS.out _ (below_drew (Below.refl _ _))) (fun hHeld => ?_)
  refine wpAnyH_take (i := 0) (oi := { dst := some 7, op := Op.move (Operand.tmp 0), type := 101, pos := "read.go:36", after := #[], guard := none }) (v := ?_) rfl (by kernel_rfl) (by kernel_rfl) (by kernel_rfl) (fun _ _ _ h => h) (Or.inl ⟨by rfl, ?_⟩) hHeld ?_
  rotate_left
  · intro w' hS; obtain ⟨hS0, hS1, hS2⟩ := hS; go_simp; all_goals (with_reducible rfl)
  (try simp only [Act.put, List.setIfInBounds_toArray, List.set_cons_zero, List.set_cons_succ])
  refine wpAnyH_take (i := 1) (oi := { dst := some 8, op := Op.nilCheck (Operand.tmp 7), type := 0, pos := "read.go:36", after := #[{ on := 0, ground := Ground.data }], guard := none }) (v := ?_) rfl (by kernel_rfl) (by kernel_rfl) (by kernel_rfl) (fun _ _ _ h => h) (Or.inl ⟨by rfl, ?_⟩) hHeld ?_
  rotate_left
  · intro w' hS; obtain ⟨hS0, hS1, hS2⟩ := hS; go_simp; all_goals (with_reducible rfl)
  (try simp only [Act.put, List.setIfInBounds_toArray, List.set_cons_zero, List.set_cons_succ])
  refine wpAnyH_take (i := 2) (oi := { dst := some 9, op := Op.fieldAddr 158 (Operand.tmp 8) 0, type := 0, pos := "read.go:36", after := #[{ on := 1, ground := Ground.data }], guard := none }) (v := ?_) rfl (by kernel_rfl) (by kernel_rfl) (by kernel_rfl) (fun _ _ _ h => h) (Or.inl ⟨by rfl, ?_⟩) hHeld ?_
  rotate_left
  · intro w' hS; obtain ⟨hS0, hS1, hS2⟩ := hS; go_simp; all_goals (with_reducible rfl)
  (try simp only [Act.put, List.setIfInBounds_toArray, List.set_cons_zero, List.set_cons_succ])
  refine wpAnyH_take (i := 3) (oi := { dst := some 10, op := Op.load 26 (Operand.tmp 9), type := 26, pos := "read.go:36", after := #[{ on := 2, ground := Ground.data }], guard := none }) (v := ?_) rfl (by kernel_rfl) (by kernel_rfl) (by kernel_rfl) (fun _ _ _ h => h) (Or.inl ⟨by rfl, ?_⟩) hHeld ?_
  rotate_left
  · intro w' hS; obtain ⟨hS0, hS1, hS2⟩ := hS; go_simp; all_goals (with_reducible rfl)
  (try simp only [Act.put, List.setIfInBounds_toArray, List.set_cons_zero, List.set_cons_succ])
  refine wpAnyH_take (i := 4) (oi := { dst := some 11, op := Op.move (Operand.tmp 0), type := 101, pos := "read.go:36", after := #[], guard := none }) (v := ?_) rfl (by kernel_rfl) (by kernel_rfl) (by kernel_rfl) (fun _ _ _ h => h) (Or.inl ⟨by rfl, ?_⟩) hHeld ?_
  rotate_left
  · intro w' hS; obtain ⟨hS0, hS1, hS2⟩ := hS; go_simp; all_goals (with_reducible rfl)
  (try simp only [Act.put, List.setIfInBounds_toArray, List.set_cons_zero, List.set_cons_succ])
  refine wpAnyH_take (i := 5) (oi := { dst := some 12, op := Op.nilCheck (Operand.tmp 11), type := 0, pos := "read.go:36", after := #[{ on := 4, ground := Ground.data }], guard := none }) (v := ?_) rfl (by kernel_rfl) (by kernel_rfl) (by kernel_rfl) (fun _ _ _ h => h) (Or.inl ⟨by rfl, ?_⟩) hHeld ?_
  rotate_left
  · intro w' hS; obtain ⟨hS0, hS1, hS2⟩ := hS; go_simp; all_goals (with_reducible rfl)
  (try simp only [Act.put, List.setIfInBounds_toArray, List.set_cons_zero, List.set_cons_succ])
  refine wpAnyH_take (i := 6) (oi := { dst := some 13, op := Op.fieldAddr 158 (Operand.tmp 12) 1, type := 0, pos := "read.go:36", after := #[{ on := 5, ground := Ground.data }], guard := none }) (v := ?_) rfl (by kernel_rfl) (by kernel_rfl) (by kernel_rfl) (fun _ _ _ h => h) (Or.inl ⟨by rfl, ?_⟩) hHeld ?_
  rotate_left
  · intro w' hS; obtain ⟨hS0, hS1, hS2⟩ := hS; go_simp; all_goals (with_reducible rfl)
  (try simp only [Act.put, List.setIfInBounds_toArray, List.set_cons_zero, List.set_cons_succ])
  refine wpAnyH_take (i := 7) (oi := { dst := some 14, op := Op.load 3 (Operand.tmp 13), type := 3, pos := "read.go:36", after := #[{ on := 6, ground := Ground.data }], guard := none }) (v := ?_) rfl (by kernel_rfl) (by kernel_rfl) (by kernel_rfl) (fun _ _ _ h => h) (Or.inl ⟨by rfl, ?_⟩) hHeld ?_
  rotate_left
  · intro w' hS; obtain ⟨hS0, hS1, hS2⟩ := hS; go_simp; all_goals (with_reducible rfl)
  (try simp only [Act.put, List.setIfInBounds_toArray, List.set_cons_zero, List.set_cons_succ])
  refine wpAnyH_take (i := 8) (oi := { dst := some 15, op := Op.slice 26 (Operand.tmp 10) (some (Operand.tmp 14)) none none, type := 26, pos := "read.go:36", after := #[{ on := 3, ground := Ground.data }, { on := 7, ground := Ground.data }], guard := none }) (v := ?_) rfl (by kernel_rfl) (by kernel_rfl) (by kernel_rfl) (fun _ _ _ h => h) (Or.inl ⟨by rfl, ?_⟩) hHeld ?_
  rotate_left
  · intro w' hS; obtain ⟨hS0, hS1, hS2⟩ := hS; go_simp; all_goals (with_reducible rfl)
  (try simp only [Act.put, List.setIfInBounds_toArray, List.set_cons_zero, List.set_cons_succ])
  refine wpAnyH_take (i := 9) (oi := { dst := some 16, op := Op.move (Operand.tmp 0), type := 101, pos := "read.go:36", after := #[], guard := none }) (v := ?_) rfl (by kernel_rfl) (by kernel_rfl) (by kernel_rfl) (fun _ _ _ h => h) (Or.inl ⟨by rfl, ?_⟩) hHeld ?_
  rotate_left
  · intro w' hS; obtain ⟨hS0, hS1, hS2⟩ := hS; go_simp; all_goals (with_reducible rfl)
  (try simp only [Act.put, List.setIfInBounds_toArray, List.set_cons_zero, List.set_cons_succ])
  refine wpAnyH_take (i := 10) (oi := { dst := some 17, op := Op.nilCheck (Operand.tmp 16), type := 0, pos := "read.go:36", after := #[{ on := 9, ground := Ground.data }], guard := none }) (v := ?_) rfl (by kernel_rfl) (by kernel_rfl) (by kernel_rfl) (fun _ _ _ h => h) (Or.inl ⟨by rfl, ?_⟩) hHeld ?_
  rotate_left
  · intro w' hS; obtain ⟨hS0, hS1, hS2⟩ := hS; go_simp; all_goals (with_reducible rfl)
  (try simp only [Act.put, List.setIfInBounds_toArray, List.set_cons_zero, List.set_cons_succ])
  refine wpAnyH_take (i := 11) (oi := { dst := some 18, op := Op.fieldAddr 158 (Operand.tmp 17) 2, type := 0, pos := "read.go:36", after := #[{ on := 10, ground := Ground.data }], guard := none }) (v := ?_) rfl (by kernel_rfl) (by kernel_rfl) (by kernel_rfl) (fun _ _ _ h => h) (Or.inl ⟨by rfl, ?_⟩) hHeld ?_
  rotate_left
  · intro w' hS; obtain ⟨hS0, hS1, hS2⟩ := hS; go_simp; all_goals (with_reducible rfl)
  (try simp only [Act.put, List.setIfInBounds_toArray, List.set_cons_zero, List.set_cons_succ])
  refine wpAnyH_take (i := 12) (oi := { dst := some 19, op := Op.load 3 (Operand.tmp 18), type := 3, pos := "read.go:36", after := #[{ on := 11, ground := Ground.data }], guard := none }) (v := ?_) rfl (by kernel_rfl) (by kernel_rfl) (by kernel_rfl) (fun _ _ _ h => h) (Or.inl ⟨by rfl, ?_⟩) hHeld ?_
  rotate_left
  · intro w' hS; obtain ⟨hS0, hS1, hS2⟩ := hS; go_simp; all_goals (with_reducible rfl)
  (try simp only [Act.put, List.setIfInBounds_toArray, List.set_cons_zero, List.set_cons_succ])
  refine wpAnyH_ready (rs := [13]) (by kernel_rfl) (by simp) ?_
  refine AllReadyH.cons (o := { dst := some 20, op := Op.call { callee := Callee.value (Operand.func 115), args := #[Operand.tmp 15, Operand.tmp 19], argTypes := #[26, 3] }, type := 159, pos := "read.go:36", after := #[{ on := 8, ground := Ground.data }, { on := 12, ground := Ground.data }], guard := none }) rfl (fun K hK => ?_) AllReadyH.nil
  go_simp
  go_at_call 115
  refine (HF.out _ (below_drew (Below.refl _ _))).mono ?_
  rintro e wa ⟨rfl, hd⟩
  have HB1 := Aside0.mk (show Below W.heap.size W wa from (below_drew (Below.refl _ _)).trans hd)
  clear hd
  refine hK.out _ _ (MKS.out _ HB1.out) (fun hHeld => ?_)
  clear hK K
  (try simp only [Act.put, List.setIfInBounds_toArray, List.set_cons_zero, List.set_cons_succ])
  refine wpAnyH_take (i := 14) (oi := { dst := some 6, op := Op.move (Operand.tmp 20), type := 159, pos := "read.go:36", after := #[{ on := 13, ground := Ground.data }], guard := none }) (v := ?_) rfl (by kernel_rfl) (by kernel_rfl) (by kernel_rfl) (fun _ _ _ h => h) (Or.inl ⟨by rfl, ?_⟩) hHeld ?_
  rotate_left
  · intro w' hS; obtain ⟨hS0, hS1, hS2⟩ := hS; go_simp; all_goals (with_reducible rfl)
  (try simp only [Act.put, List.setIfInBounds_toArray, List.set_cons_zero, List.set_cons_succ])
  refine wpAnyH_take (i := 15) (oi := { dst := some 21, op := Op.extract (Operand.tmp 6) 0, type := 9, pos := "read.go:36", after := #[{ on := 14, ground := Ground.data }], guard := none }) (v := ?_) rfl (by kernel_rfl) (by kernel_rfl) (by kernel_rfl) (fun _ _ _ h => h) (Or.inl ⟨by rfl, ?_⟩) hHeld ?_
  rotate_left
  · intro w' hS; obtain ⟨hS0, hS1, hS2⟩ := hS; go_simp; all_goals (with_reducible rfl)
  (try simp only [Act.put, List.setIfInBounds_toArray, List.set_cons_zero, List.set_cons_succ])
  refine wpAnyH_take (i := 16) (oi := { dst := some 22, op := Op.extract (Operand.tmp 6) 1, type := 3, pos := "read.go:36", after := #[{ on := 14, ground := Ground.data }, { on := 18, ground := Ground.gcOnly Departure.lateStores }], guard := none }) (v := ?_) rfl (by kernel_rfl) (by kernel_rfl) (by kernel_rfl) (fun _ _ _ h => h) (Or.inl ⟨by rfl, ?_⟩) hHeld ?_
  rotate_left
  · intro w' hS; obtain ⟨hS0, hS1, hS2⟩ := hS; go_simp; all_goals (with_reducible rfl)
  (try simp only [Act.put, List.setIfInBounds_toArray, List.set_cons_zero, List.set_cons_succ])
  refine wpAnyH_take (i := 17) (oi := { dst := some 23, op := Op.extract (Operand.tmp 6) 2, type := 22, pos := "read.go:36", after := #[{ on := 14, ground := Ground.data }, { on := 19, ground := Ground.gcOnly Departure.lateStores }], guard := none }) (v := ?_) rfl (by kernel_rfl) (by kernel_rfl) (by kernel_rfl) (fun _ _ _ h => h) (Or.inl ⟨by rfl, ?_⟩) hHeld ?_
  rotate_left
  · intro w' hS; obtain ⟨hS0, hS1, hS2⟩ := hS; go_simp; all_goals (with_reducible rfl)
  (try simp only [Act.put, List.setIfInBounds_toArray, List.set_cons_zero, List.set_cons_succ])
  refine wpAnyH_take (i := 18) (oi := { dst := some 3, op := Op.assign (Operand.tmp 21), type := 9, pos := "read.go:36", after := #[{ on := 15, ground := Ground.data }, { on := 13, ground := Ground.chain }, { on := 0, ground := Ground.phase }, { on := 1, ground := Ground.phase }, { on := 2, ground := Ground.phase }, { on := 3, ground := Ground.phase }, { on := 4, ground := Ground.phase }, { on := 5, ground := Ground.phase }, { on := 6, ground := Ground.phase }, { on := 7, ground := Ground.phase }, { on := 8, ground := Ground.phase }, { on := 9, ground := Ground.phase }, { on := 10, ground := Ground.phase }, { on := 11, ground := Ground.phase }, { on := 12, ground := Ground.phase }, { on := 13, ground := Ground.phase }, { on := 14, ground := Ground.phase }, { on := 15, ground := Ground.phase }, { on := 16, ground := Ground.textOnly Departure.lateStores }, { on := 17, ground := Ground.textOnly Departure.lateStores }], guard := none }) (v := ?_) rfl (by kernel_rfl) (by kernel_rfl) (by kernel_rfl) (fun _ _ _ h => h) (Or.inl ⟨by rfl, ?_⟩) hHeld ?_
  rotate_left
  · intro w' hS; obtain ⟨hS0, hS1, hS2⟩ := hS; go_simp; all_goals (with_reducible rfl)
  (try simp only [Act.put, List.setIfInBounds_toArray, List.set_cons_zero, List.set_cons_succ])
  refine wpAnyH_take (i := 19) (oi := { dst := some 4, op := Op.assign (Operand.tmp 22), type := 3, pos := "read.go:36", after := #[{ on := 16, ground := Ground.data }, { on := 18, ground := Ground.chain }, { on := 0, ground := Ground.phase }, { on := 1, ground := Ground.phase }, { on := 2, ground := Ground.phase }, { on := 3, ground := Ground.phase }, { on := 4, ground := Ground.phase }, { on := 5, ground := Ground.phase }, { on := 6, ground := Ground.phase }, { on := 7, ground := Ground.phase }, { on := 8, ground := Ground.phase }, { on := 9, ground := Ground.phase }, { on := 10, ground := Ground.phase }, { on := 11, ground := Ground.phase }, { on := 12, ground := Ground.phase }, { on := 13, ground := Ground.phase }, { on := 14, ground := Ground.phase }, { on := 15, ground := Ground.phase }, { on := 16, ground := Ground.phase }, { on := 17, ground := Ground.textOnly Departure.lateStores }, { on := 18, ground := Ground.phase }], guard := none }) (v := ?_) rfl (by kernel_rfl) (by kernel_rfl) (by kernel_rfl) (fun _ _ _ h => h) (Or.inl ⟨by rfl, ?_⟩) hHeld ?_
  rotate_left
  · intro w' hS; obtain ⟨hS0, hS1, hS2⟩ := hS; go_simp; all_goals (with_reducible rfl)
  (try simp only [Act.put, List.setIfInBounds_toArray, List.set_cons_zero, List.set_cons_succ])
  refine wpAnyH_take (i := 20) (oi := { dst := some 5, op := Op.assign (Operand.tmp 23), type := 22, pos := "read.go:36", after := #[{ on := 17, ground := Ground.data }, { on := 19, ground := Ground.chain }, { on := 0, ground := Ground.phase }, { on := 1, ground := Ground.phase }, { on := 2, ground := Ground.phase }, { on := 3, ground := Ground.phase }, { on := 4, ground := Ground.phase }, { on := 5, ground := Ground.phase }, { on := 6, ground := Ground.phase }, { on := 7, ground := Ground.phase }, { on := 8, ground := Ground.phase }, { on := 9, ground := Ground.phase }, { on := 10, ground := Ground.phase }, { on := 11, ground := Ground.phase }, { on := 12, ground := Ground.phase }, { on := 13, ground := Ground.phase }, { on := 14, ground := Ground.phase }, { on := 15, ground := Ground.phase }, { on := 16, ground := Ground.phase }, { on := 17, ground := Ground.phase }, { on := 18, ground := Ground.phase }, { on := 19, ground := Ground.phase }], guard := none }) (v := ?_) rfl (by kernel_rfl) (by kernel_rfl) (by kernel_rfl) (fun _ _ _ h => h) (Or.inl ⟨by rfl, ?_⟩) hHeld ?_
  rotate_left
  · intro w' hS; obtain ⟨hS0, hS1, hS2⟩ := hS; go_simp; all_goals (with_reducible rfl)
  (try simp only [Act.put, List.setIfInBounds_toArray, List.set_cons_zero, List.set_cons_succ])
  refine wpAnyH_done (by kernel_rfl) ?_ _
  (try simp only [Act.put, List.setIfInBounds_toArray, List.set_cons_zero, List.set_cons_succ])
  clear HF
  generalize (if c = m then A else Option.map (fun x => x.add m) A) = Am at *
  by_cases he : er = 0
  · subst he
    have HP := Aside0.mk (show pT xs most m = Res.ok v (m + dn) from by unfold pT took; rw [HQ.out, if_pos rfl]; rfl)
    go_wp2_with fail
    go_at_call 116
    refine (took_ok (HK.out.below HB1.out) dn HPL.out).mono ?_
    rintro e w2 ⟨rfl, hk, hb, hkp⟩
    have K2 := Aside0.mk hk
    have B2 := Aside0.mk ((HB1.out.mono HK.out.size).trans hb)
    have P2 := Aside0.mk ((Kept.of_below HB1.out (fun j => j = g)).then_ hkp (fun _ h => .inl h))
    clear hk hb hkp
    go_wp2_with fail
    go_ret
    refine ⟨B2.out, P2.out, ?_⟩
    rw [HP.out]
    exact ⟨rfl, K2.out⟩
  · have HP := Aside0.mk (show pT xs most m = Res.fail er ((m : Int) + (dn : Int)) from by unfold pT took; rw [HQ.out, if_neg he])
    have HE := Aside0.mk he
    clear he
    go_wp2_with fail
    go_at_call 116
    refine (took_fail (HK.out.below HB1.out) (dn : Int) er (by have := HPL.out; have := HK.out.big; omega) HE.out).mono ?_
    rintro e w2 ⟨rfl, rfl⟩
    refine ⟨rfl, HB1.out.mono HK.out.size, Kept.of_below HB1.out _, ?_⟩
    rw [HP.out]
    rfl
end Go.Proofs.Ytafmoglaockepaa.Cd
end
section
namespace Go.Proofs.Ytafmoglaockepaa.Cd
open Go Go.RowKit Go.Proofs.Ytafmoglaockepaa.Num Go.Proofs.Ytafmoglaockepaa.PG Go.Proofs.YtafmoglaockepaaW.PrintWords Go.Proofs.YtafmoglaockepaaW.PrintLast Go.Proofs.YtafmoglaockepaaW.PrintMore
set_option linter.unusedVariables false
set_option linter.unusedSimpArgs false
set_option maxHeartbeats 4000000
set_option maxRecDepth 100000
theorem CrAt.aside {g B : Nat} {A : Option Addr} {n c : Nat} {xs : List Int} {m most : Nat} {W W' : World} (k : CrAt g B A n c xs m most W) (hb : Below B W W') (hg : W'.heap[g]? = W.heap[g]?) : CrAt g B A n c xs m most W' :=
  { k with row := hg.trans k.row, foot := fun W2 hb2 => k.foot W2 (hb.trans hb2) }
end Go.Proofs.Ytafmoglaockepaa.Cd
end
section
namespace Go.Proofs.Ytafmoglaockepaa.Cd
open Go Go.RowKit Go.Proofs.Ytafmoglaockepaa.Num Go.Proofs.Ytafmoglaockepaa.PG Go.Proofs.YtafmoglaockepaaW.PrintWords Go.Proofs.YtafmoglaockepaaW.PrintLast Go.Proofs.YtafmoglaockepaaW.PrintMore
set_option linter.unusedVariables false
set_option linter.unusedSimpArgs false
set_option maxHeartbeats 4000000
set_option maxRecDepth 100000
def OutR {α : Type} (g B : Nat) (A : Option Addr) (n c : Nat) (xs : List Int) (most : Nat) (enc : α → Value → World → Prop) (r : Res α) (e : Ending) (w' : World) : Prop :=
  match r with
  | .ok x m' => ∃ v, e = .returned v ∧ enc x v w' ∧ CrAt g B A n c xs m' most w'
  | .fail er p => e = gaveUp er p
end Go.Proofs.Ytafmoglaockepaa.Cd
end
section
namespace Go.Proofs.Ytafmoglaockepaa.Cd
open Go Go.RowKit Go.Proofs.Ytafmoglaockepaa.Num Go.Proofs.Ytafmoglaockepaa.PG Go.Proofs.YtafmoglaockepaaW.PrintWords Go.Proofs.YtafmoglaockepaaW.PrintLast Go.Proofs.YtafmoglaockepaaW.PrintMore
set_option linter.unusedVariables false
set_option linter.unusedSimpArgs false
set_option maxHeartbeats 4000000
set_option maxRecDepth 100000
section
variable {P : Program} {ops : Array Oper} {Q : Exit → Act → List Frame → World → Prop} {cs : List Frame}
theorem wpOpsS_of (hl : ¬ LetsOut (fun e a w => Q e a cs w)) : ∀ (l : List Nat) (a : Act) (w : World), wpOps P ops (fun e a' w' => Q e a' cs w') l a w → wpOpsS P ops Q l a cs w
  | [], a, w, h => h
  | i :: rest, a, w, h => by
    simp only [wpOps] at h
    simp only [wpOpsS]
    cases ho : ops[i]? with
    | none =>
      simp only [ho] at h
      exact wpOpsS_of hl rest a w h
    | some o =>
      simp only [ho] at h
      by_cases hw : Region.wanted o (yielded ops a.tmps) = true
      · simp only [hw, if_true] at h ⊢
        rcases h with h | ⟨_, h⟩
        · have h := Oper.wp_mono (fun a w hh => wpOpsS_of hl rest a w hh) h
          unfold Oper.wp at h
          generalize (execOp a.eval o).run P w = r at h ⊢
          split
          · exact h.elim
          · exact h
        · exact absurd h hl
      · simp only [hw] at h ⊢
        exact wpOpsS_of hl rest _ w h
theorem wpS_recovers {id : Nat} {o : Oper} {l : List Oper} {a : Act} {w : World} {v : Value} {cs' : List Frame} (hw : Region.wanted o (yielded (o :: l).toArray a.tmps) = true) (hr : (execOp a.eval o).run P w = .ok .recover w)
    (hrec : recoverD cs = some (v, cs')) (hl : ¬ LetsOut (fun e a w => Q e a cs' w)) (h : wpList P (o :: l).toArray (fun e a' w' => Q e a' cs' w') l (a.put o.dst v) w) : (Code.region id (o :: l).toArray false).wpS P Q a cs w := by
  refine wpS_region ?_
  rw [List.size_toArray, List.length_cons, List.range_eq_range', List.range'_succ]
  simp only [wpOpsS]
  have h0 : (o :: l).toArray[0]? = some o := by simp
  simp only [h0, hw, if_true, hr, hrec]
  refine wpOpsS_of hl _ _ _ ?_
  rw [wpOps_eq_wpList l 1 (by intro j; simp [Nat.add_comm])]
  exact h
theorem wpS_recovers_none {id : Nat} {o : Oper} {l : List Oper} {a : Act} {w : World} (hw : Region.wanted o (yielded (o :: l).toArray a.tmps) = true) (hr : (execOp a.eval o).run P w = .ok .recover w)
    (hrec : recoverD cs = none) (hl : ¬ LetsOut (fun e a w => Q e a cs w)) (h : wpList P (o :: l).toArray (fun e a' w' => Q e a' cs w') l (a.put o.dst .nilIface) w) : (Code.region id (o :: l).toArray false).wpS P Q a cs w := by
  refine wpS_region ?_
  rw [List.size_toArray, List.length_cons, List.range_eq_range', List.range'_succ]
  simp only [wpOpsS]
  have h0 : (o :: l).toArray[0]? = some o := by simp
  simp only [h0, hw, if_true, hr, hrec]
  refine wpOpsS_of hl _ _ _ ?_
  rw [wpOps_eq_wpList l 1 (by intro j; simp [Nat.add_comm])]
  exact h
end
end Go.Proofs.Ytafmoglaockepaa.Cd
end
section
namespace Go.Proofs.Ytafmoglaockepaa.Cd
open Go Go.RowKit Go.Proofs.Ytafmoglaockepaa.Num Go.Proofs.Ytafmoglaockepaa.PG Go.Proofs.YtafmoglaockepaaW.PrintWords Go.Proofs.YtafmoglaockepaaW.PrintLast Go.Proofs.YtafmoglaockepaaW.PrintMore
set_option linter.unusedVariables false
set_option linter.unusedSimpArgs false
set_option maxHeartbeats 4000000
set_option maxRecDepth 100000
def endOf {α : Type} : Res α → Int × Int
  | .ok _ _ => (0, 0)
  | .fail e p => (e, p)
end Go.Proofs.Ytafmoglaockepaa.Cd
end
section
namespace Go.Proofs.Ytafmoglaockepaa.Cd
open Go Go.RowKit Go.Proofs.Ytafmoglaockepaa.Num Go.Proofs.Ytafmoglaockepaa.PG Go.Proofs.YtafmoglaockepaaW.PrintWords Go.Proofs.YtafmoglaockepaaW.PrintLast Go.Proofs.YtafmoglaockepaaW.PrintMore
set_option linter.unusedVariables false
set_option linter.unusedSimpArgs false
set_option maxHeartbeats 4000000
set_option maxRecDepth 100000
theorem setRow_again (W : World) (g : Nat) (xs ys : Array Value) : (W.setRow g xs).setRow g ys = W.setRow g ys := by
  obtain ⟨heap, tape, drawn, os, output⟩ := W
  simp only [World.setRow, World.mk.injEq, and_true]
  apply Array.ext
  · simp
  · intro i h1 h2
    have hi : i < heap.size := by simpa using h1
    by_cases e : g = i
    · subst e
      rcases ho : heap[g] with _ | _ <;> simp [Array.getElem_modify, ho]
    · simp [Array.getElem_modify, e]
end Go.Proofs.Ytafmoglaockepaa.Cd
end
section
namespace Go.Proofs.Ytafmoglaockepaa.Cd
open Go Go.RowKit Go.Proofs.Ytafmoglaockepaa.Num Go.Proofs.Ytafmoglaockepaa.PG Go.Proofs.YtafmoglaockepaaW.PrintWords Go.Proofs.YtafmoglaockepaaW.PrintLast Go.Proofs.YtafmoglaockepaaW.PrintMore
set_option linter.unusedVariables false
set_option linter.unusedSimpArgs false
set_option maxHeartbeats 4000000
set_option maxRecDepth 100000
structure Alive {α : Type} (E : Nat → α → Value → World → Prop) : Prop where
  lower : ∀ {S S' : Nat} {x : α} {v : Value} {w : World}, E S x v w → S' ≤ S → E S' x v w
  keep : ∀ {S : Nat} {x : α} {v : Value} {w w' : World}, E S x v w → (∀ j, S ≤ j → j < w.heap.size → w'.heap[j]? = w.heap[j]?) → E S x v w'
section
variable {α : Type} {E : Nat → α → Value → World → Prop}
theorem Alive.below (h : Alive E) {S : Nat} {x : α} {v : Value} {w w' : World} (e : E S x v w) (hb : Below w.heap.size w w') : E S x v w' := h.keep e (fun j _ hj => hb.block j hj)
theorem Alive.kept (h : Alive E) {S : Nat} {x : α} {v : Value} {w w' : World} {p : Nat → Prop} (e : E S x v w) (hk : Kept w w' p) (hp : ∀ j, S ≤ j → ¬ p j) : E S x v w' := h.keep e (fun j h1 hj => hk.2 j hj (hp j h1))
theorem Alive.row (h : Alive E) {S : Nat} {x : α} {v : Value} {w : World} (e : E S x v w) {b : Nat} (hb : b < S) (cs : Array Value) : E S x v (w.setRow b cs) := h.keep e (fun j h1 _ => setRow_other _ _ _ _ (by omega))
end
theorem alive_R {α : Type} (k : Kd α) (t : Nat) : Alive (fun S l v w => k.R t w S (fun _ => True) v l) :=
  ⟨fun h hs => Kd.R_lower h hs, fun h hk => Kd.R_mono (Kd.R_step (Kd.R_bound h) (fun j hj _ => hk j hj.2.1 hj.2.2.1)) (fun _ _ => trivial)⟩
theorem own_under {α : Type} {k : Kd α} {t S : Nat} {ok : Nat → Prop} {w : World} {v : Value} {l : List α} (h : k.R t w S ok v l) : ∀ j, v.ownBlock = some j → j < w.heap.size := fun j hj => ((Kd.R_bound h).1 j hj).2.2.1
abbrev LN (S : Nat) (l : List S110) (v : Value) (w : World) : Prop := k110.R 110 w S (fun _ => True) v l
theorem LN_alive : Alive LN := alive_R k110 110
theorem LN_slice {S : Nat} {l : List S110} {v : Value} {w : World} (h : LN S l v w) : ∃ A n c, v = .slice A n c := by
  obtain ⟨A, c, e⟩ := Kd.R_slice h
  exact ⟨A, _, c, e⟩
def pLine (xs : List Int) (most : Nat) (m : Nat) : Res S110 :=
  (pT xs most m).bind fun t m => (pI xs m).bind fun a m => .ok ⟨t, a⟩ m
def memLine (_S : Nat) (x : S110) (v : Value) (_w : World) : Prop := v = .agg #[.string x.f0, .int .i64 x.f1]
theorem r_line {g B gb : Nat} {A : Option Addr} {n c : Nat} {xs : List Int} {m most : Nat} {W : World} (k : CrAt g B A n c xs m most W) (hbx : Rt 101 gb [ptr g] W) :
    Calls Try.prog 131 #[ptr gb] W fun e w' => Below B W w' ∧ Kept W w' (fun j => j = g) ∧ OutR g B A n c xs most (memLine W.heap.size) (pLine xs most m) e w' := by
  have HK := Aside0.mk k
  have HBX := Aside0.mk hbx
  have HNE := Aside0.mk (show gb ≠ g from fun e => by
    have h2 := hbx
    rw [e] at h2
    have := blk_types h2 k.row
    omega)
  clear k hbx
  go_enter Try.func131, Try.ntmps131
  go_upto_region 1 with fail
  have hr1 : Rt 110 W.heap.size [.string ⟨#[]⟩, .int .i64 0] (W.alloc (.cells #[.string ⟨#[]⟩, .int .i64 0] 110)) := heap_alloc_new W _
  have hb1 : Below W.heap.size W (W.alloc (.cells #[.string ⟨#[]⟩, .int .i64 0] 110)) := below_alloc (Below.refl _ _) _
  obtain ⟨b, hbe⟩ : ∃ b, W.heap.size = b := ⟨_, rfl⟩
  have K1 := Aside0.mk (HK.out.below hb1)
  have X1 := Aside0.mk (HBX.out.below hb1)
  have B1 := Aside0.mk (hb1.mono HK.out.size)
  have P1 := Aside0.mk (Kept.of_below hb1 (fun j => j = g))
  have HBE := Aside0.mk (show W.heap.size ≤ b by omega)
  have HLT := Aside0.mk (show g < b ∧ B ≤ b ∧ gb < b by have := HK.out.row.lt; have := HK.out.size; have := HBX.out.lt; omega)
  rw [hbe] at hr1
  rw [hbe]
  have R1 := Aside0.mk hr1
  clear hr1 hb1 hbe
  generalize W.alloc (.cells #[.string ⟨#[]⟩, .int .i64 0] 110) = w1 at *
  have cx := X1.out.cell 0 _ rfl
  have cr0 := R1.out.cell 0 _ rfl
  have fr0 := R1.out.free 0
  go_wp2_with fail
  go_at_call 61
  refine (r_text K1.out).mono ?_
  rintro e w2 ⟨hb, hp, ho⟩
  have hbt := B1.out.trans hb
  have hpt := P1.out.then_ hp (fun _ h => .inl h)
  rcases hq : pT xs most m with ⟨t, m1⟩ | ⟨er, p⟩
  rotate_left
  · rw [hq] at ho
    have ho : e = gaveUp er p := ho
    subst ho
    refine ⟨rfl, hbt, hpt, ?_⟩
    have e9 : pLine xs most m = Res.fail er p := by
      unfold pLine
      simp only [Res.bind, hq]
    rw [e9]
    rfl
  rw [hq] at ho
  obtain ⟨he, hk⟩ : e = .returned (.string t) ∧ CrAt g B A n c xs m1 most w2 := ho
  subst he
  have HQ0 := Aside0.mk hq
  have K2 := Aside0.mk hk
  have B2 := Aside0.mk hbt
  have P2 := Aside0.mk hpt
  have R2 := Aside0.mk (show Rt 110 b [.string ⟨#[]⟩, .int .i64 0] w2 from (hp.2 b R1.out.lt (by have := HLT.out; show b ≠ g; omega)).trans R1.out)
  have X2 := Aside0.mk (show Rt 101 gb [ptr g] w2 from (hp.2 gb X1.out.lt HNE.out).trans X1.out)
  clear hb hp hbt hpt hq hk cr0 fr0
  try clear ho
  clear cx
  have cr0 := R2.out.cell 0 _ rfl
  have fr0 := R2.out.free 0
  go_upto_region 2 with fail
  have e1 := R2.out.set 0 (.string t)
  rw [e1]
  clear e1 cr0 fr0
  have hl : [Value.string ⟨#[]⟩, .int .i64 0].set 0 (.string t) = [Value.string t, .int .i64 0] := rfl
  rw [hl]
  clear hl
  have K3 := Aside0.mk (show CrAt g B A n c xs m1 most (w2.setRow b [Value.string t, .int .i64 0].toArray) from K2.out.aside (below_setRow' (Below.refl _ _) HLT.out.2.1 _) (setRow_other _ _ _ _ (by have := HLT.out; omega)))
  have B3 := Aside0.mk (show Below B W (w2.setRow b [Value.string t, .int .i64 0].toArray) from below_setRow' B2.out HLT.out.2.1 _)
  have P3 := Aside0.mk (show Kept W (w2.setRow b [Value.string t, .int .i64 0].toArray) (fun j => j = g) from ⟨by rw [setRow_size]; exact P2.out.1, fun j hj hn => (setRow_other _ _ _ _ (by have := HBE.out; omega)).trans (P2.out.2 j hj hn)⟩)
  have R3 := Aside0.mk (show Rt 110 b [Value.string t, .int .i64 0] (w2.setRow b [Value.string t, .int .i64 0].toArray) from R2.out.row _)
  have X3 := Aside0.mk (show Rt 101 gb [ptr g] (w2.setRow b [Value.string t, .int .i64 0].toArray) from (setRow_other _ _ _ _ (by have := HLT.out; omega)).trans X2.out)
  generalize w2.setRow b [Value.string t, .int .i64 0].toArray = w3 at *
  have cx := X3.out.cell 0 _ rfl
  have cr1 := R3.out.cell 1 _ rfl
  have fr1 := R3.out.free 1
  go_wp2_with fail
  go_at_call 62
  refine (r_int K3.out).mono ?_
  rintro e w4 ⟨hb, hp, ho⟩
  have hbt := B3.out.trans hb
  have hpt := P3.out.then_ hp (fun _ h => .inl h)
  rcases hq : pI xs m1 with ⟨a, m2⟩ | ⟨er, p⟩
  rotate_left
  · rw [hq] at ho
    have ho : e = gaveUp er p := ho
    subst ho
    refine ⟨rfl, hbt, hpt, ?_⟩
    have e9 : pLine xs most m = Res.fail er p := by
      unfold pLine
      simp only [Res.bind, HQ0.out, hq]
    rw [e9]
    rfl
  rw [hq] at ho
  obtain ⟨he, hk⟩ : e = .returned (.int .i64 a) ∧ CrAt g B A n c xs m2 most w4 := ho
  subst he
  have HQ1 := Aside0.mk hq
  have K4 := Aside0.mk hk
  have B4 := Aside0.mk hbt
  have P4 := Aside0.mk hpt
  have R4 := Aside0.mk (show Rt 110 b [.string t, .int .i64 0] w4 from (hp.2 b R3.out.lt (by have := HLT.out; show b ≠ g; omega)).trans R3.out)
  have X4 := Aside0.mk (show Rt 101 gb [ptr g] w4 from (hp.2 gb X3.out.lt HNE.out).trans X3.out)
  clear hb hp hbt hpt hq hk cr1 fr1
  try clear ho
  clear cx
  have cr1 := R4.out.cell 1 _ rfl
  have fr1 := R4.out.free 1
  go_upto_region 3 with fail
  have e1 := R4.out.set 1 (.int .i64 a)
  rw [e1]
  clear e1 cr1 fr1
  have hl : [Value.string t, .int .i64 0].set 1 (.int .i64 a) = [Value.string t, .int .i64 a] := rfl
  rw [hl]
  clear hl
  have K5 := Aside0.mk (show CrAt g B A n c xs m2 most (w4.setRow b [Value.string t, .int .i64 a].toArray) from K4.out.aside (below_setRow' (Below.refl _ _) HLT.out.2.1 _) (setRow_other _ _ _ _ (by have := HLT.out; omega)))
  have B5 := Aside0.mk (show Below B W (w4.setRow b [Value.string t, .int .i64 a].toArray) from below_setRow' B4.out HLT.out.2.1 _)
  have P5 := Aside0.mk (show Kept W (w4.setRow b [Value.string t, .int .i64 a].toArray) (fun j => j = g) from ⟨by rw [setRow_size]; exact P4.out.1, fun j hj hn => (setRow_other _ _ _ _ (by have := HBE.out; omega)).trans (P4.out.2 j hj hn)⟩)
  have R5 := Aside0.mk (show Rt 110 b [Value.string t, .int .i64 a] (w4.setRow b [Value.string t, .int .i64 a].toArray) from R4.out.row _)
  have X5 := Aside0.mk (show Rt 101 gb [ptr g] (w4.setRow b [Value.string t, .int .i64 a].toArray) from (setRow_other _ _ _ _ (by have := HLT.out; omega)).trans X4.out)
  generalize w4.setRow b [Value.string t, .int .i64 a].toArray = w5 at *
  have c0 := R5.out.cell 0 _ rfl
  have f0 := R5.out.free 0
  have c1 := R5.out.cell 1 _ rfl
  have f1 := R5.out.free 1
  go_wp2_with fail
  rw [R5.out.same 0 _ rfl, R5.out.same 1 _ rfl]
  refine bodyPost_ret (results_cell_row rfl _ _ b 110 _ (0, 0) _ rfl R5.out Try.underlying110 rfl (by kernel_rfl)) rfl ?_
  refine ⟨B5.out, P5.out, ?_⟩
  have e9 : pLine xs most m = Res.ok ⟨t, a⟩ m2 := by
    unfold pLine
    simp only [Res.bind, HQ0.out, HQ1.out]
  rw [e9]
  exact ⟨_, rfl, rfl, K5.out⟩
end Go.Proofs.Ytafmoglaockepaa.Cd
end
section
namespace Go.Proofs.Ytafmoglaockepaa.Cd
open Go Go.RowKit Go.Proofs.Ytafmoglaockepaa.Num Go.Proofs.Ytafmoglaockepaa.PG Go.Proofs.YtafmoglaockepaaW.PrintWords Go.Proofs.YtafmoglaockepaaW.PrintLast Go.Proofs.YtafmoglaockepaaW.PrintMore
set_option linter.unusedVariables false
set_option linter.unusedSimpArgs false
set_option maxHeartbeats 4000000
set_option maxRecDepth 100000
theorem r_lineList {g B gb : Nat} {A : Option Addr} {n c : Nat} {xs : List Int} {m most : Nat} {W : World} (k : CrAt g B A n c xs m most W) (hbx : Rt 101 gb [ptr g] W) :
    Calls Try.prog 130 #[ptr g, .func (.func 131) #[] #[ptr gb]] W fun e w' => Below B W w' ∧ Kept W w' (fun j => j = g) ∧ OutR g B A n c xs most (LN W.heap.size) (pList xs most (pLine xs most) m) e w' := by
  have HK := Aside0.mk k
  have HBX := Aside0.mk hbx
  have HNE := Aside0.mk (show gb ≠ g from fun e => by
    have h2 := hbx
    rw [e] at h2
    have := blk_types h2 k.row
    omega)
  have c1 : (m : Int) ≤ (n : Int) := by have := k.le; omega
  have c2 : (n : Int) ≤ (c : Int) := by have := k.nc; omega
  have c3 : (0 : Int) ≤ (m : Int) := by omega
  have MKS := Aside0.mk (show ∀ w', Below W.heap.size W w' → (fun w' => w'.cell? ⟨g, 0, none⟩ = some (.slice A n c) ∧ w'.cell? ⟨g, 1, none⟩ = some (.int .i64 (m : Int)) ∧ w'.cell? ⟨g, 2, none⟩ = some (.int .i64 (most : Int))) w' from fun w' hb => by
    have r := HK.out.row.below hb
    exact ⟨r.cell 0 _ rfl, r.cell 1 _ rfl, r.cell 2 _ rfl⟩)
  clear k hbx
  have hdl := HK.out.dl
  have hul := ug_lt (xs.drop m) 0 0 (by omega) (by decide) (HK.out.by_.drop m)
  obtain ⟨q, hq⟩ : ∃ q, ug 0 0 (xs.drop m) = q := ⟨_, rfl⟩
  have HQ := Aside0.mk hq
  have hpl := ug_place xs m n HK.out.len HK.out.le
  have HF := Aside0.mk (show ∀ w', Below W.heap.size W w' → Calls Try.prog 129 #[.slice (if c = m then A else A.map (·.add m)) (n - m) (c - m)] w' fun e w2 => e = .returned (.tuple #[.int .u64 q.1, .int .i64 q.2.1, .int .i64 q.2.2]) ∧ Drawn0 w' w2 from fun w' hb => by
    have := frame_Uint.calls ((xs.drop m).length + 2) (if c = m then A else A.map (·.add m)) (c - m) (xs.drop m) q.1 q.2.1 q.2.2 w' (HK.out.rest (hb.mono HK.out.size)) (by rw [hdl]; have := HK.out.nc; omega) (by rw [frame_uint _ (HK.out.by_.drop m) (by rw [hdl]; have := HK.out.big; omega) _ (by omega), hq])
    rwa [hdl] at this)
  rw [hq] at hpl hul
  obtain ⟨v, d, er⟩ := q
  obtain ⟨dn, hdn⟩ : ∃ dn : Nat, d = (dn : Int) := ⟨d.toNat, by have h1 : 0 ≤ d := hpl.1; omega⟩
  subst hdn
  obtain ⟨u, hu⟩ : ∃ u : Nat, v = (u : Int) := ⟨v.toNat, by have h1 : 0 ≤ v := hul.1; omega⟩
  subst hu
  have HPL := Aside0.mk (show m + dn ≤ n by have h1 : (dn : Int) ≤ ((n - m : Nat) : Int) := hpl.2; have := HK.out.le; omega)
  have HUL := Aside0.mk (show u < 18446744073709551616 by have h1 : (u : Int) < 18446744073709551616 := hul.2; omega)
  clear hdl hq hpl hul
  have cm := (MKS.out W (Below.refl _ _)).2.1
  go_enter Try.func130, Try.ntmps130
  go_upto_region 2 with fail
  refine wp_region_held_drew (S := fun w' => w'.cell? ⟨g, 0, none⟩ = some (.slice A n c) ∧ w'.cell? ⟨g, 1, none⟩ = some (.int .i64 (m : Int)) ∧ w'.cell? ⟨g, 2, none⟩ = some (.int .i64 (most : Int))) (by kernel_rfl) (MKS.out _ (below_drew (Below.refl _ _))) (fun hHeld => ?_)
  refine wpAnyH_take (i := 0) (oi := { dst := some 15, op := Op.move (Operand.tmp 0), type := 101, pos := "read.go:44", after := #[], guard := none }) (v := ?_) rfl (by kernel_rfl) (by kernel_rfl) (by kernel_rfl) (fun _ _ _ h => h) (Or.inl ⟨by rfl, ?_⟩) hHeld ?_
  rotate_left
  · intro w' hS; obtain ⟨hS0, hS1, hS2⟩ := hS; go_simp; all_goals (with_reducible rfl)
  (try simp only [Act.put, List.setIfInBounds_toArray, List.set_cons_zero, List.set_cons_succ])
  refine wpAnyH_take (i := 1) (oi := { dst := some 16, op := Op.nilCheck (Operand.tmp 15), type := 0, pos := "read.go:44", after := #[{ on := 0, ground := Ground.data }], guard := none }) (v := ?_) rfl (by kernel_rfl) (by kernel_rfl) (by kernel_rfl) (fun _ _ _ h => h) (Or.inl ⟨by rfl, ?_⟩) hHeld ?_
  rotate_left
  · intro w' hS; obtain ⟨hS0, hS1, hS2⟩ := hS; go_simp; all_goals (with_reducible rfl)
  (try simp only [Act.put, List.setIfInBounds_toArray, List.set_cons_zero, List.set_cons_succ])
  refine wpAnyH_take (i := 2) (oi := { dst := some 17, op := Op.fieldAddr 158 (Operand.tmp 16) 0, type := 0, pos := "read.go:44", after := #[{ on := 1, ground := Ground.data }], guard := none }) (v := ?_) rfl (by kernel_rfl) (by kernel_rfl) (by kernel_rfl) (fun _ _ _ h => h) (Or.inl ⟨by rfl, ?_⟩) hHeld ?_
  rotate_left
  · intro w' hS; obtain ⟨hS0, hS1, hS2⟩ := hS; go_simp; all_goals (with_reducible rfl)
  (try simp only [Act.put, List.setIfInBounds_toArray, List.set_cons_zero, List.set_cons_succ])
  refine wpAnyH_take (i := 3) (oi := { dst := some 18, op := Op.load 26 (Operand.tmp 17), type := 26, pos := "read.go:44", after := #[{ on := 2, ground := Ground.data }], guard := none }) (v := ?_) rfl (by kernel_rfl) (by kernel_rfl) (by kernel_rfl) (fun _ _ _ h => h) (Or.inl ⟨by rfl, ?_⟩) hHeld ?_
  rotate_left
  · intro w' hS; obtain ⟨hS0, hS1, hS2⟩ := hS; go_simp; all_goals (with_reducible rfl)
  (try simp only [Act.put, List.setIfInBounds_toArray, List.set_cons_zero, List.set_cons_succ])
  refine wpAnyH_take (i := 4) (oi := { dst := some 19, op := Op.move (Operand.tmp 0), type := 101, pos := "read.go:44", after := #[], guard := none }) (v := ?_) rfl (by kernel_rfl) (by kernel_rfl) (by kernel_rfl) (fun _ _ _ h => h) (Or.inl ⟨by rfl, ?_⟩) hHeld ?_
  rotate_left
  · intro w' hS; obtain ⟨hS0, hS1, hS2⟩ := hS; go_simp; all_goals (with_reducible rfl)
  (try simp only [Act.put, List.setIfInBounds_toArray, List.set_cons_zero, List.set_cons_succ])
  refine wpAnyH_take (i := 5) (oi := { dst := some 20, op := Op.nilCheck (Operand.tmp 19), type := 0, pos := "read.go:44", after := #[{ on := 4, ground := Ground.data }], guard := none }) (v := ?_) rfl (by kernel_rfl) (by kernel_rfl) (by kernel_rfl) (fun _ _ _ h => h) (Or.inl ⟨by rfl, ?_⟩) hHeld ?_
  rotate_left
  · intro w' hS; obtain ⟨hS0, hS1, hS2⟩ := hS; go_simp; all_goals (with_reducible rfl)
  (try simp only [Act.put, List.setIfInBounds_toArray, List.set_cons_zero, List.set_cons_succ])
  refine wpAnyH_take (i := 6) (oi := { dst := some 21, op := Op.fieldAddr 158 (Operand.tmp 20) 1, type := 0, pos := "read.go:44", after := #[{ on := 5, ground := Ground.data }], guard := none }) (v := ?_) rfl (by kernel_rfl) (by kernel_rfl) (by kernel_rfl) (fun _ _ _ h => h) (Or.inl ⟨by rfl, ?_⟩) hHeld ?_
  rotate_left
  · intro w' hS; obtain ⟨hS0, hS1, hS2⟩ := hS; go_simp; all_goals (with_reducible rfl)
  (try simp only [Act.put, List.setIfInBounds_toArray, List.set_cons_zero, List.set_cons_succ])
  refine wpAnyH_take (i := 7) (oi := { dst := some 22, op := Op.load 3 (Operand.tmp 21), type := 3, pos := "read.go:44", after := #[{ on := 6, ground := Ground.data }], guard := none }) (v := ?_) rfl (by kernel_rfl) (by kernel_rfl) (by kernel_rfl) (fun _ _ _ h => h) (Or.inl ⟨by rfl, ?_⟩) hHeld ?_
  rotate_left
  · intro w' hS; obtain ⟨hS0, hS1, hS2⟩ := hS; go_simp; all_goals (with_reducible rfl)
  (try simp only [Act.put, List.setIfInBounds_toArray, List.set_cons_zero, List.set_cons_succ])
  refine wpAnyH_take (i := 8) (oi := { dst := some 23, op := Op.slice 26 (Operand.tmp 18) (some (Operand.tmp 22)) none none, type := 26, pos := "read.go:44", after := #[{ on := 3, ground := Ground.data }, { on := 7, ground := Ground.data }], guard := none }) (v := ?_) rfl (by kernel_rfl) (by kernel_rfl) (by kernel_rfl) (fun _ _ _ h => h) (Or.inl ⟨by rfl, ?_⟩) hHeld ?_
  rotate_left
  · intro w' hS; obtain ⟨hS0, hS1, hS2⟩ := hS; go_simp; all_goals (with_reducible rfl)
  (try simp only [Act.put, List.setIfInBounds_toArray, List.set_cons_zero, List.set_cons_succ])
  refine wpAnyH_ready (rs := [9]) (by kernel_rfl) (by simp) ?_
  refine AllReadyH.cons (o := { dst := some 24, op := Op.call { callee := Callee.value (Operand.func 129), args := #[Operand.tmp 23], argTypes := #[26] }, type := 169, pos := "read.go:44", after := #[{ on := 8, ground := Ground.data }], guard := none }) rfl (fun K hK => ?_) AllReadyH.nil
  go_simp
  go_at_call 129
  refine (HF.out _ (below_drew (Below.refl _ _))).mono ?_
  rintro e wa ⟨rfl, hd⟩
  have HB1 := Aside0.mk (show Below W.heap.size W wa from by
    obtain ⟨md, rfl⟩ := hd
    exact pw_below_drewN (below_drew (Below.refl _ _)) md)
  clear hd
  refine hK.out _ _ (MKS.out _ HB1.out) (fun hHeld => ?_)
  clear hK K
  (try simp only [Act.put, List.setIfInBounds_toArray, List.set_cons_zero, List.set_cons_succ])
  refine wpAnyH_take (i := 10) (oi := { dst := some 14, op := Op.move (Operand.tmp 24), type := 169, pos := "read.go:44", after := #[{ on := 9, ground := Ground.data }], guard := none }) (v := ?_) rfl (by kernel_rfl) (by kernel_rfl) (by kernel_rfl) (fun _ _ _ h => h) (Or.inl ⟨by rfl, ?_⟩) hHeld ?_
  rotate_left
  · intro w' hS; obtain ⟨hS0, hS1, hS2⟩ := hS; go_simp; all_goals (with_reducible rfl)
  (try simp only [Act.put, List.setIfInBounds_toArray, List.set_cons_zero, List.set_cons_succ])
  refine wpAnyH_take (i := 11) (oi := { dst := some 25, op := Op.extract (Operand.tmp 14) 0, type := 151, pos := "read.go:44", after := #[{ on := 10, ground := Ground.data }], guard := none }) (v := ?_) rfl (by kernel_rfl) (by kernel_rfl) (by kernel_rfl) (fun _ _ _ h => h) (Or.inl ⟨by rfl, ?_⟩) hHeld ?_
  rotate_left
  · intro w' hS; obtain ⟨hS0, hS1, hS2⟩ := hS; go_simp; all_goals (with_reducible rfl)
  (try simp only [Act.put, List.setIfInBounds_toArray, List.set_cons_zero, List.set_cons_succ])
  refine wpAnyH_take (i := 12) (oi := { dst := some 26, op := Op.extract (Operand.tmp 14) 1, type := 3, pos := "read.go:44", after := #[{ on := 10, ground := Ground.data }, { on := 14, ground := Ground.gcOnly Departure.lateStores }], guard := none }) (v := ?_) rfl (by kernel_rfl) (by kernel_rfl) (by kernel_rfl) (fun _ _ _ h => h) (Or.inl ⟨by rfl, ?_⟩) hHeld ?_
  rotate_left
  · intro w' hS; obtain ⟨hS0, hS1, hS2⟩ := hS; go_simp; all_goals (with_reducible rfl)
  (try simp only [Act.put, List.setIfInBounds_toArray, List.set_cons_zero, List.set_cons_succ])
  refine wpAnyH_take (i := 13) (oi := { dst := some 27, op := Op.extract (Operand.tmp 14) 2, type := 22, pos := "read.go:44", after := #[{ on := 10, ground := Ground.data }, { on := 15, ground := Ground.gcOnly Departure.lateStores }], guard := none }) (v := ?_) rfl (by kernel_rfl) (by kernel_rfl) (by kernel_rfl) (fun _ _ _ h => h) (Or.inl ⟨by rfl, ?_⟩) hHeld ?_
  rotate_left
  · intro w' hS; obtain ⟨hS0, hS1, hS2⟩ := hS; go_simp; all_goals (with_reducible rfl)
  (try simp only [Act.put, List.setIfInBounds_toArray, List.set_cons_zero, List.set_cons_succ])
  refine wpAnyH_take (i := 14) (oi := { dst := some 6, op := Op.assign (Operand.tmp 25), type := 151, pos := "read.go:44", after := #[{ on := 11, ground := Ground.data }, { on := 9, ground := Ground.chain }, { on := 0, ground := Ground.phase }, { on := 1, ground := Ground.phase }, { on := 2, ground := Ground.phase }, { on := 3, ground := Ground.phase }, { on := 4, ground := Ground.phase }, { on := 5, ground := Ground.phase }, { on := 6, ground := Ground.phase }, { on := 7, ground := Ground.phase }, { on := 8, ground := Ground.phase }, { on := 9, ground := Ground.phase }, { on := 10, ground := Ground.phase }, { on := 11, ground := Ground.phase }, { on := 12, ground := Ground.textOnly Departure.lateStores }, { on := 13, ground := Ground.textOnly Departure.lateStores }], guard := none }) (v := ?_) rfl (by kernel_rfl) (by kernel_rfl) (by kernel_rfl) (fun _ _ _ h => h) (Or.inl ⟨by rfl, ?_⟩) hHeld ?_
  rotate_left
  · intro w' hS; obtain ⟨hS0, hS1, hS2⟩ := hS; go_simp; all_goals (with_reducible rfl)
  (try simp only [Act.put, List.setIfInBounds_toArray, List.set_cons_zero, List.set_cons_succ])
  refine wpAnyH_take (i := 15) (oi := { dst := some 7, op := Op.assign (Operand.tmp 26), type := 3, pos := "read.go:44", after := #[{ on := 12, ground := Ground.data }, { on := 14, ground := Ground.chain }, { on := 0, ground := Ground.phase }, { on := 1, ground := Ground.phase }, { on := 2, ground := Ground.phase }, { on := 3, ground := Ground.phase }, { on := 4, ground := Ground.phase }, { on := 5, ground := Ground.phase }, { on := 6, ground := Ground.phase }, { on := 7, ground := Ground.phase }, { on := 8, ground := Ground.phase }, { on := 9, ground := Ground.phase }, { on := 10, ground := Ground.phase }, { on := 11, ground := Ground.phase }, { on := 12, ground := Ground.phase }, { on := 13, ground := Ground.textOnly Departure.lateStores }, { on := 14, ground := Ground.phase }], guard := none }) (v := ?_) rfl (by kernel_rfl) (by kernel_rfl) (by kernel_rfl) (fun _ _ _ h => h) (Or.inl ⟨by rfl, ?_⟩) hHeld ?_
  rotate_left
  · intro w' hS; obtain ⟨hS0, hS1, hS2⟩ := hS; go_simp; all_goals (with_reducible rfl)
  (try simp only [Act.put, List.setIfInBounds_toArray, List.set_cons_zero, List.set_cons_succ])
  refine wpAnyH_take (i := 16) (oi := { dst := some 8, op := Op.assign (Operand.tmp 27), type := 22, pos := "read.go:44", after := #[{ on := 13, ground := Ground.data }, { on := 15, ground := Ground.chain }, { on := 0, ground := Ground.phase }, { on := 1, ground := Ground.phase }, { on := 2, ground := Ground.phase }, { on := 3, ground := Ground.phase }, { on := 4, ground := Ground.phase }, { on := 5, ground := Ground.phase }, { on := 6, ground := Ground.phase }, { on := 7, ground := Ground.phase }, { on := 8, ground := Ground.phase }, { on := 9, ground := Ground.phase }, { on := 10, ground := Ground.phase }, { on := 11, ground := Ground.phase }, { on := 12, ground := Ground.phase }, { on := 13, ground := Ground.phase }, { on := 14, ground := Ground.phase }, { on := 15, ground := Ground.phase }], guard := none }) (v := ?_) rfl (by kernel_rfl) (by kernel_rfl) (by kernel_rfl) (fun _ _ _ h => h) (Or.inl ⟨by rfl, ?_⟩) hHeld ?_
  rotate_left
  · intro w' hS; obtain ⟨hS0, hS1, hS2⟩ := hS; go_simp; all_goals (with_reducible rfl)
  (try simp only [Act.put, List.setIfInBounds_toArray, List.set_cons_zero, List.set_cons_succ])
  refine wpAnyH_done (by kernel_rfl) ?_ _
  (try simp only [Act.put, List.setIfInBounds_toArray, List.set_cons_zero, List.set_cons_succ])
  clear HF cm
  generalize (if c = m then A else Option.map (fun x => x.add m) A) = Am at *
  by_cases he : er = 0
  rotate_left
  · have HP := Aside0.mk (show pList xs most (pLine xs most) m = Res.fail er ((m : Int) + (dn : Int)) from by
      unfold pList pU took
      rw [HQ.out, if_neg he]
      rfl)
    have HE := Aside0.mk he
    clear he
    go_wp2_with fail
    go_at_call 116
    refine (took_fail (HK.out.below HB1.out) (dn : Int) er (by have := HPL.out; have := HK.out.big; omega) HE.out).mono ?_
    rintro e w2 ⟨rfl, rfl⟩
    refine ⟨rfl, HB1.out.mono HK.out.size, Kept.of_below HB1.out _, ?_⟩
    rw [HP.out]
    rfl
  subst he
  go_wp2_with fail
  go_at_call 116
  refine (took_ok (HK.out.below HB1.out) dn HPL.out).mono ?_
  rintro e w2 ⟨rfl, hk, hb, hkp⟩
  have K2 := Aside0.mk hk
  have B2 := Aside0.mk ((HB1.out.mono HK.out.size).trans hb)
  have P2 := Aside0.mk ((Kept.of_below HB1.out (fun j => j = g)).then_ hkp (fun _ h => .inl h))
  have X2 := Aside0.mk (show Rt 101 gb [ptr g] w2 from (hkp.2 gb (Nat.lt_of_lt_of_le HBX.out.lt HB1.out.size) HNE.out).trans (HBX.out.below HB1.out))
  have hm2 := hk.row.cell 2 _ rfl
  have hw64 : IntKind.u64.wrap (most : Int) = (most : Int) := by have := HK.out.mb; rw [IntKind.wrap_u64]; omega
  clear hk hb hkp
  by_cases hu : most < u
  · have HP := Aside0.mk (show pList xs most (pLine xs most) m = Res.fail 91 (m : Int) from by
      unfold pList pU took
      rw [HQ.out, if_pos rfl]
      simp only [Res.bind]
      rw [if_pos (by omega)])
    have d1 : decide ((most : Int) < (u : Int)) = true := decide_eq_true (by omega)
    have d2 : decide (most < u) = true := decide_eq_true hu
    clear hu
    go_wp2_with fail
    refine ⟨rfl, B2.out, P2.out, ?_⟩
    rw [HP.out]
    rfl
  have HP := Aside0.mk (show pList xs most (pLine xs most) m = pN (pLine xs most) u [] (m + dn) from by
    unfold pList pU took
    rw [HQ.out, if_pos rfl]
    simp only [Res.bind]
    rw [if_neg (by omega), Int.toNat_natCast, Int.toNat_natCast])
  have HU := Aside0.mk (show u ≤ most by omega)
  have d1 : decide ((most : Int) < (u : Int)) = false := decide_eq_false (by omega)
  have d2 : decide (most < u) = false := decide_eq_false hu
  clear hu
  go_wp2_with fail
  clear hm2 hw64 d1 d2 c1 c2 c3
  obtain ⟨S0, hS0⟩ : ∃ S0, W.heap.size = S0 := ⟨_, rfl⟩
  have HS0 := Aside0.mk hS0
  have HLT := Aside0.mk (show g < S0 ∧ gb < S0 ∧ B ≤ S0 by have := HK.out.row.lt; have := HBX.out.lt; have := HK.out.size; omega)
  clear hS0
  go_loopw [9, 43] (fun v p wr => ∃ (i m' : Nat) (l : List S110), p = .int .u64 (i : Int) ∧ Aside0 (i ≤ u) ∧ Aside0 (l.length = i) ∧ Aside0 (pN (pLine xs most) u [] (m + dn) = pN (pLine xs most) (u - i) l m') ∧ Aside0 (LN S0 l v wr) ∧ Aside0 (CrAt g B A n c xs m' most wr) ∧ Aside0 (Below B W wr) ∧ Aside0 (Kept W wr (fun j => j = g)) ∧ Aside0 (Rt 101 gb [ptr g] wr)) (fun _ p _ => u - (intOf p).toNat)
  · exact ⟨0, m + dn, [], rfl, ⟨Nat.zero_le _⟩, ⟨rfl⟩, ⟨rfl⟩, ⟨Kd.R_nil _ _ _ _ _⟩, K2, B2, P2, X2⟩
  · obtain ⟨i, m', l, rfl, HI, HLN, HPN, HR, HKr, HBr, HPr, HXr⟩ := hrel
    by_cases ci : i < u
    · have ci1 : decide ((i : Int) < (u : Int)) = true := decide_eq_true (by omega)
      have hw1 : IntKind.u64.wrap ((i : Int) + 1) = ((i + 1 : Nat) : Int) := by rw [IntKind.wrap_u64]; have := HUL.out; omega
      have HOU := Aside0.mk (own_under HR.out)
      go_wp2_with fail
      go_at_call 131
      refine (r_line HKr.out HXr.out).mono ?_
      rintro e w5 ⟨hb, hp, ho⟩
      have hbt := HBr.out.trans hb
      have hpt := HPr.out.then_ hp (fun _ h => .inl h)
      have hpn : pN (pLine xs most) (u - i) l m' = (pLine xs most m').bind fun x mm => pN (pLine xs most) (u - (i + 1)) (l ++ [x]) mm := by
        rw [show u - i = (u - (i + 1)) + 1 from by omega]
        rfl
      rcases hq : pLine xs most m' with ⟨x, m2⟩ | ⟨er, p⟩
      rotate_left
      · rw [hq] at ho hpn
        have ho : e = gaveUp er p := ho
        subst ho
        refine ⟨rfl, hbt, hpt, ?_⟩
        rw [HP.out, HPN.out, hpn]
        rfl
      rw [hq] at ho hpn
      obtain ⟨vx, he, hx, hk⟩ : ∃ vx, e = .returned vx ∧ memLine wr.heap.size x vx w5 ∧ CrAt g B A n c xs m2 most w5 := ho
      subst he
      have SR := Aside0.mk (show S0 ≤ wr.heap.size by have := HPr.out.1; have := HS0.out; omega)
      have hx : vx = .agg #[.string x.f0, .int .i64 x.f1] := hx
      subst hx
      have MX := Aside0.mk (show k110.M w5 S0 (fun j => wr.heap.size ≤ j) x [.string x.f0, .int .i64 x.f1] from k110_mkM _ _ _ x)
      have K5 := Aside0.mk hk
      have B5 := Aside0.mk hbt
      have P5 := Aside0.mk hpt
      have X5 := Aside0.mk (show Rt 101 gb [ptr g] w5 from (hp.2 gb HXr.out.lt HNE.out).trans HXr.out)
      have R5 := Aside0.mk (show LN S0 l _ w5 from LN_alive.kept HR.out hp (fun j hj e => by have := HLT.out; omega))
      have HPN2 := Aside0.mk (HPN.out.trans hpn)
      have S5 := Aside0.mk (show S0 ≤ w5.heap.size by have := hpt.1; have := HS0.out; omega)
      have HSZ := Aside0.mk (show (l.length + 1) * 24 ≤ 140737488355328 by have := HLN.out; have := HI.out; have := HU.out; have := HK.out.mb; omega)
      have SR5 := Aside0.mk hp.1
      obtain ⟨T0, hT0⟩ : ∃ T0, wr.heap.size = T0 := ⟨_, rfl⟩
      rw [hT0] at HOU SR SR5 MX
      clear hb hp hbt hpt hpn hq hk hT0
      try clear ho
      go_wp2_with (first | (
        (with_reducible refine gate_builtin (b := .append) (xs := #[.tmp 45, .tmp 48]) rfl ?_)
        at_builtin
        refine Kd.R_append k110 (w0 := w5) S0 rfl (.tmp 45) (.tmp 48) 38 110 (.agg #[.string ⟨#[]⟩, .int .i64 0]) 24 rfl Try.underlying38 info110 rfl (by decide) (by decide) _ l x [.string x.f0, .int .i64 x.f1] (fun _ => True) (fun j => T0 ≤ j) rfl rfl MX.out (fun j hj => ⟨trivial, fun e => by have := HOU.out j e.symm; omega⟩) (fun _ _ => trivial) R5.out (Below.refl _ _) S5.out HSZ.out ?_
        intro v1 w6 ho hb hg hat
        have HO6 := Aside0.mk ho
        have K6 := Aside0.mk (K5.out.aside (hb.mono HLT.out.2.2) (hb.block g HLT.out.1))
        have B6 := Aside0.mk (B5.out.trans (hb.mono HLT.out.2.2))
        have P6 := Aside0.mk (show Kept W w6 (fun j => j = g) from ⟨Nat.le_trans P5.out.1 hb.size, fun j hj hn => (hb.block j (by have := HS0.out; omega)).trans (P5.out.2 j hj hn)⟩)
        have X6 := Aside0.mk (show Rt 101 gb [ptr g] w6 from (hb.block gb HLT.out.2.1).trans X5.out)
        clear ho hb hg hat))
      refine ⟨⟨i + 1, m2, l ++ [x], congrArg (Value.int .u64) (by omega), ⟨ci⟩, ⟨by rw [List.length_append, HLN.out]; rfl⟩, HPN2, HO6, K6, B6, P6, X6⟩, ?_⟩
      simp only [intOf]
      omega
    · have ci1 : decide ((i : Int) < (u : Int)) = false := decide_eq_false (by omega)
      obtain rfl : i = u := by have := HI.out; omega
      go_wp2_with fail
      go_ret
      refine ⟨HBr.out, HPr.out, ?_⟩
      rw [HP.out, HPN.out, Nat.sub_self, HS0.out]
      exact ⟨_, rfl, HR.out, HKr.out⟩
theorem r_lines {g B : Nat} {A : Option Addr} {n c : Nat} {xs : List Int} {m most : Nat} {W : World} (k : CrAt g B A n c xs m most W) :
    Calls Try.prog 93 #[ptr g] W fun e w' => Below B W w' ∧ Kept W w' (fun j => j = g) ∧ OutR g B A n c xs most (LN W.heap.size) (pList xs most (pLine xs most) m) e w' := by
  have HK := Aside0.mk k
  have hr2 : Rt 101 W.heap.size [ptr g] (W.alloc (.cells #[ptr g] 101)) := heap_alloc_new W _
  have hb1 : Below W.heap.size W (W.alloc (.cells #[ptr g] 101)) := below_alloc (Below.refl _ _) _
  have hmf : ∀ (fn : Fn) (first cap : Array Value) (w : World), (Instr.makeFunc fn first cap).run Try.prog w = .ok (.func fn first cap) w := fun _ _ _ _ => rfl
  have HSZ := Aside0.mk hb1.size
  clear k
  go_enter Try.func93, Try.ntmps93
  go_upto_region 1 with fail
  obtain ⟨b2, hb2⟩ : ∃ b2, W.heap.size = b2 := ⟨_, rfl⟩
  have HBE := Aside0.mk hb2
  have K1 := Aside0.mk (HK.out.below hb1)
  have B1 := Aside0.mk (hb1.mono HK.out.size)
  have P1 := Aside0.mk (Kept.of_below hb1 (fun j => j = g))
  rw [hb2] at hr2 ⊢
  have R1 := Aside0.mk hr2
  clear hr2 hb1 hb2
  generalize W.alloc (.cells #[ptr g] 101) = w1 at *
  have c0 := R1.out.cell 0 _ rfl
  go_wp2_with fail
  go_at_call 130
  refine (r_lineList K1.out R1.out).mono ?_
  rintro e w2 ⟨hb, hp, ho⟩
  have hbt := B1.out.trans hb
  have hpt := P1.out.then_ hp (fun _ h => .inl h)
  rcases hq : pList xs most (pLine xs most) m with ⟨l, m2⟩ | ⟨er, p⟩
  · rw [hq] at ho
    obtain ⟨v, he, hR, hk⟩ : ∃ v, e = .returned v ∧ LN w1.heap.size l v w2 ∧ CrAt g B A n c xs m2 most w2 := ho
    subst he
    have HR := Aside0.mk (show LN W.heap.size l v w2 from LN_alive.lower hR HSZ.out)
    have K2 := Aside0.mk hk
    have B2 := Aside0.mk hbt
    have P2 := Aside0.mk hpt
    have HQ := Aside0.mk hq
    clear hb hp hbt hpt hR hk hq c0 hmf
    try clear ho
    go_wp2_with fail
    go_ret
    rw [HBE.out] at *
    refine ⟨B2.out, P2.out, ?_⟩
    rw [HQ.out]
    exact ⟨v, rfl, HR.out, K2.out⟩
  · rw [hq] at ho
    have ho : e = gaveUp er p := ho
    subst ho
    refine ⟨rfl, hbt, hpt, ?_⟩
    rw [hq]
    rfl
end Go.Proofs.Ytafmoglaockepaa.Cd
end
section
namespace Go.Proofs.Ytafmoglaockepaa.Cd
open Go Go.RowKit Go.Proofs.Ytafmoglaockepaa.Num Go.Proofs.Ytafmoglaockepaa.PG Go.Proofs.YtafmoglaockepaaW.PrintWords Go.Proofs.YtafmoglaockepaaW.PrintLast Go.Proofs.YtafmoglaockepaaW.PrintMore
set_option linter.unusedVariables false
set_option linter.unusedSimpArgs false
set_option maxHeartbeats 4000000
set_option maxRecDepth 100000
theorem Rt.fill6 {t b : Nat} {zs : List Value} {W : World} (h : Rt t b zs W) (k : Nat) (a0 a1 a2 a3 a4 a5 : Value) :
    (((((W.setCell ⟨b, k, none⟩ a0).setCell ⟨b, k + 1, none⟩ a1).setCell ⟨b, k + 2, none⟩ a2).setCell ⟨b, k + 3, none⟩ a3).setCell ⟨b, k + 4, none⟩ a4).setCell ⟨b, k + 5, none⟩ a5 = W.setRow b ((((((zs.set k a0).set (k + 1) a1).set (k + 2) a2).set (k + 3) a3).set (k + 4) a4).set (k + 5) a5).toArray := by
  rw [h.set k a0, (h.row _).set (k + 1) a1, setRow_again, (h.row _).set (k + 2) a2, setRow_again, (h.row _).set (k + 3) a3, setRow_again, (h.row _).set (k + 4) a4, setRow_again, (h.row _).set (k + 5) a5, setRow_again]
def pReq (xs : List Int) (most : Nat) (m : Nat) : Res S40 :=
  (pT xs most m).bind fun t m => (pI xs m).bind fun a m => (pList xs most (pLine xs most) m).bind fun l m => (pT xs most m).bind fun h m => (pI xs m).bind fun y m => (pI xs m).bind fun z m => .ok ⟨t, a, l, h, y, z⟩ m
def memReq (S : Nat) (x : S40) (v : Value) (w : World) : Prop := ∃ Al nl cl, v = .agg #[.string x.f0, .int .i64 x.f1, .slice Al nl cl, .string x.f3, .int .i64 x.f4, .int .i64 x.f5] ∧ LN S x.f2 (.slice Al nl cl) w
theorem r_request {g B : Nat} {A : Option Addr} {n c : Nat} {xs : List Int} {m most : Nat} {W : World} (k : CrAt g B A n c xs m most W) :
    Calls Try.prog 75 #[ptr g] W fun e w' => Below B W w' ∧ Kept W w' (fun j => j = g) ∧ OutR g B A n c xs most (memReq W.heap.size) (pReq xs most m) e w' := by
  have HK := Aside0.mk k
  clear k
  go_enter Try.func75, Try.ntmps75
  go_upto_region 1 with fail
  have hr1 : Rt 40 W.heap.size [.string ⟨#[]⟩, .int .i64 0, .slice none 0 0, .string ⟨#[]⟩, .int .i64 0, .int .i64 0] (W.alloc (.cells #[.string ⟨#[]⟩, .int .i64 0, .slice none 0 0, .string ⟨#[]⟩, .int .i64 0, .int .i64 0] 40)) := heap_alloc_new W _
  have hb1 : Below W.heap.size W (W.alloc (.cells #[.string ⟨#[]⟩, .int .i64 0, .slice none 0 0, .string ⟨#[]⟩, .int .i64 0, .int .i64 0] 40)) := below_alloc (Below.refl _ _) _
  obtain ⟨b, hbe⟩ : ∃ b, W.heap.size = b := ⟨_, rfl⟩
  have K1 := Aside0.mk (HK.out.below hb1)
  have B1 := Aside0.mk (hb1.mono HK.out.size)
  have P1 := Aside0.mk (Kept.of_below hb1 (fun j => j = g))
  have HBE := Aside0.mk (show W.heap.size ≤ b by omega)
  have HLT := Aside0.mk (show g < b ∧ B ≤ b by have := HK.out.row.lt; have := HK.out.size; omega)
  rw [hbe] at hr1
  rw [hbe]
  have R1 := Aside0.mk hr1
  clear hr1 hb1 hbe
  generalize W.alloc (.cells #[.string ⟨#[]⟩, .int .i64 0, .slice none 0 0, .string ⟨#[]⟩, .int .i64 0, .int .i64 0] 40) = w1 at *
  have cr0 := R1.out.cell 0 _ rfl
  have fr0 := R1.out.free 0
  go_wp2_with fail
  go_at_call 61
  refine (r_text K1.out).mono ?_
  rintro e w2 ⟨hb, hp, ho⟩
  have hbt := B1.out.trans hb
  have hpt := P1.out.then_ hp (fun _ h => .inl h)
  rcases hq : pT xs most m with ⟨t, m1⟩ | ⟨er, p⟩
  rotate_left
  · rw [hq] at ho
    have ho : e = gaveUp er p := ho
    subst ho
    refine ⟨rfl, hbt, hpt, ?_⟩
    have e9 : pReq xs most m = Res.fail er p := by
      unfold pReq
      simp only [Res.bind, hq]
    rw [e9]
    rfl
  rw [hq] at ho
  obtain ⟨he, hk⟩ : e = .returned (.string t) ∧ CrAt g B A n c xs m1 most w2 := ho
  subst he
  have HQ0 := Aside0.mk hq
  have K2 := Aside0.mk hk
  have B2 := Aside0.mk hbt
  have P2 := Aside0.mk hpt
  have R2 := Aside0.mk (show Rt 40 b [.string ⟨#[]⟩, .int .i64 0, .slice none 0 0, .string ⟨#[]⟩, .int .i64 0, .int .i64 0] w2 from (hp.2 b R1.out.lt (by have := HLT.out; show b ≠ g; omega)).trans R1.out)
  clear hb hp hbt hpt hq hk cr0 fr0
  try clear ho
  have cr0 := R2.out.cell 0 _ rfl
  have fr0 := R2.out.free 0
  go_upto_region 2 with fail
  have e1 := R2.out.set 0 (.string t)
  rw [e1]
  clear e1 cr0 fr0
  have hl : [Value.string ⟨#[]⟩, .int .i64 0, .slice none 0 0, .string ⟨#[]⟩, .int .i64 0, .int .i64 0].set 0 (.string t) = [Value.string t, .int .i64 0, .slice none 0 0, .string ⟨#[]⟩, .int .i64 0, .int .i64 0] := rfl
  rw [hl]
  clear hl
  have K3 := Aside0.mk (show CrAt g B A n c xs m1 most (w2.setRow b [Value.string t, .int .i64 0, .slice none 0 0, .string ⟨#[]⟩, .int .i64 0, .int .i64 0].toArray) from K2.out.aside (below_setRow' (Below.refl _ _) HLT.out.2 _) (setRow_other _ _ _ _ (by have := HLT.out; omega)))
  have B3 := Aside0.mk (show Below B W (w2.setRow b [Value.string t, .int .i64 0, .slice none 0 0, .string ⟨#[]⟩, .int .i64 0, .int .i64 0].toArray) from below_setRow' B2.out HLT.out.2 _)
  have P3 := Aside0.mk (show Kept W (w2.setRow b [Value.string t, .int .i64 0, .slice none 0 0, .string ⟨#[]⟩, .int .i64 0, .int .i64 0].toArray) (fun j => j = g) from ⟨by rw [setRow_size]; exact P2.out.1, fun j hj hn => (setRow_other _ _ _ _ (by have := HBE.out; omega)).trans (P2.out.2 j hj hn)⟩)
  have R3 := Aside0.mk (show Rt 40 b [Value.string t, .int .i64 0, .slice none 0 0, .string ⟨#[]⟩, .int .i64 0, .int .i64 0] (w2.setRow b [Value.string t, .int .i64 0, .slice none 0 0, .string ⟨#[]⟩, .int .i64 0, .int .i64 0].toArray) from R2.out.row _)
  generalize w2.setRow b [Value.string t, .int .i64 0, .slice none 0 0, .string ⟨#[]⟩, .int .i64 0, .int .i64 0].toArray = w3 at *
  have cr1 := R3.out.cell 1 _ rfl
  have fr1 := R3.out.free 1
  go_wp2_with fail
  go_at_call 62
  refine (r_int K3.out).mono ?_
  rintro e w4 ⟨hb, hp, ho⟩
  have hbt := B3.out.trans hb
  have hpt := P3.out.then_ hp (fun _ h => .inl h)
  rcases hq : pI xs m1 with ⟨a, m2⟩ | ⟨er, p⟩
  rotate_left
  · rw [hq] at ho
    have ho : e = gaveUp er p := ho
    subst ho
    refine ⟨rfl, hbt, hpt, ?_⟩
    have e9 : pReq xs most m = Res.fail er p := by
      unfold pReq
      simp only [Res.bind, HQ0.out, hq]
    rw [e9]
    rfl
  rw [hq] at ho
  obtain ⟨he, hk⟩ : e = .returned (.int .i64 a) ∧ CrAt g B A n c xs m2 most w4 := ho
  subst he
  have HQ1 := Aside0.mk hq
  have K4 := Aside0.mk hk
  have B4 := Aside0.mk hbt
  have P4 := Aside0.mk hpt
  have R4 := Aside0.mk (show Rt 40 b [.string t, .int .i64 0, .slice none 0 0, .string ⟨#[]⟩, .int .i64 0, .int .i64 0] w4 from (hp.2 b R3.out.lt (by have := HLT.out; show b ≠ g; omega)).trans R3.out)
  clear hb hp hbt hpt hq hk cr1 fr1
  try clear ho
  have cr1 := R4.out.cell 1 _ rfl
  have fr1 := R4.out.free 1
  go_upto_region 3 with fail
  have e1 := R4.out.set 1 (.int .i64 a)
  rw [e1]
  clear e1 cr1 fr1
  have hl : [Value.string t, .int .i64 0, .slice none 0 0, .string ⟨#[]⟩, .int .i64 0, .int .i64 0].set 1 (.int .i64 a) = [Value.string t, .int .i64 a, .slice none 0 0, .string ⟨#[]⟩, .int .i64 0, .int .i64 0] := rfl
  rw [hl]
  clear hl
  have K5 := Aside0.mk (show CrAt g B A n c xs m2 most (w4.setRow b [Value.string t, .int .i64 a, .slice none 0 0, .string ⟨#[]⟩, .int .i64 0, .int .i64 0].toArray) from K4.out.aside (below_setRow' (Below.refl _ _) HLT.out.2 _) (setRow_other _ _ _ _ (by have := HLT.out; omega)))
  have B5 := Aside0.mk (show Below B W (w4.setRow b [Value.string t, .int .i64 a, .slice none 0 0, .string ⟨#[]⟩, .int .i64 0, .int .i64 0].toArray) from below_setRow' B4.out HLT.out.2 _)
  have P5 := Aside0.mk (show Kept W (w4.setRow b [Value.string t, .int .i64 a, .slice none 0 0, .string ⟨#[]⟩, .int .i64 0, .int .i64 0].toArray) (fun j => j = g) from ⟨by rw [setRow_size]; exact P4.out.1, fun j hj hn => (setRow_other _ _ _ _ (by have := HBE.out; omega)).trans (P4.out.2 j hj hn)⟩)
  have R5 := Aside0.mk (show Rt 40 b [Value.string t, .int .i64 a, .slice none 0 0, .string ⟨#[]⟩, .int .i64 0, .int .i64 0] (w4.setRow b [Value.string t, .int .i64 a, .slice none 0 0, .string ⟨#[]⟩, .int .i64 0, .int .i64 0].toArray) from R4.out.row _)
  generalize w4.setRow b [Value.string t, .int .i64 a, .slice none 0 0, .string ⟨#[]⟩, .int .i64 0, .int .i64 0].toArray = w5 at *
  have cr2 := R5.out.cell 2 _ rfl
  have fr2 := R5.out.free 2
  go_wp2_with fail
  go_at_call 93
  refine (r_lines K5.out).mono ?_
  rintro e w6 ⟨hb, hp, ho⟩
  have hbt := B5.out.trans hb
  have hpt := P5.out.then_ hp (fun _ h => .inl h)
  rcases hq : pList xs most (pLine xs most) m2 with ⟨l, m3⟩ | ⟨er, p⟩
  rotate_left
  · rw [hq] at ho
    have ho : e = gaveUp er p := ho
    subst ho
    refine ⟨rfl, hbt, hpt, ?_⟩
    have e9 : pReq xs most m = Res.fail er p := by
      unfold pReq
      simp only [Res.bind, HQ0.out, HQ1.out, hq]
    rw [e9]
    rfl
  rw [hq] at ho
  obtain ⟨v, he, hE, hk⟩ : ∃ v, e = .returned v ∧ LN w5.heap.size l v w6 ∧ CrAt g B A n c xs m3 most w6 := ho
  obtain ⟨Al, nl, cl, ev⟩ := LN_slice hE
  subst ev
  have Ll_6 := Aside0.mk (show LN (b + 1) l (.slice Al nl cl) w6 from LN_alive.lower hE R5.out.lt)
  clear hE
  subst he
  have HQ2 := Aside0.mk hq
  have K6 := Aside0.mk hk
  have B6 := Aside0.mk hbt
  have P6 := Aside0.mk hpt
  have R6 := Aside0.mk (show Rt 40 b [.string t, .int .i64 a, .slice none 0 0, .string ⟨#[]⟩, .int .i64 0, .int .i64 0] w6 from (hp.2 b R5.out.lt (by have := HLT.out; show b ≠ g; omega)).trans R5.out)
  clear hb hp hbt hpt hq hk cr2 fr2
  try clear ho
  have cr2 := R6.out.cell 2 _ rfl
  have fr2 := R6.out.free 2
  go_upto_region 4 with fail
  have e1 := R6.out.set 2 (.slice Al nl cl)
  rw [e1]
  clear e1 cr2 fr2
  have hl : [Value.string t, .int .i64 a, .slice none 0 0, .string ⟨#[]⟩, .int .i64 0, .int .i64 0].set 2 (.slice Al nl cl) = [Value.string t, .int .i64 a, .slice Al nl cl, .string ⟨#[]⟩, .int .i64 0, .int .i64 0] := rfl
  rw [hl]
  clear hl
  have K7 := Aside0.mk (show CrAt g B A n c xs m3 most (w6.setRow b [Value.string t, .int .i64 a, .slice Al nl cl, .string ⟨#[]⟩, .int .i64 0, .int .i64 0].toArray) from K6.out.aside (below_setRow' (Below.refl _ _) HLT.out.2 _) (setRow_other _ _ _ _ (by have := HLT.out; omega)))
  have B7 := Aside0.mk (show Below B W (w6.setRow b [Value.string t, .int .i64 a, .slice Al nl cl, .string ⟨#[]⟩, .int .i64 0, .int .i64 0].toArray) from below_setRow' B6.out HLT.out.2 _)
  have P7 := Aside0.mk (show Kept W (w6.setRow b [Value.string t, .int .i64 a, .slice Al nl cl, .string ⟨#[]⟩, .int .i64 0, .int .i64 0].toArray) (fun j => j = g) from ⟨by rw [setRow_size]; exact P6.out.1, fun j hj hn => (setRow_other _ _ _ _ (by have := HBE.out; omega)).trans (P6.out.2 j hj hn)⟩)
  have R7 := Aside0.mk (show Rt 40 b [Value.string t, .int .i64 a, .slice Al nl cl, .string ⟨#[]⟩, .int .i64 0, .int .i64 0] (w6.setRow b [Value.string t, .int .i64 a, .slice Al nl cl, .string ⟨#[]⟩, .int .i64 0, .int .i64 0].toArray) from R6.out.row _)
  have Ll_7 := Aside0.mk (LN_alive.row Ll_6.out (Nat.lt_succ_self b) [Value.string t, .int .i64 a, .slice Al nl cl, .string ⟨#[]⟩, .int .i64 0, .int .i64 0].toArray)
  generalize w6.setRow b [Value.string t, .int .i64 a, .slice Al nl cl, .string ⟨#[]⟩, .int .i64 0, .int .i64 0].toArray = w7 at *
  have cr3 := R7.out.cell 3 _ rfl
  have fr3 := R7.out.free 3
  go_wp2_with fail
  go_at_call 61
  refine (r_text K7.out).mono ?_
  rintro e w8 ⟨hb, hp, ho⟩
  have hbt := B7.out.trans hb
  have hpt := P7.out.then_ hp (fun _ h => .inl h)
  rcases hq : pT xs most m3 with ⟨h, m4⟩ | ⟨er, p⟩
  rotate_left
  · rw [hq] at ho
    have ho : e = gaveUp er p := ho
    subst ho
    refine ⟨rfl, hbt, hpt, ?_⟩
    have e9 : pReq xs most m = Res.fail er p := by
      unfold pReq
      simp only [Res.bind, HQ0.out, HQ1.out, HQ2.out, hq]
    rw [e9]
    rfl
  rw [hq] at ho
  obtain ⟨he, hk⟩ : e = .returned (.string h) ∧ CrAt g B A n c xs m4 most w8 := ho
  subst he
  have HQ3 := Aside0.mk hq
  have K8 := Aside0.mk hk
  have B8 := Aside0.mk hbt
  have P8 := Aside0.mk hpt
  have R8 := Aside0.mk (show Rt 40 b [.string t, .int .i64 a, .slice Al nl cl, .string ⟨#[]⟩, .int .i64 0, .int .i64 0] w8 from (hp.2 b R7.out.lt (by have := HLT.out; show b ≠ g; omega)).trans R7.out)
  have Ll_8 := Aside0.mk (LN_alive.kept Ll_7.out hp (fun j hj e => by have := HLT.out; omega))
  clear hb hp hbt hpt hq hk cr3 fr3
  try clear ho
  have cr3 := R8.out.cell 3 _ rfl
  have fr3 := R8.out.free 3
  go_upto_region 5 with fail
  have e1 := R8.out.set 3 (.string h)
  rw [e1]
  clear e1 cr3 fr3
  have hl : [Value.string t, .int .i64 a, .slice Al nl cl, .string ⟨#[]⟩, .int .i64 0, .int .i64 0].set 3 (.string h) = [Value.string t, .int .i64 a, .slice Al nl cl, .string h, .int .i64 0, .int .i64 0] := rfl
  rw [hl]
  clear hl
  have K9 := Aside0.mk (show CrAt g B A n c xs m4 most (w8.setRow b [Value.string t, .int .i64 a, .slice Al nl cl, .string h, .int .i64 0, .int .i64 0].toArray) from K8.out.aside (below_setRow' (Below.refl _ _) HLT.out.2 _) (setRow_other _ _ _ _ (by have := HLT.out; omega)))
  have B9 := Aside0.mk (show Below B W (w8.setRow b [Value.string t, .int .i64 a, .slice Al nl cl, .string h, .int .i64 0, .int .i64 0].toArray) from below_setRow' B8.out HLT.out.2 _)
  have P9 := Aside0.mk (show Kept W (w8.setRow b [Value.string t, .int .i64 a, .slice Al nl cl, .string h, .int .i64 0, .int .i64 0].toArray) (fun j => j = g) from ⟨by rw [setRow_size]; exact P8.out.1, fun j hj hn => (setRow_other _ _ _ _ (by have := HBE.out; omega)).trans (P8.out.2 j hj hn)⟩)
  have R9 := Aside0.mk (show Rt 40 b [Value.string t, .int .i64 a, .slice Al nl cl, .string h, .int .i64 0, .int .i64 0] (w8.setRow b [Value.string t, .int .i64 a, .slice Al nl cl, .string h, .int .i64 0, .int .i64 0].toArray) from R8.out.row _)
  have Ll_9 := Aside0.mk (LN_alive.row Ll_8.out (Nat.lt_succ_self b) [Value.string t, .int .i64 a, .slice Al nl cl, .string h, .int .i64 0, .int .i64 0].toArray)
  generalize w8.setRow b [Value.string t, .int .i64 a, .slice Al nl cl, .string h, .int .i64 0, .int .i64 0].toArray = w9 at *
  have cr4 := R9.out.cell 4 _ rfl
  have fr4 := R9.out.free 4
  go_wp2_with fail
  go_at_call 62
  refine (r_int K9.out).mono ?_
  rintro e w10 ⟨hb, hp, ho⟩
  have hbt := B9.out.trans hb
  have hpt := P9.out.then_ hp (fun _ h => .inl h)
  rcases hq : pI xs m4 with ⟨y, m5⟩ | ⟨er, p⟩
  rotate_left
  · rw [hq] at ho
    have ho : e = gaveUp er p := ho
    subst ho
    refine ⟨rfl, hbt, hpt, ?_⟩
    have e9 : pReq xs most m = Res.fail er p := by
      unfold pReq
      simp only [Res.bind, HQ0.out, HQ1.out, HQ2.out, HQ3.out, hq]
    rw [e9]
    rfl
  rw [hq] at ho
  obtain ⟨he, hk⟩ : e = .returned (.int .i64 y) ∧ CrAt g B A n c xs m5 most w10 := ho
  subst he
  have HQ4 := Aside0.mk hq
  have K10 := Aside0.mk hk
  have B10 := Aside0.mk hbt
  have P10 := Aside0.mk hpt
  have R10 := Aside0.mk (show Rt 40 b [.string t, .int .i64 a, .slice Al nl cl, .string h, .int .i64 0, .int .i64 0] w10 from (hp.2 b R9.out.lt (by have := HLT.out; show b ≠ g; omega)).trans R9.out)
  have Ll_10 := Aside0.mk (LN_alive.kept Ll_9.out hp (fun j hj e => by have := HLT.out; omega))
  clear hb hp hbt hpt hq hk cr4 fr4
  try clear ho
  have cr4 := R10.out.cell 4 _ rfl
  have fr4 := R10.out.free 4
  go_upto_region 6 with fail
  have e1 := R10.out.set 4 (.int .i64 y)
  rw [e1]
  clear e1 cr4 fr4
  have hl : [Value.string t, .int .i64 a, .slice Al nl cl, .string h, .int .i64 0, .int .i64 0].set 4 (.int .i64 y) = [Value.string t, .int .i64 a, .slice Al nl cl, .string h, .int .i64 y, .int .i64 0] := rfl
  rw [hl]
  clear hl
  have K11 := Aside0.mk (show CrAt g B A n c xs m5 most (w10.setRow b [Value.string t, .int .i64 a, .slice Al nl cl, .string h, .int .i64 y, .int .i64 0].toArray) from K10.out.aside (below_setRow' (Below.refl _ _) HLT.out.2 _) (setRow_other _ _ _ _ (by have := HLT.out; omega)))
  have B11 := Aside0.mk (show Below B W (w10.setRow b [Value.string t, .int .i64 a, .slice Al nl cl, .string h, .int .i64 y, .int .i64 0].toArray) from below_setRow' B10.out HLT.out.2 _)
  have P11 := Aside0.mk (show Kept W (w10.setRow b [Value.string t, .int .i64 a, .slice Al nl cl, .string h, .int .i64 y, .int .i64 0].toArray) (fun j => j = g) from ⟨by rw [setRow_size]; exact P10.out.1, fun j hj hn => (setRow_other _ _ _ _ (by have := HBE.out; omega)).trans (P10.out.2 j hj hn)⟩)
  have R11 := Aside0.mk (show Rt 40 b [Value.string t, .int .i64 a, .slice Al nl cl, .string h, .int .i64 y, .int .i64 0] (w10.setRow b [Value.string t, .int .i64 a, .slice Al nl cl, .string h, .int .i64 y, .int .i64 0].toArray) from R10.out.row _)
  have Ll_11 := Aside0.mk (LN_alive.row Ll_10.out (Nat.lt_succ_self b) [Value.string t, .int .i64 a, .slice Al nl cl, .string h, .int .i64 y, .int .i64 0].toArray)
  generalize w10.setRow b [Value.string t, .int .i64 a, .slice Al nl cl, .string h, .int .i64 y, .int .i64 0].toArray = w11 at *
  have cr5 := R11.out.cell 5 _ rfl
  have fr5 := R11.out.free 5
  go_wp2_with fail
  go_at_call 62
  refine (r_int K11.out).mono ?_
  rintro e w12 ⟨hb, hp, ho⟩
  have hbt := B11.out.trans hb
  have hpt := P11.out.then_ hp (fun _ h => .inl h)
  rcases hq : pI xs m5 with ⟨z, m6⟩ | ⟨er, p⟩
  rotate_left
  · rw [hq] at ho
    have ho : e = gaveUp er p := ho
    subst ho
    refine ⟨rfl, hbt, hpt, ?_⟩
    have e9 : pReq xs most m = Res.fail er p := by
      unfold pReq
      simp only [Res.bind, HQ0.out, HQ1.out, HQ2.out, HQ3.out, HQ4.out, hq]
    rw [e9]
    rfl
  rw [hq] at ho
  obtain ⟨he, hk⟩ : e = .returned (.int .i64 z) ∧ CrAt g B A n c xs m6 most w12 := ho
  subst he
  have HQ5 := Aside0.mk hq
  have K12 := Aside0.mk hk
  have B12 := Aside0.mk hbt
  have P12 := Aside0.mk hpt
  have R12 := Aside0.mk (show Rt 40 b [.string t, .int .i64 a, .slice Al nl cl, .string h, .int .i64 y, .int .i64 0] w12 from (hp.2 b R11.out.lt (by have := HLT.out; show b ≠ g; omega)).trans R11.out)
  have Ll_12 := Aside0.mk (LN_alive.kept Ll_11.out hp (fun j hj e => by have := HLT.out; omega))
  clear hb hp hbt hpt hq hk cr5 fr5
  try clear ho
  have cr5 := R12.out.cell 5 _ rfl
  have fr5 := R12.out.free 5
  go_upto_region 7 with fail
  have e1 := R12.out.set 5 (.int .i64 z)
  rw [e1]
  clear e1 cr5 fr5
  have hl : [Value.string t, .int .i64 a, .slice Al nl cl, .string h, .int .i64 y, .int .i64 0].set 5 (.int .i64 z) = [Value.string t, .int .i64 a, .slice Al nl cl, .string h, .int .i64 y, .int .i64 z] := rfl
  rw [hl]
  clear hl
  have K13 := Aside0.mk (show CrAt g B A n c xs m6 most (w12.setRow b [Value.string t, .int .i64 a, .slice Al nl cl, .string h, .int .i64 y, .int .i64 z].toArray) from K12.out.aside (below_setRow' (Below.refl _ _) HLT.out.2 _) (setRow_other _ _ _ _ (by have := HLT.out; omega)))
  have B13 := Aside0.mk (show Below B W (w12.setRow b [Value.string t, .int .i64 a, .slice Al nl cl, .string h, .int .i64 y, .int .i64 z].toArray) from below_setRow' B12.out HLT.out.2 _)
  have P13 := Aside0.mk (show Kept W (w12.setRow b [Value.string t, .int .i64 a, .slice Al nl cl, .string h, .int .i64 y, .int .i64 z].toArray) (fun j => j = g) from ⟨by rw [setRow_size]; exact P12.out.1, fun j hj hn => (setRow_other _ _ _ _ (by have := HBE.out; omega)).trans (P12.out.2 j hj hn)⟩)
  have R13 := Aside0.mk (show Rt 40 b [Value.string t, .int .i64 a, .slice Al nl cl, .string h, .int .i64 y, .int .i64 z] (w12.setRow b [Value.string t, .int .i64 a, .slice Al nl cl, .string h, .int .i64 y, .int .i64 z].toArray) from R12.out.row _)
  have Ll_13 := Aside0.mk (LN_alive.row Ll_12.out (Nat.lt_succ_self b) [Value.string t, .int .i64 a, .slice Al nl cl, .string h, .int .i64 y, .int .i64 z].toArray)
  generalize w12.setRow b [Value.string t, .int .i64 a, .slice Al nl cl, .string h, .int .i64 y, .int .i64 z].toArray = w13 at *
  have c0 := R13.out.cell 0 _ rfl
  have f0 := R13.out.free 0
  have c1 := R13.out.cell 1 _ rfl
  have f1 := R13.out.free 1
  have c2 := R13.out.cell 2 _ rfl
  have f2 := R13.out.free 2
  have c3 := R13.out.cell 3 _ rfl
  have f3 := R13.out.free 3
  have c4 := R13.out.cell 4 _ rfl
  have f4 := R13.out.free 4
  have c5 := R13.out.cell 5 _ rfl
  have f5 := R13.out.free 5
  go_wp2_with fail
  rw [R13.out.same 0 _ rfl, R13.out.same 1 _ rfl, R13.out.same 2 _ rfl, R13.out.same 3 _ rfl, R13.out.same 4 _ rfl, R13.out.same 5 _ rfl]
  refine bodyPost_ret (results_cell_row rfl _ _ b 40 _ (0, 0) _ rfl R13.out Try.underlying40 rfl (by kernel_rfl)) rfl ?_
  refine ⟨B13.out, P13.out, ?_⟩
  have e9 : pReq xs most m = Res.ok ⟨t, a, l, h, y, z⟩ m6 := by
    unfold pReq
    simp only [Res.bind, HQ0.out, HQ1.out, HQ2.out, HQ3.out, HQ4.out, HQ5.out]
  rw [e9]
  exact ⟨_, rfl, ⟨Al, nl, cl, rfl, LN_alive.lower Ll_13.out (Nat.le_succ_of_le HBE.out)⟩, K13.out⟩
end Go.Proofs.Ytafmoglaockepaa.Cd
end
section
namespace Go.Proofs.Ytafmoglaockepaa.Cd
open Go Go.RowKit Go.Proofs.Ytafmoglaockepaa.Num Go.Proofs.Ytafmoglaockepaa.PG Go.Proofs.YtafmoglaockepaaW.PrintWords Go.Proofs.YtafmoglaockepaaW.PrintLast Go.Proofs.YtafmoglaockepaaW.PrintMore
set_option linter.unusedVariables false
set_option linter.unusedSimpArgs false
set_option maxHeartbeats 4000000
set_option maxRecDepth 100000
def RdOut {α : Type} (enc : Nat → α → Value → World → Prop) (zero : List Value) (S0 : Nat) (r : Res α) (v : Value) (w : World) : Prop :=
  match r with
  | .ok x _ => enc S0 x v w
  | .fail _ _ => v = .agg zero.toArray
def outOr {α : Type} (z : α) (r : Res α) : α :=
  match r with
  | .ok x _ => x
  | .fail _ _ => z
end Go.Proofs.Ytafmoglaockepaa.Cd
end
section
namespace Go.Proofs.Ytafmoglaockepaa.Cd
open Go Go.RowKit Go.Proofs.Ytafmoglaockepaa.Num Go.Proofs.Ytafmoglaockepaa.PG Go.Proofs.YtafmoglaockepaaW.PrintWords Go.Proofs.YtafmoglaockepaaW.PrintLast Go.Proofs.YtafmoglaockepaaW.PrintMore
set_option linter.unusedVariables false
set_option linter.unusedSimpArgs false
set_option maxHeartbeats 4000000
set_option maxRecDepth 100000
structure RecD where
  f0 : Int
  f1 : S40
def pRec (xs : List Int) (most : Nat) (m : Nat) : Res RecD :=
  (pI xs m).bind fun a m => (pReq xs most m).bind fun rq m => .ok ⟨a, rq⟩ m
def memRec (S : Nat) (x : RecD) (v : Value) (w : World) : Prop := ∃ Arq nrq crq, v = .agg #[.int .i64 x.f0, .string x.f1.f0, .int .i64 x.f1.f1, .slice Arq nrq crq, .string x.f1.f3, .int .i64 x.f1.f4, .int .i64 x.f1.f5] ∧ LN S x.f1.f2 (.slice Arq nrq crq) w
theorem r_record {g B : Nat} {A : Option Addr} {n c : Nat} {xs : List Int} {m most : Nat} {W : World} (k : CrAt g B A n c xs m most W) :
    Calls Try.prog 80 #[ptr g] W fun e w' => Below B W w' ∧ Kept W w' (fun j => j = g) ∧ OutR g B A n c xs most (memRec W.heap.size) (pRec xs most m) e w' := by
  have HK := Aside0.mk k
  clear k
  go_enter Try.func80, Try.ntmps80
  go_upto_region 1 with fail
  have hr1 : Rt 49 W.heap.size [.int .i64 0, .string ⟨#[]⟩, .int .i64 0, .slice none 0 0, .string ⟨#[]⟩, .int .i64 0, .int .i64 0] (W.alloc (.cells #[.int .i64 0, .string ⟨#[]⟩, .int .i64 0, .slice none 0 0, .string ⟨#[]⟩, .int .i64 0, .int .i64 0] 49)) := heap_alloc_new W _
  have hb1 : Below W.heap.size W (W.alloc (.cells #[.int .i64 0, .string ⟨#[]⟩, .int .i64 0, .slice none 0 0, .string ⟨#[]⟩, .int .i64 0, .int .i64 0] 49)) := below_alloc (Below.refl _ _) _
  obtain ⟨b, hbe⟩ : ∃ b, W.heap.size = b := ⟨_, rfl⟩
  have K1 := Aside0.mk (HK.out.below hb1)
  have B1 := Aside0.mk (hb1.mono HK.out.size)
  have P1 := Aside0.mk (Kept.of_below hb1 (fun j => j = g))
  have HBE := Aside0.mk (show W.heap.size ≤ b by omega)
  have HLT := Aside0.mk (show g < b ∧ B ≤ b by have := HK.out.row.lt; have := HK.out.size; omega)
  rw [hbe] at hr1
  rw [hbe]
  have R1 := Aside0.mk hr1
  clear hr1 hb1 hbe
  generalize W.alloc (.cells #[.int .i64 0, .string ⟨#[]⟩, .int .i64 0, .slice none 0 0, .string ⟨#[]⟩, .int .i64 0, .int .i64 0] 49) = w1 at *
  have cr0 := R1.out.cell 0 _ rfl
  have fr0 := R1.out.free 0
  go_wp2_with fail
  go_at_call 62
  refine (r_int K1.out).mono ?_
  rintro e w2 ⟨hb, hp, ho⟩
  have hbt := B1.out.trans hb
  have hpt := P1.out.then_ hp (fun _ h => .inl h)
  rcases hq : pI xs m with ⟨a, m1⟩ | ⟨er, p⟩
  rotate_left
  · rw [hq] at ho
    have ho : e = gaveUp er p := ho
    subst ho
    refine ⟨rfl, hbt, hpt, ?_⟩
    have e9 : pRec xs most m = Res.fail er p := by
      unfold pRec
      simp only [Res.bind, hq]
    rw [e9]
    rfl
  rw [hq] at ho
  obtain ⟨he, hk⟩ : e = .returned (.int .i64 a) ∧ CrAt g B A n c xs m1 most w2 := ho
  subst he
  have HQ0 := Aside0.mk hq
  have K2 := Aside0.mk hk
  have B2 := Aside0.mk hbt
  have P2 := Aside0.mk hpt
  have R2 := Aside0.mk (show Rt 49 b [.int .i64 0, .string ⟨#[]⟩, .int .i64 0, .slice none 0 0, .string ⟨#[]⟩, .int .i64 0, .int .i64 0] w2 from (hp.2 b R1.out.lt (by have := HLT.out; show b ≠ g; omega)).trans R1.out)
  clear hb hp hbt hpt hq hk cr0 fr0
  try clear ho
  have cr0 := R2.out.cell 0 _ rfl
  have fr0 := R2.out.free 0
  go_upto_region 2 with fail
  have e1 := R2.out.set 0 (.int .i64 a)
  rw [e1]
  clear e1 cr0 fr0
  have hl : [Value.int .i64 0, .string ⟨#[]⟩, .int .i64 0, .slice none 0 0, .string ⟨#[]⟩, .int .i64 0, .int .i64 0].set 0 (.int .i64 a) = [Value.int .i64 a, .string ⟨#[]⟩, .int .i64 0, .slice none 0 0, .string ⟨#[]⟩, .int .i64 0, .int .i64 0] := rfl
  rw [hl]
  clear hl
  have K3 := Aside0.mk (show CrAt g B A n c xs m1 most (w2.setRow b [Value.int .i64 a, .string ⟨#[]⟩, .int .i64 0, .slice none 0 0, .string ⟨#[]⟩, .int .i64 0, .int .i64 0].toArray) from K2.out.aside (below_setRow' (Below.refl _ _) HLT.out.2 _) (setRow_other _ _ _ _ (by have := HLT.out; omega)))
  have B3 := Aside0.mk (show Below B W (w2.setRow b [Value.int .i64 a, .string ⟨#[]⟩, .int .i64 0, .slice none 0 0, .string ⟨#[]⟩, .int .i64 0, .int .i64 0].toArray) from below_setRow' B2.out HLT.out.2 _)
  have P3 := Aside0.mk (show Kept W (w2.setRow b [Value.int .i64 a, .string ⟨#[]⟩, .int .i64 0, .slice none 0 0, .string ⟨#[]⟩, .int .i64 0, .int .i64 0].toArray) (fun j => j = g) from ⟨by rw [setRow_size]; exact P2.out.1, fun j hj hn => (setRow_other _ _ _ _ (by have := HBE.out; omega)).trans (P2.out.2 j hj hn)⟩)
  have R3 := Aside0.mk (show Rt 49 b [Value.int .i64 a, .string ⟨#[]⟩, .int .i64 0, .slice none 0 0, .string ⟨#[]⟩, .int .i64 0, .int .i64 0] (w2.setRow b [Value.int .i64 a, .string ⟨#[]⟩, .int .i64 0, .slice none 0 0, .string ⟨#[]⟩, .int .i64 0, .int .i64 0].toArray) from R2.out.row _)
  generalize w2.setRow b [Value.int .i64 a, .string ⟨#[]⟩, .int .i64 0, .slice none 0 0, .string ⟨#[]⟩, .int .i64 0, .int .i64 0].toArray = w3 at *
  have cr1 := R3.out.cell 1 _ rfl
  have fr1 := R3.out.free 1
  have cr2 := R3.out.cell 2 _ rfl
  have fr2 := R3.out.free 2
  have cr3 := R3.out.cell 3 _ rfl
  have fr3 := R3.out.free 3
  have cr4 := R3.out.cell 4 _ rfl
  have fr4 := R3.out.free 4
  have cr5 := R3.out.cell 5 _ rfl
  have fr5 := R3.out.free 5
  have cr6 := R3.out.cell 6 _ rfl
  have fr6 := R3.out.free 6
  go_wp2_with fail
  go_at_call 75
  refine (r_request K3.out).mono ?_
  rintro e w4 ⟨hb, hp, ho⟩
  have hbt := B3.out.trans hb
  have hpt := P3.out.then_ hp (fun _ h => .inl h)
  rcases hq : pReq xs most m1 with ⟨rq, m2⟩ | ⟨er, p⟩
  rotate_left
  · rw [hq] at ho
    have ho : e = gaveUp er p := ho
    subst ho
    refine ⟨rfl, hbt, hpt, ?_⟩
    have e9 : pRec xs most m = Res.fail er p := by
      unfold pRec
      simp only [Res.bind, HQ0.out, hq]
    rw [e9]
    rfl
  rw [hq] at ho
  obtain ⟨v, he, hE, hk⟩ : ∃ v, e = .returned v ∧ memReq w3.heap.size rq v w4 ∧ CrAt g B A n c xs m2 most w4 := ho
  obtain ⟨Arq, nrq, crq, ev, hE⟩ := hE
  subst ev
  have Lrq_4 := Aside0.mk (show LN (b + 1) rq.f2 (.slice Arq nrq crq) w4 from LN_alive.lower hE R3.out.lt)
  clear hE
  subst he
  have HQ1 := Aside0.mk hq
  have K4 := Aside0.mk hk
  have B4 := Aside0.mk hbt
  have P4 := Aside0.mk hpt
  have R4 := Aside0.mk (show Rt 49 b [.int .i64 a, .string ⟨#[]⟩, .int .i64 0, .slice none 0 0, .string ⟨#[]⟩, .int .i64 0, .int .i64 0] w4 from (hp.2 b R3.out.lt (by have := HLT.out; show b ≠ g; omega)).trans R3.out)
  clear hb hp hbt hpt hq hk cr1 fr1 cr2 fr2 cr3 fr3 cr4 fr4 cr5 fr5 cr6 fr6
  try clear ho
  have cr1 := R4.out.cell 1 _ rfl
  have fr1 := R4.out.free 1
  have cr2 := R4.out.cell 2 _ rfl
  have fr2 := R4.out.free 2
  have cr3 := R4.out.cell 3 _ rfl
  have fr3 := R4.out.free 3
  have cr4 := R4.out.cell 4 _ rfl
  have fr4 := R4.out.free 4
  have cr5 := R4.out.cell 5 _ rfl
  have fr5 := R4.out.free 5
  have cr6 := R4.out.cell 6 _ rfl
  have fr6 := R4.out.free 6
  go_upto_region 3 with fail
  have e1 := R4.out.fill6 1 (.string rq.f0) (.int .i64 rq.f1) (.slice Arq nrq crq) (.string rq.f3) (.int .i64 rq.f4) (.int .i64 rq.f5)
  have e2 := R4.out
  simp only [Nat.reduceAdd, List.set_cons_zero, List.set_cons_succ] at e1
  rw [e1]
  clear e1 e2 cr1 fr1 cr2 fr2 cr3 fr3 cr4 fr4 cr5 fr5 cr6 fr6
  have K5 := Aside0.mk (show CrAt g B A n c xs m2 most (w4.setRow b [Value.int .i64 a, .string rq.f0, .int .i64 rq.f1, .slice Arq nrq crq, .string rq.f3, .int .i64 rq.f4, .int .i64 rq.f5].toArray) from K4.out.aside (below_setRow' (Below.refl _ _) HLT.out.2 _) (setRow_other _ _ _ _ (by have := HLT.out; omega)))
  have B5 := Aside0.mk (show Below B W (w4.setRow b [Value.int .i64 a, .string rq.f0, .int .i64 rq.f1, .slice Arq nrq crq, .string rq.f3, .int .i64 rq.f4, .int .i64 rq.f5].toArray) from below_setRow' B4.out HLT.out.2 _)
  have P5 := Aside0.mk (show Kept W (w4.setRow b [Value.int .i64 a, .string rq.f0, .int .i64 rq.f1, .slice Arq nrq crq, .string rq.f3, .int .i64 rq.f4, .int .i64 rq.f5].toArray) (fun j => j = g) from ⟨by rw [setRow_size]; exact P4.out.1, fun j hj hn => (setRow_other _ _ _ _ (by have := HBE.out; omega)).trans (P4.out.2 j hj hn)⟩)
  have R5 := Aside0.mk (show Rt 49 b [Value.int .i64 a, .string rq.f0, .int .i64 rq.f1, .slice Arq nrq crq, .string rq.f3, .int .i64 rq.f4, .int .i64 rq.f5] (w4.setRow b [Value.int .i64 a, .string rq.f0, .int .i64 rq.f1, .slice Arq nrq crq, .string rq.f3, .int .i64 rq.f4, .int .i64 rq.f5].toArray) from R4.out.row _)
  have Lrq_5 := Aside0.mk (LN_alive.row Lrq_4.out (Nat.lt_succ_self b) [Value.int .i64 a, .string rq.f0, .int .i64 rq.f1, .slice Arq nrq crq, .string rq.f3, .int .i64 rq.f4, .int .i64 rq.f5].toArray)
  generalize w4.setRow b [Value.int .i64 a, .string rq.f0, .int .i64 rq.f1, .slice Arq nrq crq, .string rq.f3, .int .i64 rq.f4, .int .i64 rq.f5].toArray = w5 at *
  have c0 := R5.out.cell 0 _ rfl
  have f0 := R5.out.free 0
  have c1 := R5.out.cell 1 _ rfl
  have f1 := R5.out.free 1
  have c2 := R5.out.cell 2 _ rfl
  have f2 := R5.out.free 2
  have c3 := R5.out.cell 3 _ rfl
  have f3 := R5.out.free 3
  have c4 := R5.out.cell 4 _ rfl
  have f4 := R5.out.free 4
  have c5 := R5.out.cell 5 _ rfl
  have f5 := R5.out.free 5
  have c6 := R5.out.cell 6 _ rfl
  have f6 := R5.out.free 6
  go_wp2_with fail
  rw [R5.out.same 0 _ rfl, R5.out.same 1 _ rfl, R5.out.same 2 _ rfl, R5.out.same 3 _ rfl, R5.out.same 4 _ rfl, R5.out.same 5 _ rfl, R5.out.same 6 _ rfl]
  refine bodyPost_ret (results_cell_row rfl _ _ b 49 _ (0, 0) _ rfl R5.out Try.underlying49 rfl (by kernel_rfl)) rfl ?_
  refine ⟨B5.out, P5.out, ?_⟩
  have e9 : pRec xs most m = Res.ok ⟨a, rq⟩ m2 := by
    unfold pRec
    simp only [Res.bind, HQ0.out, HQ1.out]
  rw [e9]
  exact ⟨_, rfl, ⟨Arq, nrq, crq, rfl, LN_alive.lower Lrq_5.out (Nat.le_succ_of_le HBE.out)⟩, K5.out⟩
abbrev zero_rec : List Value := [.int .i64 0, .string ⟨#[]⟩, .int .i64 0, .slice none 0 0, .string ⟨#[]⟩, .int .i64 0, .int .i64 0]
theorem catch_rec {bo be ba : Nat} {ve va : Value} (er p : Int) (older : List PanicEntry) (w : World) (ho : Rt 49 bo zero_rec w) (he : Rt 22 be [ve] w) (ha : Rt 3 ba [va] w) (h1 : bo ≠ be) (h2 : bo ≠ ba) (h3 : be ≠ ba) :
    CallsD Try.prog 124 #[ptr bo, ptr be, ptr ba] (.panicking ({ v := fault er p, recovered := false } :: older)) w fun e u' w' =>
      e = .returned (.tuple #[]) ∧ u' = .panicking ({ v := fault er p, recovered := true } :: older) ∧ Rt 49 bo zero_rec w' ∧ Rt 22 be [.int .i64 er] w' ∧ Rt 3 ba [.int .i64 p] w' ∧ Kept w w' (fun j => j = bo ∨ j = be ∨ j = ba) ∧ ∀ B, B ≤ be → B ≤ ba → B ≤ w.heap.size → Below B w w' := by
  have HO := Aside0.mk ho
  have HE := Aside0.mk he
  have HA := Aside0.mk ha
  have hu155 := Try.underlying155
  clear ho he ha
  refine callsD_of_wpS Try.func124 rfl fun c₀ cs hu => ?_
  simp only [Try.ntmps124, List.size_toArray, List.length_cons, List.length_nil, Nat.reduceAdd, Nat.reduceSub, Array.replicate_succ, Array.replicate_zero, List.push_toArray, List.append_toArray, List.nil_append, List.cons_append]
  apply wpS_seq
  refine wpS_recovers (v := fault er p) (cs' := { c₀ with mode := .panicking ({ v := fault er p, recovered := true } :: older) } :: cs) (by rfl) (by simp [go_sem]) (by simp [recoverD, hu]) ?_ ?_
  · rintro ⟨a, w, u', h, _⟩
    cases h
  simp only [Act.put, List.setIfInBounds_toArray, List.set_cons_zero, List.set_cons_succ]
  unfold fault
  have hTA : ∀ v w, (Instr.typeAssert (.iface 155 v) 20 155 true).run Try.prog w = .ok (.tuple #[v, .bool true]) w := fun v w => by
    simp [Instr.typeAssert, run_underlying hu155]
  go_wp2_with fail
  simp only [Exit.thenS]
  refine wpS_of_wp ?_
  have hb1 : Below w.heap.size w (w.alloc (.cells #[.int .i64 er, .int .i64 p] 155)) := below_alloc (Below.refl _ _) _
  have hr3 : Rt 155 w.heap.size [.int .i64 er, .int .i64 p] (w.alloc (.cells #[.int .i64 er, .int .i64 p] 155)) := heap_alloc_new w _
  obtain ⟨b3, hb3⟩ : ∃ b3, w.heap.size = b3 := ⟨_, rfl⟩
  have HB3E := Aside0.mk hb3
  have O1 := Aside0.mk (HO.out.below hb1)
  have E1 := Aside0.mk (HE.out.below hb1)
  have A1 := Aside0.mk (HA.out.below hb1)
  have P1 := Aside0.mk (Kept.of_below hb1 (fun j => j = bo ∨ j = be ∨ j = ba))
  have W1 := Aside0.mk (show Below w.heap.size w (w.alloc (.cells #[.int .i64 er, .int .i64 p] 155)) from hb1)
  rw [hb3] at hr3 ⊢
  have R1 := Aside0.mk hr3
  clear hb1 hr3 hb3 hTA hu155 hu
  generalize w.alloc (.cells #[.int .i64 er, .int .i64 p] 155) = w1 at *
  go_upto_region 3 with fail
  have hb1 : Below w1.heap.size w1 (w1.alloc (.cells #[.int .i64 0, .string ⟨#[]⟩, .int .i64 0, .slice none 0 0, .string ⟨#[]⟩, .int .i64 0, .int .i64 0] 49)) := below_alloc (Below.refl _ _) _
  have hr5 : Rt 49 w1.heap.size zero_rec (w1.alloc (.cells #[.int .i64 0, .string ⟨#[]⟩, .int .i64 0, .slice none 0 0, .string ⟨#[]⟩, .int .i64 0, .int .i64 0] 49)) := heap_alloc_new w1 _
  obtain ⟨b5, hb5⟩ : ∃ b5, w1.heap.size = b5 := ⟨_, rfl⟩
  have O2 := Aside0.mk (O1.out.below hb1)
  have E2 := Aside0.mk (E1.out.below hb1)
  have A2 := Aside0.mk (A1.out.below hb1)
  have R2 := Aside0.mk (R1.out.below hb1)
  have P2 := Aside0.mk (P1.out.below hb1)
  have W2 := Aside0.mk (W1.out.trans (hb1.mono W1.out.size))
  rw [hb5] at hr5 ⊢
  have Z2 := Aside0.mk hr5
  clear hb1 hr5 hb5 O1 E1 A1 R1 P1 W1
  generalize w1.alloc (.cells #[.int .i64 0, .string ⟨#[]⟩, .int .i64 0, .slice none 0 0, .string ⟨#[]⟩, .int .i64 0, .int .i64 0] 49) = w2 at *
  have MKS := Aside0.mk (show ∀ w' : World, (∀ j t (u : Array Value), w2.heap[j]? = some (Obj.cells u t (0, 0)) → t ≠ 22 → t ≠ 3 → w'.heap[j]? = w2.heap[j]?) → (fun w' : World => (w'.cell? ⟨b5, 0, none⟩ = some (.int .i64 0) ∧ w'.cell? ⟨b5, 1, none⟩ = some (.string ⟨#[]⟩) ∧ w'.cell? ⟨b5, 2, none⟩ = some (.int .i64 0) ∧ w'.cell? ⟨b5, 3, none⟩ = some (.slice none 0 0) ∧ w'.cell? ⟨b5, 4, none⟩ = some (.string ⟨#[]⟩) ∧ w'.cell? ⟨b5, 5, none⟩ = some (.int .i64 0) ∧ w'.cell? ⟨b5, 6, none⟩ = some (.int .i64 0)) ∧ w'.cell? ⟨b3, 0, none⟩ = some (.int .i64 er) ∧ w'.cell? ⟨b3, 1, none⟩ = some (.int .i64 p)) w' from fun w' hw => by
    have z : Rt 49 b5 zero_rec w' := (hw b5 49 _ Z2.out (by decide) (by decide)).trans Z2.out
    have r : Rt 155 b3 [.int .i64 er, .int .i64 p] w' := (hw b3 155 _ R2.out (by decide) (by decide)).trans R2.out
    exact ⟨⟨z.cell 0 _ rfl, z.cell 1 _ rfl, z.cell 2 _ rfl, z.cell 3 _ rfl, z.cell 4 _ rfl, z.cell 5 _ rfl, z.cell 6 _ rfl⟩, r.cell 0 _ rfl, r.cell 1 _ rfl⟩)
  refine wp_region_held_drew (S := fun w' : World => (w'.cell? ⟨b5, 0, none⟩ = some (.int .i64 0) ∧ w'.cell? ⟨b5, 1, none⟩ = some (.string ⟨#[]⟩) ∧ w'.cell? ⟨b5, 2, none⟩ = some (.int .i64 0) ∧ w'.cell? ⟨b5, 3, none⟩ = some (.slice none 0 0) ∧ w'.cell? ⟨b5, 4, none⟩ = some (.string ⟨#[]⟩) ∧ w'.cell? ⟨b5, 5, none⟩ = some (.int .i64 0) ∧ w'.cell? ⟨b5, 6, none⟩ = some (.int .i64 0)) ∧ w'.cell? ⟨b3, 0, none⟩ = some (.int .i64 er) ∧ w'.cell? ⟨b3, 1, none⟩ = some (.int .i64 p)) (by kernel_rfl) (MKS.out _ (fun _ _ _ _ _ _ => rfl)) (fun hHeld => ?_)
  refine wpAnyH_take (i := 0) (oi := { dst := some 12, op := Op.load 49 (Operand.tmp 5), type := 49, pos := "read.go:88", after := #[], guard := none }) (v := ?_) rfl (by kernel_rfl) (by kernel_rfl) (by kernel_rfl) (fun _ _ _ h => h) (Or.inl ⟨by rfl, ?_⟩) hHeld ?_
  rotate_left
  · intro w' hS; obtain ⟨⟨hS0, hS1, hS2, hS3, hS4, hS5, hS6⟩, hS7, hS8⟩ := hS; go_simp; all_goals (with_reducible rfl)
  (try simp only [Act.put, List.setIfInBounds_toArray, List.set_cons_zero, List.set_cons_succ])
  refine wpAnyH_take (i := 1) (oi := { dst := some 13, op := Op.fieldAddr 155 (Operand.tmp 3) 0, type := 0, pos := "read.go:88", after := #[{ on := 5, ground := Ground.gcOnly Departure.lateStores }], guard := none }) (v := ?_) rfl (by kernel_rfl) (by kernel_rfl) (by kernel_rfl) (fun _ _ _ h => h) (Or.inl ⟨by rfl, ?_⟩) hHeld ?_
  rotate_left
  · intro w' hS; obtain ⟨⟨hS0, hS1, hS2, hS3, hS4, hS5, hS6⟩, hS7, hS8⟩ := hS; go_simp; all_goals (with_reducible rfl)
  (try simp only [Act.put, List.setIfInBounds_toArray, List.set_cons_zero, List.set_cons_succ])
  refine wpAnyH_take (i := 2) (oi := { dst := some 14, op := Op.load 22 (Operand.tmp 13), type := 22, pos := "read.go:88", after := #[{ on := 1, ground := Ground.data }, { on := 5, ground := Ground.gcOnly Departure.lateStores }], guard := none }) (v := ?_) rfl (by kernel_rfl) (by kernel_rfl) (by kernel_rfl) (fun _ _ _ h => h) (Or.inl ⟨by rfl, ?_⟩) hHeld ?_
  rotate_left
  · intro w' hS; obtain ⟨⟨hS0, hS1, hS2, hS3, hS4, hS5, hS6⟩, hS7, hS8⟩ := hS; go_simp; all_goals (with_reducible rfl)
  (try simp only [Act.put, List.setIfInBounds_toArray, List.set_cons_zero, List.set_cons_succ])
  refine wpAnyH_take (i := 3) (oi := { dst := some 15, op := Op.fieldAddr 155 (Operand.tmp 3) 1, type := 0, pos := "read.go:88", after := #[{ on := 6, ground := Ground.gcOnly Departure.lateStores }], guard := none }) (v := ?_) rfl (by kernel_rfl) (by kernel_rfl) (by kernel_rfl) (fun _ _ _ h => h) (Or.inl ⟨by rfl, ?_⟩) hHeld ?_
  rotate_left
  · intro w' hS; obtain ⟨⟨hS0, hS1, hS2, hS3, hS4, hS5, hS6⟩, hS7, hS8⟩ := hS; go_simp; all_goals (with_reducible rfl)
  (try simp only [Act.put, List.setIfInBounds_toArray, List.set_cons_zero, List.set_cons_succ])
  refine wpAnyH_take (i := 4) (oi := { dst := some 16, op := Op.load 3 (Operand.tmp 15), type := 3, pos := "read.go:88", after := #[{ on := 3, ground := Ground.data }, { on := 6, ground := Ground.gcOnly Departure.lateStores }], guard := none }) (v := ?_) rfl (by kernel_rfl) (by kernel_rfl) (by kernel_rfl) (fun _ _ _ h => h) (Or.inl ⟨by rfl, ?_⟩) hHeld ?_
  rotate_left
  · intro w' hS; obtain ⟨⟨hS0, hS1, hS2, hS3, hS4, hS5, hS6⟩, hS7, hS8⟩ := hS; go_simp; all_goals (with_reducible rfl)
  (try simp only [Act.put, List.setIfInBounds_toArray, List.set_cons_zero, List.set_cons_succ])
  refine wpAnyH_ready (rs := [5]) (by kernel_rfl) (by simp) ?_
  refine AllReadyH.cons (o := { dst := none, op := Op.store 49 (Operand.tmp 0) (Operand.tmp 12), type := 0, pos := "read.go:88", after := #[{ on := 0, ground := Ground.data }, { on := 0, ground := Ground.phase }, { on := 1, ground := Ground.textOnly Departure.lateStores }, { on := 2, ground := Ground.textOnly Departure.lateStores }, { on := 3, ground := Ground.textOnly Departure.lateStores }, { on := 4, ground := Ground.textOnly Departure.lateStores }], guard := none }) rfl (fun K hK => ?_) AllReadyH.nil
  have d0 := O2.out.cell 0 _ rfl
  have d1 := O2.out.cell 1 _ rfl
  have d2 := O2.out.cell 2 _ rfl
  have d3 := O2.out.cell 3 _ rfl
  have d4 := O2.out.cell 4 _ rfl
  have d5 := O2.out.cell 5 _ rfl
  have d6 := O2.out.cell 6 _ rfl
  have f0 := O2.out.free 0
  have f1 := O2.out.free 1
  have f2 := O2.out.free 2
  have f3 := O2.out.free 3
  have f4 := O2.out.free 4
  have f5 := O2.out.free 5
  have f6 := O2.out.free 6
  go_simp
  rw [O2.out.same 0 _ rfl, O2.out.same 1 _ rfl, O2.out.same 2 _ rfl, O2.out.same 3 _ rfl, O2.out.same 4 _ rfl, O2.out.same 5 _ rfl, O2.out.same 6 _ rfl]
  clear d0 d1 d2 d3 d4 d5 d6 f0 f1 f2 f3 f4 f5 f6
  refine hK.out _ _ (MKS.out _ (fun _ _ _ _ _ _ => rfl)) (fun hHeld => ?_)
  clear hK K
  (try simp only [Act.put, List.setIfInBounds_toArray, List.set_cons_zero, List.set_cons_succ])
  refine wpAnyH_ready (rs := [6]) (by kernel_rfl) (by simp) ?_
  refine AllReadyH.cons (o := { dst := none, op := Op.store 22 (Operand.tmp 1) (Operand.tmp 14), type := 0, pos := "read.go:88", after := #[{ on := 2, ground := Ground.data }, { on := 5, ground := Ground.chain }, { on := 0, ground := Ground.phase }, { on := 1, ground := Ground.phase }, { on := 2, ground := Ground.phase }, { on := 3, ground := Ground.textOnly Departure.lateStores }, { on := 4, ground := Ground.textOnly Departure.lateStores }, { on := 5, ground := Ground.phase }], guard := none }) rfl (fun K hK => ?_) AllReadyH.nil
  have d0 := E2.out.cell 0 _ rfl
  have f0 := E2.out.free 0
  go_simp
  rw [E2.out.set 0 (.int .i64 er), show [ve].set 0 (.int .i64 er) = [Value.int .i64 er] from rfl]
  have E6 := Aside0.mk (show Rt 22 be [.int .i64 er] (w2.setRow be [Value.int .i64 er].toArray) from E2.out.row _)
  have A6 := Aside0.mk (show Rt 3 ba [va] (w2.setRow be [Value.int .i64 er].toArray) from (setRow_other _ _ _ _ (Ne.symm h3)).trans A2.out)
  clear d0 f0
  refine hK.out _ _ (MKS.out _ (fun j t u hj h22 h3' => setRow_other _ _ _ _ (fun e => h22 (by rw [e] at hj; exact blk_types hj E2.out)))) (fun hHeld => ?_)
  clear hK K
  (try simp only [Act.put, List.setIfInBounds_toArray, List.set_cons_zero, List.set_cons_succ])
  refine wpAnyH_ready (rs := [7]) (by kernel_rfl) (by simp) ?_
  refine AllReadyH.cons (o := { dst := none, op := Op.store 3 (Operand.tmp 2) (Operand.tmp 16), type := 0, pos := "read.go:88", after := #[{ on := 4, ground := Ground.data }, { on := 6, ground := Ground.chain }, { on := 0, ground := Ground.phase }, { on := 1, ground := Ground.phase }, { on := 2, ground := Ground.phase }, { on := 3, ground := Ground.phase }, { on := 4, ground := Ground.phase }, { on := 5, ground := Ground.phase }, { on := 6, ground := Ground.phase }], guard := none }) rfl (fun K hK => ?_) AllReadyH.nil
  have d0 := A6.out.cell 0 _ rfl
  have f0 := A6.out.free 0
  go_simp
  rw [A6.out.set 0 (.int .i64 p), show [va].set 0 (.int .i64 p) = [Value.int .i64 p] from rfl]
  have A7 := Aside0.mk (show Rt 3 ba [.int .i64 p] ((w2.setRow be [Value.int .i64 er].toArray).setRow ba [Value.int .i64 p].toArray) from A6.out.row _)
  have E7 := Aside0.mk (show Rt 22 be [.int .i64 er] ((w2.setRow be [Value.int .i64 er].toArray).setRow ba [Value.int .i64 p].toArray) from (setRow_other _ _ _ _ h3).trans E6.out)
  have O7 := Aside0.mk (show Rt 49 bo zero_rec ((w2.setRow be [Value.int .i64 er].toArray).setRow ba [Value.int .i64 p].toArray) from (setRow_other _ _ _ _ h2).trans ((setRow_other _ _ _ _ h1).trans O2.out))
  have P7 := Aside0.mk (show Kept w ((w2.setRow be [Value.int .i64 er].toArray).setRow ba [Value.int .i64 p].toArray) (fun j => j = bo ∨ j = be ∨ j = ba) from ⟨by rw [setRow_size, setRow_size]; exact P2.out.1, fun j hj hn => (setRow_other _ _ _ _ (fun e => hn (.inr (.inr e)))).trans ((setRow_other _ _ _ _ (fun e => hn (.inr (.inl e)))).trans (P2.out.2 j hj hn))⟩)
  clear d0 f0
  refine hK.out _ _ (MKS.out _ (fun j t u hj h22 h3' => (setRow_other _ _ _ _ (fun e => h3' (by rw [e] at hj; exact blk_types hj A2.out))).trans (setRow_other _ _ _ _ (fun e => h22 (by rw [e] at hj; exact blk_types hj E2.out))))) (fun hHeld => ?_)
  clear hK K
  (try simp only [Act.put, List.setIfInBounds_toArray, List.set_cons_zero, List.set_cons_succ])
  refine wpAnyH_done (by kernel_rfl) ?_ _
  (try simp only [Act.put, List.setIfInBounds_toArray, List.set_cons_zero, List.set_cons_succ])
  try simp only [Exit.then]
  refine ⟨rfl, _, rfl, ?_⟩
  refine ⟨.tuple #[], by simp [results, Try.f124, Try.results124], rfl, rfl, O7.out, E7.out, A7.out, P7.out, fun B h1 h2 h3 => ?_⟩
  exact below_drew (below_setRow' (below_setRow' (W2.out.mono (by have := HB3E.out; omega)) h1 _) h2 _)
theorem idle_rec {bo be ba : Nat} (w : World) :
    CallsD Try.prog 124 #[ptr bo, ptr be, ptr ba] .returning w fun e u' w' => e = .returned (.tuple #[]) ∧ u' = .returning ∧ Below w.heap.size w w' := by
  have hu155 := Try.underlying155
  refine callsD_of_wpS Try.func124 rfl fun c₀ cs hu => ?_
  simp only [Try.ntmps124, List.size_toArray, List.length_cons, List.length_nil, Nat.reduceAdd, Nat.reduceSub, Array.replicate_succ, Array.replicate_zero, List.push_toArray, List.append_toArray, List.nil_append, List.cons_append]
  apply wpS_seq
  refine wpS_recovers_none (by rfl) (by simp [go_sem]) (by simp [recoverD, hu]) ?_ ?_
  · rintro ⟨a, w, u', h, _⟩
    cases h
  simp only [Act.put, List.setIfInBounds_toArray, List.set_cons_zero, List.set_cons_succ]
  obtain ⟨i, hi, hz, _, _⟩ : ∃ i, Try.prog.info? 155 = some i ∧ i.zero = some (.agg #[.int .i64 0, .int .i64 0]) ∧ i.size = 2 ∧ True := by
    have h : (Try.prog.info? 155).map (fun i => (i.zero, i.size)) = some (some (.agg #[.int .i64 0, .int .i64 0]), 2) := by kernel_rfl
    obtain ⟨i, hi, he⟩ := Option.map_eq_some_iff.1 h
    simp only [Prod.mk.injEq] at he
    exact ⟨i, hi, he.1, he.2, trivial⟩
  have hTA : ∀ w, (Instr.typeAssert .nilIface 20 155 true).run Try.prog w = .ok (.tuple #[.agg #[.int .i64 0, .int .i64 0], .bool false]) w := fun w => by
    simp [Instr.typeAssert, run_underlying hu155, zeroValue, typeInfo, hi, hz]
  have hb1 : Below w.heap.size w (w.alloc (.cells #[.int .i64 0, .int .i64 0] 155)) := below_alloc (Below.refl _ _) _
  have HB := Aside0.mk hb1
  clear hb1
  go_wp2_with fail
  simp only [Exit.thenS]
  refine wpS_of_wp ?_
  go_wp2_with fail
  refine ⟨rfl, .returning, ?_, .tuple #[], by simp [results, Try.f124, Try.results124], rfl, rfl, HB.out⟩
  rw [← hu]
end Go.Proofs.Ytafmoglaockepaa.Cd
end
section
namespace Go.Proofs.Ytafmoglaockepaa.Cd
open Go Go.RowKit Go.Proofs.Ytafmoglaockepaa.Num Go.Proofs.Ytafmoglaockepaa.PG Go.Proofs.YtafmoglaockepaaW.PrintWords Go.Proofs.YtafmoglaockepaaW.PrintLast Go.Proofs.YtafmoglaockepaaW.PrintMore
set_option linter.unusedVariables false
set_option linter.unusedSimpArgs false
set_option maxHeartbeats 4000000
set_option maxRecDepth 100000
def encC (x : RecD) : List Int := encI x.f0 ++ encQ x.f1
def bulkC (x : RecD) : Nat := 20 + bulkQ x.f1
theorem w_record {g B br : Nat} {xs : List Int} {W W0 : World} (k : WrAt g B xs W) (hW0 : Below W0.heap.size W0 W) (hB0 : W0.heap.size ≤ B) (x : RecD) (Al : Option Addr) (cl : Nat) (hCl : Kd.C k110 W0 Al x.f1.f2.length x.f1.f2) (h0 : Int64 x.f0) (h1 : ReqOk x.f1) (hbr : Rt 49 br [.int .i64 x.f0, .string x.f1.f0, .int .i64 x.f1.f1, .slice Al x.f1.f2.length cl, .string x.f1.f3, .int .i64 x.f1.f4, .int .i64 x.f1.f5] W) (hl : xs.length + bulkC x + 900 < 140737488355328) :
    Calls Try.prog 78 #[ptr g, ptr br] W fun e w' => e = .returned (.tuple #[]) ∧ WrAt g B (xs ++ encC x) w' ∧ Below B W w' ∧ Others W w' := by
  have HLL := Aside0.mk hl
  have HW0 := Aside0.mk hW0
  have HB0 := Aside0.mk hB0
  have HS := Aside0.mk k.size
  have HCl := Aside0.mk hCl
  have H0 := Aside0.mk h0
  have H1 := Aside0.mk h1
  have K1 := Aside0.mk k
  have R1 := Aside0.mk hbr
  clear k hbr hl hW0 hB0 hCl h0 h1
  go_enter Try.func78, Try.ntmps78
  obtain ⟨w1, hw1⟩ : ∃ w1, w1 = W := ⟨_, rfl⟩
  rw [← hw1] at K1 R1
  have B1 := Aside0.mk (show Below B W w1 by rw [hw1]; exact Below.refl _ _)
  have O1 := Aside0.mk (show Others W w1 by rw [hw1]; exact Others.refl _)
  rw [← hw1]
  have HW1 := Aside0.mk hw1
  clear hw1
  have c0 := R1.out.cell 0 _ rfl
  go_wp2_with fail
  go_at_call 53
  refine (w_int K1.out x.f0 H0.out (by have := HLL.out; have := encI_len x.f0; have := show (encReq x.f1.f0 x.f1.f1 x.f1.f2 x.f1.f3 x.f1.f4 x.f1.f5).length ≤ bulkQ x.f1 from encQ_len x.f1; have := show bulkQ x.f1 = 60 + x.f1.f0.size + x.f1.f3.size + bulkN x.f1.f2 from rfl; have := show bulkC x = 20 + bulkQ x.f1 from rfl; (try simp only [List.length_append]); omega)).mono ?_
  rintro e w2 ⟨rfl, hk, hb, ho⟩
  have K2 := Aside0.mk hk
  have B2 := Aside0.mk (B1.out.trans hb)
  have O2 := Aside0.mk (O1.out.trans ho)
  have R2 := Aside0.mk (ho.row R1.out (by decide) (by decide))
  clear hk hb ho c0
  have c1 := R2.out.cell 1 _ rfl
  have c2 := R2.out.cell 2 _ rfl
  have c3 := R2.out.cell 3 _ rfl
  have c4 := R2.out.cell 4 _ rfl
  have c5 := R2.out.cell 5 _ rfl
  have c6 := R2.out.cell 6 _ rfl
  go_wp2_with fail
  go_at_call 71
  refine (w_request K2.out x.f1.f0 x.f1.f1 Al x.f1.f2.length cl x.f1.f2 x.f1.f3 x.f1.f4 x.f1.f5 (fun W' hb => Kd.C_below HCl.out (HW0.out.trans ((B2.out.trans hb).mono HB0.out))) H1.out.2.1 H1.out.1 H1.out.2.2.1 H1.out.2.2.2 (by have := HLL.out; have := encI_len x.f0; have := show (encReq x.f1.f0 x.f1.f1 x.f1.f2 x.f1.f3 x.f1.f4 x.f1.f5).length ≤ bulkQ x.f1 from encQ_len x.f1; have := show bulkQ x.f1 = 60 + x.f1.f0.size + x.f1.f3.size + bulkN x.f1.f2 from rfl; have := show bulkC x = 20 + bulkQ x.f1 from rfl; (try simp only [List.length_append]); omega)).mono ?_
  rintro e w3 ⟨rfl, hk, hb, ho⟩
  have K3 := Aside0.mk hk
  have B3 := Aside0.mk (B2.out.trans hb)
  have O3 := Aside0.mk (O2.out.trans ho)
  have R3 := Aside0.mk (ho.row R2.out (by decide) (by decide))
  clear hk hb ho c1 c2 c3 c4 c5 c6
  go_wp2_with fail
  go_end0
  have e : xs ++ encC x = xs ++ encI x.f0 ++ encQ x.f1 := by
    unfold encC
    simp only [List.append_assoc]
  rw [e, HW1.out]
  exact ⟨rfl, K3.out, B3.out, O3.out⟩
theorem put_record (key : Int) (most br : Nat) (ys : List Int) (W : World) (hm : most ≤ 1000000000)
    (hF : ∀ g W', WrAt g W.heap.size [key] W' → Below W.heap.size W W' → Calls Try.prog 78 #[ptr g, ptr br] W' fun e w' => e = .returned (.tuple #[]) ∧ WrAt g W.heap.size ([key] ++ ys) w' ∧ Below W.heap.size W' w' ∧ Others W' w') :
    Calls Try.prog 50 #[.int .u8 key, .int .i64 (most : Int), .func (.func 78) #[] #[ptr br]] W fun e w' => ∃ v, e = .returned (.tuple #[v, .int .i64 (putCode most (key :: ys))]) ∧ (Kd.int .u8).R 5 w' W.heap.size (fun _ => True) v (putOut most (key :: ys)) ∧ Below W.heap.size W w' := by
  have HF := Aside0.mk hF
  have HM := Aside0.mk hm
  clear hF hm
  go_enter Try.func50, Try.ntmps50
  go_upto_region 2 with fail
  have ha1 : (W.alloc (.cells #[.int .u8 key] 5)).heap[W.heap.size]? = some (.cells #[.int .u8 key] 5 (0, 0)) := heap_alloc_new W _
  have hs1 : (W.alloc (.cells #[.int .u8 key] 5)).heap.size = W.heap.size + 1 := by simp
  have hb1 : Below W.heap.size W (W.alloc (.cells #[.int .u8 key] 5)) := below_alloc (Below.refl _ _) _
  obtain ⟨B, hB⟩ : ∃ B, W.heap.size = B := ⟨_, rfl⟩
  have HB := Aside0.mk hB
  rw [hB] at ha1 hs1 hb1 ⊢
  generalize W.alloc (.cells #[.int .u8 key] 5) = wx at *
  have hr2 : Rt 146 wx.heap.size [.slice (some ⟨B, 0, none⟩) 1 1] (wx.alloc (.cells #[.slice (some ⟨B, 0, none⟩) 1 1] 146)) := heap_alloc_new wx _
  have hb2 : Below wx.heap.size wx (wx.alloc (.cells #[.slice (some ⟨B, 0, none⟩) 1 1] 146)) := below_alloc (Below.refl _ _) _
  have hk := key_row (B := B) ((hb2.block B (by omega)).trans ha1) (Nat.le_refl _)
  have K1 := Aside0.mk (show WrAt (B + 1) B [key] (wx.alloc (.cells #[.slice (some ⟨B, 0, none⟩) 1 1] 146)) from ⟨⟨_, by rw [hs1] at hr2; exact hr2, hk⟩, Nat.le_succ _⟩)
  have B1 := Aside0.mk (show Below B W (wx.alloc (.cells #[.slice (some ⟨B, 0, none⟩) 1 1] 146)) from hb1.trans (hb2.mono (by omega)))
  clear ha1 hs1 hb1 hr2 hb2 hk hB
  generalize wx.alloc (.cells #[.slice (some ⟨B, 0, none⟩) 1 1] 146) = w1 at *
  obtain ⟨g, hg⟩ : ∃ g, B + 1 = g := ⟨_, rfl⟩
  have k1 := K1.out
  rw [hg] at k1 ⊢
  have K1 := Aside0.mk k1
  have HFN := HF.out g w1 (by rw [HB.out]; exact K1.out) (by rw [HB.out]; exact B1.out)
  rw [HB.out] at HFN
  have HFN := Aside0.mk HFN
  clear k1 hg HF
  go_wp2_with fail
  go_at_call 78
  refine HFN.out.mono ?_
  rintro e w2 ⟨rfl, hk, hb, ho⟩
  obtain ⟨ys2, hys⟩ : ∃ ys2, [key] ++ ys = ys2 := ⟨_, rfl⟩
  rw [hys] at hk
  have HYS := Aside0.mk (show key :: ys = ys2 from hys)
  obtain ⟨v, hr, hR⟩ := hk.ex
  have B2 := Aside0.mk (B1.out.trans hb)
  obtain ⟨Av, cv, rfl⟩ := Kd.R_slice hR
  obtain ⟨m, hm2⟩ : ∃ m, ys2.length = m := ⟨_, rfl⟩
  have HRR := Aside0.mk hR
  have HM2 := Aside0.mk hm2
  rw [hm2] at hr
  have c0 := hr.cell 0 _ rfl
  clear hk hb ho hr hR hm2 hys HFN K1 B1
  by_cases hmo : most < m
  · have d1 : decide ((most : Int) < (m : Int)) = true := decide_eq_true (by omega)
    have d2 : decide (most < m) = true := decide_eq_true hmo
    have HMO := Aside0.mk hmo
    clear hmo
    go_wp2_with fail
    go_ret2
    rw [HYS.out, HB.out]
    refine ⟨.slice none 0 0, ?_, ?_, B2.out⟩
    · unfold putCode
      rw [HM2.out, if_pos HMO.out]
      rfl
    · unfold putOut
      rw [HM2.out, if_pos HMO.out]
      exact Kd.R_nil _ _ _ _ _
  · have d1 : decide ((most : Int) < (m : Int)) = false := decide_eq_false (by omega)
    have d2 : decide (most < m) = false := decide_eq_false hmo
    have HMO := Aside0.mk hmo
    clear hmo
    go_wp2_with fail
    go_ret2
    rw [HYS.out, HB.out]
    refine ⟨.slice Av m cv, ?_, ?_, B2.out⟩
    · unfold putCode
      rw [HM2.out, if_neg HMO.out]
      rfl
    · unfold putOut
      rw [HM2.out, if_neg HMO.out, ← HM2.out]
      exact HRR.out
theorem PutRecord_at (x : RecD) (W : World) (Al : Option Addr) (cl : Nat) (hCl : Kd.C k110 W Al x.f1.f2.length x.f1.f2) (h0 : Int64 x.f0) (h1 : ReqOk x.f1) (hl : bulkC x + 3000 < 140737488355328) :
    Calls Try.prog 27 #[.agg #[.int .i64 x.f0, .string x.f1.f0, .int .i64 x.f1.f1, .slice Al x.f1.f2.length cl, .string x.f1.f3, .int .i64 x.f1.f4, .int .i64 x.f1.f5]] W fun e w' => ∃ v, e = .returned (.tuple #[v, .int .i64 (putCode 4096 (83 :: encC x))]) ∧ (Kd.int .u8).R 5 w' W.heap.size (fun _ => True) v (putOut 4096 (83 :: encC x)) ∧ Below W.heap.size W w' := by
  have HL := Aside0.mk hl
  have HCl := Aside0.mk hCl
  have H0 := Aside0.mk h0
  have H1 := Aside0.mk h1
  have hr1 : Rt 49 W.heap.size [.int .i64 x.f0, .string x.f1.f0, .int .i64 x.f1.f1, .slice Al x.f1.f2.length cl, .string x.f1.f3, .int .i64 x.f1.f4, .int .i64 x.f1.f5] (W.alloc (.cells #[.int .i64 x.f0, .string x.f1.f0, .int .i64 x.f1.f1, .slice Al x.f1.f2.length cl, .string x.f1.f3, .int .i64 x.f1.f4, .int .i64 x.f1.f5] 49)) := heap_alloc_new W _
  have hb1 : Below W.heap.size W (W.alloc (.cells #[.int .i64 x.f0, .string x.f1.f0, .int .i64 x.f1.f1, .slice Al x.f1.f2.length cl, .string x.f1.f3, .int .i64 x.f1.f4, .int .i64 x.f1.f5] 49)) := below_alloc (Below.refl _ _) _
  have hmf : ∀ (fn : Fn) (first cap : Array Value) (w : World), (Instr.makeFunc fn first cap).run Try.prog w = .ok (.func fn first cap) w := fun _ _ _ _ => rfl
  clear hl hCl h0 h1
  go_enter Try.func27, Try.ntmps27
  go_upto_region 1 with fail
  obtain ⟨b, hb⟩ : ∃ b, W.heap.size = b := ⟨_, rfl⟩
  have HB := Aside0.mk hb1
  have HBE := Aside0.mk hb
  rw [hb] at hr1 ⊢
  have HR := Aside0.mk hr1
  clear hr1 hb1 hb
  generalize W.alloc (.cells #[.int .i64 x.f0, .string x.f1.f0, .int .i64 x.f1.f1, .slice Al x.f1.f2.length cl, .string x.f1.f3, .int .i64 x.f1.f4, .int .i64 x.f1.f5] 49) = w1 at *
  have HPUT := Aside0.mk (put_record 83 4096 b (encC x) w1 (by decide) (fun g W' hk hb => w_record hk (HB.out.trans (hb.mono HB.out.size)) HB.out.size x Al cl HCl.out H0.out H1.out (HR.out.below hb) (by have := HL.out; simp only [List.length_singleton]; omega)))
  go_wp2_with fail
  go_at_call 50
  refine HPUT.out.mono ?_
  rintro e w2 ⟨v, rfl, hR, hb⟩
  have HRR := Aside0.mk (show (Kd.int .u8).R 5 w2 W.heap.size (fun _ => True) v (putOut 4096 (83 :: encC x)) from Kd.R_lower hR HB.out.size)
  have HBB := Aside0.mk (HB.out.trans (hb.mono HB.out.size))
  obtain ⟨Av, cv, ev⟩ := Kd.R_slice hR
  obtain ⟨m, hm⟩ : ∃ m, (putOut 4096 (83 :: encC x)).length = m := ⟨_, rfl⟩
  rw [hm] at ev
  subst ev
  clear hR hb hm hmf HPUT
  go_wp2_with fail
  go_ret2
  rw [HBE.out] at *
  exact ⟨_, rfl, HRR.out, HBB.out⟩
end Go.Proofs.Ytafmoglaockepaa.Cd
end
section
namespace Go.Proofs.Ytafmoglaockepaa.Cd
open Go Go.RowKit Go.Proofs.Ytafmoglaockepaa.Num Go.Proofs.Ytafmoglaockepaa.PG Go.Proofs.YtafmoglaockepaaW.PrintWords Go.Proofs.YtafmoglaockepaaW.PrintLast Go.Proofs.YtafmoglaockepaaW.PrintMore
set_option linter.unusedVariables false
set_option linter.unusedSimpArgs false
theorem bulkN_count : ∀ l : List S110, 20 * l.length ≤ bulkN l
  | [] => by simp [bulkN]
  | x :: l => by
    have := bulkN_count l
    simp only [bulkN, List.map_cons, List.sum_cons, List.length_cons] at this ⊢
    omega
theorem bulkN_cons (x : S110) (l : List S110) : bulkN (x :: l) = 20 + x.f0.size + bulkN l := by simp [bulkN]
theorem encNs_cons (x : S110) (l : List S110) : encNs (x :: l) = encN x ++ encNs l := by simp [encNs]
theorem lines_l0 (l : List S110) (hlo : LinOk l) (hll : l.length < 9223372036854775807) : ∀ (d i k : Nat) (x0 : List Int), d + 12 ≤ k → i + d = l.length → x0.length + bulkN (l.drop i) + 100 < 140737488355328 → larderref09_lines.l0 k x0 l (i : Int) = some (x0 ++ encNs (l.drop i))
  | 0, i, k, x0, hk, h, hb => by
    obtain ⟨k, rfl⟩ : ∃ q, k = q + 1 := ⟨k - 1, by omega⟩
    unfold larderref09_lines.l0
    rw [if_neg (by omega), List.drop_of_length_le (by omega)]
    simp [encNs]
  | d + 1, i, k, x0, hk, h, hb => by
    obtain ⟨k, rfl⟩ : ∃ q, k = q + 1 := ⟨k - 1, by omega⟩
    obtain ⟨x, hx⟩ : ∃ x, l[i]? = some x := ⟨_, List.getElem?_eq_getElem (by omega)⟩
    have hrd : rd_T110 l (i : Int) = x := by unfold rd_T110; rw [Int.toNat_natCast, List.getD_eq_getElem?_getD, hx]; rfl
    have he := drop_at hx
    have hm := hlo x (List.mem_of_getElem? hx)
    have ih := lines_l0 l hlo hll d (i + 1) k (x0 ++ encT x.f0 ++ encI x.f1) (by omega) (by omega)
    rw [he, bulkN_cons] at hb
    rw [he, encNs_cons]
    have t0 := encT_len x.f0
    have t1 := encI_len x.f1
    unfold larderref09_lines.l0
    have hl2 := (List.getElem?_eq_some_iff.1 hx).1
    have hi63 : i < 9223372036854775807 := by omega
    rw [if_pos (by omega), if_pos (by omega), hrd, refPutText_ok _ (by omega) _ _ (by omega), Option.bind_some, refPutInt' _ (by omega) _ _ hm (by rw [List.length_append]; omega), Option.bind_some, w64n hi63]
    rw [ih (by simp only [List.length_append]; omega)]
    unfold encN
    simp only [List.append_assoc]
theorem lines_ok (l : List S110) (hlo : LinOk l) (x0 : List Int) (hb : x0.length + bulkN l + 200 < 140737488355328) (k : Nat) (hk : l.length + 12 ≤ k) : larderref09_lines.f k x0 l = some (x0 ++ (encU l.length ++ encNs l)) := by
  have hc := bulkN_count l
  have hu := encU_len l.length
  unfold larderref09_lines.f
  rw [count_ok _ (by omega) _ _ (by omega) (by omega), Option.bind_some]
  have := lines_l0 l hlo (by omega) l.length 0 k (x0 ++ encU l.length) hk (by omega) (by rw [List.drop_zero, List.length_append]; omega)
  rw [List.drop_zero] at this
  have e0 : ((0 : Nat) : Int) = 0 := rfl
  rw [e0] at this
  rw [this, List.append_assoc]
theorem fields_ok (q : S40) (hq : ReqOk q) (x0 : List Int) (hb : x0.length + bulkQ q + 300 < 140737488355328) (k : Nat) (hk : q.f2.length + 12 ≤ k) : larderref09_fields.f k x0 q.f0 q.f1 q.f2 q.f3 q.f4 q.f5 = some (x0 ++ encQ q) := by
  obtain ⟨h1, h2, h3, h4⟩ := hq
  have t0 := encT_len q.f0
  have t1 := encI_len q.f1
  have t3 := encU_len q.f2.length
  have t4 := encNs_len q.f2
  have t5 := encT_len q.f3
  have t6 := encI_len q.f4
  have t7 := encI_len q.f5
  have t8 := show bulkQ q = 60 + q.f0.size + q.f3.size + bulkN q.f2 from rfl
  unfold larderref09_fields.f
  rw [refPutText_ok _ (by omega) _ _ (by omega), Option.bind_some, refPutInt' _ (by omega) _ _ h1 (by simp only [List.length_append]; omega), Option.bind_some,
    lines_ok q.f2 h2 _ (by simp only [List.length_append]; omega) k hk, Option.bind_some, refPutText_ok _ (by omega) _ _ (by simp only [List.length_append]; omega), Option.bind_some,
    refPutInt' _ (by omega) _ _ h3 (by simp only [List.length_append]; omega), Option.bind_some, refPutInt' _ (by omega) _ _ h4 (by simp only [List.length_append]; omega), Option.bind_some]
  unfold encQ encReq
  simp only [List.append_assoc]
theorem refPutRecord_ok (x : RecD) (h0 : Int64 x.f0) (hq : ReqOk x.f1) (hb : bulkC x + 400 < 140737488355328) (k : Nat) (hk : x.f1.f2.length + 12 ≤ k) :
    larderref09_PutRecord.f k x.f0 x.f1.f0 x.f1.f1 x.f1.f2 x.f1.f3 x.f1.f4 x.f1.f5 = some (putOut 4096 (83 :: encC x), putCode 4096 (83 :: encC x)) := by
  have t0 := encI_len x.f0
  have t1 := show bulkC x = 20 + bulkQ x.f1 from rfl
  unfold larderref09_PutRecord.f
  rw [refPutInt' _ (by omega) _ _ h0 (by simp only [List.length_singleton]; omega), Option.bind_some, fields_ok x.f1 hq _ (by simp only [List.length_append, List.length_singleton]; omega) k hk, Option.bind_some]
  have hw := within_ok (83 :: encC x) 4096
  rw [show [83] ++ encI x.f0 ++ encQ x.f1 = 83 :: encC x from rfl, show (4096 : Int) = ((4096 : Nat) : Int) from rfl, hw]
  rfl
end Go.Proofs.Ytafmoglaockepaa.Cd
end
