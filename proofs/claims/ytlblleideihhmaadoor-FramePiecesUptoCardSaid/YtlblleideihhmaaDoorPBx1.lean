-- Written by a program of this session (wip/pp), out of the translation.
import Derived.Test.YtlblleideihhmaaDoorPBx0
namespace Go.Proofs.YtlblleideihhmaaDoor.PB
open Go.RowKit Go.Proofs.YtlblleideihhmaaDoor.Mine Go.Proofs.YtlblleideihhmaaDoorW.PrintWords Go.Proofs.YtlblleideihhmaaDoorW.PrintLast Go.Proofs.YtlblleideihhmaaDoorW.PrintMore
attribute [local go_sem] max2_int min2_int max_two min_two max_three min_three max_four min_four   -- for this text's walks alone
set_option linter.unusedVariables false
set_option linter.unusedSimpArgs false

/-! ### larderref01_Lent: function 22 (given) -/
def larderref01_Lent.f (l0 : List Int) : Option (List Int) := if l0.length + 9 < 140737488355328 then some l0 else none
set_option maxHeartbeats 8000000 in
set_option maxRecDepth 100000 in
theorem larderref01_Lent.calls (A0 : Option Addr) (c0 : Nat) (l0 : List Int) (r : List Int) (w : World) (hr0 : Kd.C (Kd.int .u8) w A0 l0.length l0) (hc0 : l0.length ≤ c0) (h : larderref01_Lent.f l0 = some r) :
    Calls Tryd.prog 22 #[.slice A0 l0.length c0] w fun e w' => ∃ v0_ : Value, e = .returned (v0_) ∧ Kd.R (Kd.int .u8) 5 w' w.heap.size (fun _ => True) v0_ r ∧ (Kd.C (Kd.int .u8) w' (adOf v0_) (r ++ marks9).length (r ++ marks9) ∧ (r ++ marks9).length ≤ capOf v0_) ∧ Below w.heap.size w w' := by
  unfold larderref01_Lent.f at h
  by_cases hL : l0.length + 9 < 140737488355328
  · rw [if_pos hL] at h
    obtain rfl := Option.some.inj h
    clear h
    have HL := Aside0.mk hL
    clear hL
    have HR0 := Aside0.mk hr0
    have HC0 := Aside0.mk hc0
    clear hr0 hc0
    have HB := Aside0.mk (Below.refl w.heap.size w)
    have LMc2 := Aside0.mk (show ([] : List Int).length + l0.length < 140737488355328 by have := HL.out; simp; omega)
    obtain ⟨y101, hy101⟩ : ∃ y_ : List Int, y_ = (([] : List Int) ++ l0) := ⟨_, rfl⟩
    have Ny101 := Aside0.mk hy101
    clear hy101
    go_enter Tryd.func22, Tryd.ntmps22
    go_wp2_with (first | ((with_reducible refine gate_builtin (b := .append) (xs := #[.tmp 5, .tmp 6]) rfl ?_); at_builtin; refine Kd.R_append_rows (Kd.int .u8) (w0 := w) w.heap.size rfl (.tmp 5) (.tmp 6) 22 5 (.int .u8 0) 1 rfl Tryd.underlying22 info5 rfl (by decide) (by omega) (.slice none 0 0) ([] : List Int) l0 _ _ _ (fun _ => True) (fun _ => False) rfl rfl ?aO ?aR (fun _ _ h => h) (fun _ h => h.elim) ?aF ?aB ?aS ?aL ?_; (case aR => repeat (first | exact HR0.out | (with_reducible refine Kd.C_alloc ?_ _) | (with_reducible refine Kd.C_drewN ?_ _) | (with_reducible refine Kd.C_drew ?_))); (case aB => exact (by repeat (first | (with_reducible first | exact HB.out | apply below_alloc | apply pw_below_drewN | apply below_drew1) | exact HB.out))); (case aF => exact (fun _ _ => trivial)); (case aO => exact ((Kd.R_nil _ _ _ _ (fun _ => True)))); (case aS => exact (below_size (by repeat (first | (with_reducible first | exact HB.out | apply below_alloc | apply pw_below_drewN | apply below_drew1) | exact HB.out)))); (case aL => have := LMc2.out; omega); intro v102 w3 ho hb hg hat; rw [← Ny101.out] at ho; have n0_ := Aside0.mk (hb); have n1_ := Aside0.mk (ho); clear HB; have HB := n0_; have HO103 := n1_; clear n0_ n1_; clear ho hb hg hat))
    go_loopg [3, 4] 10 (fun kq v3 v4 w' => ∃ (x3_1 : List Int) (x4_1 : Int), v4 = .int .i64 x4_1 ∧ Aside0 (0 ≤ x4_1 ∧ x4_1 + (kq : Int) = 10 ∧ x4_1 ≤ 9 ∧ x3_1 = l0 ++ marks9.take x4_1.toNat) ∧ Aside0 (Kd.R (Kd.int .u8) 5 w' w.heap.size (fun _ => True) v3 x3_1) ∧ Aside0 (Below w.heap.size w w'))
    case atStart => exact ⟨(y101), (0), (by first | rfl | (simp; done) | (simp [*]; done)), ⟨by rw [Ny101.out]; simp⟩, ⟨by (with_reducible repeat (first | apply Kd.R_alloc | apply Kd.R_drewN | apply Kd.R_drew)); exact HO103.out⟩, ⟨by repeat (first | (with_reducible first | exact HB.out | apply below_alloc | apply pw_below_drewN | apply below_drew1) | exact HB.out)⟩⟩
    case round =>
      obtain ⟨x3_1, x4_1, rfl, HA, HO_3, HB⟩ := hrel
      cases gk with
      | zero => exact absurd HA.out (by omega)
      | succ k1 =>
        by_cases c4 : x4_1 < 9
        · have c4b0 : decide (x4_1 < 9) = true := decide_eq_true c4
          have HLT := Aside0.mk c4
          clear c4
          have LMc5 := Aside0.mk (show x3_1.length < 140737488355328 by rw [HA.out.2.2.2, List.length_append, List.length_take]; have := HL.out; have := marks9_length; omega)
          obtain ⟨y104, hy104⟩ : ∃ y_ : List Int, y_ = (x3_1 ++ [(wrap64 (208 + x4_1)) % 256]) := ⟨_, rfl⟩
          have Ny104 := Aside0.mk hy104
          clear hy104
          go_wp2_with (first | ((with_reducible refine gate_builtin (b := .append) (xs := #[.tmp 12, .tmp 16]) rfl ?_); at_builtin; refine Kd.R_append (Kd.int .u8) (w0 := w) w.heap.size rfl (.tmp 12) (.tmp 16) 22 5 (.int .u8 0) 1 rfl Tryd.underlying22 info5 rfl (by decide) (by omega) u3 x3_1 ((wrap64 (208 + x4_1)) % 256) [.int .u8 ((wrap64 (208 + x4_1)) % 256)] (fun _ => True) (fun _ => False) rfl rfl ?aP (fun _ hk => hk.elim) ?aF ?aO ?aB ?aS ?aL ?_; (case aP => exact rfl); (case aB => exact (by repeat (first | (with_reducible first | exact HB.out | apply below_alloc | apply pw_below_drewN | apply below_drew1) | exact HB.out))); (case aF => exact (fun _ _ => trivial)); (case aO => exact (by (with_reducible repeat (first | apply Kd.R_alloc | apply Kd.R_drewN | apply Kd.R_drew)); exact HO_3.out)); (case aS => exact (below_size (by repeat (first | (with_reducible first | exact HB.out | apply below_alloc | apply pw_below_drewN | apply below_drew1) | exact HB.out)))); (case aL => have := LMc5.out; omega); intro v105 w6 ho hb hg hat; rw [← Ny104.out] at ho; have n0_ := Aside0.mk (hb); have n1_ := Aside0.mk (ho); clear HB; clear HO_3; have HB := n0_; have HO106 := n1_; clear n0_ n1_; clear ho hb hg hat))
          go_roundg k1
          case measure => omega
          case rel => exact ⟨(y104), (wrap64 (x4_1 + 1)), (by first | rfl | (simp; done) | (simp [*]; done)), ⟨marks9_grow HA.out HLT.out Ny104.out⟩, ⟨by (with_reducible repeat (first | apply Kd.R_alloc | apply Kd.R_drewN | apply Kd.R_drew)); exact HO106.out⟩, ⟨by repeat (first | (with_reducible first | exact HB.out | apply below_alloc | apply pw_below_drewN | apply below_drew1) | exact HB.out)⟩⟩
        · have c4b0 : decide (x4_1 < 9) = false := decide_eq_false c4
          have hx3 : x3_1 = l0 ++ marks9 := by
            rw [HA.out.2.2.2, show x4_1.toNat = 9 by have := HA.out; omega]
            rfl
          clear c4 HA
          have hle : l0.length ≤ x3_1.length := by rw [hx3, List.length_append]; omega
          have HX3 := Aside0.mk hx3
          clear hx3
          have c7b0 : (0 ≤ (l0.length : Int)) = True := eq_true (by omega)
          have c7b1 : decide (0 ≤ (l0.length : Int)) = true := decide_eq_true (by omega)
          have c8b0 : ((l0.length : Int) ≤ (x3_1.length : Int)) = True := eq_true (by omega)
          have c8b1 : decide ((l0.length : Int) ≤ (x3_1.length : Int)) = true := decide_eq_true (by omega)
          obtain ⟨Ao9, co9, eo9⟩ := Kd.R_slice HO_3.out
          subst eo9
          obtain ⟨i010, hi010, _, hsz10, _⟩ := info_parts info5
          have hcut10 := cut_to (P := Tryd.prog) 22 5 .i64 Tryd.underlying22 hi010 Ao9 x3_1.length co9 (l0.length : Int) (by omega) (by omega) (Kd.R_reads' HO_3.out).2.1
          have hr10 := Kd.R_take (m := ((l0.length : Int) : Int).toNat) HO_3.out (by omega)
          have HSP := Aside0.mk (Kd.R_reads' HO_3.out).2.2
          have HCP := Aside0.mk (Kd.R_reads' HO_3.out).2.1
          have hy10 : (x3_1.take ((l0.length : Int) : Int).toNat) = l0 := by rw [HX3.out]; simp
          rw [hy10] at hr10
          rw [show ((l0.length : Int) : Int).toNat = l0.length by omega] at hr10 hcut10
          clear hy10 hi010 hsz10 HO_3 hle
          have HO109 := Aside0.mk hr10
          clear hr10
          go_wp2
          go_ret
          exact ⟨.slice Ao9 l0.length co9, by first | rfl | (simp [errW_none, errW_some] <;> rfl) | (simp [*, errW_none, errW_some] <;> rfl), by (with_reducible repeat (first | apply Kd.R_alloc | apply Kd.R_drewN | apply Kd.R_drew)); exact HO109.out, ⟨by rw [← HX3.out]; repeat (first | exact HSP.out | (with_reducible refine Kd.C_alloc ?_ _) | (with_reducible refine Kd.C_drewN ?_ _) | (with_reducible refine Kd.C_drew ?_)), by rw [← HX3.out]; exact HCP.out⟩, by repeat (first | (with_reducible first | exact HB.out | apply below_alloc | apply pw_below_drewN | apply below_drew1) | exact HB.out)⟩
  · rw [if_neg hL] at h
    exact absurd h (by simp)

/-! ### larderref01_Kept: function 27 (given) -/
def larderref01_Kept.f (l0 : List Int) (l1 : List Int) : Option (Bool) := if l0 = l1 then some true else none
set_option maxHeartbeats 8000000 in
set_option maxRecDepth 100000 in
theorem larderref01_Kept.calls (A0 : Option Addr) (c0 : Nat) (l0 : List Int) (A1 : Option Addr) (c1 : Nat) (l1 : List Int) (r : Bool) (w : World) (hr0 : Kd.C (Kd.int .u8) w A0 l0.length l0) (hc0 : l0.length ≤ c0) (hr1 : Kd.C (Kd.int .u8) w A1 l1.length l1) (hc1 : l1.length ≤ c1) (hsp : Kd.C (Kd.int .u8) w A0 (l0 ++ marks9).length (l0 ++ marks9)) (hcp : (l0 ++ marks9).length ≤ c0) (h : larderref01_Kept.f l0 l1 = some r) :
    Calls Tryd.prog 27 #[.slice A0 l0.length c0, .slice A1 l1.length c1] w fun e w' => e = .returned (.bool r) ∧ Drawn0 w w' := by
  unfold larderref01_Kept.f at h
  by_cases he : l0 = l1
  · rw [if_pos he] at h
    obtain rfl := Option.some.inj h
    subst he
    clear h
    obtain ⟨y, hy⟩ : ∃ y, l0 ++ marks9 = y := ⟨_, rfl⟩
    have hfl : y.length = l0.length + 9 := by rw [← hy, List.length_append]; rfl
    have hrd : ∀ x : Int, 0 ≤ x → x < 9 → rd y ((l0.length : Int) + x) = (wrap64 (208 + x)) % 256 := fun x h0 h1 => by rw [← hy]; exact marks9_rd l0 x h0 h1
    rw [hy] at hsp hcp
    clear hy
    have HRD := Aside0.mk hrd
    clear hrd
    have hmx : y.length ≤ 9223372036854775807 := (Kd.reads_of_C (d := (0 : Int)) (h1 := fun _ => rfl) hsp).2.1
    obtain ⟨ji8, hji8⟩ : ∃ j_ : Int, (wrap64 ((l0.length : Int) + 9)) = j_ := ⟨_, rfl⟩
    have hv8 : ji8 = (l0.length : Int) + 9 := by rw [← hji8]; unfold wrap64; omega
    have HFN := Aside0.mk (show ji8.toNat = y.length by omega)
    have HV8 := Aside0.mk hv8
    have HMX := Aside0.mk hmx
    have HFL := Aside0.mk hfl
    have HR0 := Aside0.mk hr0
    have HC0 := Aside0.mk hc0
    clear hr0 hc0
    have HR1 := Aside0.mk hr1
    have HC1 := Aside0.mk hc1
    clear hr1 hc1
    have HSP := Aside0.mk hsp
    have HCP := Aside0.mk hcp
    clear hsp hcp hv8 hmx hfl
    have c4b0 : ((l0.length : Int) == (l0.length : Int)) = true := beq_self_eq_true _
    have c4b1 : ((l0.length : Int) != (l0.length : Int)) = false := bne_self_eq_false _
    have c4b2 : (l0.length == l0.length) = true := beq_self_eq_true _
    have hcv5 := Kd.C_string (P := Tryd.prog) (A := A0) (c := c0) Tryd.underlying22 Tryd.underlying5 Tryd.underlying9 HR0.out
    have hcv6 := Kd.C_string (P := Tryd.prog) (A := A1) (c := c1) Tryd.underlying22 Tryd.underlying5 Tryd.underlying9 HR1.out
    go_enter Tryd.func27, Tryd.ntmps27
    go_upto_region 1 with (fail)
    go_cut [18] (fun v18 wc => v18 = .bool false ∧ Drawn0 w wc)
    case first =>
      go_wp2
      go_meet
      case rel => exact ⟨by first | rfl | (simp; done) | (simp [*]; done), by repeat (first | exact Drawn0.refl _ | apply Drawn0.step)⟩
    case rest =>
      clear hcv5 hcv6 c4b0 c4b1 c4b2
      obtain ⟨rfl, ⟨mc2, rfl⟩⟩ := hcut
      have hji8w : (IntKind.i64.wrap ((l0.length : Int) + 9)) = ji8 := (i64_w _).trans hji8
      have c9b0 : (0 ≤ ji8) = True := eq_true (by have := HV8.out; omega)
      have c9b1 : decide (0 ≤ (ji8)) = true := decide_eq_true (by have := HV8.out; omega)
      obtain ⟨i011, hi011, _, hsz11, _⟩ := info_parts info5
      have hcut11 := cut_cap (P := Tryd.prog) 22 5 .i64 Tryd.underlying22 hi011 A0 l0.length c0 ji8 (by have := HV8.out; omega) (by have := HV8.out; have := HFL.out; have := HCP.out; omega)
      rw [HFN.out] at hcut11
      clear hi011 hsz11
      go_wp2
      go_loopg [6] 10 (fun kq v6 w' => ∃ (x6_2 : Int), v6 = .int .i64 x6_2 ∧ Aside0 (0 ≤ x6_2 ∧ x6_2 + (kq : Int) = 10 ∧ x6_2 ≤ 9) ∧ Drawn0 w w')
      case atStart => exact ⟨(0), (by first | rfl | (simp; done) | (simp [*]; done)), ⟨by omega⟩, by repeat (first | exact Drawn0.refl _ | apply Drawn0.step)⟩
      case round =>
        try clear c9b0
        try clear c9b1
        try clear hcut11
        obtain ⟨x6_2, rfl, HA, ⟨m2, rfl⟩⟩ := hrel
        cases gk with
        | zero => exact absurd HA.out (by omega)
        | succ k2 =>
          by_cases c12 : x6_2 < 9
          · have c12b0 : decide (x6_2 < 9) = true := decide_eq_true c12
            have HLT := Aside0.mk c12
            clear c12
            obtain ⟨ji13, hji13⟩ : ∃ j_ : Int, (wrap64 ((l0.length : Int) + x6_2)) = j_ := ⟨_, rfl⟩
            have hji13w : (IntKind.i64.wrap ((l0.length : Int) + x6_2)) = ji13 := (i64_w _).trans hji13
            have HV13 := Aside0.mk (show ji13 = (l0.length : Int) + x6_2 by rw [← hji13]; unfold wrap64; have := HMX.out; have := HA.out; have := HFL.out; have := HLT.out; omega)
            have c16 : (rd y (ji13)) = ((wrap64 (208 + x6_2)) % 256) := by
              rw [HV13.out]
              exact HRD.out x6_2 HA.out.1 HLT.out
            have c16b0 : ((rd y (ji13)) == ((wrap64 (208 + x6_2)) % 256)) = true := beq_iff_eq.mpr c16
            have c16b1 : ((rd y (ji13)) != ((wrap64 (208 + x6_2)) % 256)) = false := bne_eq_false_iff_eq.mpr c16
            clear c16
            have p165 : 0 ≤ ((ji13) : Int) := by have := HV13.out; have := HA.out; omega
            have q165 : (ji13) < (y.length : Int) := by have := HV13.out; have := HA.out; have := HFL.out; have := HLT.out; omega
            obtain ⟨ad165, e165, hx165_0⟩ := Kd.at_int HSP.out (ji13) p165 q165
            cases e165
            have c14b0 : decide (0 ≤ (ji13)) = true := decide_eq_true p165
            have c15b0 : decide ((ji13) < (y.length : Int)) = true := decide_eq_true q165
            replace p165 := eq_true p165
            replace q165 := eq_true q165
            go_wp2
            go_roundg k2
            case measure => omega
            case rel => exact ⟨(wrap64 (x6_2 + 1)), (by first | rfl | (simp; done) | (simp [*]; done)), ⟨by have := HA.out; have := HLT.out; unfold wrap64; omega⟩, by repeat (first | exact Drawn0.refl _ | apply Drawn0.step)⟩
          · have c12b0 : decide (x6_2 < 9) = false := decide_eq_false c12
            clear c12
            go_wp2
            go_ret
            exact ⟨by first | rfl | (simp; done) | (simp [*]; done), by repeat (first | exact Drawn0.refl _ | apply Drawn0.step)⟩
  · rw [if_neg he] at h
    exact absurd h (by simp)

/-! ### frame_moved: function 61 (given) -/
def frame_moved.f (a0 : Int) : Option (Int) := some (nib (nib a0))
set_option maxHeartbeats 4000000 in
set_option maxRecDepth 100000 in
theorem frame_moved.calls (a0 : Int) (r : Int) (w : World) (hT : Kd.C (Kd.int .u32) w (some ⟨0, 0, none⟩) 16 crcTab) (h : frame_moved.f a0 = some r) :
    Calls Tryd.prog 61 #[.int .u32 a0] w fun e w' => e = .returned (.int .u32 r) ∧ Drawn0 w w' := by
  obtain rfl := Option.some.inj h
  clear h
  obtain ⟨j1, hj1⟩ : ∃ j, Go.bits .and .u32 a0 15 = j := ⟨_, rfl⟩
  obtain ⟨p1, q1⟩ := and15 a0
  obtain ⟨x, hx⟩ : ∃ x, nib a0 = x := ⟨_, rfl⟩
  obtain ⟨j2, hj2⟩ : ∃ j, Go.bits .and .u32 x 15 = j := ⟨_, rfl⟩
  obtain ⟨p2, q2⟩ := and15 x
  rw [hj1] at p1 q1
  rw [hj2] at p2 q2
  obtain ⟨ad1, e1, hc1⟩ := Kd.at_int hT j1 p1 (by omega)
  cases e1
  obtain ⟨ad2, e2, hc2⟩ := Kd.at_int hT j2 p2 (by omega)
  cases e2
  rw [add_plain] at hc1 hc2
  have hx2 : Go.bits .xor .u32 (rd crcTab j1) (a0 / 16) = x := by rw [← hj1]; exact hx
  have HE := Aside0.mk (show nib (nib a0) = Go.bits .xor .u32 (rd crcTab j2) (x / 16) by rw [hx, ← hj2]; rfl)
  clear hT hx
  go_enter Tryd.func61, Tryd.ntmps61
  go_wp2
  go_ret
  exact ⟨by rw [HE.out]; rfl, by repeat (first | exact Drawn0.refl _ | apply Drawn0.step)⟩

/-! ### frame_CrcOn: function 24 -/
def frame_CrcOn.l0 : Nat → Int → List Int → Int → Int → Option (Int)
  | 0, _, _, _, _ => none
  | k + 1, x5, x10, x11, x12 => if x12 < x11 then (if 0 ≤ x12 then (if x12 < (x10.length : Int) then ((frame_moved.f (Go.bits .xor .u32 x5 ((rd x10 x12) % 4294967296))).bind fun t102 => (frame_CrcOn.l0 k t102 x10 x11 (wrap64 (x12 + 1)))) else (none)) else (none)) else (some (Go.bits .xor .u32 4294967295 x5))
def frame_CrcOn.f (k : Nat) (a0 : Int) (l1 : List Int) : Option (Int) := frame_CrcOn.l0 k (Go.bits .xor .u32 4294967295 a0) l1 (l1.length : Int) 0
theorem frame_CrcOn.mono_l : ∀ k, (∀ y0 y1 y2 y3, LeO (frame_CrcOn.l0 k y0 y1 y2 y3) (frame_CrcOn.l0 (k + 1) y0 y1 y2 y3))
  | 0 => fun _ _ _ _ r h => by simp [frame_CrcOn.l0] at h
  | k + 1 => by
    have ih0 := frame_CrcOn.mono_l k
    · intro y0 y1 y2 y3
      unfold frame_CrcOn.l0
      repeat' first
      | (with_reducible exact ih0 _ _ _ _)
      | (with_reducible exact LeO.refl _)
      | (with_reducible exact LeO.none _)
      | (with_reducible refine LeO.ite ?_ ?_)
      | (with_reducible refine LeO.bind ?_ (fun _ => ?_))
      | exact ih0 _ _ _ _
      | exact LeO.none _
      | refine LeO.ite ?_ ?_
      | refine LeO.bind ?_ (fun _ => ?_)
theorem frame_CrcOn.mono : ∀ a0 a1 k, LeO (frame_CrcOn.f k a0 a1) (frame_CrcOn.f (k + 1) a0 a1) := by
  intro a0 a1 k
  have ih0 := frame_CrcOn.mono_l k
  unfold frame_CrcOn.f
  repeat' first
      | (with_reducible exact ih0 _ _ _ _)
      | (with_reducible exact LeO.refl _)
      | (with_reducible exact LeO.none _)
      | (with_reducible refine LeO.ite ?_ ?_)
      | (with_reducible refine LeO.bind ?_ (fun _ => ?_))
      | exact ih0 _ _ _ _
      | exact LeO.none _
      | refine LeO.ite ?_ ?_
      | refine LeO.bind ?_ (fun _ => ?_)
set_option maxHeartbeats 8000000 in
set_option maxRecDepth 100000 in
theorem frame_CrcOn.calls (k : Nat) (a0 : Int) (A1 : Option Addr) (c1 : Nat) (l1 : List Int) (r : Int) (w : World) (hr1 : Kd.C (Kd.int .u8) w A1 l1.length l1) (hc1 : l1.length ≤ c1) (hT : Kd.C (Kd.int .u32) w (some ⟨0, 0, none⟩) 16 crcTab) (h : frame_CrcOn.f k a0 l1 = some r) :
    Calls Tryd.prog 24 #[.int .u32 a0, .slice A1 l1.length c1] w fun e w' => e = .returned (.int .u32 r) ∧ Drawn0 w w' := by
  have HRT := Aside0.mk hT
  clear hT
  have HR1 := Aside0.mk hr1
  have HC1 := Aside0.mk hc1
  clear hr1 hc1
  have H : (frame_CrcOn.l0 k (Go.bits .xor .u32 4294967295 a0) l1 (l1.length : Int) 0) = some r := h
  clear h
  have H' := Aside0.mk H
  clear H
  go_enter Tryd.func24, Tryd.ntmps24
  go_wp2
  go_loopg [5, 12] k (fun kq v5 v12 w' => ∃ (x5_1 : Int) (x12_1 : Int), v5 = .int .u32 x5_1 ∧ v12 = .int .i64 x12_1 ∧ Aside0 (frame_CrcOn.l0 kq x5_1 l1 (l1.length : Int) x12_1 = some r) ∧ Aside0 (kq ≤ k) ∧ Drawn0 w w')
  case atStart => exact ⟨(Go.bits .xor .u32 4294967295 a0), (0), (by first | rfl | (simp; done) | (simp [*]; done)), (by first | rfl | (simp; done) | (simp [*]; done)), H', ⟨Nat.le_refl _⟩, by repeat (first | exact Drawn0.refl _ | apply Drawn0.step)⟩
  case round =>
    clear H'
    try clear c1
    try clear c2
    try clear p2
    obtain ⟨x5_1, x12_1, rfl, rfl, HA, HK1, ⟨m1, rfl⟩⟩ := hrel
    cases gk with
    | zero => exact absurd HA.out (by simp [frame_CrcOn.l0])
    | succ k1 =>
      have H := HA.out
      clear HA
      simp only [frame_CrcOn.l0] at H
      by_cases c3 : x12_1 < (l1.length : Int)
      · rw [if_pos c3] at H
        have c3b0 : decide (x12_1 < (l1.length : Int)) = true := decide_eq_true c3
        clear c3
        by_cases c4 : 0 ≤ x12_1
        · rw [if_pos c4] at H
          have c4b0 : decide (0 ≤ x12_1) = true := decide_eq_true c4
          clear c4
          by_cases c5 : x12_1 < (l1.length : Int)
          · rw [if_pos c5] at H
            have c5b0 : decide (x12_1 < (l1.length : Int)) = true := decide_eq_true c5
            clear c5
            replace H := Option.bind_eq_some_iff.mp H
            obtain ⟨t102, A60, H⟩ := H
            replace H : (frame_CrcOn.l0 k1 t102 l1 (l1.length : Int) (wrap64 (x12_1 + 1))) = some r := H
            have A6 := Aside0.mk A60
            clear A60
            have H' := Aside0.mk H
            clear H
            have p101 : 0 ≤ (x12_1 : Int) := of_decide_eq_true (by first | (with_reducible assumption) | assumption)
            have q101 : x12_1 < (l1.length : Int) := of_decide_eq_true (by first | (with_reducible assumption) | assumption)
            obtain ⟨ad101, e101, hx101_0⟩ := Kd.at_int HR1.out x12_1 p101 q101
            cases e101
            replace p101 := eq_true p101
            replace q101 := eq_true q101
            go_wp2_with (first | ((with_reducible refine gate_callee (f := 61) rfl ?_); refine goesL_ (some 20) rfl rfl Tryd.func61 (by kernel_rfl) rfl #[.int .u32 (Go.bits .xor .u32 x5_1 ((rd l1 x12_1) % 4294967296))] rfl (by (try simp only [List.map_toArray, List.map_cons, List.map_nil]); first | done | rfl | (simp only [List.length_drop, List.length_take]; rfl)) ?_; (with_reducible refine (frame_moved.calls (Go.bits .xor .u32 x5_1 ((rd l1 x12_1) % 4294967296)) t102 _ ?side1 A6.out).mono ?_); (case side1 => repeat (first | exact HRT.out | (with_reducible refine Kd.C_alloc ?_ _) | (with_reducible refine Kd.C_drewN ?_ _) | (with_reducible refine Kd.C_drew ?_))); rintro e w' ⟨rfl, ⟨nd, rfl⟩⟩; refine ⟨_, rfl, ?_⟩))
            go_roundg k1
            case measure => have := HK1.out; omega
            case rel => exact ⟨(t102), (wrap64 (x12_1 + 1)), (by first | rfl | (simp; done) | (simp [*]; done)), (by first | rfl | (simp; done) | (simp [*]; done)), H', ⟨by have := HK1.out; omega⟩, by repeat (first | exact Drawn0.refl _ | apply Drawn0.step)⟩
          · rw [if_neg c5] at H
            exact absurd H (by simp)
        · rw [if_neg c4] at H
          exact absurd H (by simp)
      · rw [if_neg c3] at H
        have c3b0 : decide (x12_1 < (l1.length : Int)) = false := decide_eq_false c3
        clear c3
        obtain rfl := Option.some.inj H
        go_wp2
        go_ret
        exact ⟨by first | rfl | (simp; done) | (simp [*]; done), by repeat (first | exact Drawn0.refl _ | apply Drawn0.step)⟩

/-! ### frame_Crc: function 23 -/
def frame_Crc.f (k : Nat) (l0 : List Int) : Option (Int) := (frame_CrcOn.f k 0 l0).bind fun t103 => (some t103)
theorem frame_Crc.mono : ∀ a0 k, LeO (frame_Crc.f k a0) (frame_Crc.f (k + 1) a0) := by
  intro a0 k
  unfold frame_Crc.f
  repeat' first
      | (with_reducible exact frame_CrcOn.mono _ _ _)
      | (with_reducible exact LeO.refl _)
      | (with_reducible exact LeO.none _)
      | (with_reducible refine LeO.ite ?_ ?_)
      | (with_reducible refine LeO.bind ?_ (fun _ => ?_))
      | exact frame_CrcOn.mono _ _ _
      | exact LeO.none _
      | refine LeO.ite ?_ ?_
      | refine LeO.bind ?_ (fun _ => ?_)
set_option maxHeartbeats 8000000 in
set_option maxRecDepth 100000 in
theorem frame_Crc.calls (k : Nat) (A0 : Option Addr) (c0 : Nat) (l0 : List Int) (r : Int) (w : World) (hr0 : Kd.C (Kd.int .u8) w A0 l0.length l0) (hc0 : l0.length ≤ c0) (hT : Kd.C (Kd.int .u32) w (some ⟨0, 0, none⟩) 16 crcTab) (h : frame_Crc.f k l0 = some r) :
    Calls Tryd.prog 23 #[.slice A0 l0.length c0] w fun e w' => e = .returned (.int .u32 r) ∧ Drawn0 w w' := by
  have HRT := Aside0.mk hT
  clear hT
  have HR0 := Aside0.mk hr0
  have HC0 := Aside0.mk hc0
  clear hr0 hc0
  have H : ((frame_CrcOn.f k 0 l0).bind fun t103 => (some t103)) = some r := h
  clear h
  replace H := Option.bind_eq_some_iff.mp H
  obtain ⟨t103, A20, H⟩ := H
  replace H : (some t103) = some r := H
  have A2 := Aside0.mk A20
  clear A20
  obtain rfl := Option.some.inj H
  go_enter Tryd.func23, Tryd.ntmps23
  go_wp2_with (first | ((with_reducible refine gate_callee (f := 24) rfl ?_); refine goesL_ (some 4) rfl rfl Tryd.func24 (by kernel_rfl) rfl #[.int .u32 0, .slice A0 l0.length c0] rfl (by (try simp only [List.map_toArray, List.map_cons, List.map_nil]); first | done | rfl | (simp only [List.length_drop, List.length_take]; rfl)) ?_; (with_reducible refine (frame_CrcOn.calls k 0 _ _ l0 t103 _ ?side1 ?side2 ?side3 A2.out).mono ?_); (case side1 => repeat (first | exact HR0.out | (with_reducible refine Kd.C_alloc ?_ _) | (with_reducible refine Kd.C_drewN ?_ _) | (with_reducible refine Kd.C_drew ?_))); (case side2 => exact HC0.out); (case side3 => repeat (first | exact HRT.out | (with_reducible refine Kd.C_alloc ?_ _) | (with_reducible refine Kd.C_drewN ?_ _) | (with_reducible refine Kd.C_drew ?_))); rintro e w' ⟨rfl, ⟨nd, rfl⟩⟩; refine ⟨_, rfl, ?_⟩))
  go_ret
  exact ⟨by first | rfl | (simp; done) | (simp [*]; done), by repeat (first | exact Drawn0.refl _ | apply Drawn0.step)⟩

/-! ### frame_group: function 73 -/
def frame_group.j0 : Nat → Int → Int → Int → Bool → Option (Int × Bool × Int)
  | 0, _, _, _, _ => none
  | k + 1, x0, x1, x2, x9 => if x9 = true then (some (0, false, 11)) else (if x2 = 0 then (if x1 > 0 then (some (0, false, 10)) else (if 0 ≤ (wrap64 (x1 * 7)) then (some (Go.bits .or .u64 x0 (shl .u64 (IntKind.u64.wrap (Go.bits .andNot .u8 x2 128)) (wrap64 (x1 * 7))), decide (x2 < 128), 0)) else (none))) else (if 0 ≤ (wrap64 (x1 * 7)) then (some (Go.bits .or .u64 x0 (shl .u64 (IntKind.u64.wrap (Go.bits .andNot .u8 x2 128)) (wrap64 (x1 * 7))), decide (x2 < 128), 0)) else (none)))
def frame_group.f (k : Nat) (a0 : Int) (a1 : Int) (a2 : Int) : Option (Int × Bool × Int) := if a1 = 9 then (frame_group.j0 k a0 a1 a2 (decide (a2 > 1))) else (frame_group.j0 k a0 a1 a2 false)
theorem frame_group.mono_l : ∀ k, (∀ y0 y1 y2 y3, LeO (frame_group.j0 k y0 y1 y2 y3) (frame_group.j0 (k + 1) y0 y1 y2 y3))
  | 0 => fun _ _ _ _ r h => by simp [frame_group.j0] at h
  | k + 1 => by
    have ih0 := frame_group.mono_l k
    · intro y0 y1 y2 y3
      unfold frame_group.j0
      repeat' first
      | (with_reducible exact ih0 _ _ _ _)
      | (with_reducible exact LeO.refl _)
      | (with_reducible exact LeO.none _)
      | (with_reducible refine LeO.ite ?_ ?_)
      | (with_reducible refine LeO.bind ?_ (fun _ => ?_))
      | exact ih0 _ _ _ _
      | exact LeO.none _
      | refine LeO.ite ?_ ?_
      | refine LeO.bind ?_ (fun _ => ?_)
theorem frame_group.mono : ∀ a0 a1 a2 k, LeO (frame_group.f k a0 a1 a2) (frame_group.f (k + 1) a0 a1 a2) := by
  intro a0 a1 a2 k
  have ih0 := frame_group.mono_l k
  unfold frame_group.f
  repeat' first
      | (with_reducible exact ih0 _ _ _ _)
      | (with_reducible exact LeO.refl _)
      | (with_reducible exact LeO.none _)
      | (with_reducible refine LeO.ite ?_ ?_)
      | (with_reducible refine LeO.bind ?_ (fun _ => ?_))
      | exact ih0 _ _ _ _
      | exact LeO.none _
      | refine LeO.ite ?_ ?_
      | refine LeO.bind ?_ (fun _ => ?_)
set_option maxHeartbeats 8000000 in
set_option maxRecDepth 100000 in
theorem frame_group.calls (k : Nat) (a0 : Int) (a1 : Int) (a2 : Int) (r1 : Int) (r2 : Bool) (r3 : Int) (w : World) (h : frame_group.f k a0 a1 a2 = some (r1, r2, r3)) :
    Calls Tryd.prog 73 #[.int .u64 a0, .int .i64 a1, .int .u8 a2] w fun e w' => e = .returned (.tuple #[.int .u64 r1, .bool r2, .int .i64 r3]) ∧ Drawn0 w w' := by
  have H : (if a1 = 9 then (frame_group.j0 k a0 a1 a2 (decide (a2 > 1))) else (frame_group.j0 k a0 a1 a2 false)) = some (r1, r2, r3) := h
  clear h
  have HC4 := Aside0.mk H
  clear H
  go_enter Tryd.func73, Tryd.ntmps73
  go_upto_region 1 with (fail)
  go_cut [9] (fun v9 wc => ∃ (kq : Nat) (x9_3 : Bool), v9 = .bool x9_3 ∧ Aside0 (frame_group.j0 kq a0 a1 a2 x9_3 = some (r1, r2, r3)) ∧ Aside0 (kq ≤ k) ∧ Drawn0 w wc)
  case first =>
    have H := HC4.out
    clear HC4
    by_cases c5 : a1 = 9
    · rw [if_pos c5] at H
      have c5b0 : (a1 == 9) = true := beq_iff_eq.mpr c5
      have c5b1 : (a1 != 9) = false := bne_eq_false_iff_eq.mpr c5
      clear c5
      (first | rw [c5b0] | (simp only [i64_w, i32_w]; rw [c5b0]) | skip)
      have H' := Aside0.mk H
      clear H
      go_wp2
      go_meet
      case rel => exact ⟨_, (decide (a2 > 1)), (by first | rfl | (simp; done) | (simp [*]; done)), H', ⟨by first | omega | exact Nat.le_refl _⟩, by repeat (first | exact Drawn0.refl _ | apply Drawn0.step)⟩
    · rw [if_neg c5] at H
      have c5b0 : (a1 == 9) = false := beq_eq_false_iff_ne.mpr c5
      have c5b1 : (a1 != 9) = true := bne_iff_ne.mpr c5
      (first | rw [c5b0] | (simp only [i64_w, i32_w]; rw [c5b0]) | skip)
      have H' := Aside0.mk H
      clear H
      go_wp2
      go_meet
      case rel => exact ⟨_, (false), (by first | rfl | (simp; done) | (simp [*]; done)), H', ⟨by first | omega | exact Nat.le_refl _⟩, by repeat (first | exact Drawn0.refl _ | apply Drawn0.step)⟩
  case rest =>
    clear HC4
    try clear p2
    try clear c5
    try clear c5b0
    try clear c5b1
    obtain ⟨kq, x9_3, rfl, HA, HJ3, ⟨mc3, rfl⟩⟩ := hcut
    cases kq with
    | zero => exact absurd HA.out (by simp [frame_group.j0])
    | succ kj3 =>
      have H := HA.out
      clear HA
      simp only [frame_group.j0] at H
      by_cases c6 : x9_3 = true
      · subst c6
        have H1 : (some (0, false, 11)) = some (r1, r2, r3) := by rw [if_pos rfl] at H; exact H
        clear H
        have H := H1
        clear H1
        simp only [Option.some.injEq, Prod.mk.injEq] at H
        obtain ⟨rfl, rfl, rfl⟩ := H
        go_wp2
        go_ret3
        exact ⟨by first | rfl | (simp; done) | (simp [*]; done), by repeat (first | exact Drawn0.refl _ | apply Drawn0.step)⟩
      · replace c6 := Bool.eq_false_iff.mpr c6
        subst c6
        have H1 : (if a2 = 0 then (if a1 > 0 then (some (0, false, 10)) else (if 0 ≤ (wrap64 (a1 * 7)) then (some (Go.bits .or .u64 a0 (shl .u64 (IntKind.u64.wrap (Go.bits .andNot .u8 a2 128)) (wrap64 (a1 * 7))), decide (a2 < 128), 0)) else (none))) else (if 0 ≤ (wrap64 (a1 * 7)) then (some (Go.bits .or .u64 a0 (shl .u64 (IntKind.u64.wrap (Go.bits .andNot .u8 a2 128)) (wrap64 (a1 * 7))), decide (a2 < 128), 0)) else (none))) = some (r1, r2, r3) := by rw [if_neg (show ¬ (false = true) by decide)] at H; exact H
        clear H
        have H := H1
        clear H1
        by_cases c7 : a2 = 0
        · rw [if_pos c7] at H
          have c7b0 : (a2 == 0) = true := beq_iff_eq.mpr c7
          have c7b1 : (a2 != 0) = false := bne_eq_false_iff_eq.mpr c7
          clear c7
          by_cases c8 : a1 > 0
          · rw [if_pos c8] at H
            have c8b0 : decide (0 < a1) = true := decide_eq_true c8
            clear c8
            simp only [Option.some.injEq, Prod.mk.injEq] at H
            obtain ⟨rfl, rfl, rfl⟩ := H
            go_wp2
            go_ret3
            exact ⟨by first | rfl | (simp; done) | (simp [*]; done), by repeat (first | exact Drawn0.refl _ | apply Drawn0.step)⟩
          · rw [if_neg c8] at H
            have c8b0 : decide (0 < a1) = false := decide_eq_false c8
            clear c8
            obtain ⟨ji9, hji9⟩ : ∃ j_ : Int, (wrap64 (a1 * 7)) = j_ := ⟨_, rfl⟩
            replace H : (if 0 ≤ (ji9) then (some (Go.bits .or .u64 a0 (shl .u64 (IntKind.u64.wrap (Go.bits .andNot .u8 a2 128)) (ji9)), decide (a2 < 128), 0)) else (none)) = some (r1, r2, r3) := by first | (rw [hji9] at H; exact H) | (simp only [hji9] at H ⊢; exact H)
            have hji9w : (IntKind.i64.wrap (a1 * 7)) = ji9 := (i64_w _).trans hji9
            by_cases c10 : 0 ≤ (ji9)
            · rw [if_pos c10] at H
              have c10b0 := eq_true c10
              have c10b1 : decide (0 ≤ (ji9)) = true := decide_eq_true c10
              clear c10
              obtain ⟨ji11, hji11⟩ : ∃ j_ : Int, (shl .u64 (IntKind.u64.wrap (Go.bits .andNot .u8 a2 128)) (ji9)) = j_ := ⟨_, rfl⟩
              replace H : (some (Go.bits .or .u64 a0 (ji11), decide (a2 < 128), 0)) = some (r1, r2, r3) := by first | (rw [hji11] at H; exact H) | (simp only [hji11] at H ⊢; exact H)
              have hji11_ : (IntKind.u64.wrap ((IntKind.u64.wrap (Go.bits .andNot .u8 a2 128)) * 2 ^ min (ji9).toNat 64)) = ji11 := hji11
              have hji11z : (ji9) ≤ 64 → (IntKind.u64.wrap ((IntKind.u64.wrap (Go.bits .andNot .u8 a2 128)) * 2 ^ (ji9).toNat)) = ji11 := shl_small hji11
              (try rw [hji11] at hji9)
              (try rw [hji11] at hji9w)
              simp only [Option.some.injEq, Prod.mk.injEq] at H
              obtain ⟨rfl, rfl, rfl⟩ := H
              go_wp2
              go_ret3
              exact ⟨by first | rfl | (simp; done) | (simp only [← hji9, ← hji11] <;> (first | rfl | simp)) | (simp [*]; done), by repeat (first | exact Drawn0.refl _ | apply Drawn0.step)⟩
            · rw [if_neg c10] at H
              exact absurd H (by simp)
        · rw [if_neg c7] at H
          have c7b0 : (a2 == 0) = false := beq_eq_false_iff_ne.mpr c7
          have c7b1 : (a2 != 0) = true := bne_iff_ne.mpr c7
          obtain ⟨ji12, hji12⟩ : ∃ j_ : Int, (wrap64 (a1 * 7)) = j_ := ⟨_, rfl⟩
          replace H : (if 0 ≤ (ji12) then (some (Go.bits .or .u64 a0 (shl .u64 (IntKind.u64.wrap (Go.bits .andNot .u8 a2 128)) (ji12)), decide (a2 < 128), 0)) else (none)) = some (r1, r2, r3) := by first | (rw [hji12] at H; exact H) | (simp only [hji12] at H ⊢; exact H)
          have hji12w : (IntKind.i64.wrap (a1 * 7)) = ji12 := (i64_w _).trans hji12
          by_cases c13 : 0 ≤ (ji12)
          · rw [if_pos c13] at H
            have c13b0 := eq_true c13
            have c13b1 : decide (0 ≤ (ji12)) = true := decide_eq_true c13
            clear c13
            obtain ⟨ji14, hji14⟩ : ∃ j_ : Int, (shl .u64 (IntKind.u64.wrap (Go.bits .andNot .u8 a2 128)) (ji12)) = j_ := ⟨_, rfl⟩
            replace H : (some (Go.bits .or .u64 a0 (ji14), decide (a2 < 128), 0)) = some (r1, r2, r3) := by first | (rw [hji14] at H; exact H) | (simp only [hji14] at H ⊢; exact H)
            have hji14_ : (IntKind.u64.wrap ((IntKind.u64.wrap (Go.bits .andNot .u8 a2 128)) * 2 ^ min (ji12).toNat 64)) = ji14 := hji14
            have hji14z : (ji12) ≤ 64 → (IntKind.u64.wrap ((IntKind.u64.wrap (Go.bits .andNot .u8 a2 128)) * 2 ^ (ji12).toNat)) = ji14 := shl_small hji14
            (try rw [hji14] at hji12)
            (try rw [hji14] at hji12w)
            simp only [Option.some.injEq, Prod.mk.injEq] at H
            obtain ⟨rfl, rfl, rfl⟩ := H
            go_wp2
            go_ret3
            exact ⟨by first | rfl | (simp; done) | (simp only [← hji12, ← hji14] <;> (first | rfl | simp)) | (simp [*]; done), by repeat (first | exact Drawn0.refl _ | apply Drawn0.step)⟩
          · rw [if_neg c13] at H
            exact absurd H (by simp)

end Go.Proofs.YtlblleideihhmaaDoor.PB
