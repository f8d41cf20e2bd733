-- PRINTED BY print.sh 35421559b90ae4d0a3588c463048766b98c2df88dd9212a6774a882060cdf62d: not written by this session
import Derived.Test.YtlblleideihhmaaPFrameStepsx0
namespace Go.Proofs.Ytlblleideihhmaa.PFrameSteps
open Go.RowKit Go.Proofs.YtlblleideihhmaaW.PrintWords Go.Proofs.YtlblleideihhmaaW.PrintLast Go.Proofs.YtlblleideihhmaaW.PrintMore
attribute [local go_sem] max2_int min2_int max_two min_two max_three min_three max_four min_four   -- for this text's walks alone
set_option linter.unusedVariables false
set_option linter.unusedSimpArgs false

/-! ### frame_halved: function 47 -/
def frame_halved.f (a0 : Int) : Option (Int) := if (Go.bits .and .u32 a0 1) = 0 then (some (a0 / 2)) else (some (Go.bits .xor .u32 (a0 / 2) 2197175160))
set_option maxHeartbeats 8000000 in
set_option maxRecDepth 100000 in
theorem frame_halved.calls (a0 : Int) (r : Int) (w : World) (h : frame_halved.f a0 = some r) :
    Calls Try.prog 47 #[.int .u32 a0] w fun e w' => e = .returned (.int .u32 r) ∧ Drawn0 w w' := by
  have H : (if (Go.bits .and .u32 a0 1) = 0 then (some (a0 / 2)) else (some (Go.bits .xor .u32 (a0 / 2) 2197175160))) = some r := h
  clear h
  by_cases c2 : (Go.bits .and .u32 a0 1) = 0
  · rw [if_pos c2] at H
    have c2b0 : ((Go.bits .and .u32 a0 1) == 0) = true := beq_iff_eq.mpr c2
    have c2b1 : ((Go.bits .and .u32 a0 1) != 0) = false := bne_eq_false_iff_eq.mpr c2
    clear c2
    obtain rfl := Option.some.inj H
    go_enter Try.func47, Try.ntmps47
    go_wp2
    go_ret
    exact ⟨by first | rfl | (simp; done) | (simp [*]; done), by repeat (first | exact Drawn0.refl _ | apply Drawn0.step)⟩
  · rw [if_neg c2] at H
    have c2b0 : ((Go.bits .and .u32 a0 1) == 0) = false := beq_eq_false_iff_ne.mpr c2
    have c2b1 : ((Go.bits .and .u32 a0 1) != 0) = true := bne_iff_ne.mpr c2
    obtain rfl := Option.some.inj H
    go_enter Try.func47, Try.ntmps47
    go_wp2
    go_ret
    exact ⟨by first | rfl | (simp; done) | (simp [*]; done), by repeat (first | exact Drawn0.refl _ | apply Drawn0.step)⟩

/-! ### frame_times: function 32 -/
def frame_times.l0 : Nat → Int → Int → Int → Option (Int)
  | 0, _, _, _ => none
  | k + 1, x0, x1, x5 => if x0 = 0 then (some x5) else (if (Go.bits .and .u32 x0 2147483648) = 0 then ((frame_halved.f x1).bind fun t101 => (frame_times.l0 k ((x0 * 2) % 4294967296) t101 x5)) else ((frame_halved.f x1).bind fun t102 => (frame_times.l0 k ((x0 * 2) % 4294967296) t102 (Go.bits .xor .u32 x5 x1))))
def frame_times.f (k : Nat) (a0 : Int) (a1 : Int) : Option (Int) := frame_times.l0 k a0 a1 0
theorem frame_times.mono_l : ∀ k, (∀ y0 y1 y2, LeO (frame_times.l0 k y0 y1 y2) (frame_times.l0 (k + 1) y0 y1 y2))
  | 0 => fun _ _ _ r h => by simp [frame_times.l0] at h
  | k + 1 => by
    have ih0 := frame_times.mono_l k
    · intro y0 y1 y2
      unfold frame_times.l0
      repeat' first
      | (with_reducible exact ih0 _ _ _)
      | (with_reducible exact LeO.refl _)
      | (with_reducible exact LeO.none _)
      | (with_reducible refine LeO.ite ?_ ?_)
      | (with_reducible refine LeO.bind ?_ (fun _ => ?_))
      | exact ih0 _ _ _
      | exact LeO.none _
      | refine LeO.ite ?_ ?_
      | refine LeO.bind ?_ (fun _ => ?_)
theorem frame_times.mono : ∀ a0 a1 k, LeO (frame_times.f k a0 a1) (frame_times.f (k + 1) a0 a1) := by
  intro a0 a1 k
  have ih0 := frame_times.mono_l k
  unfold frame_times.f
  repeat' first
      | (with_reducible exact ih0 _ _ _)
      | (with_reducible exact LeO.refl _)
      | (with_reducible exact LeO.none _)
      | (with_reducible refine LeO.ite ?_ ?_)
      | (with_reducible refine LeO.bind ?_ (fun _ => ?_))
      | exact ih0 _ _ _
      | exact LeO.none _
      | refine LeO.ite ?_ ?_
      | refine LeO.bind ?_ (fun _ => ?_)
set_option maxHeartbeats 8000000 in
set_option maxRecDepth 100000 in
theorem frame_times.calls (k : Nat) (a0 : Int) (a1 : Int) (r : Int) (w : World) (h : frame_times.f k a0 a1 = some r) :
    Calls Try.prog 32 #[.int .u32 a0, .int .u32 a1] w fun e w' => e = .returned (.int .u32 r) ∧ Drawn0 w w' := by
  have H : (frame_times.l0 k a0 a1 0) = some r := h
  clear h
  have H' := Aside0.mk H
  clear H
  go_enter Try.func32, Try.ntmps32
  go_wp2
  go_loopg [0, 1, 5] k (fun kq v0 v1 v5 w' => ∃ (x0_1 : Int) (x1_1 : Int) (x5_1 : Int), v0 = .int .u32 x0_1 ∧ v1 = .int .u32 x1_1 ∧ v5 = .int .u32 x5_1 ∧ Aside0 (frame_times.l0 kq x0_1 x1_1 x5_1 = some r) ∧ Aside0 (kq ≤ k) ∧ Drawn0 w w')
  case atStart => exact ⟨(a0), (a1), (0), (by first | rfl | (simp; done) | (simp [*]; done)), (by first | rfl | (simp; done) | (simp [*]; done)), (by first | rfl | (simp; done) | (simp [*]; done)), H', ⟨Nat.le_refl _⟩, by repeat (first | exact Drawn0.refl _ | apply Drawn0.step)⟩
  case round =>
    clear H'
    try clear p2
    obtain ⟨x0_1, x1_1, x5_1, rfl, rfl, rfl, HA, HK1, ⟨m1, rfl⟩⟩ := hrel
    cases gk with
    | zero => exact absurd HA.out (by simp [frame_times.l0])
    | succ k1 =>
      have H := HA.out
      clear HA
      simp only [frame_times.l0] at H
      by_cases c3 : x0_1 = 0
      · rw [if_pos c3] at H
        have c3b0 : (x0_1 == 0) = true := beq_iff_eq.mpr c3
        have c3b1 : (x0_1 != 0) = false := bne_eq_false_iff_eq.mpr c3
        clear c3
        obtain rfl := Option.some.inj H
        go_wp2
        go_ret
        exact ⟨by first | rfl | (simp; done) | (simp [*]; done), by repeat (first | exact Drawn0.refl _ | apply Drawn0.step)⟩
      · rw [if_neg c3] at H
        have c3b0 : (x0_1 == 0) = false := beq_eq_false_iff_ne.mpr c3
        have c3b1 : (x0_1 != 0) = true := bne_iff_ne.mpr c3
        by_cases c4 : (Go.bits .and .u32 x0_1 2147483648) = 0
        · rw [if_pos c4] at H
          have c4b0 : ((Go.bits .and .u32 x0_1 2147483648) == 0) = true := beq_iff_eq.mpr c4
          have c4b1 : ((Go.bits .and .u32 x0_1 2147483648) != 0) = false := bne_eq_false_iff_eq.mpr c4
          clear c4
          replace H := Option.bind_eq_some_iff.mp H
          obtain ⟨t101, A50, H⟩ := H
          replace H : (frame_times.l0 k1 ((x0_1 * 2) % 4294967296) t101 x5_1) = some r := H
          have A5 := Aside0.mk A50
          clear A50
          have H' := Aside0.mk H
          clear H
          go_wp2_with (first | ((with_reducible refine gate_callee (f := 47) rfl ?_); refine goesL_ (some 17) rfl rfl Try.func47 (by kernel_rfl) rfl #[.int .u32 x1_1] rfl (by (try simp only [List.map_toArray, List.map_cons, List.map_nil]); first | done | rfl | (simp only [List.length_drop, List.length_take]; rfl)) ?_; (with_reducible refine (frame_halved.calls x1_1 t101 _ A5.out).mono ?_); rintro e w' ⟨rfl, ⟨nd, rfl⟩⟩; refine ⟨_, rfl, ?_⟩))
          go_roundg k1
          case measure => have := HK1.out; omega
          case rel => exact ⟨((x0_1 * 2) % 4294967296), (t101), (x5_1), (by first | rfl | (simp; done) | (simp [*]; done)), (by first | rfl | (simp; done) | (simp [*]; done)), (by first | rfl | (simp; done) | (simp [*]; done)), H', ⟨by have := HK1.out; omega⟩, by repeat (first | exact Drawn0.refl _ | apply Drawn0.step)⟩
        · rw [if_neg c4] at H
          have c4b0 : ((Go.bits .and .u32 x0_1 2147483648) == 0) = false := beq_eq_false_iff_ne.mpr c4
          have c4b1 : ((Go.bits .and .u32 x0_1 2147483648) != 0) = true := bne_iff_ne.mpr c4
          replace H := Option.bind_eq_some_iff.mp H
          obtain ⟨t102, A60, H⟩ := H
          replace H : (frame_times.l0 k1 ((x0_1 * 2) % 4294967296) t102 (Go.bits .xor .u32 x5_1 x1_1)) = some r := H
          have A6 := Aside0.mk A60
          clear A60
          have H' := Aside0.mk H
          clear H
          go_wp2_with (first | ((with_reducible refine gate_callee (f := 47) rfl ?_); refine goesL_ (some 17) rfl rfl Try.func47 (by kernel_rfl) rfl #[.int .u32 x1_1] rfl (by (try simp only [List.map_toArray, List.map_cons, List.map_nil]); first | done | rfl | (simp only [List.length_drop, List.length_take]; rfl)) ?_; (with_reducible refine (frame_halved.calls x1_1 t102 _ A6.out).mono ?_); rintro e w' ⟨rfl, ⟨nd, rfl⟩⟩; refine ⟨_, rfl, ?_⟩))
          go_roundg k1
          case measure => have := HK1.out; omega
          case rel => exact ⟨((x0_1 * 2) % 4294967296), (t102), (Go.bits .xor .u32 x5_1 x1_1), (by first | rfl | (simp; done) | (simp [*]; done)), (by first | rfl | (simp; done) | (simp [*]; done)), (by first | rfl | (simp; done) | (simp [*]; done)), H', ⟨by have := HK1.out; omega⟩, by repeat (first | exact Drawn0.refl _ | apply Drawn0.step)⟩

/-! ### frame_CrcJoin: function 9 -/
mutual
def frame_CrcJoin.j0 : Nat → Int → Int → Int → Bool → Option (Int × Int)
  | 0, _, _, _, _ => none
  | k + 1, x0, x1, x2, x15 => if x15 = true then (some (0, 2)) else (frame_CrcJoin.l0 k x0 x1 x2 2147483648 1073741824 0)
def frame_CrcJoin.l0 : Nat → Int → Int → Int → Int → Int → Int → Option (Int × Int)
  | 0, _, _, _, _, _, _ => none
  | k + 1, x0, x1, x2, x8, x9, x16 => if x16 < 3 then ((frame_times.f k x9 x9).bind fun t103 => (frame_CrcJoin.l0 k x0 x1 x2 x8 t103 (wrap64 (x16 + 1)))) else (frame_CrcJoin.l1 k x0 x1 x2 x8 x9)
def frame_CrcJoin.l1 : Nat → Int → Int → Int → Int → Int → Option (Int × Int)
  | 0, _, _, _, _, _ => none
  | k + 1, x0, x1, x2, x8, x9 => if x2 > 0 then (if (Go.bits .and .i64 x2 1) = 0 then ((frame_times.f k x9 x9).bind fun t105 => (frame_CrcJoin.l1 k x0 x1 (x2 / 2) x8 t105)) else ((frame_times.f k x8 x9).bind fun t106 => ((frame_times.f k x9 x9).bind fun t107 => (frame_CrcJoin.l1 k x0 x1 (x2 / 2) t106 t107)))) else ((frame_times.f k x8 x0).bind fun t104 => (some (Go.bits .xor .u32 t104 x1, 0)))
end
def frame_CrcJoin.f (k : Nat) (a0 : Int) (a1 : Int) (a2 : Int) : Option (Int × Int) := if a2 < 0 then (frame_CrcJoin.j0 k a0 a1 a2 true) else (frame_CrcJoin.j0 k a0 a1 a2 (decide (a2 > 1099511627776)))
theorem frame_CrcJoin.mono_l : ∀ k, (∀ y0 y1 y2 y3, LeO (frame_CrcJoin.j0 k y0 y1 y2 y3) (frame_CrcJoin.j0 (k + 1) y0 y1 y2 y3)) ∧ (∀ y0 y1 y2 y3 y4 y5, LeO (frame_CrcJoin.l0 k y0 y1 y2 y3 y4 y5) (frame_CrcJoin.l0 (k + 1) y0 y1 y2 y3 y4 y5)) ∧ (∀ y0 y1 y2 y3 y4, LeO (frame_CrcJoin.l1 k y0 y1 y2 y3 y4) (frame_CrcJoin.l1 (k + 1) y0 y1 y2 y3 y4))
  | 0 => ⟨fun _ _ _ _ r h => by simp [frame_CrcJoin.j0] at h, fun _ _ _ _ _ _ r h => by simp [frame_CrcJoin.l0] at h, fun _ _ _ _ _ r h => by simp [frame_CrcJoin.l1] at h⟩
  | k + 1 => by
    obtain ⟨ih0, ih1, ih2⟩ := frame_CrcJoin.mono_l k
    refine ⟨?_, ?_, ?_⟩
    · intro y0 y1 y2 y3
      unfold frame_CrcJoin.j0
      repeat' first
      | (with_reducible exact ih0 _ _ _ _)
      | (with_reducible exact ih1 _ _ _ _ _ _)
      | (with_reducible exact ih2 _ _ _ _ _)
      | (with_reducible exact frame_times.mono _ _ _)
      | (with_reducible exact LeO.refl _)
      | (with_reducible exact LeO.none _)
      | (with_reducible refine LeO.ite ?_ ?_)
      | (with_reducible refine LeO.bind ?_ (fun _ => ?_))
      | exact ih0 _ _ _ _
      | exact ih1 _ _ _ _ _ _
      | exact ih2 _ _ _ _ _
      | exact frame_times.mono _ _ _
      | exact LeO.none _
      | refine LeO.ite ?_ ?_
      | refine LeO.bind ?_ (fun _ => ?_)
    · intro y0 y1 y2 y3 y4 y5
      unfold frame_CrcJoin.l0
      repeat' first
      | (with_reducible exact ih0 _ _ _ _)
      | (with_reducible exact ih1 _ _ _ _ _ _)
      | (with_reducible exact ih2 _ _ _ _ _)
      | (with_reducible exact frame_times.mono _ _ _)
      | (with_reducible exact LeO.refl _)
      | (with_reducible exact LeO.none _)
      | (with_reducible refine LeO.ite ?_ ?_)
      | (with_reducible refine LeO.bind ?_ (fun _ => ?_))
      | exact ih0 _ _ _ _
      | exact ih1 _ _ _ _ _ _
      | exact ih2 _ _ _ _ _
      | exact frame_times.mono _ _ _
      | exact LeO.none _
      | refine LeO.ite ?_ ?_
      | refine LeO.bind ?_ (fun _ => ?_)
    · intro y0 y1 y2 y3 y4
      unfold frame_CrcJoin.l1
      repeat' first
      | (with_reducible exact ih0 _ _ _ _)
      | (with_reducible exact ih1 _ _ _ _ _ _)
      | (with_reducible exact ih2 _ _ _ _ _)
      | (with_reducible exact frame_times.mono _ _ _)
      | (with_reducible exact LeO.refl _)
      | (with_reducible exact LeO.none _)
      | (with_reducible refine LeO.ite ?_ ?_)
      | (with_reducible refine LeO.bind ?_ (fun _ => ?_))
      | exact ih0 _ _ _ _
      | exact ih1 _ _ _ _ _ _
      | exact ih2 _ _ _ _ _
      | exact frame_times.mono _ _ _
      | exact LeO.none _
      | refine LeO.ite ?_ ?_
      | refine LeO.bind ?_ (fun _ => ?_)
theorem frame_CrcJoin.mono : ∀ a0 a1 a2 k, LeO (frame_CrcJoin.f k a0 a1 a2) (frame_CrcJoin.f (k + 1) a0 a1 a2) := by
  intro a0 a1 a2 k
  obtain ⟨ih0, ih1, ih2⟩ := frame_CrcJoin.mono_l k
  unfold frame_CrcJoin.f
  repeat' first
      | (with_reducible exact ih0 _ _ _ _)
      | (with_reducible exact ih1 _ _ _ _ _ _)
      | (with_reducible exact ih2 _ _ _ _ _)
      | (with_reducible exact frame_times.mono _ _ _)
      | (with_reducible exact LeO.refl _)
      | (with_reducible exact LeO.none _)
      | (with_reducible refine LeO.ite ?_ ?_)
      | (with_reducible refine LeO.bind ?_ (fun _ => ?_))
      | exact ih0 _ _ _ _
      | exact ih1 _ _ _ _ _ _
      | exact ih2 _ _ _ _ _
      | exact frame_times.mono _ _ _
      | exact LeO.none _
      | refine LeO.ite ?_ ?_
      | refine LeO.bind ?_ (fun _ => ?_)
set_option maxHeartbeats 8000000 in
set_option maxRecDepth 100000 in
theorem frame_CrcJoin.calls (k : Nat) (a0 : Int) (a1 : Int) (a2 : Int) (r1 : Int) (r2 : Int) (w : World) (h : frame_CrcJoin.f k a0 a1 a2 = some (r1, r2)) :
    Calls Try.prog 9 #[.int .u32 a0, .int .u32 a1, .int .i64 a2] w fun e w' => e = .returned (.tuple #[.int .u32 r1, .int .i64 r2]) ∧ Drawn0 w w' := by
  have H : (if a2 < 0 then (frame_CrcJoin.j0 k a0 a1 a2 true) else (frame_CrcJoin.j0 k a0 a1 a2 (decide (a2 > 1099511627776)))) = some (r1, r2) := h
  clear h
  have HC4 := Aside0.mk H
  clear H
  go_enter Try.func9, Try.ntmps9
  go_upto_region 1 with (fail)
  go_cut [15] (fun v15 wc => ∃ (kq : Nat) (x15_3 : Bool), v15 = .bool x15_3 ∧ Aside0 (frame_CrcJoin.j0 kq a0 a1 a2 x15_3 = some (r1, r2)) ∧ Aside0 (kq ≤ k) ∧ Drawn0 w wc)
  case first =>
    have H := HC4.out
    clear HC4
    by_cases c5 : a2 < 0
    · rw [if_pos c5] at H
      have c5b0 : decide (a2 < 0) = true := decide_eq_true c5
      clear c5
      (first | rw [c5b0] | (simp only [i64_w, i32_w]; rw [c5b0]) | skip)
      have H' := Aside0.mk H
      clear H
      go_wp2
      go_meet
      case rel => exact ⟨_, (true), (by first | rfl | (simp; done) | (simp [*]; done)), H', ⟨by first | omega | exact Nat.le_refl _⟩, by repeat (first | exact Drawn0.refl _ | apply Drawn0.step)⟩
    · rw [if_neg c5] at H
      have c5b0 : decide (a2 < 0) = false := decide_eq_false c5
      clear c5
      (first | rw [c5b0] | (simp only [i64_w, i32_w]; rw [c5b0]) | skip)
      have H' := Aside0.mk H
      clear H
      go_wp2
      go_meet
      case rel => exact ⟨_, (decide (a2 > 1099511627776)), (by first | rfl | (simp; done) | (simp [*]; done)), H', ⟨by first | omega | exact Nat.le_refl _⟩, by repeat (first | exact Drawn0.refl _ | apply Drawn0.step)⟩
  case rest =>
    clear HC4
    try clear p2
    try clear c5
    try clear c5b0
    obtain ⟨kq, x15_3, rfl, HA, HJ3, ⟨mc3, rfl⟩⟩ := hcut
    cases kq with
    | zero => exact absurd HA.out (by simp [frame_CrcJoin.j0])
    | succ kj3 =>
      have H := HA.out
      clear HA
      simp only [frame_CrcJoin.j0] at H
      by_cases c6 : x15_3 = true
      · subst c6
        have H1 : (some (0, 2)) = some (r1, r2) := by rw [if_pos rfl] at H; exact H
        clear H
        have H := H1
        clear H1
        simp only [Option.some.injEq, Prod.mk.injEq] at H
        obtain ⟨rfl, rfl⟩ := H
        go_wp2
        go_ret2
        exact ⟨by first | rfl | (simp; done) | (simp [*]; done), by repeat (first | exact Drawn0.refl _ | apply Drawn0.step)⟩
      · replace c6 := Bool.eq_false_iff.mpr c6
        subst c6
        have H1 : (frame_CrcJoin.l0 kj3 a0 a1 a2 2147483648 1073741824 0) = some (r1, r2) := by rw [if_neg (show ¬ (false = true) by decide)] at H; exact H
        clear H
        have H := H1
        clear H1
        have H' := Aside0.mk H
        clear H
        go_wp2
        go_loopg [9, 16] kj3 (fun kq v9 v16 w' => ∃ (x9_2 : Int) (x16_2 : Int), v9 = .int .u32 x9_2 ∧ v16 = .int .i64 x16_2 ∧ Aside0 (frame_CrcJoin.l0 kq a0 a1 a2 2147483648 x9_2 x16_2 = some (r1, r2)) ∧ Aside0 (kq ≤ kj3) ∧ Drawn0 w w')
        case atStart => exact ⟨(1073741824), (0), (by first | rfl | (simp; done) | (simp [*]; done)), (by first | rfl | (simp; done) | (simp [*]; done)), H', ⟨Nat.le_refl _⟩, by repeat (first | exact Drawn0.refl _ | apply Drawn0.step)⟩
        case round =>
          clear H'
          try clear p2
          try clear c3
          try clear c5
          try clear c5b0
          try clear c6
          try clear p2
          obtain ⟨x9_2, x16_2, rfl, rfl, HA, HK2, ⟨m2, rfl⟩⟩ := hrel
          cases gk with
          | zero => exact absurd HA.out (by simp [frame_CrcJoin.l0])
          | succ k2 =>
            have H := HA.out
            clear HA
            simp only [frame_CrcJoin.l0] at H
            by_cases c7 : x16_2 < 3
            · rw [if_pos c7] at H
              have c7b0 : decide (x16_2 < 3) = true := decide_eq_true c7
              clear c7
              replace H := Option.bind_eq_some_iff.mp H
              obtain ⟨t103, A80, H⟩ := H
              replace H : (frame_CrcJoin.l0 k2 a0 a1 a2 2147483648 t103 (wrap64 (x16_2 + 1))) = some (r1, r2) := H
              have A8 := Aside0.mk A80
              clear A80
              have H' := Aside0.mk H
              clear H
              go_wp2_with (first | ((with_reducible refine gate_callee (f := 32) rfl ?_); refine goesL_ (some 20) rfl rfl Try.func32 (by kernel_rfl) rfl #[.int .u32 x9_2, .int .u32 x9_2] rfl (by (try simp only [List.map_toArray, List.map_cons, List.map_nil]); first | done | rfl | (simp only [List.length_drop, List.length_take]; rfl)) ?_; (with_reducible refine (frame_times.calls k2 x9_2 x9_2 t103 _ A8.out).mono ?_); rintro e w' ⟨rfl, ⟨nd, rfl⟩⟩; refine ⟨_, rfl, ?_⟩))
              go_roundg k2
              case measure => have := HJ3.out; have := HK2.out; omega
              case rel => exact ⟨(t103), (wrap64 (x16_2 + 1)), (by first | rfl | (simp; done) | (simp [*]; done)), (by first | rfl | (simp; done) | (simp [*]; done)), H', ⟨by have := HJ3.out; have := HK2.out; omega⟩, by repeat (first | exact Drawn0.refl _ | apply Drawn0.step)⟩
            · rw [if_neg c7] at H
              have c7b0 : decide (x16_2 < 3) = false := decide_eq_false c7
              clear c7
              have H' := Aside0.mk H
              clear H
              go_wp2
              go_loopg [2, 8, 9] k2 (fun kq v2 v8 v9 w' => ∃ (x2_3 : Int) (x8_3 : Int) (x9_3 : Int), v2 = .int .i64 x2_3 ∧ v8 = .int .u32 x8_3 ∧ v9 = .int .u32 x9_3 ∧ Aside0 (frame_CrcJoin.l1 kq a0 a1 x2_3 x8_3 x9_3 = some (r1, r2)) ∧ Aside0 (kq ≤ k2) ∧ Drawn0 w w')
              case atStart => exact ⟨(a2), (2147483648), (x9_2), (by first | rfl | (simp; done) | (simp [*]; done)), (by first | rfl | (simp; done) | (simp [*]; done)), (by first | rfl | (simp; done) | (simp [*]; done)), H', ⟨Nat.le_refl _⟩, by repeat (first | exact Drawn0.refl _ | apply Drawn0.step)⟩
              case round =>
                clear H'
                try clear p2
                try clear c3
                try clear c5
                try clear c5b0
                try clear c6
                try clear p6
                try clear c7
                try clear c7b0
                try clear p2
                obtain ⟨x2_3, x8_3, x9_3, rfl, rfl, rfl, HA, HK3, ⟨m3, rfl⟩⟩ := hrel
                cases gk with
                | zero => exact absurd HA.out (by simp [frame_CrcJoin.l1])
                | succ k3 =>
                  have H := HA.out
                  clear HA
                  simp only [frame_CrcJoin.l1] at H
                  by_cases c9 : x2_3 > 0
                  · rw [if_pos c9] at H
                    have c9b0 : decide (0 < x2_3) = true := decide_eq_true c9
                    clear c9
                    by_cases c10 : (Go.bits .and .i64 x2_3 1) = 0
                    · rw [if_pos c10] at H
                      have c10b0 : ((Go.bits .and .i64 x2_3 1) == 0) = true := beq_iff_eq.mpr c10
                      have c10b1 : ((Go.bits .and .i64 x2_3 1) != 0) = false := bne_eq_false_iff_eq.mpr c10
                      clear c10
                      replace H := Option.bind_eq_some_iff.mp H
                      obtain ⟨t105, A110, H⟩ := H
                      replace H : (frame_CrcJoin.l1 k3 a0 a1 (x2_3 / 2) x8_3 t105) = some (r1, r2) := H
                      have A11 := Aside0.mk A110
                      clear A110
                      have H' := Aside0.mk H
                      clear H
                      go_wp2_with (first | ((with_reducible refine gate_callee (f := 32) rfl ?_); refine goesL_ (some 34) rfl rfl Try.func32 (by kernel_rfl) rfl #[.int .u32 x9_3, .int .u32 x9_3] rfl (by (try simp only [List.map_toArray, List.map_cons, List.map_nil]); first | done | rfl | (simp only [List.length_drop, List.length_take]; rfl)) ?_; (with_reducible refine (frame_times.calls k3 x9_3 x9_3 t105 _ A11.out).mono ?_); rintro e w' ⟨rfl, ⟨nd, rfl⟩⟩; refine ⟨_, rfl, ?_⟩))
                      go_roundg k3
                      case measure => have := HJ3.out; have := HK2.out; have := HK3.out; omega
                      case rel => exact ⟨(x2_3 / 2), (x8_3), (t105), (by first | rfl | (simp; done) | (simp [*]; done)), (by first | rfl | (simp; done) | (simp [*]; done)), (by first | rfl | (simp; done) | (simp [*]; done)), H', ⟨by have := HJ3.out; have := HK2.out; have := HK3.out; omega⟩, by repeat (first | exact Drawn0.refl _ | apply Drawn0.step)⟩
                    · rw [if_neg c10] at H
                      have c10b0 : ((Go.bits .and .i64 x2_3 1) == 0) = false := beq_eq_false_iff_ne.mpr c10
                      have c10b1 : ((Go.bits .and .i64 x2_3 1) != 0) = true := bne_iff_ne.mpr c10
                      replace H := Option.bind_eq_some_iff.mp H
                      obtain ⟨t106, A120, H⟩ := H
                      replace H : ((frame_times.f k3 x9_3 x9_3).bind fun t107 => (frame_CrcJoin.l1 k3 a0 a1 (x2_3 / 2) t106 t107)) = some (r1, r2) := H
                      have A12 := Aside0.mk A120
                      clear A120
                      replace H := Option.bind_eq_some_iff.mp H
                      obtain ⟨t107, A130, H⟩ := H
                      replace H : (frame_CrcJoin.l1 k3 a0 a1 (x2_3 / 2) t106 t107) = some (r1, r2) := H
                      have A13 := Aside0.mk A130
                      clear A130
                      have H' := Aside0.mk H
                      clear H
                      go_wp2_with (first | ((with_reducible refine gate_callee (f := 32) rfl ?_); refine goesL_ (some 31) rfl rfl Try.func32 (by kernel_rfl) rfl #[.int .u32 x8_3, .int .u32 x9_3] rfl (by (try simp only [List.map_toArray, List.map_cons, List.map_nil]); first | done | rfl | (simp only [List.length_drop, List.length_take]; rfl)) ?_; (with_reducible refine (frame_times.calls k3 x8_3 x9_3 t106 _ A12.out).mono ?_); rintro e w' ⟨rfl, ⟨nd, rfl⟩⟩; refine ⟨_, rfl, ?_⟩) | ((with_reducible refine gate_callee (f := 32) rfl ?_); refine goesL_ (some 34) rfl rfl Try.func32 (by kernel_rfl) rfl #[.int .u32 x9_3, .int .u32 x9_3] rfl (by (try simp only [List.map_toArray, List.map_cons, List.map_nil]); first | done | rfl | (simp only [List.length_drop, List.length_take]; rfl)) ?_; (with_reducible refine (frame_times.calls k3 x9_3 x9_3 t107 _ A13.out).mono ?_); rintro e w' ⟨rfl, ⟨nd, rfl⟩⟩; refine ⟨_, rfl, ?_⟩))
                      go_roundg k3
                      case measure => have := HJ3.out; have := HK2.out; have := HK3.out; omega
                      case rel => exact ⟨(x2_3 / 2), (t106), (t107), (by first | rfl | (simp; done) | (simp [*]; done)), (by first | rfl | (simp; done) | (simp [*]; done)), (by first | rfl | (simp; done) | (simp [*]; done)), H', ⟨by have := HJ3.out; have := HK2.out; have := HK3.out; omega⟩, by repeat (first | exact Drawn0.refl _ | apply Drawn0.step)⟩
                  · rw [if_neg c9] at H
                    have c9b0 : decide (0 < x2_3) = false := decide_eq_false c9
                    clear c9
                    replace H := Option.bind_eq_some_iff.mp H
                    obtain ⟨t104, A140, H⟩ := H
                    replace H : (some (Go.bits .xor .u32 t104 a1, 0)) = some (r1, r2) := H
                    have A14 := Aside0.mk A140
                    clear A140
                    simp only [Option.some.injEq, Prod.mk.injEq] at H
                    obtain ⟨rfl, rfl⟩ := H
                    go_wp2_with (first | ((with_reducible refine gate_callee (f := 32) rfl ?_); refine goesL_ (some 37) rfl rfl Try.func32 (by kernel_rfl) rfl #[.int .u32 x8_3, .int .u32 a0] rfl (by (try simp only [List.map_toArray, List.map_cons, List.map_nil]); first | done | rfl | (simp only [List.length_drop, List.length_take]; rfl)) ?_; (with_reducible refine (frame_times.calls k3 x8_3 a0 t104 _ A14.out).mono ?_); rintro e w' ⟨rfl, ⟨nd, rfl⟩⟩; refine ⟨_, rfl, ?_⟩))
                    go_ret2
                    exact ⟨by first | rfl | (simp; done) | (simp [*]; done), by repeat (first | exact Drawn0.refl _ | apply Drawn0.step)⟩

/-! ### larderlaw01_FrameSteps: function 4 -/
mutual
def larderlaw01_FrameSteps.j0 : Nat → Int → Int → Int → Int → Int → Int → Int → Int → Bool → Option (Bool)
  | 0, _, _, _, _, _, _, _, _, _ => none
  | k + 1, x0, x2, x3, x4, x11, x12, x13, x14, x54 => if x54 = true then (some false) else (if x12 = 0 then (if x14 = 0 then (larderlaw01_FrameSteps.j1 k x0 x2 x3 x4 x11 x12 x13 x14 (decide ((wrap64 (x3 + x4)) > 1099511627776))) else (larderlaw01_FrameSteps.j1 k x0 x2 x3 x4 x11 x12 x13 x14 true)) else (larderlaw01_FrameSteps.j1 k x0 x2 x3 x4 x11 x12 x13 x14 true))
def larderlaw01_FrameSteps.j1 : Nat → Int → Int → Int → Int → Int → Int → Int → Int → Bool → Option (Bool)
  | 0, _, _, _, _, _, _, _, _, _ => none
  | k + 1, x0, x2, x3, x4, x11, x12, x13, x14, x66 => if x66 = true then (if x12 = 0 then (if x14 = 0 then (some true) else (some (x14 == 2))) else (if x12 = 2 then (if x14 = 0 then (some true) else (some (x14 == 2))) else (some false))) else ((frame_CrcJoin.f k x11 x2 x4).bind fun bt112 => ((frame_CrcJoin.f k x0 x13 (wrap64 (x3 + x4))).bind fun bt114 => ((frame_CrcJoin.f k x0 0 0).bind fun bt116 => (if bt112.1 = bt114.1 then (if bt112.2 = 0 then (if bt114.2 = 0 then (if bt116.1 = x0 then (some (bt116.2 == 0)) else (some false)) else (some false)) else (some false)) else (some false)))))
end
def larderlaw01_FrameSteps.f (k : Nat) (a0 : Int) (a1 : Int) (a2 : Int) (a3 : Int) (a4 : Int) : Option (Bool) := (frame_CrcJoin.f k a0 a1 a3).bind fun bt108 => ((frame_CrcJoin.f k a1 a2 a4).bind fun bt110 => (if a3 ≥ 0 then (if ((bt108.2 == 0) != (decide (a3 ≤ 1099511627776))) = true then (larderlaw01_FrameSteps.j0 k a0 a2 a3 a4 bt108.1 bt108.2 bt110.1 bt110.2 true) else (if a4 ≥ 0 then (larderlaw01_FrameSteps.j0 k a0 a2 a3 a4 bt108.1 bt108.2 bt110.1 bt110.2 ((bt110.2 == 0) != (decide (a4 ≤ 1099511627776)))) else (larderlaw01_FrameSteps.j0 k a0 a2 a3 a4 bt108.1 bt108.2 bt110.1 bt110.2 ((bt110.2 == 0) != false)))) else (if ((bt108.2 == 0) != false) = true then (larderlaw01_FrameSteps.j0 k a0 a2 a3 a4 bt108.1 bt108.2 bt110.1 bt110.2 true) else (if a4 ≥ 0 then (larderlaw01_FrameSteps.j0 k a0 a2 a3 a4 bt108.1 bt108.2 bt110.1 bt110.2 ((bt110.2 == 0) != (decide (a4 ≤ 1099511627776)))) else (larderlaw01_FrameSteps.j0 k a0 a2 a3 a4 bt108.1 bt108.2 bt110.1 bt110.2 ((bt110.2 == 0) != false))))))
theorem larderlaw01_FrameSteps.mono_l : ∀ k, (∀ y0 y1 y2 y3 y4 y5 y6 y7 y8, LeO (larderlaw01_FrameSteps.j0 k y0 y1 y2 y3 y4 y5 y6 y7 y8) (larderlaw01_FrameSteps.j0 (k + 1) y0 y1 y2 y3 y4 y5 y6 y7 y8)) ∧ (∀ y0 y1 y2 y3 y4 y5 y6 y7 y8, LeO (larderlaw01_FrameSteps.j1 k y0 y1 y2 y3 y4 y5 y6 y7 y8) (larderlaw01_FrameSteps.j1 (k + 1) y0 y1 y2 y3 y4 y5 y6 y7 y8))
  | 0 => ⟨fun _ _ _ _ _ _ _ _ _ r h => by simp [larderlaw01_FrameSteps.j0] at h, fun _ _ _ _ _ _ _ _ _ r h => by simp [larderlaw01_FrameSteps.j1] at h⟩
  | k + 1 => by
    obtain ⟨ih0, ih1⟩ := larderlaw01_FrameSteps.mono_l k
    refine ⟨?_, ?_⟩
    · intro y0 y1 y2 y3 y4 y5 y6 y7 y8
      unfold larderlaw01_FrameSteps.j0
      repeat' first
      | (with_reducible exact ih0 _ _ _ _ _ _ _ _ _)
      | (with_reducible exact ih1 _ _ _ _ _ _ _ _ _)
      | (with_reducible exact frame_CrcJoin.mono _ _ _ _)
      | (with_reducible exact LeO.refl _)
      | (with_reducible exact LeO.none _)
      | (with_reducible refine LeO.ite ?_ ?_)
      | (with_reducible refine LeO.bind ?_ (fun _ => ?_))
      | exact ih0 _ _ _ _ _ _ _ _ _
      | exact ih1 _ _ _ _ _ _ _ _ _
      | exact frame_CrcJoin.mono _ _ _ _
      | exact LeO.none _
      | refine LeO.ite ?_ ?_
      | refine LeO.bind ?_ (fun _ => ?_)
    · intro y0 y1 y2 y3 y4 y5 y6 y7 y8
      unfold larderlaw01_FrameSteps.j1
      repeat' first
      | (with_reducible exact ih0 _ _ _ _ _ _ _ _ _)
      | (with_reducible exact ih1 _ _ _ _ _ _ _ _ _)
      | (with_reducible exact frame_CrcJoin.mono _ _ _ _)
      | (with_reducible exact LeO.refl _)
      | (with_reducible exact LeO.none _)
      | (with_reducible refine LeO.ite ?_ ?_)
      | (with_reducible refine LeO.bind ?_ (fun _ => ?_))
      | exact ih0 _ _ _ _ _ _ _ _ _
      | exact ih1 _ _ _ _ _ _ _ _ _
      | exact frame_CrcJoin.mono _ _ _ _
      | exact LeO.none _
      | refine LeO.ite ?_ ?_
      | refine LeO.bind ?_ (fun _ => ?_)
theorem larderlaw01_FrameSteps.mono : ∀ a0 a1 a2 a3 a4 k, LeO (larderlaw01_FrameSteps.f k a0 a1 a2 a3 a4) (larderlaw01_FrameSteps.f (k + 1) a0 a1 a2 a3 a4) := by
  intro a0 a1 a2 a3 a4 k
  obtain ⟨ih0, ih1⟩ := larderlaw01_FrameSteps.mono_l k
  unfold larderlaw01_FrameSteps.f
  repeat' first
      | (with_reducible exact ih0 _ _ _ _ _ _ _ _ _)
      | (with_reducible exact ih1 _ _ _ _ _ _ _ _ _)
      | (with_reducible exact frame_CrcJoin.mono _ _ _ _)
      | (with_reducible exact LeO.refl _)
      | (with_reducible exact LeO.none _)
      | (with_reducible refine LeO.ite ?_ ?_)
      | (with_reducible refine LeO.bind ?_ (fun _ => ?_))
      | exact ih0 _ _ _ _ _ _ _ _ _
      | exact ih1 _ _ _ _ _ _ _ _ _
      | exact frame_CrcJoin.mono _ _ _ _
      | exact LeO.none _
      | refine LeO.ite ?_ ?_
      | refine LeO.bind ?_ (fun _ => ?_)
set_option maxHeartbeats 8000000 in
set_option maxRecDepth 100000 in
theorem larderlaw01_FrameSteps.calls (k : Nat) (a0 : Int) (a1 : Int) (a2 : Int) (a3 : Int) (a4 : Int) (r : Bool) (w : World) (h : larderlaw01_FrameSteps.f k a0 a1 a2 a3 a4 = some r) :
    Calls Try.prog 4 #[.int .u32 a0, .int .u32 a1, .int .u32 a2, .int .i64 a3, .int .i64 a4] w fun e w' => e = .returned (.bool r) ∧ Drawn0 w w' := by
  have H : ((frame_CrcJoin.f k a0 a1 a3).bind fun bt108 => ((frame_CrcJoin.f k a1 a2 a4).bind fun bt110 => (if a3 ≥ 0 then (if ((bt108.2 == 0) != (decide (a3 ≤ 1099511627776))) = true then (larderlaw01_FrameSteps.j0 k a0 a2 a3 a4 bt108.1 bt108.2 bt110.1 bt110.2 true) else (if a4 ≥ 0 then (larderlaw01_FrameSteps.j0 k a0 a2 a3 a4 bt108.1 bt108.2 bt110.1 bt110.2 ((bt110.2 == 0) != (decide (a4 ≤ 1099511627776)))) else (larderlaw01_FrameSteps.j0 k a0 a2 a3 a4 bt108.1 bt108.2 bt110.1 bt110.2 ((bt110.2 == 0) != false)))) else (if ((bt108.2 == 0) != false) = true then (larderlaw01_FrameSteps.j0 k a0 a2 a3 a4 bt108.1 bt108.2 bt110.1 bt110.2 true) else (if a4 ≥ 0 then (larderlaw01_FrameSteps.j0 k a0 a2 a3 a4 bt108.1 bt108.2 bt110.1 bt110.2 ((bt110.2 == 0) != (decide (a4 ≤ 1099511627776)))) else (larderlaw01_FrameSteps.j0 k a0 a2 a3 a4 bt108.1 bt108.2 bt110.1 bt110.2 ((bt110.2 == 0) != false))))))) = some r := h
  clear h
  replace H := Option.bind_eq_some_iff.mp H
  obtain ⟨⟨t108, t109⟩, A60, H⟩ := H
  replace H : ((frame_CrcJoin.f k a1 a2 a4).bind fun bt110 => (if a3 ≥ 0 then (if ((t109 == 0) != (decide (a3 ≤ 1099511627776))) = true then (larderlaw01_FrameSteps.j0 k a0 a2 a3 a4 t108 t109 bt110.1 bt110.2 true) else (if a4 ≥ 0 then (larderlaw01_FrameSteps.j0 k a0 a2 a3 a4 t108 t109 bt110.1 bt110.2 ((bt110.2 == 0) != (decide (a4 ≤ 1099511627776)))) else (larderlaw01_FrameSteps.j0 k a0 a2 a3 a4 t108 t109 bt110.1 bt110.2 ((bt110.2 == 0) != false)))) else (if ((t109 == 0) != false) = true then (larderlaw01_FrameSteps.j0 k a0 a2 a3 a4 t108 t109 bt110.1 bt110.2 true) else (if a4 ≥ 0 then (larderlaw01_FrameSteps.j0 k a0 a2 a3 a4 t108 t109 bt110.1 bt110.2 ((bt110.2 == 0) != (decide (a4 ≤ 1099511627776)))) else (larderlaw01_FrameSteps.j0 k a0 a2 a3 a4 t108 t109 bt110.1 bt110.2 ((bt110.2 == 0) != false)))))) = some r := H
  have A6 := Aside0.mk A60
  clear A60
  replace H := Option.bind_eq_some_iff.mp H
  obtain ⟨⟨t110, t111⟩, A70, H⟩ := H
  replace H : (if a3 ≥ 0 then (if ((t109 == 0) != (decide (a3 ≤ 1099511627776))) = true then (larderlaw01_FrameSteps.j0 k a0 a2 a3 a4 t108 t109 t110 t111 true) else (if a4 ≥ 0 then (larderlaw01_FrameSteps.j0 k a0 a2 a3 a4 t108 t109 t110 t111 ((t111 == 0) != (decide (a4 ≤ 1099511627776)))) else (larderlaw01_FrameSteps.j0 k a0 a2 a3 a4 t108 t109 t110 t111 ((t111 == 0) != false)))) else (if ((t109 == 0) != false) = true then (larderlaw01_FrameSteps.j0 k a0 a2 a3 a4 t108 t109 t110 t111 true) else (if a4 ≥ 0 then (larderlaw01_FrameSteps.j0 k a0 a2 a3 a4 t108 t109 t110 t111 ((t111 == 0) != (decide (a4 ≤ 1099511627776)))) else (larderlaw01_FrameSteps.j0 k a0 a2 a3 a4 t108 t109 t110 t111 ((t111 == 0) != false))))) = some r := H
  have A7 := Aside0.mk A70
  clear A70
  have HC8 := Aside0.mk H
  clear H
  go_enter Try.func4, Try.ntmps4
  go_upto_region 3 with (first | ((with_reducible refine gate_callee (f := 9) rfl ?_); refine goesL_ (some 25) rfl rfl Try.func9 (by kernel_rfl) rfl #[.int .u32 a0, .int .u32 a1, .int .i64 a3] rfl (by (try simp only [List.map_toArray, List.map_cons, List.map_nil]); first | done | rfl | (simp only [List.length_drop, List.length_take]; rfl)) ?_; (with_reducible refine (frame_CrcJoin.calls k a0 a1 a3 t108 t109 _ A6.out).mono ?_); rintro e w' ⟨rfl, ⟨nd, rfl⟩⟩; refine ⟨_, rfl, ?_⟩) | ((with_reducible refine gate_callee (f := 9) rfl ?_); refine goesL_ (some 32) rfl rfl Try.func9 (by kernel_rfl) rfl #[.int .u32 a1, .int .u32 a2, .int .i64 a4] rfl (by (try simp only [List.map_toArray, List.map_cons, List.map_nil]); first | done | rfl | (simp only [List.length_drop, List.length_take]; rfl)) ?_; (with_reducible refine (frame_CrcJoin.calls k a1 a2 a4 t110 t111 _ A7.out).mono ?_); rintro e w' ⟨rfl, ⟨nd, rfl⟩⟩; refine ⟨_, rfl, ?_⟩))
  (try simp only [Act.put, List.setIfInBounds_toArray, List.set_cons_zero, List.set_cons_succ])
  go_cut [54] (fun v54 wc => ∃ (kq : Nat) (x54_7 : Bool), v54 = .bool x54_7 ∧ Aside0 (larderlaw01_FrameSteps.j0 kq a0 a2 a3 a4 t108 t109 t110 t111 x54_7 = some r) ∧ Aside0 (kq ≤ k) ∧ Drawn0 w wc)
  case first =>
    have H := HC8.out
    clear HC8
    by_cases c9 : a3 ≥ 0
    · rw [if_pos c9] at H
      have c9b0 : decide (0 ≤ a3) = true := decide_eq_true c9
      clear c9
      (first | rw [c9b0] | (simp only [i64_w, i32_w]; rw [c9b0]) | skip)
      by_cases c10 : ((t109 == 0) != (decide (a3 ≤ 1099511627776))) = true
      · rw [if_pos c10] at H
        have c10b0 : ((t109 == 0) != (decide (a3 ≤ 1099511627776))) = true := c10
        (try (have c10b1 : decide ((t109 == 0) = (decide (a3 ≤ 1099511627776))) = false := by simpa using c10))
        (try (have c10b2 : ((t109 == 0) == (decide (a3 ≤ 1099511627776))) = false := by simpa using c10))
        (try (have c10b3 : ¬ ((t109 == 0) = (decide (a3 ≤ 1099511627776))) := by simpa using c10))
        clear c10
        have H' := Aside0.mk H
        clear H
        go_wp2
        go_meet
        case rel => exact ⟨_, (true), (by first | rfl | (simp; done) | (simp [*]; done)), H', ⟨by first | omega | exact Nat.le_refl _⟩, by repeat (first | exact Drawn0.refl _ | apply Drawn0.step)⟩
      · rw [if_neg c10] at H
        have c10b0 : ((t109 == 0) != (decide (a3 ≤ 1099511627776))) = false := by simpa using c10
        (try (have c10b1 : decide ((t109 == 0) = (decide (a3 ≤ 1099511627776))) = true := by simpa using c10))
        (try (have c10b2 : ((t109 == 0) == (decide (a3 ≤ 1099511627776))) = true := by simpa using c10))
        clear c10
        by_cases c11 : a4 ≥ 0
        · rw [if_pos c11] at H
          have c11b0 : decide (0 ≤ a4) = true := decide_eq_true c11
          clear c11
          have H' := Aside0.mk H
          clear H
          go_wp2
          go_meet
          case rel => exact ⟨_, (((t111 == 0) != (decide (a4 ≤ 1099511627776)))), (by first | rfl | (simp; done) | (simp [*]; done)), H', ⟨by first | omega | exact Nat.le_refl _⟩, by repeat (first | exact Drawn0.refl _ | apply Drawn0.step)⟩
        · rw [if_neg c11] at H
          have c11b0 : decide (0 ≤ a4) = false := decide_eq_false c11
          clear c11
          have H' := Aside0.mk H
          clear H
          go_wp2
          go_meet
          case rel => exact ⟨_, (((t111 == 0) != false)), (by first | rfl | (simp; done) | (simp [*]; done)), H', ⟨by first | omega | exact Nat.le_refl _⟩, by repeat (first | exact Drawn0.refl _ | apply Drawn0.step)⟩
    · rw [if_neg c9] at H
      have c9b0 : decide (0 ≤ a3) = false := decide_eq_false c9
      clear c9
      (first | rw [c9b0] | (simp only [i64_w, i32_w]; rw [c9b0]) | skip)
      by_cases c12 : ((t109 == 0) != false) = true
      · rw [if_pos c12] at H
        have c12b0 : ((t109 == 0) != false) = true := c12
        (try (have c12b1 : decide ((t109 == 0) = false) = false := by simpa using c12))
        (try (have c12b2 : ((t109 == 0) == false) = false := by simpa using c12))
        (try (have c12b3 : ¬ ((t109 == 0) = false) := by simpa using c12))
        clear c12
        have H' := Aside0.mk H
        clear H
        go_wp2
        go_meet
        case rel => exact ⟨_, (true), (by first | rfl | (simp; done) | (simp [*]; done)), H', ⟨by first | omega | exact Nat.le_refl _⟩, by repeat (first | exact Drawn0.refl _ | apply Drawn0.step)⟩
      · rw [if_neg c12] at H
        have c12b0 : ((t109 == 0) != false) = false := by simpa using c12
        (try (have c12b1 : decide ((t109 == 0) = false) = true := by simpa using c12))
        (try (have c12b2 : ((t109 == 0) == false) = true := by simpa using c12))
        clear c12
        by_cases c13 : a4 ≥ 0
        · rw [if_pos c13] at H
          have c13b0 : decide (0 ≤ a4) = true := decide_eq_true c13
          clear c13
          have H' := Aside0.mk H
          clear H
          go_wp2
          go_meet
          case rel => exact ⟨_, (((t111 == 0) != (decide (a4 ≤ 1099511627776)))), (by first | rfl | (simp; done) | (simp [*]; done)), H', ⟨by first | omega | exact Nat.le_refl _⟩, by repeat (first | exact Drawn0.refl _ | apply Drawn0.step)⟩
        · rw [if_neg c13] at H
          have c13b0 : decide (0 ≤ a4) = false := decide_eq_false c13
          clear c13
          have H' := Aside0.mk H
          clear H
          go_wp2
          go_meet
          case rel => exact ⟨_, (((t111 == 0) != false)), (by first | rfl | (simp; done) | (simp [*]; done)), H', ⟨by first | omega | exact Nat.le_refl _⟩, by repeat (first | exact Drawn0.refl _ | apply Drawn0.step)⟩
  case rest =>
    clear HC8
    try clear c1
    try clear p2
    try clear c4
    try clear c9
    try clear c9b0
    try clear c10
    try clear c10b0
    try clear c10b1
    try clear c10b2
    try clear c11
    try clear c11b0
    try clear c12
    try clear c12b0
    try clear c12b1
    try clear c12b2
    try clear c13
    try clear c13b0
    obtain ⟨kq, x54_7, rfl, HA, HJ7, ⟨mc7, rfl⟩⟩ := hcut
    cases kq with
    | zero => exact absurd HA.out (by simp [larderlaw01_FrameSteps.j0])
    | succ kj7 =>
      have H := HA.out
      clear HA
      simp only [larderlaw01_FrameSteps.j0] at H
      by_cases c14 : x54_7 = true
      · subst c14
        have H1 : (some false) = some r := by rw [if_pos rfl] at H; exact H
        clear H
        have H := H1
        clear H1
        obtain rfl := Option.some.inj H
        go_wp2
        go_ret
        exact ⟨by first | rfl | (simp; done) | (simp [*]; done), by repeat (first | exact Drawn0.refl _ | apply Drawn0.step)⟩
      · replace c14 := Bool.eq_false_iff.mpr c14
        subst c14
        have H1 : (if t109 = 0 then (if t111 = 0 then (larderlaw01_FrameSteps.j1 kj7 a0 a2 a3 a4 t108 t109 t110 t111 (decide ((wrap64 (a3 + a4)) > 1099511627776))) else (larderlaw01_FrameSteps.j1 kj7 a0 a2 a3 a4 t108 t109 t110 t111 true)) else (larderlaw01_FrameSteps.j1 kj7 a0 a2 a3 a4 t108 t109 t110 t111 true)) = some r := by rw [if_neg (show ¬ (false = true) by decide)] at H; exact H
        clear H
        have H := H1
        clear H1
        have HC15 := Aside0.mk H
        clear H
        go_upto_region 5 with (fail)
        go_cut [66] (fun v66 wc => ∃ (kq : Nat) (x66_14 : Bool), v66 = .bool x66_14 ∧ Aside0 (larderlaw01_FrameSteps.j1 kq a0 a2 a3 a4 t108 t109 t110 t111 x66_14 = some r) ∧ Aside0 (kq ≤ kj7) ∧ Drawn0 w wc)
        case first =>
          have H := HC15.out
          clear HC15
          by_cases c16 : t109 = 0
          · rw [if_pos c16] at H
            have c16b0 : (t109 == 0) = true := beq_iff_eq.mpr c16
            have c16b1 : (t109 != 0) = false := bne_eq_false_iff_eq.mpr c16
            clear c16
            (first | rw [c16b0] | (simp only [i64_w, i32_w]; rw [c16b0]) | skip)
            by_cases c17 : t111 = 0
            · rw [if_pos c17] at H
              have c17b0 : (t111 == 0) = true := beq_iff_eq.mpr c17
              have c17b1 : (t111 != 0) = false := bne_eq_false_iff_eq.mpr c17
              clear c17
              have H' := Aside0.mk H
              clear H
              go_wp2
              go_meet
              case rel => exact ⟨_, (decide ((wrap64 (a3 + a4)) > 1099511627776)), (by first | rfl | (simp; done) | (simp [*]; done)), H', ⟨by have := HJ7.out; first | omega | exact Nat.le_refl _⟩, by repeat (first | exact Drawn0.refl _ | apply Drawn0.step)⟩
            · rw [if_neg c17] at H
              have c17b0 : (t111 == 0) = false := beq_eq_false_iff_ne.mpr c17
              have c17b1 : (t111 != 0) = true := bne_iff_ne.mpr c17
              have H' := Aside0.mk H
              clear H
              go_wp2
              go_meet
              case rel => exact ⟨_, (true), (by first | rfl | (simp; done) | (simp [*]; done)), H', ⟨by have := HJ7.out; first | omega | exact Nat.le_refl _⟩, by repeat (first | exact Drawn0.refl _ | apply Drawn0.step)⟩
          · rw [if_neg c16] at H
            have c16b0 : (t109 == 0) = false := beq_eq_false_iff_ne.mpr c16
            have c16b1 : (t109 != 0) = true := bne_iff_ne.mpr c16
            (first | rw [c16b0] | (simp only [i64_w, i32_w]; rw [c16b0]) | skip)
            have H' := Aside0.mk H
            clear H
            go_wp2
            go_meet
            case rel => exact ⟨_, (true), (by first | rfl | (simp; done) | (simp [*]; done)), H', ⟨by have := HJ7.out; first | omega | exact Nat.le_refl _⟩, by repeat (first | exact Drawn0.refl _ | apply Drawn0.step)⟩
        case rest =>
          clear HC15
          try clear c1
          try clear p2
          try clear c4
          try clear p6
          try clear c7
          try clear c9
          try clear c9b0
          try clear c10
          try clear c10b0
          try clear c10b1
          try clear c10b2
          try clear c11
          try clear c11b0
          try clear c12
          try clear c12b0
          try clear c12b1
          try clear c12b2
          try clear c13
          try clear c13b0
          try clear c14
          try clear c16
          try clear c16b0
          try clear c16b1
          try clear c17
          try clear c17b0
          try clear c17b1
          try clear p2
          obtain ⟨kq, x66_14, rfl, HA, HJ14, ⟨mc14, rfl⟩⟩ := hcut
          cases kq with
          | zero => exact absurd HA.out (by simp [larderlaw01_FrameSteps.j1])
          | succ kj14 =>
            have H := HA.out
            clear HA
            simp only [larderlaw01_FrameSteps.j1] at H
            by_cases c18 : x66_14 = true
            · subst c18
              have H1 : (if t109 = 0 then (if t111 = 0 then (some true) else (some (t111 == 2))) else (if t109 = 2 then (if t111 = 0 then (some true) else (some (t111 == 2))) else (some false))) = some r := by rw [if_pos rfl] at H; exact H
              clear H
              have H := H1
              clear H1
              by_cases c19 : t109 = 0
              · rw [if_pos c19] at H
                have c19b0 : (t109 == 0) = true := beq_iff_eq.mpr c19
                have c19b1 : (t109 != 0) = false := bne_eq_false_iff_eq.mpr c19
                clear c19
                by_cases c20 : t111 = 0
                · rw [if_pos c20] at H
                  have c20b0 : (t111 == 0) = true := beq_iff_eq.mpr c20
                  have c20b1 : (t111 != 0) = false := bne_eq_false_iff_eq.mpr c20
                  clear c20
                  obtain rfl := Option.some.inj H
                  go_wp2
                  go_ret
                  exact ⟨by first | rfl | (simp; done) | (simp [*]; done), by repeat (first | exact Drawn0.refl _ | apply Drawn0.step)⟩
                · rw [if_neg c20] at H
                  have c20b0 : (t111 == 0) = false := beq_eq_false_iff_ne.mpr c20
                  have c20b1 : (t111 != 0) = true := bne_iff_ne.mpr c20
                  obtain rfl := Option.some.inj H
                  go_wp2
                  go_ret
                  exact ⟨by first | rfl | (simp; done) | (simp [*]; done), by repeat (first | exact Drawn0.refl _ | apply Drawn0.step)⟩
              · rw [if_neg c19] at H
                have c19b0 : (t109 == 0) = false := beq_eq_false_iff_ne.mpr c19
                have c19b1 : (t109 != 0) = true := bne_iff_ne.mpr c19
                by_cases c21 : t109 = 2
                · rw [if_pos c21] at H
                  have c21b0 : (t109 == 2) = true := beq_iff_eq.mpr c21
                  have c21b1 : (t109 != 2) = false := bne_eq_false_iff_eq.mpr c21
                  clear c21
                  by_cases c22 : t111 = 0
                  · rw [if_pos c22] at H
                    have c22b0 : (t111 == 0) = true := beq_iff_eq.mpr c22
                    have c22b1 : (t111 != 0) = false := bne_eq_false_iff_eq.mpr c22
                    clear c22
                    obtain rfl := Option.some.inj H
                    go_wp2
                    go_ret
                    exact ⟨by first | rfl | (simp; done) | (simp [*]; done), by repeat (first | exact Drawn0.refl _ | apply Drawn0.step)⟩
                  · rw [if_neg c22] at H
                    have c22b0 : (t111 == 0) = false := beq_eq_false_iff_ne.mpr c22
                    have c22b1 : (t111 != 0) = true := bne_iff_ne.mpr c22
                    obtain rfl := Option.some.inj H
                    go_wp2
                    go_ret
                    exact ⟨by first | rfl | (simp; done) | (simp [*]; done), by repeat (first | exact Drawn0.refl _ | apply Drawn0.step)⟩
                · rw [if_neg c21] at H
                  have c21b0 : (t109 == 2) = false := beq_eq_false_iff_ne.mpr c21
                  have c21b1 : (t109 != 2) = true := bne_iff_ne.mpr c21
                  obtain rfl := Option.some.inj H
                  go_wp2
                  go_ret
                  exact ⟨by first | rfl | (simp; done) | (simp [*]; done), by repeat (first | exact Drawn0.refl _ | apply Drawn0.step)⟩
            · replace c18 := Bool.eq_false_iff.mpr c18
              subst c18
              have H1 : ((frame_CrcJoin.f kj14 t108 a2 a4).bind fun bt112 => ((frame_CrcJoin.f kj14 a0 t110 (wrap64 (a3 + a4))).bind fun bt114 => ((frame_CrcJoin.f kj14 a0 0 0).bind fun bt116 => (if bt112.1 = bt114.1 then (if bt112.2 = 0 then (if bt114.2 = 0 then (if bt116.1 = a0 then (some (bt116.2 == 0)) else (some false)) else (some false)) else (some false)) else (some false))))) = some r := by rw [if_neg (show ¬ (false = true) by decide)] at H; exact H
              clear H
              have H := H1
              clear H1
              replace H := Option.bind_eq_some_iff.mp H
              obtain ⟨⟨t112, t113⟩, A230, H⟩ := H
              replace H : ((frame_CrcJoin.f kj14 a0 t110 (wrap64 (a3 + a4))).bind fun bt114 => ((frame_CrcJoin.f kj14 a0 0 0).bind fun bt116 => (if t112 = bt114.1 then (if t113 = 0 then (if bt114.2 = 0 then (if bt116.1 = a0 then (some (bt116.2 == 0)) else (some false)) else (some false)) else (some false)) else (some false)))) = some r := H
              have A23 := Aside0.mk A230
              clear A230
              replace H := Option.bind_eq_some_iff.mp H
              obtain ⟨⟨t114, t115⟩, A240, H⟩ := H
              replace H : ((frame_CrcJoin.f kj14 a0 0 0).bind fun bt116 => (if t112 = t114 then (if t113 = 0 then (if t115 = 0 then (if bt116.1 = a0 then (some (bt116.2 == 0)) else (some false)) else (some false)) else (some false)) else (some false))) = some r := H
              have A24 := Aside0.mk A240
              clear A240
              replace H := Option.bind_eq_some_iff.mp H
              obtain ⟨⟨t116, t117⟩, A250, H⟩ := H
              replace H : (if t112 = t114 then (if t113 = 0 then (if t115 = 0 then (if t116 = a0 then (some (t117 == 0)) else (some false)) else (some false)) else (some false)) else (some false)) = some r := H
              have A25 := Aside0.mk A250
              clear A250
              by_cases c26 : t112 = t114
              · rw [if_pos c26] at H
                have c26b0 : (t112 == t114) = true := beq_iff_eq.mpr c26
                have c26b1 : (t112 != t114) = false := bne_eq_false_iff_eq.mpr c26
                clear c26
                by_cases c27 : t113 = 0
                · rw [if_pos c27] at H
                  have c27b0 : (t113 == 0) = true := beq_iff_eq.mpr c27
                  have c27b1 : (t113 != 0) = false := bne_eq_false_iff_eq.mpr c27
                  clear c27
                  by_cases c28 : t115 = 0
                  · rw [if_pos c28] at H
                    have c28b0 : (t115 == 0) = true := beq_iff_eq.mpr c28
                    have c28b1 : (t115 != 0) = false := bne_eq_false_iff_eq.mpr c28
                    clear c28
                    by_cases c29 : t116 = a0
                    · rw [if_pos c29] at H
                      have c29b0 : (t116 == a0) = true := beq_iff_eq.mpr c29
                      have c29b1 : (t116 != a0) = false := bne_eq_false_iff_eq.mpr c29
                      clear c29
                      obtain rfl := Option.some.inj H
                      go_wp2_with (first | ((with_reducible refine gate_callee (f := 9) rfl ?_); refine goesL_ (some 85) rfl rfl Try.func9 (by kernel_rfl) rfl #[.int .u32 t108, .int .u32 a2, .int .i64 a4] rfl (by (try simp only [List.map_toArray, List.map_cons, List.map_nil]); first | done | rfl | (simp only [List.length_drop, List.length_take]; rfl)) ?_; (with_reducible refine (frame_CrcJoin.calls kj14 t108 a2 a4 t112 t113 _ A23.out).mono ?_); rintro e w' ⟨rfl, ⟨nd, rfl⟩⟩; refine ⟨_, rfl, ?_⟩) | ((with_reducible refine gate_callee (f := 9) rfl ?_); refine goesL_ (some 94) rfl rfl Try.func9 (by kernel_rfl) rfl #[.int .u32 a0, .int .u32 t110, .int .i64 (wrap64 (a3 + a4))] rfl (by (try simp only [List.map_toArray, List.map_cons, List.map_nil]); first | done | rfl | (simp only [List.length_drop, List.length_take]; rfl)) ?_; (with_reducible refine (frame_CrcJoin.calls kj14 a0 t110 (wrap64 (a3 + a4)) t114 t115 _ A24.out).mono ?_); rintro e w' ⟨rfl, ⟨nd, rfl⟩⟩; refine ⟨_, rfl, ?_⟩) | ((with_reducible refine gate_callee (f := 9) rfl ?_); refine goesL_ (some 99) rfl rfl Try.func9 (by kernel_rfl) rfl #[.int .u32 a0, .int .u32 0, .int .i64 0] rfl (by (try simp only [List.map_toArray, List.map_cons, List.map_nil]); first | done | rfl | (simp only [List.length_drop, List.length_take]; rfl)) ?_; (with_reducible refine (frame_CrcJoin.calls kj14 a0 0 0 t116 t117 _ A25.out).mono ?_); rintro e w' ⟨rfl, ⟨nd, rfl⟩⟩; refine ⟨_, rfl, ?_⟩))
                      go_ret
                      exact ⟨by first | rfl | (simp; done) | (simp [*]; done), by repeat (first | exact Drawn0.refl _ | apply Drawn0.step)⟩
                    · rw [if_neg c29] at H
                      have c29b0 : (t116 == a0) = false := beq_eq_false_iff_ne.mpr c29
                      have c29b1 : (t116 != a0) = true := bne_iff_ne.mpr c29
                      obtain rfl := Option.some.inj H
                      go_wp2_with (first | ((with_reducible refine gate_callee (f := 9) rfl ?_); refine goesL_ (some 85) rfl rfl Try.func9 (by kernel_rfl) rfl #[.int .u32 t108, .int .u32 a2, .int .i64 a4] rfl (by (try simp only [List.map_toArray, List.map_cons, List.map_nil]); first | done | rfl | (simp only [List.length_drop, List.length_take]; rfl)) ?_; (with_reducible refine (frame_CrcJoin.calls kj14 t108 a2 a4 t112 t113 _ A23.out).mono ?_); rintro e w' ⟨rfl, ⟨nd, rfl⟩⟩; refine ⟨_, rfl, ?_⟩) | ((with_reducible refine gate_callee (f := 9) rfl ?_); refine goesL_ (some 94) rfl rfl Try.func9 (by kernel_rfl) rfl #[.int .u32 a0, .int .u32 t110, .int .i64 (wrap64 (a3 + a4))] rfl (by (try simp only [List.map_toArray, List.map_cons, List.map_nil]); first | done | rfl | (simp only [List.length_drop, List.length_take]; rfl)) ?_; (with_reducible refine (frame_CrcJoin.calls kj14 a0 t110 (wrap64 (a3 + a4)) t114 t115 _ A24.out).mono ?_); rintro e w' ⟨rfl, ⟨nd, rfl⟩⟩; refine ⟨_, rfl, ?_⟩) | ((with_reducible refine gate_callee (f := 9) rfl ?_); refine goesL_ (some 99) rfl rfl Try.func9 (by kernel_rfl) rfl #[.int .u32 a0, .int .u32 0, .int .i64 0] rfl (by (try simp only [List.map_toArray, List.map_cons, List.map_nil]); first | done | rfl | (simp only [List.length_drop, List.length_take]; rfl)) ?_; (with_reducible refine (frame_CrcJoin.calls kj14 a0 0 0 t116 t117 _ A25.out).mono ?_); rintro e w' ⟨rfl, ⟨nd, rfl⟩⟩; refine ⟨_, rfl, ?_⟩))
                      go_ret
                      exact ⟨by first | rfl | (simp; done) | (simp [*]; done), by repeat (first | exact Drawn0.refl _ | apply Drawn0.step)⟩
                  · rw [if_neg c28] at H
                    have c28b0 : (t115 == 0) = false := beq_eq_false_iff_ne.mpr c28
                    have c28b1 : (t115 != 0) = true := bne_iff_ne.mpr c28
                    obtain rfl := Option.some.inj H
                    go_wp2_with (first | ((with_reducible refine gate_callee (f := 9) rfl ?_); refine goesL_ (some 85) rfl rfl Try.func9 (by kernel_rfl) rfl #[.int .u32 t108, .int .u32 a2, .int .i64 a4] rfl (by (try simp only [List.map_toArray, List.map_cons, List.map_nil]); first | done | rfl | (simp only [List.length_drop, List.length_take]; rfl)) ?_; (with_reducible refine (frame_CrcJoin.calls kj14 t108 a2 a4 t112 t113 _ A23.out).mono ?_); rintro e w' ⟨rfl, ⟨nd, rfl⟩⟩; refine ⟨_, rfl, ?_⟩) | ((with_reducible refine gate_callee (f := 9) rfl ?_); refine goesL_ (some 94) rfl rfl Try.func9 (by kernel_rfl) rfl #[.int .u32 a0, .int .u32 t110, .int .i64 (wrap64 (a3 + a4))] rfl (by (try simp only [List.map_toArray, List.map_cons, List.map_nil]); first | done | rfl | (simp only [List.length_drop, List.length_take]; rfl)) ?_; (with_reducible refine (frame_CrcJoin.calls kj14 a0 t110 (wrap64 (a3 + a4)) t114 t115 _ A24.out).mono ?_); rintro e w' ⟨rfl, ⟨nd, rfl⟩⟩; refine ⟨_, rfl, ?_⟩) | ((with_reducible refine gate_callee (f := 9) rfl ?_); refine goesL_ (some 99) rfl rfl Try.func9 (by kernel_rfl) rfl #[.int .u32 a0, .int .u32 0, .int .i64 0] rfl (by (try simp only [List.map_toArray, List.map_cons, List.map_nil]); first | done | rfl | (simp only [List.length_drop, List.length_take]; rfl)) ?_; (with_reducible refine (frame_CrcJoin.calls kj14 a0 0 0 t116 t117 _ A25.out).mono ?_); rintro e w' ⟨rfl, ⟨nd, rfl⟩⟩; refine ⟨_, rfl, ?_⟩))
                    go_ret
                    exact ⟨by first | rfl | (simp; done) | (simp [*]; done), by repeat (first | exact Drawn0.refl _ | apply Drawn0.step)⟩
                · rw [if_neg c27] at H
                  have c27b0 : (t113 == 0) = false := beq_eq_false_iff_ne.mpr c27
                  have c27b1 : (t113 != 0) = true := bne_iff_ne.mpr c27
                  obtain rfl := Option.some.inj H
                  go_wp2_with (first | ((with_reducible refine gate_callee (f := 9) rfl ?_); refine goesL_ (some 85) rfl rfl Try.func9 (by kernel_rfl) rfl #[.int .u32 t108, .int .u32 a2, .int .i64 a4] rfl (by (try simp only [List.map_toArray, List.map_cons, List.map_nil]); first | done | rfl | (simp only [List.length_drop, List.length_take]; rfl)) ?_; (with_reducible refine (frame_CrcJoin.calls kj14 t108 a2 a4 t112 t113 _ A23.out).mono ?_); rintro e w' ⟨rfl, ⟨nd, rfl⟩⟩; refine ⟨_, rfl, ?_⟩) | ((with_reducible refine gate_callee (f := 9) rfl ?_); refine goesL_ (some 94) rfl rfl Try.func9 (by kernel_rfl) rfl #[.int .u32 a0, .int .u32 t110, .int .i64 (wrap64 (a3 + a4))] rfl (by (try simp only [List.map_toArray, List.map_cons, List.map_nil]); first | done | rfl | (simp only [List.length_drop, List.length_take]; rfl)) ?_; (with_reducible refine (frame_CrcJoin.calls kj14 a0 t110 (wrap64 (a3 + a4)) t114 t115 _ A24.out).mono ?_); rintro e w' ⟨rfl, ⟨nd, rfl⟩⟩; refine ⟨_, rfl, ?_⟩) | ((with_reducible refine gate_callee (f := 9) rfl ?_); refine goesL_ (some 99) rfl rfl Try.func9 (by kernel_rfl) rfl #[.int .u32 a0, .int .u32 0, .int .i64 0] rfl (by (try simp only [List.map_toArray, List.map_cons, List.map_nil]); first | done | rfl | (simp only [List.length_drop, List.length_take]; rfl)) ?_; (with_reducible refine (frame_CrcJoin.calls kj14 a0 0 0 t116 t117 _ A25.out).mono ?_); rintro e w' ⟨rfl, ⟨nd, rfl⟩⟩; refine ⟨_, rfl, ?_⟩))
                  go_ret
                  exact ⟨by first | rfl | (simp; done) | (simp [*]; done), by repeat (first | exact Drawn0.refl _ | apply Drawn0.step)⟩
              · rw [if_neg c26] at H
                have c26b0 : (t112 == t114) = false := beq_eq_false_iff_ne.mpr c26
                have c26b1 : (t112 != t114) = true := bne_iff_ne.mpr c26
                obtain rfl := Option.some.inj H
                go_wp2_with (first | ((with_reducible refine gate_callee (f := 9) rfl ?_); refine goesL_ (some 85) rfl rfl Try.func9 (by kernel_rfl) rfl #[.int .u32 t108, .int .u32 a2, .int .i64 a4] rfl (by (try simp only [List.map_toArray, List.map_cons, List.map_nil]); first | done | rfl | (simp only [List.length_drop, List.length_take]; rfl)) ?_; (with_reducible refine (frame_CrcJoin.calls kj14 t108 a2 a4 t112 t113 _ A23.out).mono ?_); rintro e w' ⟨rfl, ⟨nd, rfl⟩⟩; refine ⟨_, rfl, ?_⟩) | ((with_reducible refine gate_callee (f := 9) rfl ?_); refine goesL_ (some 94) rfl rfl Try.func9 (by kernel_rfl) rfl #[.int .u32 a0, .int .u32 t110, .int .i64 (wrap64 (a3 + a4))] rfl (by (try simp only [List.map_toArray, List.map_cons, List.map_nil]); first | done | rfl | (simp only [List.length_drop, List.length_take]; rfl)) ?_; (with_reducible refine (frame_CrcJoin.calls kj14 a0 t110 (wrap64 (a3 + a4)) t114 t115 _ A24.out).mono ?_); rintro e w' ⟨rfl, ⟨nd, rfl⟩⟩; refine ⟨_, rfl, ?_⟩) | ((with_reducible refine gate_callee (f := 9) rfl ?_); refine goesL_ (some 99) rfl rfl Try.func9 (by kernel_rfl) rfl #[.int .u32 a0, .int .u32 0, .int .i64 0] rfl (by (try simp only [List.map_toArray, List.map_cons, List.map_nil]); first | done | rfl | (simp only [List.length_drop, List.length_take]; rfl)) ?_; (with_reducible refine (frame_CrcJoin.calls kj14 a0 0 0 t116 t117 _ A25.out).mono ?_); rintro e w' ⟨rfl, ⟨nd, rfl⟩⟩; refine ⟨_, rfl, ?_⟩))
                go_ret
                exact ⟨by first | rfl | (simp; done) | (simp [*]; done), by repeat (first | exact Drawn0.refl _ | apply Drawn0.step)⟩

/-- THE ONE PURE STATEMENT of larderlaw01_FrameSteps: yours. -/
def larderlaw01_FrameSteps.Pure : Prop := ∀ (a0 : Int) (a1 : Int) (a2 : Int) (a3 : Int) (a4 : Int), (Lit.int .u32 a0).wf = true → (Lit.int .u32 a1).wf = true → (Lit.int .u32 a2).wf = true → (Lit.int .i64 a3).wf = true → (Lit.int .i64 a4).wf = true → ∃ k, larderlaw01_FrameSteps.f k a0 a1 a2 a3 a4 = some true
theorem larderlaw01_FrameSteps.walk (P : larderlaw01_FrameSteps.Pure) (a0 : Int) (a1 : Int) (a2 : Int) (a3 : Int) (a4 : Int) (w : World) (w0 : (Lit.int .u32 a0).wf = true) (w1 : (Lit.int .u32 a1).wf = true) (w2 : (Lit.int .u32 a2).wf = true) (w3 : (Lit.int .i64 a3).wf = true) (w4 : (Lit.int .i64 a4).wf = true) :
    Calls Try.prog 4 #[.int .u32 a0, .int .u32 a1, .int .u32 a2, .int .i64 a3, .int .i64 a4] w fun e w' => e = .returned (.bool true) ∧ Below w.heap.size w w' := by
  obtain ⟨k, h⟩ := P a0 a1 a2 a3 a4 w0 w1 w2 w3 w4
  refine (larderlaw01_FrameSteps.calls k a0 a1 a2 a3 a4 true w h).mono ?_
  rintro e w' ⟨rfl, hd⟩
  exact ⟨rfl, hd.below⟩

end Go.Proofs.Ytlblleideihhmaa.PFrameSteps
