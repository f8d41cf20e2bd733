-- Written by a program of this session (wip/pp), out of the translation.
import Derived.Test.YtafmoglaockepaaPGx0
import Derived.Test.YtafmoglaockepaaPGx2
import Derived.Test.YtafmoglaockepaaPGx6
namespace Go.Proofs.Ytafmoglaockepaa.PG
open Go.RowKit Go.Proofs.Ytafmoglaockepaa.Mine Go.Proofs.YtafmoglaockepaaW.PrintWords Go.Proofs.YtafmoglaockepaaW.PrintLast Go.Proofs.YtafmoglaockepaaW.PrintMore
attribute [local go_sem] max2_int min2_int max_two min_two max_three min_three max_four min_four   -- for this text's walks alone
set_option linter.unusedVariables false
set_option linter.unusedSimpArgs false

attribute [local go_sem high] eqA110
/-! ### larderref01_LentLines: function 69 -/
def larderref01_LentLines.l0 : Nat → List (S110) → List (S110) → Int → Option ((List (S110)))
  | 0, _, _, _ => none
  | k + 1, x0, x3, x4 => if x4 < 9 then (if x3.length < 5864062014805 then (larderref01_LentLines.l0 k x0 (x3 ++ [(⟨(⟨#[108, 101, 110, 116]⟩ : ByteArray), x4⟩ : S110)]) (wrap64 (x4 + 1))) else (none)) else (if 0 ≤ (x0.length : Int) then (if (x0.length : Int) ≤ (x3.length : Int) then (some (x3.take ((x0.length : Int) : Int).toNat)) else (none)) else (none))
def larderref01_LentLines.f (k : Nat) (l0 : List (S110)) : Option ((List (S110))) := if ([] : List (S110)).length + l0.length < 5864062014805 then (larderref01_LentLines.l0 k l0 (([] : List (S110)) ++ l0) 0) else (none)
theorem larderref01_LentLines.mono_l : ∀ k, (∀ y0 y1 y2, LeO (larderref01_LentLines.l0 k y0 y1 y2) (larderref01_LentLines.l0 (k + 1) y0 y1 y2))
  | 0 => fun _ _ _ r h => by simp [larderref01_LentLines.l0] at h
  | k + 1 => by
    have ih0 := larderref01_LentLines.mono_l k
    · intro y0 y1 y2
      unfold larderref01_LentLines.l0
      repeat' first
      | (with_reducible exact ih0 _ _ _)
      | (with_reducible exact LeO.refl _)
      | (with_reducible exact LeO.none _)
      | (with_reducible refine LeO.ite ?_ ?_)
      | (with_reducible refine LeO.bind ?_ (fun _ => ?_))
      | exact ih0 _ _ _
      | exact LeO.none _
      | refine LeO.ite ?_ ?_
      | refine LeO.bind ?_ (fun _ => ?_)
theorem larderref01_LentLines.mono : ∀ a0 k, LeO (larderref01_LentLines.f k a0) (larderref01_LentLines.f (k + 1) a0) := by
  intro a0 k
  have ih0 := larderref01_LentLines.mono_l k
  unfold larderref01_LentLines.f
  repeat' first
      | (with_reducible exact ih0 _ _ _)
      | (with_reducible exact LeO.refl _)
      | (with_reducible exact LeO.none _)
      | (with_reducible refine LeO.ite ?_ ?_)
      | (with_reducible refine LeO.bind ?_ (fun _ => ?_))
      | exact ih0 _ _ _
      | exact LeO.none _
      | refine LeO.ite ?_ ?_
      | refine LeO.bind ?_ (fun _ => ?_)
set_option maxHeartbeats 8000000 in
set_option maxRecDepth 100000 in
theorem larderref01_LentLines.calls (k : Nat) (A0 : Option Addr) (c0 : Nat) (l0 : List (S110)) (r : List (S110)) (w : World) (hr0 : Kd.C k110 w A0 l0.length l0) (hc0 : l0.length ≤ c0) (h : larderref01_LentLines.f k l0 = some r) :
    Calls Try.prog 69 #[.slice A0 l0.length c0] w fun e w' => ∃ v0_ : Value, e = .returned (v0_) ∧ Kd.R k110 110 w' w.heap.size (fun _ => True) v0_ r ∧ Below w.heap.size w w' := by
  have hu110 := Try.underlying110
  have HR0 := Aside0.mk hr0
  have HC0 := Aside0.mk hc0
  clear hr0 hc0
  have HB := Aside0.mk (Below.refl w.heap.size w)
  have H : (if ([] : List (S110)).length + l0.length < 5864062014805 then (larderref01_LentLines.l0 k l0 (([] : List (S110)) ++ l0) 0) else (none)) = some r := h
  clear h
  by_cases c2 : ([] : List (S110)).length + l0.length < 5864062014805
  · rw [if_pos c2] at H
    have LMc2 := Aside0.mk c2
    clear c2
    obtain ⟨y191, hy191⟩ : ∃ y_ : List (S110), y_ = (([] : List (S110)) ++ l0) := ⟨_, rfl⟩
    replace H : (larderref01_LentLines.l0 k l0 y191 0) = some r := by first | (rw [hy191]; with_reducible exact H) | (have H2_ := (Option.bind_some _ _).symm.trans H; rw [hy191]; with_reducible exact H2_) | (have H2_ := (Option.bind_some _ _).symm.trans H; with_reducible exact H2_) | with_reducible exact H | (rw [hy191]; exact H) | exact H
    have Ny191 := Aside0.mk hy191
    clear hy191
    have H' := Aside0.mk H
    clear H
    go_enter Try.func69, Try.ntmps69
    go_wp2_with (first | ((with_reducible refine gate_builtin (b := .append) (xs := #[.tmp 5, .tmp 6]) rfl ?_); at_builtin; refine Kd.R_append_rows k110 (w0 := w) w.heap.size rfl (.tmp 5) (.tmp 6) 38 110 (.agg #[(.string ⟨#[]⟩), (.int .i64 0)]) 24 rfl Try.underlying38 info110 rfl (by decide) (by omega) (.slice none 0 0) ([] : List (S110)) l0 _ _ _ (fun _ => True) (fun _ => False) rfl rfl ?aO ?aR (fun _ _ h => h) (fun _ h => h.elim) ?aF ?aB ?aS ?aL ?_; (case aR => repeat (first | exact HR0.out | (with_reducible refine Kd.C_alloc ?_ _) | (with_reducible refine Kd.C_drewN ?_ _) | (with_reducible refine Kd.C_drew ?_))); (case aB => exact (by repeat (first | (with_reducible first | exact HB.out | apply below_alloc | apply pw_below_drewN | apply below_drew1) | exact HB.out))); (case aF => exact (fun _ _ => trivial)); (case aO => exact ((Kd.R_nil _ _ _ _ (fun _ => True)))); (case aS => exact (below_size (by repeat (first | (with_reducible first | exact HB.out | apply below_alloc | apply pw_below_drewN | apply below_drew1) | exact HB.out)))); (case aL => have := LMc2.out; omega); intro v192 w3 ho hb hg hat; rw [← Ny191.out] at ho; have n0_ := Aside0.mk (hb); have n1_ := Aside0.mk (ho); clear HB; have HB := n0_; have HO193 := n1_; clear n0_ n1_; clear ho hb hg hat))
    go_loopg [3, 4] k (fun kq v3 v4 w' => ∃ (x3_1 : List (S110)) (x4_1 : Int), v4 = .int .i64 x4_1 ∧ Aside0 (larderref01_LentLines.l0 kq l0 x3_1 x4_1 = some r) ∧ Aside0 (kq ≤ k) ∧ Aside0 (Kd.R k110 110 w' w.heap.size (fun _ => True) v3 x3_1) ∧ Aside0 (Below w.heap.size w w'))
    case atStart => exact ⟨(y191), (0), (by first | rfl | (simp; done) | (simp [*]; done)), H', ⟨Nat.le_refl _⟩, ⟨by (with_reducible repeat (first | apply Kd.R_alloc | apply Kd.R_drewN | apply Kd.R_drew)); exact HO193.out⟩, ⟨by repeat (first | (with_reducible first | exact HB.out | apply below_alloc | apply pw_below_drewN | apply below_drew1) | exact HB.out)⟩⟩
    case round =>
      clear H'
      try clear c2
      try clear p2
      obtain ⟨x3_1, x4_1, rfl, HA, HK1, HO_3, HB⟩ := hrel
      cases gk with
      | zero => exact absurd HA.out (by simp [larderref01_LentLines.l0])
      | succ k1 =>
        have H := HA.out
        clear HA
        simp only [larderref01_LentLines.l0] at H
        by_cases c4 : x4_1 < 9
        · rw [if_pos c4] at H
          have c4b0 : decide (x4_1 < 9) = true := decide_eq_true c4
          clear c4
          by_cases c5 : x3_1.length < 5864062014805
          · rw [if_pos c5] at H
            have LMc5 := Aside0.mk c5
            clear c5
            obtain ⟨y194, hy194⟩ : ∃ y_ : List (S110), y_ = (x3_1 ++ [(⟨(⟨#[108, 101, 110, 116]⟩ : ByteArray), x4_1⟩ : S110)]) := ⟨_, rfl⟩
            replace H : (larderref01_LentLines.l0 k1 l0 y194 (wrap64 (x4_1 + 1))) = some r := by first | (rw [hy194]; with_reducible exact H) | (have H2_ := (Option.bind_some _ _).symm.trans H; rw [hy194]; with_reducible exact H2_) | (have H2_ := (Option.bind_some _ _).symm.trans H; with_reducible exact H2_) | with_reducible exact H | (rw [hy194]; exact H) | exact H
            have Ny194 := Aside0.mk hy194
            clear hy194
            have H' := Aside0.mk H
            clear H
            go_wp2_with (first | ((with_reducible refine gate_builtin (b := .append) (xs := #[.tmp 12, .tmp 15]) rfl ?_); at_builtin; refine Kd.R_append k110 (w0 := w) w.heap.size rfl (.tmp 12) (.tmp 15) 38 110 (.agg #[(.string ⟨#[]⟩), (.int .i64 0)]) 24 rfl Try.underlying38 info110 rfl (by decide) (by omega) u3 x3_1 (⟨(⟨#[108, 101, 110, 116]⟩ : ByteArray), x4_1⟩ : S110) [.string (⟨#[108, 101, 110, 116]⟩ : ByteArray), .int .i64 x4_1] (fun _ => True) (fun _ => False) rfl rfl ?aP (fun _ hk => hk.elim) ?aF ?aO ?aB ?aS ?aL ?_; (case aP => exact k110_mkM _ _ _ (⟨(⟨#[108, 101, 110, 116]⟩ : ByteArray), x4_1⟩ : S110)); (case aB => exact (by repeat (first | (with_reducible first | exact HB.out | apply below_alloc | apply pw_below_drewN | apply below_drew1) | exact HB.out))); (case aF => exact (fun _ _ => trivial)); (case aO => exact (by (with_reducible repeat (first | apply Kd.R_alloc | apply Kd.R_drewN | apply Kd.R_drew)); exact HO_3.out)); (case aS => exact (below_size (by repeat (first | (with_reducible first | exact HB.out | apply below_alloc | apply pw_below_drewN | apply below_drew1) | exact HB.out)))); (case aL => have := LMc5.out; omega); intro v195 w6 ho hb hg hat; rw [← Ny194.out] at ho; have n0_ := Aside0.mk (hb); have n1_ := Aside0.mk (ho); clear HB; clear HO_3; have HB := n0_; have HO196 := n1_; clear n0_ n1_; clear ho hb hg hat))
            go_roundg k1
            case measure => have := HK1.out; omega
            case rel => exact ⟨(y194), (wrap64 (x4_1 + 1)), (by first | rfl | (simp; done) | (simp [*]; done)), H', ⟨by have := HK1.out; omega⟩, ⟨by (with_reducible repeat (first | apply Kd.R_alloc | apply Kd.R_drewN | apply Kd.R_drew)); exact HO196.out⟩, ⟨by repeat (first | (with_reducible first | exact HB.out | apply below_alloc | apply pw_below_drewN | apply below_drew1) | exact HB.out)⟩⟩
          · rw [if_neg c5] at H
            exact absurd H (by simp)
        · rw [if_neg c4] at H
          have c4b0 : decide (x4_1 < 9) = false := decide_eq_false c4
          clear c4
          by_cases c7 : 0 ≤ (l0.length : Int)
          · rw [if_pos c7] at H
            have c7b0 := eq_true c7
            have c7b1 : decide (0 ≤ (l0.length : Int)) = true := decide_eq_true c7
            clear c7
            by_cases c8 : (l0.length : Int) ≤ (x3_1.length : Int)
            · rw [if_pos c8] at H
              have c8b0 := eq_true c8
              have c8b1 : decide ((l0.length : Int) ≤ (x3_1.length : Int)) = true := decide_eq_true c8
              clear c8
              obtain ⟨y197, hy197⟩ : ∃ y_ : List (S110), y_ = (x3_1.take ((l0.length : Int) : Int).toNat) := ⟨_, rfl⟩
              replace H : (some y197) = some r := by first | (rw [hy197]; with_reducible exact H) | (have H2_ := (Option.bind_some _ _).symm.trans H; rw [hy197]; with_reducible exact H2_) | (have H2_ := (Option.bind_some _ _).symm.trans H; with_reducible exact H2_) | with_reducible exact H | (rw [hy197]; exact H) | exact H
              have Ny197 := Aside0.mk hy197
              clear hy197
              obtain rfl := Option.some.inj H
              obtain ⟨Ao9, co9, eo9⟩ := Kd.R_slice HO_3.out
              subst eo9
              have q10 : ((l0.length : Int) : Int) ≤ ((x3_1.length : Int) : Int) := of_decide_eq_true (by first | (with_reducible assumption) | assumption)
              obtain ⟨i010, hi010, _, hsz10, _⟩ := info_parts info110
              have hcut10 := cut_to (P := Try.prog) 38 110 .i64 Try.underlying38 hi010 Ao9 x3_1.length co9 (l0.length : Int) (of_decide_eq_true (by first | (with_reducible assumption) | assumption)) q10 (Kd.R_reads' HO_3.out).2.1
              have hr10 := Kd.R_take (m := ((l0.length : Int) : Int).toNat) HO_3.out (by omega)
              have hy10 : y197.length = ((l0.length : Int) : Int).toNat := (by rw [Ny197.out, List.length_take]; omega)
              rw [← Ny197.out] at hr10
              rw [← hy10] at hr10 hcut10
              clear hy10 hi010 hsz10 HO_3
              have HO199 := Aside0.mk hr10
              clear hr10
              replace q10 := eq_true q10
              go_wp2
              go_ret
              exact ⟨_, by first | rfl | (simp [errW_none, errW_some] <;> rfl) | (simp [*, errW_none, errW_some] <;> rfl), by (with_reducible repeat (first | apply Kd.R_alloc | apply Kd.R_drewN | apply Kd.R_drew)); exact HO199.out, by repeat (first | (with_reducible first | exact HB.out | apply below_alloc | apply pw_below_drewN | apply below_drew1) | exact HB.out)⟩
            · rw [if_neg c8] at H
              exact absurd H (by simp)
          · rw [if_neg c7] at H
            exact absurd H (by simp)
  · rw [if_neg c2] at H
    exact absurd H (by simp)

/-! ### larderref01_KeptLines: function 73 -/
def larderref01_KeptLines.l0 : Nat → List (S110) → List (S110) → Int → Option (Bool)
  | 0, _, _, _ => none
  | k + 1, x1, x5, x6 => if x6 < (x5.length : Int) then (if x6 < (x1.length : Int) then (if 0 ≤ x6 then (if (!((((rd_T110 x5 x6).f0).toList) == (((rd_T110 x1 x6).f0).toList)) || (!(((rd_T110 x5 x6).f1) == ((rd_T110 x1 x6).f1)))) = true then (some false) else (if x6 ≥ (x1.length : Int) then (if (!((((rd_T110 x5 x6).f0).toList) == ([108, 101, 110, 116] : List UInt8)) || (!(((rd_T110 x5 x6).f1) == (wrap64 (x6 - (x1.length : Int)))))) = true then (some false) else (larderref01_KeptLines.l0 k x1 x5 (wrap64 (x6 + 1)))) else (larderref01_KeptLines.l0 k x1 x5 (wrap64 (x6 + 1))))) else (none)) else (if x6 ≥ (x1.length : Int) then (if 0 ≤ x6 then (if (!((((rd_T110 x5 x6).f0).toList) == ([108, 101, 110, 116] : List UInt8)) || (!(((rd_T110 x5 x6).f1) == (wrap64 (x6 - (x1.length : Int)))))) = true then (some false) else (larderref01_KeptLines.l0 k x1 x5 (wrap64 (x6 + 1)))) else (none)) else (larderref01_KeptLines.l0 k x1 x5 (wrap64 (x6 + 1))))) else (some true)
def larderref01_KeptLines.f (k : Nat) (l0 : List (S110)) (l1 : List (S110)) : Option (Bool) := if (l0.length : Int) = (l1.length : Int) then (if 0 ≤ (wrap64 ((l1.length : Int) + 9)) then (if (wrap64 ((l1.length : Int) + 9)) ≤ (l0.length : Int) then (larderref01_KeptLines.l0 k l1 (l0.take ((wrap64 ((l1.length : Int) + 9)) : Int).toNat) 0) else (none)) else (none)) else (some false)
theorem larderref01_KeptLines.mono_l : ∀ k, (∀ y0 y1 y2, LeO (larderref01_KeptLines.l0 k y0 y1 y2) (larderref01_KeptLines.l0 (k + 1) y0 y1 y2))
  | 0 => fun _ _ _ r h => by simp [larderref01_KeptLines.l0] at h
  | k + 1 => by
    have ih0 := larderref01_KeptLines.mono_l k
    · intro y0 y1 y2
      unfold larderref01_KeptLines.l0
      repeat' first
      | (with_reducible exact ih0 _ _ _)
      | (with_reducible exact LeO.refl _)
      | (with_reducible exact LeO.none _)
      | (with_reducible refine LeO.ite ?_ ?_)
      | (with_reducible refine LeO.bind ?_ (fun _ => ?_))
      | exact ih0 _ _ _
      | exact LeO.none _
      | refine LeO.ite ?_ ?_
      | refine LeO.bind ?_ (fun _ => ?_)
theorem larderref01_KeptLines.mono : ∀ a0 a1 k, LeO (larderref01_KeptLines.f k a0 a1) (larderref01_KeptLines.f (k + 1) a0 a1) := by
  intro a0 a1 k
  have ih0 := larderref01_KeptLines.mono_l k
  unfold larderref01_KeptLines.f
  repeat' first
      | (with_reducible exact ih0 _ _ _)
      | (with_reducible exact LeO.refl _)
      | (with_reducible exact LeO.none _)
      | (with_reducible refine LeO.ite ?_ ?_)
      | (with_reducible refine LeO.bind ?_ (fun _ => ?_))
      | exact ih0 _ _ _
      | exact LeO.none _
      | refine LeO.ite ?_ ?_
      | refine LeO.bind ?_ (fun _ => ?_)
set_option maxHeartbeats 8000000 in
set_option maxRecDepth 100000 in
theorem larderref01_KeptLines.calls (k : Nat) (A0 : Option Addr) (c0 : Nat) (l0 : List (S110)) (A1 : Option Addr) (c1 : Nat) (l1 : List (S110)) (r : Bool) (w : World) (hr0 : Kd.C k110 w A0 l0.length l0) (hc0 : l0.length ≤ c0) (hr1 : Kd.C k110 w A1 l1.length l1) (hc1 : l1.length ≤ c1) (h : larderref01_KeptLines.f k l0 l1 = some r) :
    Calls Try.prog 73 #[.slice A0 l0.length c0, .slice A1 l1.length c1] w fun e w' => e = .returned (.bool r) ∧ Drawn0 w w' := by
  have hu110 := Try.underlying110
  have HR0 := Aside0.mk hr0
  have HC0 := Aside0.mk hc0
  clear hr0 hc0
  have HR1 := Aside0.mk hr1
  have HC1 := Aside0.mk hc1
  clear hr1 hc1
  have H : (if (l0.length : Int) = (l1.length : Int) then (if 0 ≤ (wrap64 ((l1.length : Int) + 9)) then (if (wrap64 ((l1.length : Int) + 9)) ≤ (l0.length : Int) then (larderref01_KeptLines.l0 k l1 (l0.take ((wrap64 ((l1.length : Int) + 9)) : Int).toNat) 0) else (none)) else (none)) else (some false)) = some r := h
  clear h
  by_cases c3 : (l0.length : Int) = (l1.length : Int)
  · rw [if_pos c3] at H
    have c3b0 : ((l0.length : Int) == (l1.length : Int)) = true := beq_iff_eq.mpr c3
    have c3b1 : ((l0.length : Int) != (l1.length : Int)) = false := bne_eq_false_iff_eq.mpr c3
    have c3b2 : (l0.length == l1.length) = true := by first | simpa using c3 | (simp at c3 ⊢; omega)
    clear c3
    obtain ⟨ji4, hji4⟩ : ∃ j_ : Int, (wrap64 ((l1.length : Int) + 9)) = j_ := ⟨_, rfl⟩
    replace H : (if 0 ≤ (ji4) then (if (ji4) ≤ (l0.length : Int) then (larderref01_KeptLines.l0 k l1 (l0.take ((ji4) : Int).toNat) 0) else (none)) else (none)) = some r := by first | (rw [hji4] at H; exact H) | (simp only [hji4] at H ⊢; exact H)
    have hji4w : (IntKind.i64.wrap ((l1.length : Int) + 9)) = ji4 := (i64_w _).trans hji4
    by_cases c5 : 0 ≤ (ji4)
    · rw [if_pos c5] at H
      have c5b0 := eq_true c5
      have c5b1 : decide (0 ≤ (ji4)) = true := decide_eq_true c5
      clear c5
      by_cases c6 : (ji4) ≤ (l0.length : Int)
      · rw [if_pos c6] at H
        have c6b0 := eq_true c6
        have c6b1 : decide ((ji4) ≤ (l0.length : Int)) = true := decide_eq_true c6
        clear c6
        obtain ⟨y200, hy200⟩ : ∃ y_ : List (S110), y_ = (l0.take ((ji4) : Int).toNat) := ⟨_, rfl⟩
        replace H : (larderref01_KeptLines.l0 k l1 y200 0) = some r := by first | (rw [hy200]; with_reducible exact H) | (have H2_ := (Option.bind_some _ _).symm.trans H; rw [hy200]; with_reducible exact H2_) | (have H2_ := (Option.bind_some _ _).symm.trans H; with_reducible exact H2_) | with_reducible exact H | (rw [hy200]; exact H) | exact H
        have Ny200 := Aside0.mk hy200
        clear hy200
        have H' := Aside0.mk H
        clear H
        have q7 : ((ji4) : Int) ≤ ((l0.length : Int) : Int) := of_decide_eq_true (by first | (with_reducible assumption) | assumption)
        obtain ⟨i07, hi07, _, hsz7, _⟩ := info_parts info110
        have hroom7 : l0.length ≤ c0 := HC0.out
        have hC7 : Kd.C k110 _ A0 l0.length l0 := HR0.out
        have hcut7 := cut_to (P := Try.prog) 38 110 .i64 Try.underlying38 hi07 A0 l0.length c0 (ji4) (of_decide_eq_true (by first | (with_reducible assumption) | assumption)) q7 hroom7
        have hr7 := Kd.C_take (m := ((ji4) : Int).toNat) hC7 (by omega)
        have hy7 : y200.length = ((ji4) : Int).toNat := (by rw [Ny200.out, List.length_take]; omega)
        rw [← Ny200.out] at hr7
        rw [← hy7] at hcut7
        have HR203 := Aside0.mk hr7
        have HC203 := Aside0.mk (show y200.length ≤ c0 from by omega)
        clear hr7 hC7 hroom7 hi07 hsz7
        have KY7 := Aside0.mk hy7
        clear hy7
        replace q7 := eq_true q7
        go_enter Try.func73, Try.ntmps73
        go_wp2
        repeat (go_quiet (fail); try go_wp2)
        go_loopg [6] k (fun kq v6 w' => ∃ (x6_1 : Int), v6 = .int .i64 x6_1 ∧ Aside0 (larderref01_KeptLines.l0 kq l1 y200 x6_1 = some r) ∧ Aside0 (kq ≤ k) ∧ Drawn0 w w')
        case atStart => exact ⟨(0), (by first | rfl | (simp; done) | (simp [*]; done)), H', ⟨Nat.le_refl _⟩, by repeat (first | exact Drawn0.refl _ | apply Drawn0.step)⟩
        case round =>
          clear H'
          try clear c1
          try clear p2
          try clear c3
          try clear c3b0
          try clear c3b1
          try clear c3b2
          try clear c5
          try clear c5b0
          try clear c5b1
          try clear c6
          try clear c6b0
          try clear c6b1
          try clear p6
          try clear c7
          try clear q7
          try clear q7
          obtain ⟨x6_1, rfl, HA, HK1, ⟨m1, rfl⟩⟩ := hrel
          cases gk with
          | zero => exact absurd HA.out (by simp [larderref01_KeptLines.l0])
          | succ k1 =>
            have H := HA.out
            clear HA
            simp only [larderref01_KeptLines.l0] at H
            by_cases c8 : x6_1 < (y200.length : Int)
            · rw [if_pos c8] at H
              have c8b0 : decide (x6_1 < (y200.length : Int)) = true := decide_eq_true c8
              clear c8
              by_cases c9 : x6_1 < (l1.length : Int)
              · rw [if_pos c9] at H
                have c9b0 : decide (x6_1 < (l1.length : Int)) = true := decide_eq_true c9
                clear c9
                by_cases c10 : 0 ≤ x6_1
                · rw [if_pos c10] at H
                  have c10b0 : decide (0 ≤ x6_1) = true := decide_eq_true c10
                  clear c10
                  by_cases c11 : (!((((rd_T110 y200 x6_1).f0).toList) == (((rd_T110 l1 x6_1).f0).toList)) || (!(((rd_T110 y200 x6_1).f1) == ((rd_T110 l1 x6_1).f1)))) = true
                  · rw [if_pos c11] at H
                    have c11b0 : (!((((rd_T110 y200 x6_1).f0).toList) == (((rd_T110 l1 x6_1).f0).toList)) || (!(((rd_T110 y200 x6_1).f1) == ((rd_T110 l1 x6_1).f1)))) = true := c11
                    clear c11
                    obtain rfl := Option.some.inj H
                    have p204 : 0 ≤ (x6_1 : Int) := of_decide_eq_true (by first | (with_reducible assumption) | assumption)
                    have q204 : x6_1 < (y200.length : Int) := of_decide_eq_true (by first | (with_reducible assumption) | assumption)
                    obtain ⟨ad204, e204, hx204_0, hx204_1⟩ := at_T110 HR203.out x6_1 p204 q204
                    cases e204
                    replace p204 := eq_true p204
                    replace q204 := eq_true q204
                    have p205 : 0 ≤ (x6_1 : Int) := of_decide_eq_true (by first | (with_reducible assumption) | assumption)
                    have q205 : x6_1 < (l1.length : Int) := of_decide_eq_true (by first | (with_reducible assumption) | assumption)
                    obtain ⟨ad205, e205, hx205_0, hx205_1⟩ := at_T110 HR1.out x6_1 p205 q205
                    cases e205
                    replace p205 := eq_true p205
                    replace q205 := eq_true q205
                    go_wp2
                    repeat (go_quiet (fail); try go_wp2)
                    go_ret
                    exact ⟨by first | rfl | (simp; done) | (simp only [← hji4] <;> (first | rfl | simp)) | (simp [*]; done), by repeat (first | exact Drawn0.refl _ | apply Drawn0.step)⟩
                  · rw [if_neg c11] at H
                    have c11b0 : (!((((rd_T110 y200 x6_1).f0).toList) == (((rd_T110 l1 x6_1).f0).toList)) || (!(((rd_T110 y200 x6_1).f1) == ((rd_T110 l1 x6_1).f1)))) = false := by simpa using c11
                    clear c11
                    by_cases c12 : x6_1 ≥ (l1.length : Int)
                    · rw [if_pos c12] at H
                      have c12b0 : decide ((l1.length : Int) ≤ x6_1) = true := decide_eq_true c12
                      clear c12
                      by_cases c13 : (!((((rd_T110 y200 x6_1).f0).toList) == ([108, 101, 110, 116] : List UInt8)) || (!(((rd_T110 y200 x6_1).f1) == (wrap64 (x6_1 - (l1.length : Int)))))) = true
                      · rw [if_pos c13] at H
                        have c13b0 : (!((((rd_T110 y200 x6_1).f0).toList) == ([108, 101, 110, 116] : List UInt8)) || (!(((rd_T110 y200 x6_1).f1) == (wrap64 (x6_1 - (l1.length : Int)))))) = true := c13
                        clear c13
                        obtain rfl := Option.some.inj H
                        have p204 : 0 ≤ (x6_1 : Int) := of_decide_eq_true (by first | (with_reducible assumption) | assumption)
                        have q204 : x6_1 < (y200.length : Int) := of_decide_eq_true (by first | (with_reducible assumption) | assumption)
                        obtain ⟨ad204, e204, hx204_0, hx204_1⟩ := at_T110 HR203.out x6_1 p204 q204
                        cases e204
                        replace p204 := eq_true p204
                        replace q204 := eq_true q204
                        have p205 : 0 ≤ (x6_1 : Int) := of_decide_eq_true (by first | (with_reducible assumption) | assumption)
                        have q205 : x6_1 < (l1.length : Int) := of_decide_eq_true (by first | (with_reducible assumption) | assumption)
                        obtain ⟨ad205, e205, hx205_0, hx205_1⟩ := at_T110 HR1.out x6_1 p205 q205
                        cases e205
                        replace p205 := eq_true p205
                        replace q205 := eq_true q205
                        have p206 : 0 ≤ (x6_1 : Int) := of_decide_eq_true (by first | (with_reducible assumption) | assumption)
                        have q206 : x6_1 < (y200.length : Int) := of_decide_eq_true (by first | (with_reducible assumption) | assumption)
                        obtain ⟨ad206, e206, hx206_0, hx206_1⟩ := at_T110 HR203.out x6_1 p206 q206
                        obtain rfl : ad204 = ad206 := (by injection e206)
                        replace p206 := eq_true p206
                        replace q206 := eq_true q206
                        go_wp2
                        repeat (go_quiet (fail); try go_wp2)
                        go_ret
                        exact ⟨by first | rfl | (simp; done) | (simp only [← hji4] <;> (first | rfl | simp)) | (simp [*]; done), by repeat (first | exact Drawn0.refl _ | apply Drawn0.step)⟩
                      · rw [if_neg c13] at H
                        have c13b0 : (!((((rd_T110 y200 x6_1).f0).toList) == ([108, 101, 110, 116] : List UInt8)) || (!(((rd_T110 y200 x6_1).f1) == (wrap64 (x6_1 - (l1.length : Int)))))) = false := by simpa using c13
                        clear c13
                        have H' := Aside0.mk H
                        clear H
                        have p204 : 0 ≤ (x6_1 : Int) := of_decide_eq_true (by first | (with_reducible assumption) | assumption)
                        have q204 : x6_1 < (y200.length : Int) := of_decide_eq_true (by first | (with_reducible assumption) | assumption)
                        obtain ⟨ad204, e204, hx204_0, hx204_1⟩ := at_T110 HR203.out x6_1 p204 q204
                        cases e204
                        replace p204 := eq_true p204
                        replace q204 := eq_true q204
                        have p205 : 0 ≤ (x6_1 : Int) := of_decide_eq_true (by first | (with_reducible assumption) | assumption)
                        have q205 : x6_1 < (l1.length : Int) := of_decide_eq_true (by first | (with_reducible assumption) | assumption)
                        obtain ⟨ad205, e205, hx205_0, hx205_1⟩ := at_T110 HR1.out x6_1 p205 q205
                        cases e205
                        replace p205 := eq_true p205
                        replace q205 := eq_true q205
                        have p206 : 0 ≤ (x6_1 : Int) := of_decide_eq_true (by first | (with_reducible assumption) | assumption)
                        have q206 : x6_1 < (y200.length : Int) := of_decide_eq_true (by first | (with_reducible assumption) | assumption)
                        obtain ⟨ad206, e206, hx206_0, hx206_1⟩ := at_T110 HR203.out x6_1 p206 q206
                        obtain rfl : ad204 = ad206 := (by injection e206)
                        replace p206 := eq_true p206
                        replace q206 := eq_true q206
                        go_wp2
                        repeat (go_quiet (fail); try go_wp2)
                        go_roundg k1
                        case measure => have := HK1.out; omega
                        case rel => exact ⟨(wrap64 (x6_1 + 1)), (by first | rfl | (simp; done) | (simp [*]; done)), H', ⟨by have := HK1.out; omega⟩, by repeat (first | exact Drawn0.refl _ | apply Drawn0.step)⟩
                    · rw [if_neg c12] at H
                      have c12b0 : decide ((l1.length : Int) ≤ x6_1) = false := decide_eq_false c12
                      clear c12
                      have H' := Aside0.mk H
                      clear H
                      have p204 : 0 ≤ (x6_1 : Int) := of_decide_eq_true (by first | (with_reducible assumption) | assumption)
                      have q204 : x6_1 < (y200.length : Int) := of_decide_eq_true (by first | (with_reducible assumption) | assumption)
                      obtain ⟨ad204, e204, hx204_0, hx204_1⟩ := at_T110 HR203.out x6_1 p204 q204
                      cases e204
                      replace p204 := eq_true p204
                      replace q204 := eq_true q204
                      have p205 : 0 ≤ (x6_1 : Int) := of_decide_eq_true (by first | (with_reducible assumption) | assumption)
                      have q205 : x6_1 < (l1.length : Int) := of_decide_eq_true (by first | (with_reducible assumption) | assumption)
                      obtain ⟨ad205, e205, hx205_0, hx205_1⟩ := at_T110 HR1.out x6_1 p205 q205
                      cases e205
                      replace p205 := eq_true p205
                      replace q205 := eq_true q205
                      go_wp2
                      repeat (go_quiet (fail); try go_wp2)
                      go_roundg k1
                      case measure => have := HK1.out; omega
                      case rel => exact ⟨(wrap64 (x6_1 + 1)), (by first | rfl | (simp; done) | (simp [*]; done)), H', ⟨by have := HK1.out; omega⟩, by repeat (first | exact Drawn0.refl _ | apply Drawn0.step)⟩
                · rw [if_neg c10] at H
                  exact absurd H (by simp)
              · rw [if_neg c9] at H
                have c9b0 : decide (x6_1 < (l1.length : Int)) = false := decide_eq_false c9
                clear c9
                by_cases c14 : x6_1 ≥ (l1.length : Int)
                · rw [if_pos c14] at H
                  have c14b0 : decide ((l1.length : Int) ≤ x6_1) = true := decide_eq_true c14
                  clear c14
                  by_cases c15 : 0 ≤ x6_1
                  · rw [if_pos c15] at H
                    have c15b0 : decide (0 ≤ x6_1) = true := decide_eq_true c15
                    clear c15
                    by_cases c16 : (!((((rd_T110 y200 x6_1).f0).toList) == ([108, 101, 110, 116] : List UInt8)) || (!(((rd_T110 y200 x6_1).f1) == (wrap64 (x6_1 - (l1.length : Int)))))) = true
                    · rw [if_pos c16] at H
                      have c16b0 : (!((((rd_T110 y200 x6_1).f0).toList) == ([108, 101, 110, 116] : List UInt8)) || (!(((rd_T110 y200 x6_1).f1) == (wrap64 (x6_1 - (l1.length : Int)))))) = true := c16
                      clear c16
                      obtain rfl := Option.some.inj H
                      have p207 : 0 ≤ (x6_1 : Int) := of_decide_eq_true (by first | (with_reducible assumption) | assumption)
                      have q207 : x6_1 < (y200.length : Int) := of_decide_eq_true (by first | (with_reducible assumption) | assumption)
                      obtain ⟨ad207, e207, hx207_0, hx207_1⟩ := at_T110 HR203.out x6_1 p207 q207
                      cases e207
                      replace p207 := eq_true p207
                      replace q207 := eq_true q207
                      go_wp2
                      repeat (go_quiet (fail); try go_wp2)
                      go_ret
                      exact ⟨by first | rfl | (simp; done) | (simp only [← hji4] <;> (first | rfl | simp)) | (simp [*]; done), by repeat (first | exact Drawn0.refl _ | apply Drawn0.step)⟩
                    · rw [if_neg c16] at H
                      have c16b0 : (!((((rd_T110 y200 x6_1).f0).toList) == ([108, 101, 110, 116] : List UInt8)) || (!(((rd_T110 y200 x6_1).f1) == (wrap64 (x6_1 - (l1.length : Int)))))) = false := by simpa using c16
                      clear c16
                      have H' := Aside0.mk H
                      clear H
                      have p207 : 0 ≤ (x6_1 : Int) := of_decide_eq_true (by first | (with_reducible assumption) | assumption)
                      have q207 : x6_1 < (y200.length : Int) := of_decide_eq_true (by first | (with_reducible assumption) | assumption)
                      obtain ⟨ad207, e207, hx207_0, hx207_1⟩ := at_T110 HR203.out x6_1 p207 q207
                      cases e207
                      replace p207 := eq_true p207
                      replace q207 := eq_true q207
                      go_wp2
                      repeat (go_quiet (fail); try go_wp2)
                      go_roundg k1
                      case measure => have := HK1.out; omega
                      case rel => exact ⟨(wrap64 (x6_1 + 1)), (by first | rfl | (simp; done) | (simp [*]; done)), H', ⟨by have := HK1.out; omega⟩, by repeat (first | exact Drawn0.refl _ | apply Drawn0.step)⟩
                  · rw [if_neg c15] at H
                    exact absurd H (by simp)
                · rw [if_neg c14] at H
                  have c14b0 : decide ((l1.length : Int) ≤ x6_1) = false := decide_eq_false c14
                  clear c14
                  have H' := Aside0.mk H
                  clear H
                  go_wp2
                  repeat (go_quiet (fail); try go_wp2)
                  go_roundg k1
                  case measure => have := HK1.out; omega
                  case rel => exact ⟨(wrap64 (x6_1 + 1)), (by first | rfl | (simp; done) | (simp [*]; done)), H', ⟨by have := HK1.out; omega⟩, by repeat (first | exact Drawn0.refl _ | apply Drawn0.step)⟩
            · rw [if_neg c8] at H
              have c8b0 : decide (x6_1 < (y200.length : Int)) = false := decide_eq_false c8
              clear c8
              obtain rfl := Option.some.inj H
              go_wp2
              repeat (go_quiet (fail); try go_wp2)
              go_ret
              exact ⟨by first | rfl | (simp; done) | (simp only [← hji4] <;> (first | rfl | simp)) | (simp [*]; done), by repeat (first | exact Drawn0.refl _ | apply Drawn0.step)⟩
      · rw [if_neg c6] at H
        exact absurd H (by simp)
    · rw [if_neg c5] at H
      exact absurd H (by simp)
  · rw [if_neg c3] at H
    have c3b0 : ((l0.length : Int) == (l1.length : Int)) = false := beq_eq_false_iff_ne.mpr c3
    have c3b1 : ((l0.length : Int) != (l1.length : Int)) = true := bne_iff_ne.mpr c3
    have c3b2 : (l0.length == l1.length) = false := by first | simpa using c3 | (simp at c3 ⊢; omega)
    obtain rfl := Option.some.inj H
    go_enter Try.func73, Try.ntmps73
    go_wp2
    repeat (go_quiet (fail); try go_wp2)
    go_ret
    exact ⟨by first | rfl | (simp; done) | (simp [*]; done), by repeat (first | exact Drawn0.refl _ | apply Drawn0.step)⟩

/-! ### larderref09_count: function 87 -/
def larderref09_count.f (k : Nat) (l0 : List Int) (a1 : Int) : Option (List Int) := (larderref01_PutUint.f k l0 (IntKind.u64.wrap (a1))).bind fun t208 => (some t208)
theorem larderref09_count.mono : ∀ a0 a1 k, LeO (larderref09_count.f k a0 a1) (larderref09_count.f (k + 1) a0 a1) := by
  intro a0 a1 k
  unfold larderref09_count.f
  repeat' first
      | (with_reducible exact larderref01_PutUint.mono _ _ _)
      | (with_reducible exact LeO.refl _)
      | (with_reducible exact LeO.none _)
      | (with_reducible refine LeO.ite ?_ ?_)
      | (with_reducible refine LeO.bind ?_ (fun _ => ?_))
      | exact larderref01_PutUint.mono _ _ _
      | exact LeO.none _
      | refine LeO.ite ?_ ?_
      | refine LeO.bind ?_ (fun _ => ?_)
set_option maxHeartbeats 8000000 in
set_option maxRecDepth 100000 in
theorem larderref09_count.calls (k : Nat) (A0 : Option Addr) (c0 : Nat) (l0 : List Int) (a1 : Int) (r : List Int) (w : World) (hr0 : Kd.C (Kd.int .u8) w A0 l0.length l0) (hc0 : l0.length ≤ c0) (h : larderref09_count.f k l0 a1 = some r) :
    Calls Try.prog 87 #[.slice A0 l0.length c0, .int .i64 a1] w fun e w' => ∃ v0_ : Value, e = .returned (v0_) ∧ Kd.R (Kd.int .u8) 5 w' w.heap.size (fun _ => True) v0_ r ∧ Below w.heap.size w w' := by
  have HR0 := Aside0.mk hr0
  have HC0 := Aside0.mk hc0
  clear hr0 hc0
  have HB := Aside0.mk (Below.refl w.heap.size w)
  have H : ((larderref01_PutUint.f k l0 (IntKind.u64.wrap (a1))).bind fun t208 => (some t208)) = some r := h
  clear h
  replace H := Option.bind_eq_some_iff.mp H
  obtain ⟨t208, A30, H⟩ := H
  replace H : (some t208) = some r := H
  have A3 := Aside0.mk A30
  clear A30
  obtain rfl := Option.some.inj H
  go_enter Try.func87, Try.ntmps87
  go_wp2_with (first | ((with_reducible refine gate_callee (f := 111) rfl ?_); refine goesL_ (some 8) rfl rfl Try.func111 (by kernel_rfl) rfl #[.slice A0 l0.length c0, .int .u64 (IntKind.u64.wrap (a1))] rfl (by (try simp only [List.map_toArray, List.map_cons, List.map_nil]); first | done | rfl | (simp only [List.length_drop, List.length_take]; rfl)) ?_; (with_reducible refine (larderref01_PutUint.calls k _ _ l0 (IntKind.u64.wrap (a1)) t208 _ ?side1 ?side2 A3.out).mono ?_); (case side1 => repeat (first | exact HR0.out | (with_reducible refine Kd.C_alloc ?_ _) | (with_reducible refine Kd.C_drewN ?_ _) | (with_reducible refine Kd.C_drew ?_))); (case side2 => exact HC0.out); rintro e w4 ⟨v209, rfl, ho0, hb⟩; refine ⟨_, rfl, ?_⟩; have n0_ := Aside0.mk (Kd.R_lower ho0 (below_size (by repeat (first | (with_reducible first | exact HB.out | apply below_alloc | apply pw_below_drewN | apply below_drew1) | exact HB.out)))); have n1_ := Aside0.mk (below_step (by repeat (first | (with_reducible first | exact HB.out | apply below_alloc | apply pw_below_drewN | apply below_drew1) | exact HB.out)) hb); clear HB; have HO210 := n0_; have HB := n1_; clear n0_ n1_; (try clear hb); (try clear hb2); (try clear hk); (try clear hi); (try clear ho0)))
  go_ret
  exact ⟨_, by first | rfl | (simp [errW_none, errW_some] <;> rfl) | (simp [*, errW_none, errW_some] <;> rfl), by (with_reducible repeat (first | apply Kd.R_alloc | apply Kd.R_drewN | apply Kd.R_drew)); exact HO210.out, by repeat (first | (with_reducible first | exact HB.out | apply below_alloc | apply pw_below_drewN | apply below_drew1) | exact HB.out)⟩

end Go.Proofs.Ytafmoglaockepaa.PG
