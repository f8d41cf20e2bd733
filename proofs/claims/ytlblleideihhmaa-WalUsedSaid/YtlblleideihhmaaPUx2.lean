-- Written by a program of this session (wip/pp), out of the translation.
import Derived.Test.YtlblleideihhmaaPUx0
import Derived.Test.YtlblleideihhmaaPUx1
namespace Go.Proofs.Ytlblleideihhmaa.PU
open Go.RowKit Go.Proofs.Ytlblleideihhmaa.Mine Go.Proofs.YtlblleideihhmaaW.PrintWords Go.Proofs.YtlblleideihhmaaW.PrintLast Go.Proofs.YtlblleideihhmaaW.PrintMore
attribute [local go_sem] max2_int min2_int max_two min_two max_three min_three max_four min_four   -- for this text's walks alone
set_option linter.unusedVariables false
set_option linter.unusedSimpArgs false

/-! ### wal_Used: function 29 (given) -/
def wal_Used.f (k : Nat) (a0 a1 : Int) (l : List Int) : Option (List Int × Bool) :=
  (wal_Stamp.f a0 a1).bind fun x => if x = 0 then some ([], false) else if (l.length : Int) = 128 then (if rd l 8 > 111 then some ([], false) else (frame_PutWord.f k [] x).bind fun wd =>
    if (strOfNums (l.take 8)).toList = (strOfNums wd).toList then (if (strOfNums (l.drop 120)).toList = (strOfNums wd).toList then (if 0 ≤ rd l 8 then some ((l.drop 9).take (rd l 8).toNat, true) else none) else some ([], false)) else some ([], false)) else some ([], false)
theorem wal_Used.mono : ∀ a0 a1 l k, LeO (wal_Used.f k a0 a1 l) (wal_Used.f (k + 1) a0 a1 l) := by
  intro a0 a1 l k
  unfold wal_Used.f
  refine LeO.bind (LeO.refl _) (fun _ => LeO.ite (LeO.refl _) (LeO.ite (LeO.ite (LeO.refl _) (LeO.bind (frame_PutWord.mono _ _ _) (fun _ => LeO.refl _))) (LeO.refl _)))
theorem putword_seen (k : Nat) (x : Int) (r : List Int) (w : World) (h : frame_PutWord.f k [] x = some r) : Calls Try.prog 18 #[.slice none 0 0, .int .u64 x] w fun e w' => ∃ A c, e = .returned (.slice A r.length c) ∧ Kd.C (Kd.int .u8) w' A r.length r ∧ Below w.heap.size w w' := by
  refine (frame_PutWord.calls k none 0 [] x r w (Kd.C_nil _ _) (by decide) h).mono ?_
  rintro e w' ⟨v, rfl, hr, hb⟩
  obtain ⟨A, c, rfl, _, hC⟩ := Kd.R_reads hr
  exact ⟨A, c, rfl, hC, hb⟩
theorem encs_nums (xs : List Int) : encs (fun x => Value.int .u8 x) xs = nums .u8 xs := rfl
theorem size5' : (Try.prog.info? 5).map (·.size) = some 1 := by kernel_rfl
theorem nums_one' {xs : List Int} : ∀ v ∈ nums .u8 xs, v.oneCell' = true := by
  intro v hv
  obtain ⟨x, _, rfl⟩ := List.mem_map.1 hv
  rfl
set_option maxHeartbeats 8000000 in
set_option maxRecDepth 100000 in
theorem wal_Used.calls (k : Nat) (a0 : Int) (a1 : Int) (A2 : Option Addr) (c2 : Nat) (l2 : List Int) (r1 : List Int) (r2 : Bool) (w : World) (hr2 : Kd.C (Kd.int .u8) w A2 l2.length l2) (hc2 : l2.length ≤ c2) (h : wal_Used.f k a0 a1 l2 = some (r1, r2)) :
    Calls Try.prog 29 #[.int .i64 a0, .int .i64 a1, .slice A2 l2.length c2] w fun e w' => ∃ v0_ : Value, e = .returned (.tuple #[v0_, .bool r2]) ∧ Kd.R (Kd.int .u8) 5 w' w.heap.size (fun _ => True) v0_ r1 ∧ Below w.heap.size w w' := by
  unfold wal_Used.f at h
  have hmax : l2.length ≤ 9223372036854775807 := Kd.C_max hr2
  obtain ⟨x, hx, hh⟩ := Option.bind_eq_some_iff.mp h
  have HX := Aside0.mk hx
  clear h hx
  by_cases h0 : x = 0
  · rw [if_pos h0] at hh
    simp only [Option.some.injEq, Prod.mk.injEq] at hh
    obtain ⟨rfl, rfl⟩ := hh
    have hb0 : (x == 0) = true := beq_iff_eq.2 h0
    clear h0 hr2
    go_enter Try.func29, Try.ntmps29
    go_wp2_with (go_at_call 45; refine (wal_Stamp.calls _ _ x _ HX.out).mono ?_; rintro e w' ⟨rfl, ⟨nd, rfl⟩⟩)
    go_ret2
    exact ⟨_, rfl, Kd.R_nil _ _ _ _ _, pw_below_drewN (Below.refl _ _) _⟩
  rw [if_neg h0] at hh
  have hb0 : (x == 0) = false := beq_eq_false_iff_ne.2 h0
  clear h0
  by_cases h1 : (l2.length : Int) = 128
  rotate_left
  · rw [if_neg h1] at hh
    simp only [Option.some.injEq, Prod.mk.injEq] at hh
    obtain ⟨rfl, rfl⟩ := hh
    have hb1 : ((l2.length : Int) == 128) = false := beq_eq_false_iff_ne.2 h1
    have hb2 : ((l2.length : Int) != 128) = true := by simp [bne, hb1]
    clear h1 hr2
    go_enter Try.func29, Try.ntmps29
    go_wp2_with (go_at_call 45; refine (wal_Stamp.calls _ _ x _ HX.out).mono ?_; rintro e w' ⟨rfl, ⟨nd, rfl⟩⟩)
    go_ret2
    exact ⟨_, rfl, Kd.R_nil _ _ _ _ _, pw_below_drewN (Below.refl _ _) _⟩
  rw [if_pos h1] at hh
  have hl : l2.length = 128 := by omega
  have hr3 := Kd.C_take (m := 8) hr2 (by omega)
  have hr4 := Kd.C_drop (m := 120) hr2 (by omega) hc2
  have hr5 := Kd.C_drop (m := 9) hr2 (by omega) hc2
  obtain ⟨ad, rfl, hc8⟩ := Kd.at_int hr2 8 (by decide) (by omega)
  rw [hl] at hc2 hr2
  rw [show (l2.take 8).length = 8 by rw [List.length_take]; omega] at hr3
  rw [show (l2.drop 120).length = 8 by rw [List.length_drop]; omega, if_neg (by omega)] at hr4
  rw [show (l2.drop 9).length = 119 by rw [List.length_drop]; omega, if_neg (by omega)] at hr5
  obtain ⟨i0, hi0, hz0', hsz0, hby'⟩ := info_parts info5
  have hi0' := hi0
  have hcut3 := cut_to (P := Try.prog) 28 5 .i64 Try.underlying28 hi0 (some ad) 128 c2 8 (by decide) (by decide) hc2
  have hcut4 := cut_from (P := Try.prog) 28 5 .i64 Try.underlying28 hi0 1 hsz0 (some ad) 128 c2 120 (by decide) (by decide)
  have hcut5 := cut_from (P := Try.prog) 28 5 .i64 Try.underlying28 hi0 1 hsz0 (some ad) 128 c2 9 (by decide) (by decide)
  rw [if_neg (by simp; omega)] at hcut4 hcut5
  clear hi0
  rw [hl]
  obtain ⟨q, hq⟩ : ∃ q, rd l2 8 = q := ⟨_, rfl⟩
  rw [hq] at hh hc8
  have HQ := Aside0.mk hq
  have HL := Aside0.mk hl
  clear hq hl h1
  replace hcut3 : ∀ W : World, (Instr.slice 28 (.slice (some ad) 128 c2) none (some (.int .i64 8)) none).run Try.prog W = .ok (.slice (some ad) 8 c2) W := hcut3
  replace hcut4 : ∀ W : World, (Instr.slice 28 (.slice (some ad) 128 c2) (some (.int .i64 120)) none none).run Try.prog W = .ok (.slice (some ⟨ad.block, ad.off + 120, none⟩) 8 (c2 - 120)) W := hcut4
  replace hcut5 : ∀ W : World, (Instr.slice 28 (.slice (some ad) 128 c2) (some (.int .i64 9)) none none).run Try.prog W = .ok (.slice (some ⟨ad.block, ad.off + 9, none⟩) 119 (c2 - 9)) W := hcut5
  replace hr4 : (Kd.int .u8).C w (some ⟨ad.block, ad.off + 120, none⟩) 8 (l2.drop 120) := hr4
  replace hr5 : (Kd.int .u8).C w (some ⟨ad.block, ad.off + 9, none⟩) 119 (l2.drop 9) := hr5
  replace hc8 : w.cell? ⟨ad.block, ad.off + 8, none⟩ = some (.int .u8 q) := hc8
  have HR3 := Aside0.mk hr3
  have HR4 := Aside0.mk hr4
  have HR5 := Aside0.mk hr5
  clear hr2 hr3 hr4 hr5
  by_cases h2 : q > 111
  · rw [if_pos h2] at hh
    simp only [Option.some.injEq, Prod.mk.injEq] at hh
    obtain ⟨rfl, rfl⟩ := hh
    have h2' : 111 < q := h2
    clear h2
    go_enter Try.func29, Try.ntmps29
    go_wp2_with (go_at_call 45; refine (wal_Stamp.calls _ _ x _ HX.out).mono ?_; rintro e w' ⟨rfl, ⟨nd, rfl⟩⟩)
    go_ret2
    exact ⟨_, rfl, Kd.R_nil _ _ _ _ _, pw_below_drewN (Below.refl _ _) _⟩
  rw [if_neg h2] at hh
  have h2' : ¬ 111 < q := h2
  clear h2
  obtain ⟨wd, hwd, hh⟩ := Option.bind_eq_some_iff.mp hh
  have HWD := Aside0.mk hwd
  clear hwd
  by_cases h3 : (strOfNums (List.take 8 l2)).toList = (strOfNums wd).toList
  rotate_left
  · rw [if_neg h3] at hh
    simp only [Option.some.injEq, Prod.mk.injEq] at hh
    obtain ⟨rfl, rfl⟩ := hh
    go_enter Try.func29, Try.ntmps29
    go_wp2_with (go_at_call 45; refine (wal_Stamp.calls _ _ x _ HX.out).mono ?_; rintro e w' ⟨rfl, ⟨nd, rfl⟩⟩)
    go_at_call 18; refine (putword_seen k x wd _ HWD.out).mono ?_; rintro e w1 ⟨Aw, cw, rfl, hC, hb⟩
    have HB := Aside0.mk (below_then (pw_below_drewN (Below.refl w.heap.size w) nd) (Nat.le_refl _) hb)
    have hcv := Kd.C_string (P := Try.prog) (A := Aw) (c := cw) Try.underlying28 Try.underlying5 Try.underlying9 hC
    have hcv3 := Kd.C_string (P := Try.prog) (A := some ad) (c := c2) Try.underlying28 Try.underlying5 Try.underlying9 (Kd.C_below HR3.out HB.out)
    have hcv4 := Kd.C_string (P := Try.prog) (A := some ⟨ad.block, ad.off + 120, none⟩) (c := c2 - 120) Try.underlying28 Try.underlying5 Try.underlying9 (Kd.C_below HR4.out HB.out)
    have hcell1 := pw_cell_below HB.out hc8
    clear hC hb hc8
    go_wp2_with fail
    go_ret2
    exact ⟨_, rfl, Kd.R_nil _ _ _ _ _, HB.out⟩
  rw [if_pos h3] at hh
  by_cases h4 : (strOfNums (List.drop 120 l2)).toList = (strOfNums wd).toList
  rotate_left
  · rw [if_neg h4] at hh
    simp only [Option.some.injEq, Prod.mk.injEq] at hh
    obtain ⟨rfl, rfl⟩ := hh
    have h4b : ((strOfNums (List.drop 120 l2)).toList == (strOfNums wd).toList) = false := beq_eq_false_iff_ne.2 h4
    go_enter Try.func29, Try.ntmps29
    go_wp2_with (go_at_call 45; refine (wal_Stamp.calls _ _ x _ HX.out).mono ?_; rintro e w' ⟨rfl, ⟨nd, rfl⟩⟩)
    go_at_call 18; refine (putword_seen k x wd _ HWD.out).mono ?_; rintro e w1 ⟨Aw, cw, rfl, hC, hb⟩
    have HB := Aside0.mk (below_then (pw_below_drewN (Below.refl w.heap.size w) nd) (Nat.le_refl _) hb)
    have hcv := Kd.C_string (P := Try.prog) (A := Aw) (c := cw) Try.underlying28 Try.underlying5 Try.underlying9 hC
    have hcv3 := Kd.C_string (P := Try.prog) (A := some ad) (c := c2) Try.underlying28 Try.underlying5 Try.underlying9 (Kd.C_below HR3.out HB.out)
    have hcv4 := Kd.C_string (P := Try.prog) (A := some ⟨ad.block, ad.off + 120, none⟩) (c := c2 - 120) Try.underlying28 Try.underlying5 Try.underlying9 (Kd.C_below HR4.out HB.out)
    have hcell1 := pw_cell_below HB.out hc8
    clear hC hb hc8
    go_wp2_with fail
    go_ret2
    exact ⟨_, rfl, Kd.R_nil _ _ _ _ _, HB.out⟩
  rw [if_pos h4] at hh
  have h4b : ((strOfNums (List.drop 120 l2)).toList == (strOfNums wd).toList) = true := beq_iff_eq.2 h4
  by_cases h5 : 0 ≤ q
  rotate_left
  · rw [if_neg h5] at hh
    cases hh
  rw [if_pos h5] at hh
  simp only [Option.some.injEq, Prod.mk.injEq] at hh
  obtain ⟨hr1, rfl⟩ := hh
  obtain ⟨m, rfl⟩ := Int.eq_ofNat_of_zero_le h5
  have hm : m ≤ 111 := by omega
  have HR1 := Aside0.mk hr1
  clear hr1 h2' h5
  go_enter Try.func29, Try.ntmps29
  go_wp2_with (go_at_call 45; refine (wal_Stamp.calls _ _ x _ HX.out).mono ?_; rintro e w' ⟨rfl, ⟨nd, rfl⟩⟩)
  go_at_call 18; refine (putword_seen k x wd _ HWD.out).mono ?_; rintro e w1 ⟨Aw, cw, rfl, hC, hb⟩
  have HB := Aside0.mk (below_then (pw_below_drewN (Below.refl w.heap.size w) nd) (Nat.le_refl _) hb)
  have hcv := Kd.C_string (P := Try.prog) (A := Aw) (c := cw) Try.underlying28 Try.underlying5 Try.underlying9 hC
  have hcv3 := Kd.C_string (P := Try.prog) (A := some ad) (c := c2) Try.underlying28 Try.underlying5 Try.underlying9 (Kd.C_below HR3.out HB.out)
  have hcv4 := Kd.C_string (P := Try.prog) (A := some ⟨ad.block, ad.off + 120, none⟩) (c := c2 - 120) Try.underlying28 Try.underlying5 Try.underlying9 (Kd.C_below HR4.out HB.out)
  have hcell1 := pw_cell_below HB.out hc8
  clear hC hb hc8
  go_wp2_with fail
  have hmk := run_make (P := Try.prog) w1 28 5 i0 (.int .u8 0) Try.underlying28 hi0' hz0' .u8 .u8 (m : Int) (m : Int) (by omega) (by omega) (by rw [hby']; omega) (by omega)
  rw [hsz0, Int.toNat_natCast, Nat.mul_one] at hmk
  have HMK := Aside0.mk hmk
  clear hmk
  go_wp2_with fail
  rw [HMK.out]
  have hA : (w1.alloc (.cells (madeCells #[Value.int .u8 0] m) 5)).heap[w1.heap.size]? = some (.cells (madeCells #[Value.int .u8 0] m) 5 (0, 0)) := heap_alloc_new _ _
  have hB2 : Below w.heap.size w (w1.alloc (.cells (madeCells #[Value.int .u8 0] m) 5)) := below_alloc HB.out _
  have hR5 := Kd.C_below HR5.out hB2
  have hlt : w.heap.size ≤ w1.heap.size := HB.out.size
  simp only [Value.cells, Result.andThen_ok, Oper.upon_value]
  generalize w1.alloc (.cells (madeCells #[Value.int .u8 0] m) 5) = w2 at *
  generalize w1.heap.size = g at *
  have HA := Aside0.mk hA
  have HB2 := Aside0.mk hB2
  have HR5b := Aside0.mk hR5
  clear hA hB2 hR5 HMK hcv hcv3 hcv4 h3 h4 h4b
  obtain ⟨xs, hxs⟩ : ∃ xs, (l2.drop 9).take m = xs := ⟨_, rfl⟩
  have hxl : xs.length = m := by rw [← hxs, List.length_take, List.length_drop, HL.out]; omega
  have hsrc : ∀ (j : Nat) (v : Value), (nums .u8 xs)[j]? = some v → w2.cell? ((⟨ad.block, ad.off + 9, none⟩ : Addr).add j) = some v := by
    intro j v hv
    have hj : j < m := by
      rcases Nat.lt_or_ge j (nums .u8 xs).length with h | h
      · rw [nums_length, hxl] at h; exact h
      · rw [List.getElem?_eq_none h] at hv; cases hv
    obtain ⟨ad2, he, hc⟩ := Kd.at_int HR5b.out (j : Int) (by omega) (by omega)
    cases he
    rw [Int.toNat_natCast] at hc
    rw [hc, ← hv, ← hxs]
    simp only [nums, List.getElem?_map]
    rw [List.getElem?_take, if_pos hj]
    have hj2 : j < (l2.drop 9).length := by rw [List.length_drop, HL.out]; omega
    rw [List.getElem?_eq_getElem hj2]
    show some (Value.int .u8 ((l2.drop 9).getD (j : Int).toNat 0)) = _
    rw [Int.toNat_natCast, List.getD_eq_getElem?_getD, List.getElem?_eq_getElem hj2]
    rfl
  have hsz : (madeCells #[Value.int .u8 0] m).size = m := by simp [size_madeCells]
  have HSRC := Aside0.mk hsrc
  have HXL := Aside0.mk hxl
  have HSZ := Aside0.mk hsz
  have HXS := Aside0.mk hxs
  clear hsrc hxl hsz hxs
  go_wp2_with (refine wpList_copy_own rfl (.tmp 46) (.tmp 48) 28 28 rfl 5 Try.underlying28 size5' g 0 m m ⟨ad.block, ad.off + 9, none⟩ 119 (c2 - 9) rfl rfl (madeCells #[Value.int .u8 0] m) 5 HA.out (nums .u8 xs) (by rw [nums_length, HXL.out]; exact (Nat.min_eq_right (by omega)).symm) HSRC.out (by rw [nums_length, HXL.out, HSZ.out]; omega) nums_one' ?_)
  go_ret2
  have hrow : (nums .u8 xs ++ (madeCells #[Value.int .u8 0] m).toList.drop (nums .u8 xs).length) = nums .u8 xs := by
    rw [List.drop_of_length_le (by rw [nums_length, HXL.out, Array.length_toList, HSZ.out]; exact Nat.le_refl _), List.append_nil]
  refine ⟨_, rfl, ?_, below_setRow HB2.out hlt _⟩
  rw [← HR1.out, Int.toNat_natCast, HXS.out, hrow]
  show (Kd.int .u8).R 5 _ _ _ (.slice (some ⟨g, 0, none⟩) m m) xs
  refine Kd.R_of_own ⟨by rw [encs_nums, nums_length]; omega, .inr ⟨g, m, (nums .u8 xs).toArray, by rw [HXL.out], hlt, setRow_heap _ _ _ _ _ _ HA.out, by rw [HXL.out]; exact Nat.le_refl _, by unfold maxLen; omega, by simp [nums, HXL.out], ?_⟩⟩ (fun _ _ => trivial)
  rw [List.take_of_length_le (by simp [nums])]
  rfl

/-! ### larderref01_Word: function 24 -/
def larderref01_Word.l0 : Nat → List Int → Int → Int → Option (Int × Int)
  | 0, _, _, _ => none
  | k + 1, x0, x4, x5 => if x5 ≥ 0 then (if 0 ≤ x5 then (if x5 < (x0.length : Int) then (larderref01_Word.l0 k x0 (IntKind.u64.wrap ((IntKind.u64.wrap (x4 * 256)) + (IntKind.u64.wrap (rd x0 x5)))) (wrap64 (x5 - 1))) else (none)) else (none)) else (some (x4, 0))
def larderref01_Word.f (k : Nat) (l0 : List Int) : Option (Int × Int) := if (l0.length : Int) < 8 then (some (0, 3)) else (larderref01_Word.l0 k l0 0 7)
theorem larderref01_Word.mono_l : ∀ k, (∀ y0 y1 y2, LeO (larderref01_Word.l0 k y0 y1 y2) (larderref01_Word.l0 (k + 1) y0 y1 y2))
  | 0 => fun _ _ _ r h => by simp [larderref01_Word.l0] at h
  | k + 1 => by
    have ih0 := larderref01_Word.mono_l k
    · intro y0 y1 y2
      unfold larderref01_Word.l0
      repeat' first
      | (with_reducible exact ih0 _ _ _)
      | (with_reducible exact LeO.refl _)
      | (with_reducible exact LeO.none _)
      | (with_reducible refine LeO.ite ?_ ?_)
      | (with_reducible refine LeO.bind ?_ (fun _ => ?_))
      | exact ih0 _ _ _
      | exact LeO.none _
      | refine LeO.ite ?_ ?_
      | refine LeO.bind ?_ (fun _ => ?_)
theorem larderref01_Word.mono : ∀ a0 k, LeO (larderref01_Word.f k a0) (larderref01_Word.f (k + 1) a0) := by
  intro a0 k
  have ih0 := larderref01_Word.mono_l k
  unfold larderref01_Word.f
  repeat' first
      | (with_reducible exact ih0 _ _ _)
      | (with_reducible exact LeO.refl _)
      | (with_reducible exact LeO.none _)
      | (with_reducible refine LeO.ite ?_ ?_)
      | (with_reducible refine LeO.bind ?_ (fun _ => ?_))
      | exact ih0 _ _ _
      | exact LeO.none _
      | refine LeO.ite ?_ ?_
      | refine LeO.bind ?_ (fun _ => ?_)
set_option maxHeartbeats 8000000 in
set_option maxRecDepth 100000 in
theorem larderref01_Word.calls (k : Nat) (A0 : Option Addr) (c0 : Nat) (l0 : List Int) (r1 : Int) (r2 : Int) (w : World) (hr0 : Kd.C (Kd.int .u8) w A0 l0.length l0) (hc0 : l0.length ≤ c0) (h : larderref01_Word.f k l0 = some (r1, r2)) :
    Calls Try.prog 24 #[.slice A0 l0.length c0] w fun e w' => e = .returned (.tuple #[.int .u64 r1, .int .i64 r2]) ∧ Drawn0 w w' := by
  have HR0 := Aside0.mk hr0
  have HC0 := Aside0.mk hc0
  clear hr0 hc0
  have H : (if (l0.length : Int) < 8 then (some (0, 3)) else (larderref01_Word.l0 k l0 0 7)) = some (r1, r2) := h
  clear h
  by_cases c2 : (l0.length : Int) < 8
  · rw [if_pos c2] at H
    have c2b0 : decide ((l0.length : Int) < 8) = true := decide_eq_true c2
    have c2b1 : decide (l0.length < 8) = true := decide_eq_true (by omega)
    clear c2
    simp only [Option.some.injEq, Prod.mk.injEq] at H
    obtain ⟨rfl, rfl⟩ := H
    go_enter Try.func24, Try.ntmps24
    go_wp2
    go_ret2
    exact ⟨by first | rfl | (simp; done) | (simp [*]; done), by repeat (first | exact Drawn0.refl _ | apply Drawn0.step)⟩
  · rw [if_neg c2] at H
    have c2b0 : decide ((l0.length : Int) < 8) = false := decide_eq_false c2
    have c2b1 : decide (l0.length < 8) = false := decide_eq_false (by omega)
    clear c2
    have H' := Aside0.mk H
    clear H
    go_enter Try.func24, Try.ntmps24
    go_wp2
    go_loopg [4, 5] k (fun kq v4 v5 w' => ∃ (x4_1 : Int) (x5_1 : Int), v4 = .int .u64 x4_1 ∧ v5 = .int .i64 x5_1 ∧ Aside0 (larderref01_Word.l0 kq l0 x4_1 x5_1 = some (r1, r2)) ∧ Aside0 (kq ≤ k) ∧ Drawn0 w w')
    case atStart => exact ⟨(0), (7), (by first | rfl | (simp; done) | (simp [*]; done)), (by first | rfl | (simp; done) | (simp [*]; done)), H', ⟨Nat.le_refl _⟩, by repeat (first | exact Drawn0.refl _ | apply Drawn0.step)⟩
    case round =>
      clear H'
      try clear c2
      try clear c2b0
      try clear c2b1
      try clear p2
      obtain ⟨x4_1, x5_1, rfl, rfl, HA, HK1, ⟨m1, rfl⟩⟩ := hrel
      cases gk with
      | zero => exact absurd HA.out (by simp [larderref01_Word.l0])
      | succ k1 =>
        have H := HA.out
        clear HA
        simp only [larderref01_Word.l0] at H
        by_cases c3 : x5_1 ≥ 0
        · rw [if_pos c3] at H
          have c3b0 : decide (0 ≤ x5_1) = true := decide_eq_true c3
          clear c3
          by_cases c4 : 0 ≤ x5_1
          · rw [if_pos c4] at H
            have c4b0 : decide (0 ≤ x5_1) = true := decide_eq_true c4
            clear c4
            by_cases c5 : x5_1 < (l0.length : Int)
            · rw [if_pos c5] at H
              have c5b0 : decide (x5_1 < (l0.length : Int)) = true := decide_eq_true c5
              clear c5
              have H' := Aside0.mk H
              clear H
              have p116 : 0 ≤ (x5_1 : Int) := of_decide_eq_true (by first | (with_reducible assumption) | assumption)
              have q116 : x5_1 < (l0.length : Int) := of_decide_eq_true (by first | (with_reducible assumption) | assumption)
              obtain ⟨ad116, e116, hx116_0⟩ := Kd.at_int HR0.out x5_1 p116 q116
              cases e116
              replace p116 := eq_true p116
              replace q116 := eq_true q116
              go_wp2
              go_roundg k1
              case measure => have := HK1.out; omega
              case rel => exact ⟨(IntKind.u64.wrap ((IntKind.u64.wrap (x4_1 * 256)) + (IntKind.u64.wrap (rd l0 x5_1)))), (wrap64 (x5_1 - 1)), (by first | rfl | (simp; done) | (simp [*]; done)), (by first | rfl | (simp; done) | (simp [*]; done)), H', ⟨by have := HK1.out; omega⟩, by repeat (first | exact Drawn0.refl _ | apply Drawn0.step)⟩
            · rw [if_neg c5] at H
              exact absurd H (by simp)
          · rw [if_neg c4] at H
            exact absurd H (by simp)
        · rw [if_neg c3] at H
          have c3b0 : decide (0 ≤ x5_1) = false := decide_eq_false c3
          clear c3
          simp only [Option.some.injEq, Prod.mk.injEq] at H
          obtain ⟨rfl, rfl⟩ := H
          go_wp2
          go_ret2
          exact ⟨by first | rfl | (simp; done) | (simp [*]; done), by repeat (first | exact Drawn0.refl _ | apply Drawn0.step)⟩

/-! ### larderref10_Stamp: function 46 -/
def larderref10_Stamp.f (a0 : Int) (a1 : Int) : Option (Int) := if a0 < 1 then (some 0) else (if a0 > 1099511627776 then (some 0) else (if a1 < 0 then (some 0) else (if a1 ≥ 4096 then (some 0) else (some (IntKind.u64.wrap ((IntKind.u64.wrap ((IntKind.u64.wrap (a0)) * 4096)) + (IntKind.u64.wrap (a1))))))))
set_option maxHeartbeats 8000000 in
set_option maxRecDepth 100000 in
theorem larderref10_Stamp.calls (a0 : Int) (a1 : Int) (r : Int) (w : World) (h : larderref10_Stamp.f a0 a1 = some r) :
    Calls Try.prog 46 #[.int .i64 a0, .int .i64 a1] w fun e w' => e = .returned (.int .u64 r) ∧ Drawn0 w w' := by
  have H : (if a0 < 1 then (some 0) else (if a0 > 1099511627776 then (some 0) else (if a1 < 0 then (some 0) else (if a1 ≥ 4096 then (some 0) else (some (IntKind.u64.wrap ((IntKind.u64.wrap ((IntKind.u64.wrap (a0)) * 4096)) + (IntKind.u64.wrap (a1))))))))) = some r := h
  clear h
  by_cases c3 : a0 < 1
  · rw [if_pos c3] at H
    have c3b0 : decide (a0 < 1) = true := decide_eq_true c3
    clear c3
    obtain rfl := Option.some.inj H
    go_enter Try.func46, Try.ntmps46
    go_wp2
    go_ret
    exact ⟨by first | rfl | (simp; done) | (simp [*]; done), by repeat (first | exact Drawn0.refl _ | apply Drawn0.step)⟩
  · rw [if_neg c3] at H
    have c3b0 : decide (a0 < 1) = false := decide_eq_false c3
    clear c3
    by_cases c4 : a0 > 1099511627776
    · rw [if_pos c4] at H
      have c4b0 : decide (1099511627776 < a0) = true := decide_eq_true c4
      clear c4
      obtain rfl := Option.some.inj H
      go_enter Try.func46, Try.ntmps46
      go_wp2
      go_ret
      exact ⟨by first | rfl | (simp; done) | (simp [*]; done), by repeat (first | exact Drawn0.refl _ | apply Drawn0.step)⟩
    · rw [if_neg c4] at H
      have c4b0 : decide (1099511627776 < a0) = false := decide_eq_false c4
      clear c4
      by_cases c5 : a1 < 0
      · rw [if_pos c5] at H
        have c5b0 : decide (a1 < 0) = true := decide_eq_true c5
        clear c5
        obtain rfl := Option.some.inj H
        go_enter Try.func46, Try.ntmps46
        go_wp2
        go_ret
        exact ⟨by first | rfl | (simp; done) | (simp [*]; done), by repeat (first | exact Drawn0.refl _ | apply Drawn0.step)⟩
      · rw [if_neg c5] at H
        have c5b0 : decide (a1 < 0) = false := decide_eq_false c5
        clear c5
        by_cases c6 : a1 ≥ 4096
        · rw [if_pos c6] at H
          have c6b0 : decide (4096 ≤ a1) = true := decide_eq_true c6
          clear c6
          obtain rfl := Option.some.inj H
          go_enter Try.func46, Try.ntmps46
          go_wp2
          go_ret
          exact ⟨by first | rfl | (simp; done) | (simp [*]; done), by repeat (first | exact Drawn0.refl _ | apply Drawn0.step)⟩
        · rw [if_neg c6] at H
          have c6b0 : decide (4096 ≤ a1) = false := decide_eq_false c6
          clear c6
          obtain rfl := Option.some.inj H
          go_enter Try.func46, Try.ntmps46
          go_wp2
          go_ret
          exact ⟨by first | rfl | (simp; done) | (simp [*]; done), by repeat (first | exact Drawn0.refl _ | apply Drawn0.step)⟩

end Go.Proofs.Ytlblleideihhmaa.PU
