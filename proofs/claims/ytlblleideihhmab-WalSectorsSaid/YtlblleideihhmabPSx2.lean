-- Written by a program of this session (wip/pp), out of the translation.
import Derived.Test.YtlblleideihhmabPSx0
import Derived.Test.YtlblleideihhmabPSx1
namespace Go.Proofs.Ytlblleideihhmab.PS
open Go.RowKit Go.Proofs.Ytlblleideihhmab.Mine Go.Proofs.YtlblleideihhmabW.PrintWords Go.Proofs.YtlblleideihhmabW.PrintLast Go.Proofs.YtlblleideihhmabW.PrintMore
attribute [local go_sem] max2_int min2_int max_two min_two max_three min_three max_four min_four   -- for this text's walks alone
set_option linter.unusedVariables false
set_option linter.unusedSimpArgs false

/-! ### wal_Sector: function 9 (given) -/
def wal_Sector.f (k : Nat) (a0 a1 : Int) (l : List Int) : Option (List Int × Int) :=
  (wal_Stamp.f a0 a1).bind fun x => if x = 0 then some ([], 2) else if (l.length : Int) > 111 then some ([], 102) else (frame_PutWord.f k [] x).bind fun wd =>
    if wd.length = 8 then some (wd ++ [(l.length : Int)] ++ l ++ List.replicate (111 - l.length) 0 ++ wd, 0) else none
theorem wal_Sector.mono : ∀ a0 a1 l k, LeO (wal_Sector.f k a0 a1 l) (wal_Sector.f (k + 1) a0 a1 l) := by
  intro a0 a1 l k
  unfold wal_Sector.f
  exact LeO.bind (LeO.refl _) (fun _ => LeO.ite (LeO.refl _) (LeO.ite (LeO.refl _) (LeO.bind (frame_PutWord.mono _ _ _) (fun _ => LeO.refl _))))
theorem putword_seen (k : Nat) (x : Int) (r : List Int) (w : World) (h : frame_PutWord.f k [] x = some r) : Calls Try.prog 12 #[.slice none 0 0, .int .u64 x] w fun e w' => ∃ A c, e = .returned (.slice A r.length c) ∧ Kd.C (Kd.int .u8) w' A r.length r ∧ Below w.heap.size w w' := by
  refine (frame_PutWord.calls k none 0 [] x r w (Kd.C_nil _ _) (by decide) h).mono ?_
  rintro e w' ⟨v, rfl, hr, hb⟩
  obtain ⟨A, c, rfl, _, hC⟩ := Kd.R_reads hr
  exact ⟨A, c, rfl, hC, hb⟩
/-- A row of bytes of one's own. -/
def Row (w : World) (g : Nat) (xs : List Int) : Prop := w.heap[g]? = some (.cells (nums .u8 xs).toArray 5 (0, 0))
theorem row_made (w : World) (m : Nat) : Row (w.alloc (.cells (madeCells #[Value.int .u8 0] m) 5)) w.heap.size (List.replicate m 0) := by
  have : madeCells #[Value.int .u8 0] m = (nums .u8 (List.replicate m 0)).toArray := by
    apply Array.ext
    · simp [size_madeCells, nums]
    · intro i h1 h2
      simp [madeCells, nums, Nat.mod_one]
  unfold Row
  rw [← this]
  exact heap_alloc_new _ _
theorem row_below {w w1 : World} {g : Nat} {xs : List Int} (h : Row w g xs) (hb : Below w.heap.size w w1) : Row w1 g xs := (hb.block g (blk_lt h)).trans h
theorem row_set {w : World} {g j : Nat} {xs : List Int} (h : Row w g xs) (x : Int) : Row (w.setCell ⟨g, j, none⟩ (.int .u8 x)) g (xs.set j x) := by
  unfold Row
  rw [blk_set h]
  simp [nums, List.map_set]
theorem row_setRow {w : World} {g : Nat} {xs : List Int} (h : Row w g xs) (ys : List Int) : Row (w.setRow g (nums .u8 ys).toArray) g ys := setRow_heap _ _ _ _ _ _ h
theorem nums_one' {xs : List Int} : ∀ v ∈ nums .u8 xs, v.oneCell' = true := by
  intro v hv
  obtain ⟨x, _, rfl⟩ := List.mem_map.1 hv
  rfl
theorem size5' : (Try.prog.info? 5).map (·.size) = some 1 := by kernel_rfl
theorem copy_bytes (ty : TypeId) {w : World} {g o dLen dCap sLen sCap : Nat} {A : Option Addr} {cur xs : List Int} (row : Row w g cur) (src : Kd.C (Kd.int .u8) w A sLen xs) (n : Nat) (hn : Nat.min sLen dLen = n) (hf : o + n ≤ cur.length) :
    (Builtin.copy_ #[22, 22] ty #[.slice (some ⟨g, o, none⟩) dLen dCap, .slice A sLen sCap]).run Try.prog w = .ok (goInt n) (w.setRow g (nums .u8 (cur.take o ++ xs.take n ++ cur.drop (o + n))).toArray) := by
  have hxl : xs.length = sLen := Kd.C_len src
  have hmin : n ≤ sLen := by rw [← hn]; exact Nat.min_le_left _ _
  rcases Nat.eq_zero_or_pos n with h0 | h0
  · subst h0
    rw [run_copy_none w 22 22 ty 5 (some ⟨g, o, none⟩) A dLen dCap sLen sCap Try.underlying22 size5' hn]
    rw [List.take_zero, List.append_nil, Nat.add_zero, List.take_append_drop, setRow_self w g _ 5 (0, 0) row]
    rfl
  · obtain ⟨ad, rfl, _⟩ := Kd.at_int src 0 (by decide) (by omega)
    have hcs : (nums .u8 (xs.take n)).length = n := by rw [nums_length, List.length_take]; omega
    have h := run_copy_row (P := Try.prog) w 22 22 ty 5 g o dLen dCap ad sLen sCap (nums .u8 cur).toArray 5 (nums .u8 (xs.take n)) Try.underlying22 size5' row (by rw [hcs, hn]) (fun j v hv => by
      have hj : j < n := by
        rcases Nat.lt_or_ge j (nums .u8 (xs.take n)).length with h | h
        · rw [hcs] at h; exact h
        · rw [List.getElem?_eq_none h] at hv; cases hv
      obtain ⟨ad2, he, hc⟩ := Kd.at_int src (j : Int) (by omega) (by omega)
      cases he
      rw [Int.toNat_natCast] at hc
      rw [hc, ← hv]
      simp only [nums, List.getElem?_map]
      rw [List.getElem?_take, if_pos hj, List.getElem?_eq_getElem (show j < xs.length by omega)]
      show some (Value.int .u8 (xs.getD (j : Int).toNat 0)) = _
      rw [Int.toNat_natCast, List.getD_eq_getElem?_getD, List.getElem?_eq_getElem (show j < xs.length by omega)]
      rfl) (by simp [nums]; omega) nums_one'
    rw [h, hcs]
    congr 2
    simp [nums, List.map_take, List.map_drop]
theorem row_at {w : World} {g j : Nat} {xs : List Int} (h : Row w g xs) (hj : j < xs.length) : w.cell? ⟨g, j, none⟩ = some (.int .u8 (xs.getD j 0)) ∧ w.frozen? ⟨g, j, none⟩ = false := by
  refine ⟨?_, by simp [World.frozen?, show w.heap[g]? = _ from h]⟩
  rw [cell_of_row _ _ _ _ _ _ h]
  simp [nums, List.getD_eq_getElem?_getD, List.getElem?_eq_getElem hj]
theorem below_row {B : Nat} {w w1 : World} {g : Nat} (h : Below B w w1) (hg : B ≤ g) (cs : Array Value) : Below B w (w1.setRow g cs) := below_setRow h hg cs
theorem encs_nums (xs : List Int) : encs (fun x => Value.int .u8 x) xs = nums .u8 xs := rfl
theorem sector_list (wd l : List Int) (m : Nat) (h8 : wd.length = 8) (hm : l.length = m) (hm1 : m ≤ 111) :
    ((((wd.take 8 ++ (List.replicate 128 (0 : Int)).drop 8).set 8 (m : Int)).take 9 ++ l.take m ++ ((wd.take 8 ++ (List.replicate 128 (0 : Int)).drop 8).set 8 (m : Int)).drop (9 + m)).take 120 ++ wd.take 8 ++ (((wd.take 8 ++ (List.replicate 128 (0 : Int)).drop 8).set 8 (m : Int)).take 9 ++ l.take m ++ ((wd.take 8 ++ (List.replicate 128 (0 : Int)).drop 8).set 8 (m : Int)).drop (9 + m)).drop (120 + 8)) =
      wd ++ [(l.length : Int)] ++ l ++ List.replicate (111 - l.length) 0 ++ wd := by
  rw [List.take_of_length_le (show wd.length ≤ 8 by omega), List.take_of_length_le (show l.length ≤ m by omega), hm, List.drop_replicate]
  have e1 : (wd ++ List.replicate (128 - 8) (0 : Int)).set 8 (m : Int) = (wd ++ [(m : Int)]) ++ List.replicate 119 0 := by
    rw [List.set_append_right _ _ (by omega), h8, Nat.sub_self, show 128 - 8 = 119 + 1 from rfl, List.replicate_succ, List.set_cons_zero, List.append_assoc]
    rfl
  have l9 : (wd ++ [(m : Int)]).length = 9 := by simp [h8]
  have t9 : ((wd ++ [(m : Int)]) ++ List.replicate 119 (0 : Int)).take 9 = wd ++ [(m : Int)] := by rw [List.take_append_of_le_length (by omega), List.take_of_length_le (by omega)]
  have d9 : ((wd ++ [(m : Int)]) ++ List.replicate 119 (0 : Int)).drop (9 + m) = List.replicate (119 - m) 0 := by
    rw [List.drop_append, List.drop_of_length_le (by omega), l9, show 9 + m - 9 = m by omega, List.drop_replicate, List.nil_append]
  rw [e1, t9, d9]
  have l2 : ((wd ++ [(m : Int)]) ++ l ++ List.replicate (119 - m) 0).length = 128 := by
    simp only [List.length_append, List.length_replicate, h8, hm, List.length_cons, List.length_nil]; omega
  rw [List.drop_of_length_le (by rw [l2]; exact Nat.le_refl _), List.append_nil]
  have e2 : List.replicate (119 - m) (0 : Int) = List.replicate (111 - m) 0 ++ List.replicate 8 0 := by
    rw [List.replicate_append_replicate, show 111 - m + 8 = 119 - m by omega]
  rw [e2, ← List.append_assoc ((wd ++ [(m : Int)]) ++ l), List.take_append_of_le_length (by simp only [List.length_append, List.length_replicate, h8, hm, List.length_cons, List.length_nil]; omega), List.take_of_length_le (by simp only [List.length_append, List.length_replicate, h8, hm, List.length_cons, List.length_nil]; omega)]
set_option maxHeartbeats 8000000 in
set_option maxRecDepth 100000 in
theorem wal_Sector.calls (k : Nat) (a0 : Int) (a1 : Int) (A2 : Option Addr) (c2 : Nat) (l2 : List Int) (r1 : List Int) (r2 : Int) (w : World) (hr2 : Kd.C (Kd.int .u8) w A2 l2.length l2) (hc2 : l2.length ≤ c2) (h : wal_Sector.f k a0 a1 l2 = some (r1, r2)) :
    Calls Try.prog 9 #[.int .i64 a0, .int .i64 a1, .slice A2 l2.length c2] w fun e w' => ∃ v0_ : Value, e = .returned (.tuple #[v0_, .int .i64 r2]) ∧ Kd.R (Kd.int .u8) 5 w' w.heap.size (fun _ => True) v0_ r1 ∧ Below w.heap.size w w' := by
  unfold wal_Sector.f at h
  have hmax : l2.length ≤ 9223372036854775807 := Kd.C_max hr2
  obtain ⟨x, hx, hh⟩ := Option.bind_eq_some_iff.mp h
  have HX := Aside0.mk hx
  clear h hx
  by_cases h0 : x = 0
  · rw [if_pos h0] at hh
    simp only [Option.some.injEq, Prod.mk.injEq] at hh
    obtain ⟨rfl, rfl⟩ := hh
    have hb0 : (x == 0) = true := beq_iff_eq.2 h0
    clear h0 hr2
    go_enter Try.func9, Try.ntmps9
    go_wp2_with (go_at_call 6; refine (wal_Stamp.calls _ _ x _ HX.out).mono ?_; rintro e w' ⟨rfl, ⟨nd, rfl⟩⟩)
    go_ret2
    exact ⟨_, rfl, Kd.R_nil _ _ _ _ _, pw_below_drewN (Below.refl _ _) _⟩
  rw [if_neg h0] at hh
  have hb0 : (x == 0) = false := beq_eq_false_iff_ne.2 h0
  clear h0
  by_cases h1 : (l2.length : Int) > 111
  · rw [if_pos h1] at hh
    simp only [Option.some.injEq, Prod.mk.injEq] at hh
    obtain ⟨rfl, rfl⟩ := hh
    have h1' : 111 < (l2.length : Int) := h1
    clear h1 hr2
    go_enter Try.func9, Try.ntmps9
    go_wp2_with (go_at_call 6; refine (wal_Stamp.calls _ _ x _ HX.out).mono ?_; rintro e w' ⟨rfl, ⟨nd, rfl⟩⟩)
    go_ret2
    exact ⟨_, rfl, Kd.R_nil _ _ _ _ _, pw_below_drewN (Below.refl _ _) _⟩
  rw [if_neg h1] at hh
  obtain ⟨wd, hwd, hh⟩ := Option.bind_eq_some_iff.mp hh
  have HWD := Aside0.mk hwd
  by_cases h8 : wd.length = 8
  rotate_left
  · rw [if_neg h8] at hh
    cases hh
  rw [if_pos h8] at hh
  simp only [Option.some.injEq, Prod.mk.injEq] at hh
  obtain ⟨hr1, rfl⟩ := hh
  have HR1 := Aside0.mk hr1
  have H8 := Aside0.mk h8
  have HR2 := Aside0.mk hr2
  obtain ⟨m, hm⟩ : ∃ m : Nat, l2.length = m := ⟨_, rfl⟩
  have HM := Aside0.mk hm
  rw [hm] at h1 hmax hc2 ⊢
  have hm1 : m ≤ 111 := by omega
  have hm2 : ¬ 111 < (m : Int) := by omega
  clear hr1 h8 hr2 hwd hm h1
  obtain ⟨i0, hi0, hz0', hsz0, hby'⟩ := info_parts info5
  go_enter Try.func9, Try.ntmps9
  go_wp2_with (go_at_call 6; refine (wal_Stamp.calls _ _ x _ HX.out).mono ?_; rintro e w' ⟨rfl, ⟨nd, rfl⟩⟩)
  have hmk := run_make (P := Try.prog) (w.drewN nd) 22 5 i0 (.int .u8 0) Try.underlying22 hi0 hz0' .i64 .i64 128 128 (by decide) (by decide) (by rw [hby']; decide) (by decide)
  rw [hsz0, Nat.mul_one] at hmk
  replace hmk : (Instr.makeSlice 22 (.int .i64 128) (.int .i64 128)).run Try.prog (w.drewN nd) = .ok (.slice (some ⟨w.heap.size, 0, none⟩) 128 128) ((w.drewN nd).alloc (.cells (madeCells #[Value.int .u8 0] 128) 5)) := hmk
  rw [hmk]
  simp only [Result.andThen_ok, Oper.upon_value]
  have hrow : Row ((w.drewN nd).alloc (.cells (madeCells #[Value.int .u8 0] 128) 5)) w.heap.size (List.replicate 128 0) := row_made (w.drewN nd) 128
  have hb1 : Below w.heap.size w ((w.drewN nd).alloc (.cells (madeCells #[Value.int .u8 0] 128) 5)) := below_alloc (pw_below_drewN (Below.refl _ _) _) _
  generalize (w.drewN nd).alloc (.cells (madeCells #[Value.int .u8 0] 128) 5) = w1 at *
  obtain ⟨z, hz⟩ : ∃ z : List Int, List.replicate 128 0 = z := ⟨_, rfl⟩
  have hzl : z.length = 128 := by rw [← hz]; simp
  rw [hz] at hrow
  have HZ := Aside0.mk hz
  have HZL := Aside0.mk hzl
  have HROW := Aside0.mk hrow
  have HB := Aside0.mk hb1
  clear hmk hrow hb1 hz hzl hi0
  go_wp2_with fail
  go_at_call 12; refine (putword_seen k x wd _ HWD.out).mono ?_; rintro e w2 ⟨Aw, cw, rfl, hC, hb⟩
  have HROW2 := Aside0.mk (row_below HROW.out hb)
  have HB2 := Aside0.mk (below_then HB.out HB.out.size hb)
  rw [H8.out] at hC ⊢
  have hcp := copy_bytes 3 (dLen := 128) (dCap := 128) (sCap := cw) (o := 0) HROW2.out hC 8 rfl (by rw [HZL.out]; decide)
  have HCP := Aside0.mk hcp
  clear hcp hC hb HROW HB
  go_wp2_with fail
  rw [HCP.out]
  simp only [Result.andThen_ok, Oper.upon_value, List.take_zero, List.nil_append, Nat.zero_add]
  have hrow := row_setRow HROW2.out (wd.take 8 ++ z.drop 8)
  have hb := below_row HB2.out (Nat.le_refl _) (nums .u8 (wd.take 8 ++ z.drop 8)).toArray
  generalize w2.setRow w.heap.size (nums .u8 (wd.take 8 ++ z.drop 8)).toArray = w3 at *
  obtain ⟨y, hy⟩ : ∃ y : List Int, wd.take 8 ++ z.drop 8 = y := ⟨_, rfl⟩
  have hyl : y.length = 128 := by rw [← hy, List.length_append, List.length_take, List.length_drop, H8.out, HZL.out]; rfl
  rw [hy] at hrow
  have HY := Aside0.mk hy
  have HYL := Aside0.mk hyl
  have HROW3 := Aside0.mk hrow
  have HB3 := Aside0.mk hb
  clear hrow hb hy hyl HCP HROW2 HB2
  obtain ⟨hc8, hf8⟩ := row_at HROW3.out (j := 8) (by rw [HYL.out]; decide)
  have hm0 : (0 : Int) ≤ (m : Int) := by omega
  go_wp2_with fail
  have HROW4 := Aside0.mk (row_set (j := 8) HROW3.out (m : Int))
  have HB4 := Aside0.mk (HB3.out.setCell (p := ⟨w.heap.size, 8, none⟩) (Nat.le_refl _) (Value.int .u8 (m : Int)))
  generalize w3.setCell ⟨w.heap.size, 8, none⟩ (Value.int .u8 (m : Int)) = w4 at *
  have hC := Kd.C_below HR2.out HB4.out
  rw [HM.out] at hC
  have hcp := copy_bytes 3 (dLen := 119) (dCap := 119) (sCap := c2) (o := 9) HROW4.out hC m (Nat.min_eq_left (by omega)) (by rw [List.length_set, HYL.out]; omega)
  rw [hcp]
  simp only [Result.andThen_ok, Oper.upon_value]
  have hrow := row_setRow HROW4.out ((y.set 8 (m : Int)).take 9 ++ l2.take m ++ (y.set 8 (m : Int)).drop (9 + m))
  have hb := below_row HB4.out (Nat.le_refl _) (nums .u8 ((y.set 8 (m : Int)).take 9 ++ l2.take m ++ (y.set 8 (m : Int)).drop (9 + m))).toArray
  generalize w4.setRow w.heap.size (nums .u8 ((y.set 8 (m : Int)).take 9 ++ l2.take m ++ (y.set 8 (m : Int)).drop (9 + m))).toArray = w5 at *
  obtain ⟨u, hu⟩ : ∃ u : List Int, (y.set 8 (m : Int)).take 9 ++ l2.take m ++ (y.set 8 (m : Int)).drop (9 + m) = u := ⟨_, rfl⟩
  have hul : u.length = 128 := by rw [← hu, List.length_append, List.length_append, List.length_take, List.length_drop, List.length_take, List.length_set, HYL.out, HM.out]; omega
  rw [hu] at hrow
  have HU := Aside0.mk hu
  have HUL := Aside0.mk hul
  have HROW5 := Aside0.mk hrow
  have HB5 := Aside0.mk hb
  clear hrow hb hu hul hcp HROW3 HB3 HROW4 HB4 hc8 hf8 hC
  go_wp2_with fail
  refine wp_region_noPanic ?_
  refine wp_region_held_drew (S := fun _ => True) (by kernel_rfl) trivial (fun hHeld => ?_)
  refine wpAnyH_take (i := 0) (oi := { dst := some 34, op := Op.move (Operand.tmp 9), type := 22, pos := "sector.go:47", after := #[], guard := none }) (v := ?_) rfl (by kernel_rfl) (by kernel_rfl) (by kernel_rfl) (fun _ _ _ h => h) (Or.inl ⟨by rfl, ?_⟩) hHeld ?_
  rotate_left
  · intro w' hS; go_simp; all_goals (with_reducible rfl)
  (try simp only [Act.put, List.setIfInBounds_toArray, List.set_cons_zero, List.set_cons_succ])
  refine wpAnyH_take (i := 1) (oi := { dst := some 35, op := Op.slice 22 (Operand.tmp 34) (some (Operand.const (Value.int IntKind.i64 120))) none none, type := 22, pos := "sector.go:47", after := #[{ on := 0, ground := Ground.data }], guard := none }) (v := ?_) rfl (by kernel_rfl) (by kernel_rfl) (by kernel_rfl) (fun _ _ _ h => h) (Or.inl ⟨by rfl, ?_⟩) hHeld ?_
  rotate_left
  · intro w' hS; go_simp; all_goals (with_reducible rfl)
  (try simp only [Act.put, List.setIfInBounds_toArray, List.set_cons_zero, List.set_cons_succ])
  refine wpAnyH_take (i := 2) (oi := { dst := some 36, op := Op.move (Operand.tmp 8), type := 24, pos := "sector.go:47", after := #[], guard := none }) (v := ?_) rfl (by kernel_rfl) (by kernel_rfl) (by kernel_rfl) (fun _ _ _ h => h) (Or.inl ⟨by rfl, ?_⟩) hHeld ?_
  rotate_left
  · intro w' hS; go_simp; all_goals (with_reducible rfl)
  (try simp only [Act.put, List.setIfInBounds_toArray, List.set_cons_zero, List.set_cons_succ])
  refine wpAnyH_ready (rs := [3]) (by kernel_rfl) (by simp) ?_
  refine AllReadyH.cons (o := { dst := some 37, op := Op.call { callee := Callee.value (Operand.func 12), args := #[Operand.const (Value.slice none 0 0), Operand.tmp 36], argTypes := #[22, 24] }, type := 22, pos := "sector.go:47", after := #[{ on := 2, ground := Ground.data }], guard := none }) rfl (fun K hK => ?_) AllReadyH.nil
  go_simp
  go_at_call 12; refine (putword_seen k x wd _ HWD.out).mono ?_; rintro e w6 ⟨Av, cv, rfl, hC, hb⟩
  (try go_wp2_with fail)
  have HROW6 := Aside0.mk (row_below (w := w5.drew) HROW5.out hb)
  have HB6 := Aside0.mk (below_then (below_drew HB5.out) HB5.out.size hb)
  rw [H8.out] at hC ⊢
  have hcp := copy_bytes 3 (dLen := 8) (dCap := 8) (sCap := cv) (o := 120) HROW6.out hC 8 rfl (by rw [HUL.out]; decide)
  have HCP := Aside0.mk hcp
  clear hcp hC hb HROW5 HB5
  refine hK.out _ _ trivial (fun hHeld => ?_)
  clear hK K
  (try simp only [Act.put, List.setIfInBounds_toArray, List.set_cons_zero, List.set_cons_succ])
  refine wpAnyH_ready (rs := [4]) (by kernel_rfl) (by simp) ?_
  refine AllReadyH.cons (o := { dst := some 38, op := Op.call { callee := Callee.builtin Builtin.copy, args := #[Operand.tmp 35, Operand.tmp 37], argTypes := #[22, 22] }, type := 3, pos := "sector.go:47", after := #[{ on := 1, ground := Ground.data }, { on := 3, ground := Ground.data }, { on := 3, ground := Ground.chain }], guard := none }) rfl (fun K hK => ?_) AllReadyH.nil
  go_simp
  rw [HCP.out]
  simp only [Result.andThen_ok, Oper.upon_value]
  refine hK.out _ _ trivial (fun hHeld => ?_)
  clear hK K
  (try simp only [Act.put, List.setIfInBounds_toArray, List.set_cons_zero, List.set_cons_succ])
  refine wpAnyH_done (by kernel_rfl) ?_ _
  (try simp only [Act.put, List.setIfInBounds_toArray, List.set_cons_zero, List.set_cons_succ])
  refine NoPanic.normal ?_
  have hrow := row_setRow HROW6.out (u.take 120 ++ wd.take 8 ++ u.drop (120 + 8))
  have hb := below_row HB6.out (Nat.le_refl _) (nums .u8 (u.take 120 ++ wd.take 8 ++ u.drop (120 + 8))).toArray
  generalize w6.setRow w.heap.size (nums .u8 (u.take 120 ++ wd.take 8 ++ u.drop (120 + 8))).toArray = w7 at *
  have hfin : u.take 120 ++ wd.take 8 ++ u.drop (120 + 8) = r1 := by
    rw [← HR1.out, ← HU.out, ← HY.out, ← HZ.out]
    exact sector_list wd l2 m H8.out HM.out hm1
  rw [hfin] at hrow
  have hlen : r1.length = 128 := by rw [← HR1.out]; simp only [List.length_append, List.length_cons, List.length_nil, List.length_replicate, H8.out, HM.out]; omega
  have HROW7 := Aside0.mk hrow
  have HB7 := Aside0.mk hb
  have HLEN := Aside0.mk hlen
  clear hrow hb hlen hfin HCP HROW6 HB6
  go_wp2_with fail
  go_ret2
  refine ⟨.slice (some ⟨w.heap.size, 0, none⟩) 128 128, rfl, Kd.R_of_own ⟨by rw [encs_nums, nums_length]; omega, .inr ⟨w.heap.size, 128, (nums .u8 r1).toArray, by rw [HLEN.out], Nat.le_refl _, HROW7.out, by rw [HLEN.out]; exact Nat.le_refl _, by unfold maxLen; omega, by simp [nums, HLEN.out], ?_⟩⟩ (fun _ _ => trivial), HB7.out⟩
  rw [List.take_of_length_le (by simp [nums])]
  rfl

/-! ### larderref01_joined: function 16 -/
def larderref01_joined.f (l0 : List Int) (l1 : List Int) : Option (List Int) := if ([] : List Int).length + l0.length < 140737488355328 then ((some (([] : List Int) ++ l0 : List Int)).bind fun y116 => (if y116.length + l1.length < 140737488355328 then (some (y116 ++ l1)) else (none))) else (none)
set_option maxHeartbeats 8000000 in
set_option maxRecDepth 100000 in
theorem larderref01_joined.calls (A0 : Option Addr) (c0 : Nat) (l0 : List Int) (A1 : Option Addr) (c1 : Nat) (l1 : List Int) (r : List Int) (w : World) (hr0 : Kd.C (Kd.int .u8) w A0 l0.length l0) (hc0 : l0.length ≤ c0) (hr1 : Kd.C (Kd.int .u8) w A1 l1.length l1) (hc1 : l1.length ≤ c1) (h : larderref01_joined.f l0 l1 = some r) :
    Calls Try.prog 16 #[.slice A0 l0.length c0, .slice A1 l1.length c1] w fun e w' => ∃ v0_ : Value, e = .returned (v0_) ∧ Kd.R (Kd.int .u8) 5 w' w.heap.size (fun _ => True) v0_ r ∧ Below w.heap.size w w' := by
  have HR0 := Aside0.mk hr0
  have HC0 := Aside0.mk hc0
  clear hr0 hc0
  have HR1 := Aside0.mk hr1
  have HC1 := Aside0.mk hc1
  clear hr1 hc1
  have HB := Aside0.mk (Below.refl w.heap.size w)
  have H : (if ([] : List Int).length + l0.length < 140737488355328 then ((some (([] : List Int) ++ l0 : List Int)).bind fun y116 => (if y116.length + l1.length < 140737488355328 then (some (y116 ++ l1)) else (none))) else (none)) = some r := h
  clear h
  by_cases c3 : ([] : List Int).length + l0.length < 140737488355328
  · rw [if_pos c3] at H
    have LMc3 := Aside0.mk c3
    clear c3
    obtain ⟨y116, hy116⟩ : ∃ y_ : List Int, y_ = (([] : List Int) ++ l0) := ⟨_, rfl⟩
    replace H : (if y116.length + l1.length < 140737488355328 then (some (y116 ++ l1)) else (none)) = some r := by first | (rw [hy116]; with_reducible exact H) | (have H2_ := (Option.bind_some _ _).symm.trans H; rw [hy116]; with_reducible exact H2_) | (have H2_ := (Option.bind_some _ _).symm.trans H; with_reducible exact H2_) | with_reducible exact H | (rw [hy116]; exact H) | exact H
    have Ny116 := Aside0.mk hy116
    clear hy116
    by_cases c4 : y116.length + l1.length < 140737488355328
    · rw [if_pos c4] at H
      have LMc4 := Aside0.mk c4
      clear c4
      obtain ⟨y119, hy119⟩ : ∃ y_ : List Int, y_ = (y116 ++ l1) := ⟨_, rfl⟩
      replace H : (some y119) = some r := by first | (rw [hy119]; with_reducible exact H) | (have H2_ := (Option.bind_some _ _).symm.trans H; rw [hy119]; with_reducible exact H2_) | (have H2_ := (Option.bind_some _ _).symm.trans H; with_reducible exact H2_) | with_reducible exact H | (rw [hy119]; exact H) | exact H
      have Ny119 := Aside0.mk hy119
      clear hy119
      obtain rfl := Option.some.inj H
      go_enter Try.func16, Try.ntmps16
      go_wp2_with (first | ((with_reducible refine gate_builtin (b := .append) (xs := #[.tmp 6, .tmp 7]) rfl ?_); at_builtin; refine Kd.R_append_rows (Kd.int .u8) (w0 := w) w.heap.size rfl (.tmp 6) (.tmp 7) 22 5 (.int .u8 0) 1 rfl Try.underlying22 info5 rfl (by decide) (by omega) (.slice none 0 0) ([] : List Int) l0 _ _ _ (fun _ => True) (fun _ => False) rfl rfl ?aO ?aR (fun _ _ h => h) (fun _ h => h.elim) ?aF ?aB ?aS ?aL ?_; (case aR => repeat (first | exact HR0.out | (with_reducible refine Kd.C_alloc ?_ _) | (with_reducible refine Kd.C_drewN ?_ _) | (with_reducible refine Kd.C_drew ?_))); (case aB => exact (by repeat (first | (with_reducible first | exact HB.out | apply below_alloc | apply pw_below_drewN | apply below_drew1) | exact HB.out))); (case aF => exact (fun _ _ => trivial)); (case aO => exact ((Kd.R_nil _ _ _ _ (fun _ => True)))); (case aS => exact (below_size (by repeat (first | (with_reducible first | exact HB.out | apply below_alloc | apply pw_below_drewN | apply below_drew1) | exact HB.out)))); (case aL => have := LMc3.out; omega); intro v117 w5 ho hb hg hat; rw [← Ny116.out] at ho; have n0_ := Aside0.mk (hb); have n1_ := Aside0.mk (ho); clear HB; have HB := n0_; have HO118 := n1_; clear n0_ n1_; clear ho hb hg hat) | ((with_reducible refine gate_builtin (b := .append) (xs := #[.tmp 9, .tmp 10]) rfl ?_); at_builtin; refine Kd.R_append_rows (Kd.int .u8) (w0 := w) w.heap.size rfl (.tmp 9) (.tmp 10) 22 5 (.int .u8 0) 1 rfl Try.underlying22 info5 rfl (by decide) (by omega) v117 y116 l1 _ _ _ (fun _ => True) (fun _ => False) rfl rfl ?aO ?aR (fun _ _ h => h) (fun _ h => h.elim) ?aF ?aB ?aS ?aL ?_; (case aR => repeat (first | exact (Kd.C_below HR1.out HB.out) | (with_reducible refine Kd.C_alloc ?_ _) | (with_reducible refine Kd.C_drewN ?_ _) | (with_reducible refine Kd.C_drew ?_))); (case aB => exact (by repeat (first | (with_reducible first | exact HB.out | apply below_alloc | apply pw_below_drewN | apply below_drew1) | exact HB.out))); (case aF => exact (fun _ _ => trivial)); (case aO => exact (by (with_reducible repeat (first | apply Kd.R_alloc | apply Kd.R_drewN | apply Kd.R_drew)); exact HO118.out)); (case aS => exact (below_size (by repeat (first | (with_reducible first | exact HB.out | apply below_alloc | apply pw_below_drewN | apply below_drew1) | exact HB.out)))); (case aL => have := LMc4.out; omega); intro v120 w6 ho hb hg hat; rw [← Ny119.out] at ho; have n0_ := Aside0.mk (hb); have n1_ := Aside0.mk (ho); clear HB; clear HO118; have HB := n0_; have HO121 := n1_; clear n0_ n1_; clear ho hb hg hat))
      go_ret
      exact ⟨_, by first | rfl | (simp [errW_none, errW_some] <;> rfl) | (simp [*, errW_none, errW_some] <;> rfl), by (with_reducible repeat (first | apply Kd.R_alloc | apply Kd.R_drewN | apply Kd.R_drew)); exact HO121.out, by repeat (first | (with_reducible first | exact HB.out | apply below_alloc | apply pw_below_drewN | apply below_drew1) | exact HB.out)⟩
    · rw [if_neg c4] at H
      exact absurd H (by simp)
  · rw [if_neg c3] at H
    exact absurd H (by simp)

/-! ### larderref01_PutWord: function 13 -/
def larderref01_PutWord.l0 : Nat → Int → List Int → Int → Option (List Int)
  | 0, _, _, _ => none
  | k + 1, x1, x5, x6 => if x6 < 8 then (if x5.length < 140737488355328 then (larderref01_PutWord.l0 k (IntKind.u64.wrap (Int.tdiv x1 256)) (x5 ++ [(Int.tmod x1 256) % 256]) (wrap64 (x6 + 1))) else (none)) else (some x5)
def larderref01_PutWord.f (k : Nat) (l0 : List Int) (a1 : Int) : Option (List Int) := (larderref01_joined.f l0 ([] : List Int)).bind fun t122 => (larderref01_PutWord.l0 k a1 t122 0)
theorem larderref01_PutWord.mono_l : ∀ k, (∀ y0 y1 y2, LeO (larderref01_PutWord.l0 k y0 y1 y2) (larderref01_PutWord.l0 (k + 1) y0 y1 y2))
  | 0 => fun _ _ _ r h => by simp [larderref01_PutWord.l0] at h
  | k + 1 => by
    have ih0 := larderref01_PutWord.mono_l k
    · intro y0 y1 y2
      unfold larderref01_PutWord.l0
      repeat' first
      | (with_reducible exact ih0 _ _ _)
      | (with_reducible exact LeO.refl _)
      | (with_reducible exact LeO.none _)
      | (with_reducible refine LeO.ite ?_ ?_)
      | (with_reducible refine LeO.bind ?_ (fun _ => ?_))
      | exact ih0 _ _ _
      | exact LeO.none _
      | refine LeO.ite ?_ ?_
      | refine LeO.bind ?_ (fun _ => ?_)
theorem larderref01_PutWord.mono : ∀ a0 a1 k, LeO (larderref01_PutWord.f k a0 a1) (larderref01_PutWord.f (k + 1) a0 a1) := by
  intro a0 a1 k
  have ih0 := larderref01_PutWord.mono_l k
  unfold larderref01_PutWord.f
  repeat' first
      | (with_reducible exact ih0 _ _ _)
      | (with_reducible exact LeO.refl _)
      | (with_reducible exact LeO.none _)
      | (with_reducible refine LeO.ite ?_ ?_)
      | (with_reducible refine LeO.bind ?_ (fun _ => ?_))
      | exact ih0 _ _ _
      | exact LeO.none _
      | refine LeO.ite ?_ ?_
      | refine LeO.bind ?_ (fun _ => ?_)
set_option maxHeartbeats 8000000 in
set_option maxRecDepth 100000 in
theorem larderref01_PutWord.calls (k : Nat) (A0 : Option Addr) (c0 : Nat) (l0 : List Int) (a1 : Int) (r : List Int) (w : World) (hr0 : Kd.C (Kd.int .u8) w A0 l0.length l0) (hc0 : l0.length ≤ c0) (h : larderref01_PutWord.f k l0 a1 = some r) :
    Calls Try.prog 13 #[.slice A0 l0.length c0, .int .u64 a1] w fun e w' => ∃ v0_ : Value, e = .returned (v0_) ∧ Kd.R (Kd.int .u8) 5 w' w.heap.size (fun _ => True) v0_ r ∧ Below w.heap.size w w' := by
  have HR0 := Aside0.mk hr0
  have HC0 := Aside0.mk hc0
  clear hr0 hc0
  have HB := Aside0.mk (Below.refl w.heap.size w)
  have H : ((larderref01_joined.f l0 ([] : List Int)).bind fun t122 => (larderref01_PutWord.l0 k a1 t122 0)) = some r := h
  clear h
  replace H := Option.bind_eq_some_iff.mp H
  obtain ⟨t122, A30, H⟩ := H
  replace H : (larderref01_PutWord.l0 k a1 t122 0) = some r := H
  have A3 := Aside0.mk A30
  clear A30
  have H' := Aside0.mk H
  clear H
  go_enter Try.func13, Try.ntmps13
  go_wp2_with (first | ((with_reducible refine gate_callee (f := 16) rfl ?_); refine goesL_ (some 8) rfl rfl Try.func16 (by kernel_rfl) rfl #[.slice A0 l0.length c0, .slice none 0 0] rfl (by (try simp only [List.map_toArray, List.map_cons, List.map_nil]); first | done | rfl | (simp only [List.length_drop, List.length_take]; rfl)) ?_; (refine (larderref01_joined.calls _ _ l0 _ _ ([] : List Int) t122 _ ?side1 ?side2 ?side3 ?side4 A3.out).mono ?_); (case side1 => repeat (first | exact HR0.out | (with_reducible refine Kd.C_alloc ?_ _) | (with_reducible refine Kd.C_drewN ?_ _) | (with_reducible refine Kd.C_drew ?_))); (case side2 => exact HC0.out); (case side3 => exact Kd.C_nil _ _); (case side4 => exact Nat.le_refl _); rintro e w4 ⟨v123, rfl, ho0, hb⟩; refine ⟨_, rfl, ?_⟩; have n0_ := Aside0.mk (Kd.R_lower ho0 (below_size (by repeat (first | (with_reducible first | exact HB.out | apply below_alloc | apply pw_below_drewN | apply below_drew1) | exact HB.out)))); have n1_ := Aside0.mk (below_step (by repeat (first | (with_reducible first | exact HB.out | apply below_alloc | apply pw_below_drewN | apply below_drew1) | exact HB.out)) hb); clear HB; have HO124 := n0_; have HB := n1_; clear n0_ n1_; (try clear hb); (try clear hb2); (try clear hk); (try clear hi); (try clear ho0)))
  go_loopg [1, 5, 6] k (fun kq v1 v5 v6 w' => ∃ (x1_1 : Int) (x5_1 : List Int) (x6_1 : Int), v1 = .int .u64 x1_1 ∧ v6 = .int .i64 x6_1 ∧ Aside0 (larderref01_PutWord.l0 kq x1_1 x5_1 x6_1 = some r) ∧ Aside0 (kq ≤ k) ∧ Aside0 (Kd.R (Kd.int .u8) 5 w' w.heap.size (fun _ => True) v5 x5_1) ∧ Aside0 (Below w.heap.size w w'))
  case atStart => exact ⟨(a1), (t122), (0), (by first | rfl | (simp; done) | (simp [*]; done)), (by first | rfl | (simp; done) | (simp [*]; done)), H', ⟨Nat.le_refl _⟩, ⟨by (with_reducible repeat (first | apply Kd.R_alloc | apply Kd.R_drewN | apply Kd.R_drew)); exact HO124.out⟩, ⟨by repeat (first | (with_reducible first | exact HB.out | apply below_alloc | apply pw_below_drewN | apply below_drew1) | exact HB.out)⟩⟩
  case round =>
    clear H'
    try clear c1
    try clear p2
    obtain ⟨x1_1, x5_1, x6_1, rfl, rfl, HA, HK1, HO_5, HB⟩ := hrel
    cases gk with
    | zero => exact absurd HA.out (by simp [larderref01_PutWord.l0])
    | succ k1 =>
      have H := HA.out
      clear HA
      simp only [larderref01_PutWord.l0] at H
      by_cases c5 : x6_1 < 8
      · rw [if_pos c5] at H
        have c5b0 : decide (x6_1 < 8) = true := decide_eq_true c5
        clear c5
        by_cases c6 : x5_1.length < 140737488355328
        · rw [if_pos c6] at H
          have LMc6 := Aside0.mk c6
          clear c6
          obtain ⟨y125, hy125⟩ : ∃ y_ : List Int, y_ = (x5_1 ++ [(Int.tmod x1_1 256) % 256]) := ⟨_, rfl⟩
          replace H : (larderref01_PutWord.l0 k1 (IntKind.u64.wrap (Int.tdiv x1_1 256)) y125 (wrap64 (x6_1 + 1))) = some r := by first | (rw [hy125]; with_reducible exact H) | (have H2_ := (Option.bind_some _ _).symm.trans H; rw [hy125]; with_reducible exact H2_) | (have H2_ := (Option.bind_some _ _).symm.trans H; with_reducible exact H2_) | with_reducible exact H | (rw [hy125]; exact H) | exact H
          have Ny125 := Aside0.mk hy125
          clear hy125
          have H' := Aside0.mk H
          clear H
          go_wp2_with (first | ((with_reducible refine gate_builtin (b := .append) (xs := #[.tmp 13, .tmp 17]) rfl ?_); at_builtin; refine Kd.R_append (Kd.int .u8) (w0 := w) w.heap.size rfl (.tmp 13) (.tmp 17) 22 5 (.int .u8 0) 1 rfl Try.underlying22 info5 rfl (by decide) (by omega) u5 x5_1 ((Int.tmod x1_1 256) % 256) [.int .u8 ((Int.tmod x1_1 256) % 256)] (fun _ => True) (fun _ => False) rfl rfl ?aP (fun _ hk => hk.elim) ?aF ?aO ?aB ?aS ?aL ?_; (case aP => exact rfl); (case aB => exact (by repeat (first | (with_reducible first | exact HB.out | apply below_alloc | apply pw_below_drewN | apply below_drew1) | exact HB.out))); (case aF => exact (fun _ _ => trivial)); (case aO => exact (by (with_reducible repeat (first | apply Kd.R_alloc | apply Kd.R_drewN | apply Kd.R_drew)); exact HO_5.out)); (case aS => exact (below_size (by repeat (first | (with_reducible first | exact HB.out | apply below_alloc | apply pw_below_drewN | apply below_drew1) | exact HB.out)))); (case aL => have := LMc6.out; omega); intro v126 w7 ho hb hg hat; rw [← Ny125.out] at ho; have n0_ := Aside0.mk (hb); have n1_ := Aside0.mk (ho); clear HB; clear HO_5; have HB := n0_; have HO127 := n1_; clear n0_ n1_; clear ho hb hg hat))
          go_roundg k1
          case measure => have := HK1.out; omega
          case rel => exact ⟨(IntKind.u64.wrap (Int.tdiv x1_1 256)), (y125), (wrap64 (x6_1 + 1)), (by first | rfl | (simp; done) | (simp [*]; done)), (by first | rfl | (simp; done) | (simp [*]; done)), H', ⟨by have := HK1.out; omega⟩, ⟨by (with_reducible repeat (first | apply Kd.R_alloc | apply Kd.R_drewN | apply Kd.R_drew)); exact HO127.out⟩, ⟨by repeat (first | (with_reducible first | exact HB.out | apply below_alloc | apply pw_below_drewN | apply below_drew1) | exact HB.out)⟩⟩
        · rw [if_neg c6] at H
          exact absurd H (by simp)
      · rw [if_neg c5] at H
        have c5b0 : decide (x6_1 < 8) = false := decide_eq_false c5
        clear c5
        obtain rfl := Option.some.inj H
        go_wp2
        go_ret
        exact ⟨_, by first | rfl | (simp [errW_none, errW_some] <;> rfl) | (simp [*, errW_none, errW_some] <;> rfl), by (with_reducible repeat (first | apply Kd.R_alloc | apply Kd.R_drewN | apply Kd.R_drew)); exact HO_5.out, by repeat (first | (with_reducible first | exact HB.out | apply below_alloc | apply pw_below_drewN | apply below_drew1) | exact HB.out)⟩

end Go.Proofs.Ytlblleideihhmab.PS
