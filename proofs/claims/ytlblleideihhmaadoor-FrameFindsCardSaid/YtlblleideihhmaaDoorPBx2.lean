-- Written by a program of this session (wip/pp), out of the translation.
import Derived.Test.YtlblleideihhmaaDoorPBx0
import Derived.Test.YtlblleideihhmaaDoorPBx1
namespace Go.Proofs.YtlblleideihhmaaDoor.PB
open Go.RowKit Go.Proofs.YtlblleideihhmaaDoor.Mine Go.Proofs.YtlblleideihhmaaDoorW.PrintWords Go.Proofs.YtlblleideihhmaaDoorW.PrintLast Go.Proofs.YtlblleideihhmaaDoorW.PrintMore
attribute [local go_sem] max2_int min2_int max_two min_two max_three min_three max_four min_four   -- for this text's walks alone
set_option linter.unusedVariables false
set_option linter.unusedSimpArgs false

/-! ### frame_Turned: function 28 (given) -/
def mv (x : Int) : Int := nib (nib x)
def findk (want : Int) : List Int → Nat → Option Nat
  | [], _ => none
  | x :: t, k => if x = want then some k else findk want t (k + 1)
def trn (want : Int) : Nat → List Int → Int × Bool
  | 0, _ => (-1, false)
  | n + 1, xs => match findk want xs 0 with
    | some k => (8 * (n : Int) + (k : Int), true)
    | none => trn want n (xs.map mv)
def bits0 : List Int := (List.range 8).map fun k => mv ((2 : Int) ^ k % 4294967296)
def Arr8 (w : World) (B : Nat) (xs : List Int) : Prop := xs.length = 8 ∧ w.heap[B]? = some (.cells (nums .u32 xs).toArray 100 (0, 0))
def frame_Turned.f (k : Nat) (l0 : List Int) (c : Int) : Option (Int × Bool) :=
  if (l0.length : Int) > 65536 then some (-1, false) else (frame_Crc.f k l0).bind fun t => some (trn (Go.bits .xor .u32 t c) l0.length bits0)

theorem arr_at {w : World} {B j : Nat} {xs : List Int} (h : Arr8 w B xs) (hj : j < 8) : w.cell? ⟨B, j, none⟩ = some (.int .u32 (xs.getD j 0)) ∧ w.frozen? ⟨B, j, none⟩ = false := by
  obtain ⟨hl, hb⟩ := h
  refine ⟨?_, by simp [World.frozen?, hb]⟩
  rw [cell_of_row _ _ _ _ _ _ hb]
  simp [nums, List.getD_eq_getElem?_getD, List.getElem?_eq_getElem (show j < xs.length by omega)]
theorem arr_set {w : World} {B j : Nat} {xs : List Int} (h : Arr8 w B xs) (x : Int) : Arr8 (w.setCell ⟨B, j, none⟩ (.int .u32 x)) B (xs.set j x) := by
  obtain ⟨hl, hb⟩ := h
  refine ⟨by simp [hl], ?_⟩
  rw [blk_set hb]
  simp [nums, List.map_set]
theorem arr_drewN {w : World} {B : Nat} {xs : List Int} (h : Arr8 w B xs) (n : Nat) : Arr8 (w.drewN n) B xs := h
theorem und100 : Tryd.prog.underlying 100 = some (.array 8 23) := by kernel_rfl
theorem size23 : (Tryd.prog.info? 23).map (·.size) = some 1 := by kernel_rfl
theorem size100 : (Tryd.prog.info? 100).map (·.size) = some 8 := by kernel_rfl
theorem arr_index (xs : List Int) (hl : xs.length = 8) (k : Nat) (hk : k < 8) : ∀ w : World, (Instr.index 100 (.agg (nums .u32 xs).toArray) (.int .i64 (k : Int))).run Tryd.prog w = .ok (.int .u32 (xs.getD k 0)) w := by
  intro w
  have hs : (sizeOf 23).run Tryd.prog w = .ok 1 w := by
    have := size23
    cases hq : Tryd.prog.info? 23 with
    | none => simp [hq] at this
    | some i => simp [hq] at this; simp [sizeOf, typeInfo, hq, this, Sem.run_bind]
  simp only [Instr.index, asIntOf, Sem.run_bind, Sem.run_pure, Result.andThen_ok, run_underlying und100 w]
  rw [if_pos ⟨by omega, by omega⟩]
  simp only [Sem.run_bind, hs, Result.andThen_ok]
  have hag : (isAgg 23).run Tryd.prog w = .ok false w := by kernel_rfl
  simp [part, Sem.run_bind, hag, nums, List.getD_eq_getElem?_getD, List.getElem?_eq_getElem (show k < xs.length by omega)]
theorem findk_next {want : Int} {xs : List Int} {k : Nat} (hk : k < xs.length) (hne : xs.getD k 0 ≠ want) : findk want (xs.drop k) k = findk want (xs.drop (k + 1)) (k + 1) := by
  rw [List.drop_eq_getElem_cons hk, findk, if_neg]
  rwa [List.getD_eq_getElem?_getD, List.getElem?_eq_getElem hk] at hne
theorem turned_here {want : Int} {xs : List Int} {k m : Nat} (hk : k < xs.length) (he : xs.getD k 0 = want) (h : findk want (xs.drop k) k = findk want xs 0) : trn want (m + 1) xs = (8 * (m : Int) + (k : Int), true) := by
  have h1 : findk want xs 0 = some k := by
    rw [← h, List.drop_eq_getElem_cons hk, findk, if_pos]
    rwa [List.getD_eq_getElem?_getD, List.getElem?_eq_getElem hk] at he
  simp only [trn, h1]
theorem map_at {xs : List Int} {k : Nat} {x : Int} (hk : k < xs.length) (h : xs.getD k 0 = x) : (xs.map mv)[k]? = some (mv x) := by
  rw [List.getElem?_map, List.getElem?_eq_getElem hk]
  rw [List.getD_eq_getElem?_getD, List.getElem?_eq_getElem hk] at h
  simp at h
  simp [h]
theorem turned_on {want : Int} {xs ys : List Int} {m : Nat} (hx : xs.length = 8) (hy : ys.length = 8) (h1 : ys.take 8 = (xs.map mv).take 8) (h : findk want (xs.drop 8) 8 = findk want xs 0) : trn want (m + 1) xs = trn want m ys := by
  rw [List.drop_of_length_le (by omega)] at h
  rw [List.take_of_length_le (by omega), List.take_of_length_le (by simp [hx])] at h1
  simp only [trn, ← h, findk, h1]
theorem bits0_length : bits0.length = 8 := by simp [bits0]
theorem bits0_at (j : Nat) (hj : j < 8) : bits0[j]? = some (mv ((2 : Int) ^ j % 4294967296)) := by simp [bits0, hj]
theorem take_set {xs ys : List Int} {j : Nat} {x : Int} (h : xs.take j = ys.take j) (hj : j < xs.length) (hy : ys[j]? = some x) : (xs.set j x).take (j + 1) = ys.take (j + 1) := by
  rw [List.take_add_one, List.take_add_one, hy, List.take_set_of_le (Nat.le_refl _), h]
  simp [hj]
theorem frame_Turned.mono : ∀ a0 a1 k, LeO (frame_Turned.f k a0 a1) (frame_Turned.f (k + 1) a0 a1) := by
  intro a0 a1 k
  unfold frame_Turned.f
  refine LeO.ite (LeO.refl _) ?_
  refine LeO.bind (frame_Crc.mono _ _) (fun _ => ?_)
  exact LeO.refl _
set_option maxHeartbeats 8000000 in
set_option maxRecDepth 100000 in
theorem frame_Turned.calls (k : Nat) (A0 : Option Addr) (c0 : Nat) (l0 : List Int) (a1 : Int) (r1 : Int) (r2 : Bool) (w : World) (hr0 : Kd.C (Kd.int .u8) w A0 l0.length l0) (hc0 : l0.length ≤ c0) (hT : Kd.C (Kd.int .u32) w (some ⟨0, 0, none⟩) 16 crcTab) (h : frame_Turned.f k l0 a1 = some (r1, r2)) :
    Calls Tryd.prog 28 #[.slice A0 l0.length c0, .int .u32 a1] w fun e w' => e = .returned (.tuple #[.int .i64 r1, .bool r2]) ∧ Below w.heap.size w w' := by
  unfold frame_Turned.f at h
  have hmax : l0.length ≤ 9223372036854775807 := Kd.C_max hr0
  by_cases hL : (l0.length : Int) > 65536
  · rw [if_pos hL] at h
    simp only [Option.some.injEq, Prod.mk.injEq] at h
    obtain ⟨rfl, rfl⟩ := h
    go_enter Tryd.func28, Tryd.ntmps28
    go_wp2
    go_ret2
    exact ⟨rfl, Below.refl _ _⟩
  · rw [if_neg hL] at h
    obtain ⟨t, ht, hh⟩ := Option.bind_eq_some_iff.mp h
    simp only [Option.some.injEq] at hh
    have HT := Aside0.mk ht
    have HH := Aside0.mk hh
    have HRT := Aside0.mk hT
    have HR0 := Aside0.mk hr0
    have HC0 := Aside0.mk hc0
    clear hr0 hc0 hT h ht hh
    have hle : (l0.length : Int) ≤ 65536 := by omega
    clear hL
    go_enter Tryd.func28, Tryd.ntmps28
    go_wp2_with (go_at_call 23; refine (frame_Crc.calls k _ _ l0 t _ HR0.out HC0.out HRT.out HT.out).mono ?_; rintro e w' ⟨rfl, ⟨nd, rfl⟩⟩)
    have hb0 : Below w.heap.size w ((w.drewN nd).alloc (Obj.cells #[Value.int IntKind.u32 0, Value.int IntKind.u32 0, Value.int IntKind.u32 0, Value.int IntKind.u32 0, Value.int IntKind.u32 0, Value.int IntKind.u32 0, Value.int IntKind.u32 0, Value.int IntKind.u32 0] 100)) := below_alloc (pw_below_drewN (Below.refl _ _) _) _
    have ha0 : Arr8 ((w.drewN nd).alloc (Obj.cells #[Value.int IntKind.u32 0, Value.int IntKind.u32 0, Value.int IntKind.u32 0, Value.int IntKind.u32 0, Value.int IntKind.u32 0, Value.int IntKind.u32 0, Value.int IntKind.u32 0, Value.int IntKind.u32 0] 100)) w.heap.size [0,0,0,0,0,0,0,0] := ⟨rfl, heap_alloc_new _ _⟩
    generalize (w.drewN nd).alloc (Obj.cells #[Value.int IntKind.u32 0, Value.int IntKind.u32 0, Value.int IntKind.u32 0, Value.int IntKind.u32 0, Value.int IntKind.u32 0, Value.int IntKind.u32 0, Value.int IntKind.u32 0, Value.int IntKind.u32 0] 100) = w1 at *
    have HB := Aside0.mk hb0
    have HA := Aside0.mk ha0
    clear hb0 ha0
    go_loopw [19] (fun i wr => ∃ (j : Nat) (xs : List Int), j ≤ 8 ∧ i = .int .i64 (j : Int) ∧ Aside0 (Arr8 wr w.heap.size xs ∧ xs.take j = bits0.take j) ∧ Aside0 (Below w.heap.size w wr)) (fun i _ => 8 - (intOf i).toNat)
    case atStart => exact ⟨0, _, by omega, rfl, ⟨HA.out, by simp⟩, HB⟩
    case round =>
      obtain ⟨j, xs, hj, rfl, HX, HBr⟩ := hrel
      by_cases hlt : j < 8
      · obtain ⟨hc, hf⟩ := arr_at HX.out.1 hlt
        have HTr := HRT.out
        have HTr := Aside0.mk (Kd.C_below HRT.out (HBr.out))
        go_wp2_with (go_at_call 61; refine (frame_moved.calls _ (mv _) _ HTr.out rfl).mono ?_; rintro e w' ⟨rfl, ⟨nd1, rfl⟩⟩)
        go_roundw
        case rel =>
          refine ⟨j + 1, xs.set j (mv ((2 : Int) ^ j % 4294967296)), by omega, by go_num, ⟨arr_set (arr_drewN HX.out.1 nd1) _, ?_⟩, ⟨(pw_below_drewN HBr.out nd1).setCell (Nat.le_refl _) _⟩⟩
          exact take_set HX.out.2 (by rw [HX.out.1.1]; exact hlt) (bits0_at j hlt)
        case measure => simp [intOf]; omega
      · have hx8 : xs = bits0 := by
          have := HX.out.2
          rw [show j = 8 by omega] at this
          rwa [List.take_of_length_le (by rw [HX.out.1.1]; exact Nat.le_refl _), List.take_of_length_le (by rw [bits0_length]; exact Nat.le_refl _)] at this
        have HA1 := Aside0.mk (hx8 ▸ HX.out.1)
        clear hx8 HX
        go_wp2_with fail
        go_loopw [9] (fun i wr => ∃ (n : Nat) (xs : List Int), n ≤ l0.length ∧ i = .int .i64 ((n : Int) - 1) ∧ Aside0 (Arr8 wr w.heap.size xs ∧ trn (bits BinOp.xor IntKind.u32 t a1) n xs = (r1, r2)) ∧ Aside0 (Below w.heap.size w wr)) (fun i _ => (intOf i + 1).toNat)
        case atStart => exact ⟨l0.length, _, by omega, rfl, ⟨HA1.out, HH.out⟩, HBr⟩
        case round =>
          clear HA1 HBr HB HA
          obtain ⟨n, xs, hn, rfl, HX, HBr⟩ := hrel
          cases n with
          | zero =>
            go_wp2_with fail
            go_ret2
            have := HX.out.2
            simp only [trn, Prod.mk.injEq] at this
            obtain ⟨rfl, rfl⟩ := this
            exact ⟨rfl, HBr.out⟩
          | succ m =>
            obtain ⟨i0, hi0⟩ : ∃ i0 : Int, ((m + 1 : Nat) : Int) - 1 = i0 := ⟨_, rfl⟩
            have hm0 : 0 ≤ i0 := by omega
            have hm1 : i0 < 65536 := by omega
            rw [hi0]
            have HI := Aside0.mk hi0
            clear hi0
            go_wp2_with (refine wpList_load_row rfl 100 (.tmp 7) rfl w.heap.size rfl 100 (nums .u32 xs).toArray (0, 0) _ HX.out.1.2 und100 rfl (by rw [size100]; simp [nums, HX.out.1.1]) ?_)
            go_loopw [36] (fun i wr => ∃ (k : Nat) (ys : List Int), k ≤ 8 ∧ i = .int .i64 (k : Int) ∧ Aside0 (Arr8 wr w.heap.size ys ∧ ys.take k = (xs.map mv).take k ∧ findk (bits BinOp.xor IntKind.u32 t a1) (xs.drop k) k = findk (bits BinOp.xor IntKind.u32 t a1) xs 0) ∧ Aside0 (Below w.heap.size w wr)) (fun i _ => 8 - (intOf i).toNat)
            case atStart => exact ⟨0, xs, by omega, rfl, ⟨HX.out.1, by simp, by simp⟩, HBr⟩
            case round =>
              clear HBr
              obtain ⟨k, ys, hk, rfl, HY, HBr⟩ := hrel
              by_cases hlt : k < 8
              · obtain ⟨hc, hf⟩ := arr_at HY.out.1 hlt
                have hix := arr_index xs HX.out.1.1 k hlt
                have HTr := Aside0.mk (Kd.C_below HRT.out HBr.out)
                obtain ⟨x, hx⟩ : ∃ x, xs.getD k 0 = x := ⟨_, rfl⟩
                rw [hx] at hix
                have HXK := Aside0.mk hx
                obtain ⟨wn, hwn⟩ : ∃ wn, bits BinOp.xor IntKind.u32 t a1 = wn := ⟨_, rfl⟩
                rw [hwn]
                have HWN := Aside0.mk hwn
                clear hx hwn
                by_cases he : x = wn
                · have HE := Aside0.mk he
                  have heb : (x == wn) = true := beq_iff_eq.2 he
                  clear he
                  go_wp2_with fail
                  go_ret2
                  have hfin : trn (bits BinOp.xor IntKind.u32 t a1) (m + 1) xs = (8 * (m : Int) + (k : Int), true) := turned_here (by rw [HX.out.1.1]; exact hlt) (by rw [HXK.out, HE.out, HWN.out]) HY.out.2.2
                  rw [HX.out.2] at hfin
                  simp only [Prod.mk.injEq] at hfin
                  obtain ⟨rfl, rfl⟩ := hfin
                  exact ⟨by have := HI.out; simp; omega, HBr.out⟩
                · have HE := Aside0.mk he
                  have heb : (x == wn) = false := beq_eq_false_iff_ne.2 he
                  clear he
                  go_wp2_with (go_at_call 61; refine (frame_moved.calls _ (mv _) _ HTr.out rfl).mono ?_; rintro e w' ⟨rfl, ⟨nd1, rfl⟩⟩)
                  go_roundw
                  case rel =>
                    refine ⟨k + 1, ys.set k (mv x), by omega, by go_num, ⟨arr_set (arr_drewN HY.out.1 nd1) _, ?_, ?_⟩, ⟨(pw_below_drewN HBr.out nd1).setCell (Nat.le_refl _) _⟩⟩
                    · exact take_set HY.out.2.1 (by rw [HY.out.1.1]; exact hlt) (map_at (by rw [HX.out.1.1]; exact hlt) HXK.out)
                    · rw [← HWN.out, ← HY.out.2.2]; exact (findk_next (by rw [HX.out.1.1]; exact hlt) (by rw [HXK.out, HWN.out]; exact HE.out)).symm
                  case measure => simp [intOf]; omega
              · obtain rfl : k = 8 := by omega
                go_wp2_with fail
                go_roundw
                case rel => exact ⟨m, ys, by omega, by have := HI.out; simp; omega, ⟨HY.out.1, (turned_on HX.out.1.1 HY.out.1.1 HY.out.2.1 HY.out.2.2).symm.trans HX.out.2⟩, HBr⟩
                case measure => simp [intOf]; omega

/-! ### larderref01_Turned: function 29 -/
def larderref01_Turned.l0 : Nat → Int → Int → Int → Option (Int × Bool)
  | 0, _, _, _ => none
  | k + 1, x6, x7, x8 => if x8 ≥ 0 then (if x7 = x6 then (some (x8, true)) else (if (Go.bits .and .u32 x7 1) = 1 then (larderref01_Turned.l0 k x6 (Go.bits .xor .u32 (x7 / 2) 2197175160) (wrap64 (x8 - 1))) else (larderref01_Turned.l0 k x6 (x7 / 2) (wrap64 (x8 - 1))))) else (some ((-1), false))
def larderref01_Turned.f (k : Nat) (l0 : List Int) (a1 : Int) : Option (Int × Bool) := if (l0.length : Int) > 65536 then (some ((-1), false)) else ((larderref01_Crc.f k l0).bind fun t106 => (larderref01_Turned.l0 k (Go.bits .xor .u32 t106 a1) 2197175160 (wrap64 ((wrap64 (8 * (l0.length : Int))) - 1))))
theorem larderref01_Turned.mono_l : ∀ k, (∀ y0 y1 y2, LeO (larderref01_Turned.l0 k y0 y1 y2) (larderref01_Turned.l0 (k + 1) y0 y1 y2))
  | 0 => fun _ _ _ r h => by simp [larderref01_Turned.l0] at h
  | k + 1 => by
    have ih0 := larderref01_Turned.mono_l k
    · intro y0 y1 y2
      unfold larderref01_Turned.l0
      repeat' first
      | (with_reducible exact ih0 _ _ _)
      | (with_reducible exact larderref01_Crc.mono _ _)
      | (with_reducible exact LeO.refl _)
      | (with_reducible exact LeO.none _)
      | (with_reducible refine LeO.ite ?_ ?_)
      | (with_reducible refine LeO.bind ?_ (fun _ => ?_))
      | exact ih0 _ _ _
      | exact larderref01_Crc.mono _ _
      | exact LeO.none _
      | refine LeO.ite ?_ ?_
      | refine LeO.bind ?_ (fun _ => ?_)
theorem larderref01_Turned.mono : ∀ a0 a1 k, LeO (larderref01_Turned.f k a0 a1) (larderref01_Turned.f (k + 1) a0 a1) := by
  intro a0 a1 k
  have ih0 := larderref01_Turned.mono_l k
  unfold larderref01_Turned.f
  repeat' first
      | (with_reducible exact ih0 _ _ _)
      | (with_reducible exact larderref01_Crc.mono _ _)
      | (with_reducible exact LeO.refl _)
      | (with_reducible exact LeO.none _)
      | (with_reducible refine LeO.ite ?_ ?_)
      | (with_reducible refine LeO.bind ?_ (fun _ => ?_))
      | exact ih0 _ _ _
      | exact larderref01_Crc.mono _ _
      | exact LeO.none _
      | refine LeO.ite ?_ ?_
      | refine LeO.bind ?_ (fun _ => ?_)
set_option maxHeartbeats 8000000 in
set_option maxRecDepth 100000 in
theorem larderref01_Turned.calls (k : Nat) (A0 : Option Addr) (c0 : Nat) (l0 : List Int) (a1 : Int) (r1 : Int) (r2 : Bool) (w : World) (hr0 : Kd.C (Kd.int .u8) w A0 l0.length l0) (hc0 : l0.length ≤ c0) (h : larderref01_Turned.f k l0 a1 = some (r1, r2)) :
    Calls Tryd.prog 29 #[.slice A0 l0.length c0, .int .u32 a1] w fun e w' => e = .returned (.tuple #[.int .i64 r1, .bool r2]) ∧ Drawn0 w w' := by
  have HR0 := Aside0.mk hr0
  have HC0 := Aside0.mk hc0
  clear hr0 hc0
  have H : (if (l0.length : Int) > 65536 then (some ((-1), false)) else ((larderref01_Crc.f k l0).bind fun t106 => (larderref01_Turned.l0 k (Go.bits .xor .u32 t106 a1) 2197175160 (wrap64 ((wrap64 (8 * (l0.length : Int))) - 1))))) = some (r1, r2) := h
  clear h
  by_cases c3 : (l0.length : Int) > 65536
  · rw [if_pos c3] at H
    have c3b0 : decide (65536 < (l0.length : Int)) = true := decide_eq_true c3
    have c3b1 : decide (65536 < l0.length) = true := decide_eq_true (by omega)
    clear c3
    simp only [Option.some.injEq, Prod.mk.injEq] at H
    obtain ⟨rfl, rfl⟩ := H
    go_enter Tryd.func29, Tryd.ntmps29
    go_wp2
    go_ret2
    exact ⟨by first | rfl | (simp; done) | (simp [*]; done), by repeat (first | exact Drawn0.refl _ | apply Drawn0.step)⟩
  · rw [if_neg c3] at H
    have c3b0 : decide (65536 < (l0.length : Int)) = false := decide_eq_false c3
    have c3b1 : decide (65536 < l0.length) = false := decide_eq_false (by omega)
    clear c3
    replace H := Option.bind_eq_some_iff.mp H
    obtain ⟨t106, A40, H⟩ := H
    replace H : (larderref01_Turned.l0 k (Go.bits .xor .u32 t106 a1) 2197175160 (wrap64 ((wrap64 (8 * (l0.length : Int))) - 1))) = some (r1, r2) := H
    have A4 := Aside0.mk A40
    clear A40
    have H' := Aside0.mk H
    clear H
    go_enter Tryd.func29, Tryd.ntmps29
    go_wp2_with (first | ((with_reducible refine gate_callee (f := 25) rfl ?_); refine goesL_ (some 14) rfl rfl Tryd.func25 (by kernel_rfl) rfl #[.slice A0 l0.length c0] rfl (by (try simp only [List.map_toArray, List.map_cons, List.map_nil]); first | done | rfl | (simp only [List.length_drop, List.length_take]; rfl)) ?_; (with_reducible refine (larderref01_Crc.calls k _ _ l0 t106 _ ?side1 ?side2 A4.out).mono ?_); (case side1 => repeat (first | exact HR0.out | (with_reducible refine Kd.C_alloc ?_ _) | (with_reducible refine Kd.C_drewN ?_ _) | (with_reducible refine Kd.C_drew ?_))); (case side2 => exact HC0.out); rintro e w' ⟨rfl, ⟨nd, rfl⟩⟩; refine ⟨_, rfl, ?_⟩))
    go_loopg [7, 8] k (fun kq v7 v8 w' => ∃ (x7_1 : Int) (x8_1 : Int), v7 = .int .u32 x7_1 ∧ v8 = .int .i64 x8_1 ∧ Aside0 (larderref01_Turned.l0 kq (Go.bits .xor .u32 t106 a1) x7_1 x8_1 = some (r1, r2)) ∧ Aside0 (kq ≤ k) ∧ Drawn0 w w')
    case atStart => exact ⟨(2197175160), (wrap64 ((wrap64 (8 * (l0.length : Int))) - 1)), (by first | rfl | (simp; done) | (simp [*]; done)), (by first | rfl | (simp; done) | (simp [*]; done)), H', ⟨Nat.le_refl _⟩, by repeat (first | exact Drawn0.refl _ | apply Drawn0.step)⟩
    case round =>
      clear H'
      try clear c2
      try clear p2
      try clear c3
      try clear c3b0
      try clear c3b1
      obtain ⟨x7_1, x8_1, rfl, rfl, HA, HK1, ⟨m1, rfl⟩⟩ := hrel
      cases gk with
      | zero => exact absurd HA.out (by simp [larderref01_Turned.l0])
      | succ k1 =>
        have H := HA.out
        clear HA
        simp only [larderref01_Turned.l0] at H
        by_cases c5 : x8_1 ≥ 0
        · rw [if_pos c5] at H
          have c5b0 : decide (0 ≤ x8_1) = true := decide_eq_true c5
          clear c5
          by_cases c6 : x7_1 = (Go.bits .xor .u32 t106 a1)
          · rw [if_pos c6] at H
            have c6b0 : (x7_1 == (Go.bits .xor .u32 t106 a1)) = true := beq_iff_eq.mpr c6
            have c6b1 : (x7_1 != (Go.bits .xor .u32 t106 a1)) = false := bne_eq_false_iff_eq.mpr c6
            clear c6
            simp only [Option.some.injEq, Prod.mk.injEq] at H
            obtain ⟨rfl, rfl⟩ := H
            go_wp2
            go_ret2
            exact ⟨by first | rfl | (simp; done) | (simp [*]; done), by repeat (first | exact Drawn0.refl _ | apply Drawn0.step)⟩
          · rw [if_neg c6] at H
            have c6b0 : (x7_1 == (Go.bits .xor .u32 t106 a1)) = false := beq_eq_false_iff_ne.mpr c6
            have c6b1 : (x7_1 != (Go.bits .xor .u32 t106 a1)) = true := bne_iff_ne.mpr c6
            by_cases c7 : (Go.bits .and .u32 x7_1 1) = 1
            · rw [if_pos c7] at H
              have c7b0 : ((Go.bits .and .u32 x7_1 1) == 1) = true := beq_iff_eq.mpr c7
              have c7b1 : ((Go.bits .and .u32 x7_1 1) != 1) = false := bne_eq_false_iff_eq.mpr c7
              clear c7
              have H' := Aside0.mk H
              clear H
              go_wp2
              go_roundg k1
              case measure => have := HK1.out; omega
              case rel => exact ⟨(Go.bits .xor .u32 (x7_1 / 2) 2197175160), (wrap64 (x8_1 - 1)), (by first | rfl | (simp; done) | (simp [*]; done)), (by first | rfl | (simp; done) | (simp [*]; done)), H', ⟨by have := HK1.out; omega⟩, by repeat (first | exact Drawn0.refl _ | apply Drawn0.step)⟩
            · rw [if_neg c7] at H
              have c7b0 : ((Go.bits .and .u32 x7_1 1) == 1) = false := beq_eq_false_iff_ne.mpr c7
              have c7b1 : ((Go.bits .and .u32 x7_1 1) != 1) = true := bne_iff_ne.mpr c7
              have H' := Aside0.mk H
              clear H
              go_wp2
              go_roundg k1
              case measure => have := HK1.out; omega
              case rel => exact ⟨(x7_1 / 2), (wrap64 (x8_1 - 1)), (by first | rfl | (simp; done) | (simp [*]; done)), (by first | rfl | (simp; done) | (simp [*]; done)), H', ⟨by have := HK1.out; omega⟩, by repeat (first | exact Drawn0.refl _ | apply Drawn0.step)⟩
        · rw [if_neg c5] at H
          have c5b0 : decide (0 ≤ x8_1) = false := decide_eq_false c5
          clear c5
          simp only [Option.some.injEq, Prod.mk.injEq] at H
          obtain ⟨rfl, rfl⟩ := H
          go_wp2
          go_ret2
          exact ⟨by first | rfl | (simp; done) | (simp [*]; done), by repeat (first | exact Drawn0.refl _ | apply Drawn0.step)⟩

/-! ### larderlaw01_within: function 30 -/
def larderlaw01_within.f (a0 : Int) (a1 : Int) : Option (Int) := if a1 = 0 then (none) else (if (Int.tmod a0 a1) < 0 then (some (wrap64 ((Int.tmod a0 a1) + a1))) else (some (Int.tmod a0 a1)))
set_option maxHeartbeats 8000000 in
set_option maxRecDepth 100000 in
theorem larderlaw01_within.calls (a0 : Int) (a1 : Int) (r : Int) (w : World) (h : larderlaw01_within.f a0 a1 = some r) :
    Calls Tryd.prog 30 #[.int .i64 a0, .int .i64 a1] w fun e w' => e = .returned (.int .i64 r) ∧ Drawn0 w w' := by
  have H : (if a1 = 0 then (none) else (if (Int.tmod a0 a1) < 0 then (some (wrap64 ((Int.tmod a0 a1) + a1))) else (some (Int.tmod a0 a1)))) = some r := h
  clear h
  by_cases c3 : a1 = 0
  · rw [if_pos c3] at H
    exact absurd H (by simp)
  · rw [if_neg c3] at H
    have c3b0 : (a1 == 0) = false := beq_eq_false_iff_ne.mpr c3
    have c3b1 : (a1 != 0) = true := bne_iff_ne.mpr c3
    by_cases c4 : (Int.tmod a0 a1) < 0
    · rw [if_pos c4] at H
      have c4b0 : decide ((Int.tmod a0 a1) < 0) = true := decide_eq_true c4
      clear c4
      obtain rfl := Option.some.inj H
      go_enter Tryd.func30, Tryd.ntmps30
      go_wp2
      go_ret
      exact ⟨by first | rfl | (simp; done) | (simp [*]; done), by repeat (first | exact Drawn0.refl _ | apply Drawn0.step)⟩
    · rw [if_neg c4] at H
      have c4b0 : decide ((Int.tmod a0 a1) < 0) = false := decide_eq_false c4
      clear c4
      obtain rfl := Option.some.inj H
      go_enter Tryd.func30, Tryd.ntmps30
      go_wp2
      go_ret
      exact ⟨by first | rfl | (simp; done) | (simp [*]; done), by repeat (first | exact Drawn0.refl _ | apply Drawn0.step)⟩

end Go.Proofs.YtlblleideihhmaaDoor.PB
