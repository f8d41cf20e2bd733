/- Bytes of one's own in memory: a row of bytes, whatever stands behind it in its block; copied into, cut, read. The disk's small functions, walked: slices.Clone, part, full, all. A disk in memory: its block, what it was made of, what is seen, its operations. disk.New, walked. (*disk.Disk).Write, walked. The disk's operations in memory, read: an element, the flush, their comparison. -/
import Derived.Test.YtpaonoaedjkekaaDoorProg
import Derived.Test.YtpaonoaedjkekaaDoorWMore
import Derived.Laws.CopyRow
import Derived.Laws.IdiomCopy
import Derived.WalkKit
import Derived.Test.YtpaonoaedjkekaaDoorPDx0
import Derived.Test.YtpaonoaedjkekaaDoorPDx1
import Derived.Laws.CopyOwn
import Derived.Test.YtpaonoaedjkekaaDoorWKept
import Derived.Great.BuildSlice
import Derived.Great.Walk
import Derived.Deep.Cut
import Derived.Deep.RegionLaw
import Derived.Laws.StructEq
import Derived.Deep.QuietTactic
import Derived.Test.YtpaonoaedjkekaaDoorWEqStruct
namespace Go.Proofs.YtpaonoaedjkekaaDoor.Dk
open Go Go.RowKit Go.Proofs.YtpaonoaedjkekaaDoorW.PrintWords Go.Proofs.YtpaonoaedjkekaaDoorW.PrintMore
set_option linter.unusedVariables false
set_option linter.unusedSimpArgs false
def cellsB (xs : List Int) : List Value := xs.map (Value.int .u8)
theorem cellsB_len (xs : List Int) : (cellsB xs).length = xs.length := by simp [cellsB]
/-- Bytes at the beginning of the block g. -/
def Mem (W : World) (g : Nat) (xs : List Int) : Prop := ∃ cur : Array Value, W.heap[g]? = some (.cells cur 5 (0, 0)) ∧ cur.toList.take xs.length = cellsB xs
theorem Mem.lt {W : World} {g : Nat} {xs : List Int} (h : Mem W g xs) : g < W.heap.size := by
  obtain ⟨_, h, _⟩ := h
  exact (Array.getElem?_eq_some_iff.1 h).1
theorem Mem.move {W W' : World} {g : Nat} {xs : List Int} (h : Mem W g xs) (e : W'.heap[g]? = W.heap[g]?) : Mem W' g xs := by
  obtain ⟨cur, h1, h2⟩ := h
  exact ⟨cur, e.trans h1, h2⟩
theorem Mem.below {W W' : World} {g : Nat} {xs : List Int} (h : Mem W g xs) (hb : Below W.heap.size W W') : Mem W' g xs := h.move (hb.block g h.lt)
theorem Mem.size {W : World} {g : Nat} {xs : List Int} {cur : Array Value} (h1 : W.heap[g]? = some (.cells cur 5 (0, 0))) (h2 : cur.toList.take xs.length = cellsB xs) : xs.length ≤ cur.size := by
  have h3 := congrArg List.length h2
  have h4 : cur.toList.length = cur.size := Array.length_toList
  rw [List.length_take, cellsB_len] at h3
  omega
theorem Mem.cell {W : World} {g : Nat} {xs : List Int} (h : Mem W g xs) (j : Nat) (hj : j < xs.length) : W.cell? ⟨g, j, none⟩ = some (.int .u8 (xs.getD j 0)) := by
  obtain ⟨cur, h1, h2⟩ := h
  rw [cell_of_row W g j cur 5 (0, 0) h1, ← Array.getElem?_toList]
  have := congrArg (fun l => l[j]?) h2
  simp only [List.getElem?_take, if_pos hj] at this
  rw [this]
  simp [cellsB, List.getElem?_eq_getElem hj, List.getD_eq_getElem?_getD]
theorem add_off (g o j : Nat) : (⟨g, o, none⟩ : Addr).add j = ⟨g, o + j, none⟩ := by
  unfold Addr.add
  split
  · rename_i h; simp [h]
  · rfl
/-- A cut of it is read. -/
theorem Mem.sub {W : World} {g : Nat} {xs : List Int} (h : Mem W g xs) (o n : Nat) (hf : o + n ≤ xs.length) (hn : n ≤ 9223372036854775807) : Kd.C (Kd.int .u8) W (some ⟨g, o, none⟩) n ((xs.drop o).take n) := by
  have hl : ((xs.drop o).take n).length = n := by rw [List.length_take, List.length_drop]; omega
  refine Kd.C_of_reads (d := (0 : Int)) (h1 := fun _ => rfl) ⟨hl, hn, fun _ => ⟨_, rfl, fun j hj => ?_⟩⟩
  have := h.cell (o + j) (by omega)
  rw [add_off, this]
  congr 2
  rw [List.getD_eq_getElem?_getD, List.getD_eq_getElem?_getD, List.getElem?_take, if_pos hj, List.getElem?_drop]
theorem Mem.all {W : World} {g : Nat} {xs : List Int} (h : Mem W g xs) (hn : xs.length ≤ 9223372036854775807) : Kd.C (Kd.int .u8) W (some ⟨g, 0, none⟩) xs.length xs := by
  have := h.sub 0 xs.length (by omega) hn
  rwa [List.drop_zero, List.take_length] at this
/-- n bytes copied in at o. -/
theorem Mem.copy {P : Program} {dT sT ty : TypeId} (hu : P.underlying dT = some (.slice 5)) (hs : (P.info? 5).map (·.size) = some 1) {W : World} {g : Nat} {xs ys : List Int} (h : Mem W g xs) (o n dLen dCap c : Nat) (A : Option Addr) (hC : Kd.C (Kd.int .u8) W A n ys) (hd : n ≤ dLen) (hf : o + n ≤ xs.length) :
    ∃ cs : Array Value, (Builtin.copy_ #[dT, sT] ty #[.slice (some ⟨g, o, none⟩) dLen dCap, .slice A n c]).run P W = .ok (goInt n) (W.setRow g cs) ∧ Mem (W.setRow g cs) g (xs.take o ++ ys ++ xs.drop (o + n)) := by
  obtain ⟨cur, h1, h2⟩ := h
  have hsz := Mem.size h1 h2
  have hyl : ys.length = n := Kd.C_len hC
  rcases Nat.eq_zero_or_pos n with h0 | h0
  · subst h0
    obtain rfl : ys = [] := List.eq_nil_of_length_eq_zero hyl
    have hr := run_copy_none (P := P) W dT sT ty 5 (some ⟨g, o, none⟩) A dLen dCap 0 c hu hs (Nat.min_eq_left (Nat.zero_le _))
    refine ⟨cur, ?_, ?_⟩
    · rw [setRow_self W g cur _ (0, 0) h1]; exact hr
    · rw [setRow_self W g cur _ (0, 0) h1, List.append_nil, Nat.add_zero, List.take_append_drop]
      exact ⟨cur, h1, h2⟩
  obtain ⟨ad, rfl, hcell⟩ := (Kd.reads_of_C (d := (0 : Int)) (h1 := fun _ => rfl) hC).2.2 h0
  have hr := run_copy_row (P := P) W dT sT ty 5 g o dLen dCap ad n c cur 5 (cellsB ys) hu hs h1 (by rw [cellsB_len, hyl]; exact (Nat.min_eq_left hd).symm) (fun j v hv => by
    obtain ⟨hj, rfl⟩ := List.getElem?_eq_some_iff.1 hv
    have hj2 : j < ys.length := by rw [cellsB_len] at hj; exact hj
    rw [hcell j (by omega)]
    simp [cellsB, List.getD_eq_getElem?_getD, List.getElem?_eq_getElem hj2]) (by rw [cellsB_len]; omega) (fun v hv => by
    obtain ⟨x, _, rfl⟩ := List.mem_map.1 hv
    rfl)
  rw [cellsB_len, hyl] at hr
  refine ⟨_, hr, ?_⟩
  have e1 : cur.toList.take o = cellsB (xs.take o) := by
    have := congrArg (List.take o) h2
    rw [List.take_take, Nat.min_eq_left (by omega)] at this
    rw [this]
    simp [cellsB, List.map_take]
  refine ⟨_, setRow_heap W g cur _ 5 (0, 0) h1, ?_⟩
  have hl : (xs.take o ++ ys ++ xs.drop (o + n)).length = xs.length := by
    rw [List.length_append, List.length_append, List.length_take, List.length_drop, hyl]; omega
  rw [hl]
  have e2 : (cur.toList.drop (o + n)).take (xs.length - (o + n)) = cellsB (xs.drop (o + n)) := by
    have := congrArg (List.drop (o + n)) h2
    rw [List.drop_take] at this
    rw [this]
    simp [cellsB, List.map_drop]
  have l1 : (cur.toList.take o ++ cellsB ys).length = o + n := by rw [List.length_append, List.length_take, cellsB_len, hyl, Array.length_toList]; omega
  show List.take xs.length (cur.toList.take o ++ cellsB ys ++ cur.toList.drop (o + n)) = _
  rw [List.take_append, l1, List.take_of_length_le (by rw [l1]; exact hf), e2, e1]
  simp [cellsB]
theorem Mem.R_out {W : World} {g c B : Nat} {xs : List Int} {ok : Nat → Prop} {cur : Array Value} (h1 : W.heap[g]? = some (.cells cur 5 (0, 0))) (h2 : cur.toList.take xs.length = cellsB xs) (hc : cur.size = c) (hc2 : c ≤ 9223372036854775807) (hB : B ≤ g) (hok : ok g) : (Kd.int .u8).R 5 W B ok (.slice (some ⟨g, 0, none⟩) xs.length c) xs := by
  refine Kd.R_of_own ?_ (fun k hk => by
    have : g = k := by simpa [Value.ownBlock] using hk
    exact this ▸ hok)
  have hsz := Mem.size h1 h2
  refine ⟨by rw [encs_length, Nat.mul_one], .inr ⟨g, c, cur, rfl, hB, h1, by omega, by simp [maxLen]; omega, by omega, by rw [Nat.mul_one, h2]; rfl⟩⟩
theorem Mem.of_R {W : World} {B : Nat} {ok : Nat → Prop} {v : Value} {xs : List Int} (h : (Kd.int .u8).R 5 W B ok v xs) (hp : 0 < xs.length) : ∃ g c, v = .slice (some ⟨g, 0, none⟩) xs.length c ∧ Mem W g xs ∧ B ≤ g ∧ ok g ∧ xs.length ≤ c := by
  have ho := Kd.own_of_R h
  rcases ho.2 with ⟨_, h0⟩ | ⟨g, cap, cur, rfl, hB, hh, hc, _, _, ht⟩
  · omega
  · rw [Nat.mul_one] at ht
    exact ⟨g, cap, rfl, ⟨cur, hh, by rw [ht]; rfl⟩, hB, h.1 g rfl, hc⟩
theorem Mem.made (W : World) (n : Nat) (cur : Array Value) (hc : cur.toList = cellsB (List.replicate n 0)) : Mem (W.alloc (.cells cur 5)) W.heap.size (List.replicate n 0) :=
  ⟨cur, heap_alloc_new W _, by rw [hc, List.take_of_length_le (by rw [cellsB_len]; omega)]⟩
end Go.Proofs.YtpaonoaedjkekaaDoor.Dk
namespace Go.Proofs.YtpaonoaedjkekaaDoor.Dk
open Go Go.RowKit Go.Proofs.YtpaonoaedjkekaaDoor.PD Go.Proofs.YtpaonoaedjkekaaDoorW.PrintWords Go.Proofs.YtpaonoaedjkekaaDoorW.PrintLast Go.Proofs.YtpaonoaedjkekaaDoorW.PrintMore
set_option linter.unusedVariables false
set_option linter.unusedSimpArgs false
set_option maxHeartbeats 4000000
set_option maxRecDepth 100000
theorem info5' : (Tryd.prog.info? 5).map (fun i => (i.zero, i.size, i.bytes)) = some (some (.int .u8 0), 1, 1) := by kernel_rfl
theorem clone_at (ad : Addr) (n c : Nat) (xs : List Int) (w : World) (hC : Kd.C (Kd.int .u8) w (some ad) n xs) (hn : 0 < n) (hn2 : n < 140737488355328) :
    Calls Tryd.prog 39 #[.slice (some ad) n c] w fun e w' => ∃ g c', e = .returned (.slice (some ⟨g, 0, none⟩) n c') ∧ Mem w' g xs ∧ w.heap.size ≤ g ∧ n ≤ c' ∧ Below w.heap.size w w' := by
  have HC := Aside0.mk hC
  have hxl : xs.length = n := Kd.C_len hC
  have HX := Aside0.mk hxl
  have HN := Aside0.mk hn
  have HE := Aside0.mk (show (Kd.int .u8).R 5 (w.alloc (.cells #[] 5)) w.heap.size (fun _ => True) (.slice (some ⟨w.heap.size, 0, none⟩) 0 0) ([] : List Int) from
    Kd.R_of_own (World.ownsRow_made w #[] 0 (Nat.le_refl _) (by decide) rfl) (fun _ _ => trivial))
  clear hC hxl
  have hq := fun w : World => Lib.run_eql_slice_nil (P := Tryd.prog) w 29 5 (some ad) n c 0 0 Tryd.underlying29
  go_enter Tryd.func39, Tryd.ntmps39
  go_wp2_with (first | (
    (with_reducible refine gate_builtin (b := .append) (xs := #[.tmp 5, .tmp 6]) rfl ?_)
    at_builtin
    refine Kd.R_append_rows (Kd.int .u8) (Rr := (Kd.int .u8).K (w.alloc (.cells #[] 5))) (w0 := w) w.heap.size rfl (.tmp 5) (.tmp 6) 29 5 (.int .u8 0) 1 rfl Tryd.underlying29 info5' rfl (by decide) (by decide) (.slice (some ⟨w.heap.size, 0, none⟩) 0 0) [] xs (some ad) n c (fun _ => True) (fun _ => False) rfl rfl HE.out (Kd.C_alloc HC.out _) (fun _ _ h => h) (fun _ h => h.elim) (fun _ _ => trivial) (below_alloc (Below.refl _ _) _) (by simp) (by simp; omega) ?_
    intro v1 w1 ho hb hg hat
    rw [List.nil_append] at ho
    obtain ⟨g, c', ev, hm, hB, _, hle⟩ := Mem.of_R ho (by rw [HX.out]; exact HN.out)
    rw [HX.out] at ev hle
    subst ev
    have HR := Aside0.mk (show Mem w1 g xs ∧ w.heap.size ≤ g ∧ n ≤ c' ∧ Below w.heap.size w w1 from ⟨hm, hB, hle, hb⟩)
    clear ho hb hg hat hm hB hle))
  go_ret
  exact ⟨g, c', rfl, HR.out.1, HR.out.2.1, HR.out.2.2.1, HR.out.2.2.2⟩
/-- part(image, k): a sector of an image. -/
theorem part_at (g n c k : Nat) (w : World) (hk : 128 * k + 128 ≤ n) (hnc : n ≤ c) (hn : n < 140737488355328) :
    Calls Tryd.prog 38 #[.slice (some ⟨g, 0, none⟩) n c, .int .i64 (k : Int)] w fun e w' => e = .returned (.slice (some ⟨g, 128 * k, none⟩) 128 128) ∧ w' = w := by
  have h1 : wrap64 ((k : Int) * 128) = ((128 * k : Nat) : Int) := by unfold wrap64; omega
  have h2 : wrap64 ((k : Int) + 1) = ((k + 1 : Nat) : Int) := by unfold wrap64; omega
  have h3 : wrap64 (((k + 1 : Nat) : Int) * 128) = ((128 * k + 128 : Nat) : Int) := by unfold wrap64; omega
  go_enter Tryd.func38, Tryd.ntmps38
  go_wp2_with fail
  go_ret
  refine ⟨?_, rfl⟩
  rw [show k * 128 = 128 * k from by omega, show (k + 1) * 128 - 128 * k = 128 from by omega]
  rfl
end Go.Proofs.YtpaonoaedjkekaaDoor.Dk
namespace Go.Proofs.YtpaonoaedjkekaaDoor.Dk
open Go Go.RowKit Go.Proofs.YtpaonoaedjkekaaDoor.PD Go.Proofs.YtpaonoaedjkekaaDoorW.PrintWords Go.Proofs.YtpaonoaedjkekaaDoorW.PrintLast Go.Proofs.YtpaonoaedjkekaaDoorW.PrintMore
set_option linter.unusedVariables false
set_option linter.unusedSimpArgs false
set_option maxHeartbeats 4000000
set_option maxRecDepth 100000
abbrev kop : Kd (Int × List Int) := Kd.pair (Kd.int .i64) (Kd.arr 128 (Kd.int .u8) (by decide))
abbrev ptr (g : Nat) : Value := .pointer (some ⟨g, 0, none⟩)
abbrev sl (g n c : Nat) : Value := .slice (some ⟨g, 0, none⟩) n c
/-- A row of cells in a block of type t. -/
abbrev Rt (t g : Nat) (vs : List Value) (W : World) : Prop := W.heap[g]? = some (.cells vs.toArray t (0, 0))
theorem Rt.cell {t g : Nat} {vs : List Value} {W : World} (h : Rt t g vs W) (k : Nat) (v : Value) (hk : vs[k]? = some v) : W.cell? ⟨g, k, none⟩ = some v := by
  rw [cell_of_row W g k _ _ _ h]
  simpa using hk
theorem Rt.free {t g : Nat} {vs : List Value} {W : World} (h : Rt t g vs W) (k : Nat) : W.frozen? ⟨g, k, none⟩ = false := by simp [World.frozen?, h]
theorem Rt.set {t g : Nat} {vs : List Value} {W : World} (h : Rt t g vs W) (k : Nat) (v : Value) : W.setCell ⟨g, k, none⟩ v = W.setRow g (vs.set k v).toArray := by
  unfold World.setCell World.setRow
  congr 1
  apply Array.ext
  · simp
  · intro i h1 h2
    simp only [Array.getElem_modify]
    by_cases e : g = i
    · subst e
      have hlt : g < W.heap.size := by simpa using h1
      have hv : W.heap[g] = .cells vs.toArray t (0, 0) := (Array.getElem?_eq_some_iff.1 h).2
      simp [hv]
    · simp [e]
theorem Rt.row {t g : Nat} {vs : List Value} {W : World} (h : Rt t g vs W) (us : List Value) : Rt t g us (W.setRow g us.toArray) := setRow_heap W g _ _ _ _ h
theorem Rt.lt {t g : Nat} {vs : List Value} {W : World} (h : Rt t g vs W) : g < W.heap.size := (Array.getElem?_eq_some_iff.1 h).1
theorem below_setRow' {B g : Nat} {w0 w : World} (hb : Below B w0 w) (hBg : B ≤ g) (cs : Array Value) : Below B w0 (w.setRow g cs) :=
  ⟨hb.os, hb.tape, hb.output, by rw [setRow_size]; exact hb.size, fun k hk => (setRow_other w g k cs (by omega)).trans (hb.block k hk)⟩
structure Hd where
  D : Nat
  gf : Nat
  gs : Nat
  n : Nat
  cf : Nat
  cs : Nat
abbrev dsk (h : Hd) (vo : Value) : List Value := [sl h.gf h.n h.cf, sl h.gs h.n h.cs, vo]
structure DkAt (h : Hd) (B : Nat) (fs ss : List Int) (vo : Value) (ops : List (Int × List Int)) (W : World) : Prop where
  row : Rt 77 h.D (dsk h vo) W
  f : Mem W h.gf fs
  s : Mem W h.gs ss
  o : kop.R 83 W B (fun _ => True) vo ops
  lf : fs.length = h.n
  ls : ss.length = h.n
  bd : B ≤ h.D
  bf : B ≤ h.gf
  bs : B ≤ h.gs
  ne : h.gf ≠ h.gs
  cf : h.n ≤ h.cf
  cs : h.n ≤ h.cs
  big : h.n ≤ 524288
  pos : 0 < h.n
  few : ops.length ≤ 65536
theorem DkAt.size {h : Hd} {B : Nat} {fs ss : List Int} {vo : Value} {ops : List (Int × List Int)} {W : World} (k : DkAt h B fs ss vo ops W) : B ≤ W.heap.size := Nat.le_of_lt (Nat.lt_of_le_of_lt k.bd k.row.lt)
theorem DkAt.stay {h : Hd} {B : Nat} {fs ss : List Int} {vo : Value} {ops : List (Int × List Int)} {W W1 : World} (k : DkAt h B fs ss vo ops W) (hb : Below W.heap.size W W1) : DkAt h B fs ss vo ops W1 :=
  { k with row := (hb.block _ k.row.lt).trans k.row, f := k.f.below hb, s := k.s.below hb, o := Kd.R_below k.o hb }
theorem Mem.dne {W : World} {g D t : Nat} {xs : List Int} {vs : List Value} (h : Mem W g xs) (hr : Rt t D vs W) (ht : t ≠ 5) : g ≠ D := by
  rintro rfl
  obtain ⟨cur, h1, _⟩ := h
  have := h1.symm.trans hr
  injection this with this
  injection this with _ e _
  exact ht e.symm
/-- What a call that writes may touch. -/
abbrev Own (h : Hd) (vo : Value) : Nat → Prop := fun k => k = h.D ∨ k = h.gs ∨ some k = vo.ownBlock
theorem Mem.one {W : World} {g : Nat} {xs : List Int} (h : Mem W g xs) {B : Nat} {vo : Value} {ops : List (Int × List Int)} {ok : Nat → Prop} (ho : kop.R 83 W B ok vo ops) : some g ≠ vo.ownBlock := by
  obtain ⟨cur, h1, _⟩ := h
  exact Kd.R_ne ho h1 (by decide)
theorem DkAt.fD {h : Hd} {B : Nat} {fs ss : List Int} {vo : Value} {ops : List (Int × List Int)} {W : World} (k : DkAt h B fs ss vo ops W) : h.gf ≠ h.D ∧ h.gs ≠ h.D := ⟨k.f.dne k.row (by decide), k.s.dne k.row (by decide)⟩
theorem DkAt.own_lt {h : Hd} {B : Nat} {fs ss : List Int} {vo : Value} {ops : List (Int × List Int)} {W : World} (k : DkAt h B fs ss vo ops W) : ∀ j, Own h vo j → B ≤ j ∧ j < W.heap.size := by
  rintro j (rfl | rfl | hj)
  · exact ⟨k.bd, k.row.lt⟩
  · exact ⟨k.bs, k.s.lt⟩
  · exact ⟨Kd.R_base k.o j hj.symm, Kd.R_lt k.o j hj.symm⟩
theorem DkAt.appended {h : Hd} {B : Nat} {fs ss : List Int} {vo v1 : Value} {ops : List (Int × List Int)} {op : Int × List Int} {W w1 : World} (k : DkAt h B fs ss vo ops W)
    (ho : kop.R 83 w1 B (fun _ => True) v1 (ops ++ [op])) (hb : Below B W w1) (hg : W.grownBy w1 vo.ownBlock) (hl : ops.length < 65536) :
    DkAt h B fs ss v1 (ops ++ [op]) (w1.setRow h.D (dsk h v1).toArray) ∧ Kept W (w1.setRow h.D (dsk h v1).toArray) (Own h vo) ∧ Below B W (w1.setRow h.D (dsk h v1).toArray) := by
  obtain ⟨q1, q2⟩ := k.fD
  have hr1 : Rt 77 h.D (dsk h vo) w1 := (hg.block h.D k.row.lt (Kd.R_ne k.o k.row (by decide))).trans k.row
  refine ⟨{ k with row := hr1.row _, f := ?_, s := ?_, o := ?_, few := by simp; omega }, ?_, below_setRow' hb k.bd _⟩
  · exact (k.f.move (hg.block _ k.f.lt (k.f.one k.o))).move (setRow_other _ _ _ _ q1)
  · exact (k.s.move (hg.block _ k.s.lt (k.s.one k.o))).move (setRow_other _ _ _ _ q2)
  · exact Kd.R_mono (Kd.R_step (Kd.R_types ho hr1 (by intro q hq; simp [Kd.int, Kd.scalar, Kd.pair, Kd.arr] at hq; omega)) (fun j hj _ => setRow_other _ _ _ _ hj.2)) (fun _ _ => trivial)
  · refine ⟨by rw [setRow_size]; exact hg.size, fun j hj hn => ?_⟩
    exact (setRow_other _ _ _ _ (fun e => hn (.inl e))).trans (hg.block j hj (fun e => hn (.inr (.inr e))))
theorem DkAt.look {h : Hd} {B : Nat} {fs ss ss' : List Int} {vo : Value} {ops : List (Int × List Int)} {W : World} (k : DkAt h B fs ss vo ops W) (cs : Array Value)
    (hM : Mem (W.setRow h.gs cs) h.gs ss') (hl : ss'.length = h.n) :
    DkAt h B fs ss' vo ops (W.setRow h.gs cs) ∧ Kept W (W.setRow h.gs cs) (Own h vo) ∧ Below B W (W.setRow h.gs cs) := by
  obtain ⟨q1, q2⟩ := k.fD
  refine ⟨{ k with row := ?_, f := ?_, s := hM, o := ?_, ls := hl }, ?_, below_setRow' (Below.refl _ _) k.bs _⟩
  · exact (setRow_other _ _ _ _ (Ne.symm q2)).trans k.row
  · exact k.f.move (setRow_other _ _ _ _ k.ne)
  · obtain ⟨cur, h1, _⟩ := k.s
    exact Kd.R_mono (Kd.R_step (Kd.R_types k.o h1 (by intro q hq; simp [Kd.int, Kd.scalar, Kd.pair, Kd.arr] at hq; omega)) (fun j hj _ => setRow_other _ _ _ _ hj.2)) (fun _ _ => trivial)
  · exact ⟨by rw [setRow_size]; exact Nat.le_refl _, fun j hj hn => setRow_other _ _ _ _ (fun e => hn (.inr (.inl e)))⟩
end Go.Proofs.YtpaonoaedjkekaaDoor.Dk
namespace Go.Proofs.YtpaonoaedjkekaaDoor.Dk
open Go Go.RowKit Go.Proofs.YtpaonoaedjkekaaDoor.PD Go.Proofs.YtpaonoaedjkekaaDoorW.PrintWords Go.Proofs.YtpaonoaedjkekaaDoorW.PrintLast Go.Proofs.YtpaonoaedjkekaaDoorW.PrintMore
set_option linter.unusedVariables false
set_option linter.unusedSimpArgs false
set_option maxHeartbeats 4000000
set_option maxRecDepth 100000
theorem size5' : (Tryd.prog.info? 5).map (·.size) = some 1 := by kernel_rfl
theorem infoParts {i : Nat} {z : Value} {s b : Nat} (h : (Tryd.prog.info? i).map (fun i => (i.zero, i.size, i.bytes)) = some (some z, s, b)) : ∃ t, Tryd.prog.info? i = some t ∧ t.zero = some z ∧ t.size = s ∧ t.bytes = b := by
  obtain ⟨t, h1, h2⟩ := Option.map_eq_some_iff.1 h
  simp only [Prod.mk.injEq] at h2
  exact ⟨t, h1, h2.1, h2.2.1, h2.2.2⟩
/-- What a disk of n bytes is made of. -/
def padded (xs : List Int) (n : Nat) : List Int := xs ++ List.replicate (n - xs.length) 0
theorem padded_len {xs : List Int} {n : Nat} (h : xs.length ≤ n) : (padded xs n).length = n := by simp [padded]; omega
theorem new_at (A : Option Addr) (m c k : Nat) (xs : List Int) (w : World) (hC : Kd.C (Kd.int .u8) w A m xs) (h1 : 1 ≤ k) (h2 : k ≤ 4096) (hm : m ≤ 128 * k) :
    Calls Tryd.prog 25 #[.slice A m c, .int .i64 (k : Int)] w fun e w' => ∃ h : Hd, e = .returned (.tuple #[ptr h.D, .int .i64 0]) ∧ h.n = 128 * k ∧ DkAt h w.heap.size (padded xs (128 * k)) (padded xs (128 * k)) (.slice none 0 0) [] w' ∧ Below w.heap.size w w' := by
  have HC := Aside0.mk hC
  have hxl := Kd.C_len hC
  have HX := Aside0.mk hxl
  clear hC hxl
  have e1 : wrap64 ((k : Int) * 128) = ((128 * k : Nat) : Int) := by unfold wrap64; omega
  have c1 : ¬ ((k : Int) < 1) := by omega
  have c2 : ¬ (4096 < (k : Int)) := by omega
  have c3 : ¬ (((128 * k : Nat) : Int) < (m : Int)) := by omega
  obtain ⟨i0, hi0, hz0', hsz0, hby'⟩ := infoParts info5'
  have hmk := run_make (P := Tryd.prog) w 29 5 i0 (.int .u8 0) Tryd.underlying29 hi0 hz0' .i64 .i64 ((128 * k : Nat) : Int) ((128 * k : Nat) : Int) (by omega) (by omega) (by rw [hby']; omega) (by omega)
  rw [hsz0, Nat.mul_one, show ((128 * k : Nat) : Int) = (k : Int) * 128 by omega, show ((k : Int) * 128).toNat = 128 * k by omega] at hmk
  have HMK := Aside0.mk hmk
  clear hmk hi0
  go_enter Tryd.func25, Tryd.ntmps25
  go_wp2_with fail
  rw [HMK.out]
  simp only [Result.andThen_ok, Oper.upon_value]
  have hM := Mem.made w (128 * k) (madeCells (Value.int .u8 0).cells (128 * k)) (by rw [show (Value.int .u8 0).cells = #[Value.int .u8 0] from rfl, toList_madeCells_one]; simp [cellsB])
  have hs1 : (w.alloc (.cells (madeCells (Value.int .u8 0).cells (128 * k)) 5)).heap.size = w.heap.size + 1 := by simp
  have hb1 : Below w.heap.size w (w.alloc (.cells (madeCells (Value.int .u8 0).cells (128 * k)) 5)) := below_alloc (Below.refl _ _) _
  generalize w.alloc (.cells (madeCells (Value.int .u8 0).cells (128 * k)) 5) = w1 at *
  obtain ⟨g, hg⟩ : ∃ g, w.heap.size = g := ⟨_, rfl⟩
  obtain ⟨N, hN⟩ : ∃ N, 128 * k = N := ⟨_, rfl⟩
  have HG := Aside0.mk hg
  have HN := Aside0.mk hN
  rw [hg] at hM hs1 hb1 ⊢
  rw [hN] at hM hm ⊢
  have hN1 : 0 < N := by omega
  have hN2 : N ≤ 524288 := by omega
  have hr2 : Rt 77 w1.heap.size [sl g N N, .slice none 0 0, .slice none 0 0] (w1.alloc (.cells #[sl g N N, .slice none 0 0, .slice none 0 0] 77)) := heap_alloc_new w1 _
  have hM2 : Mem (w1.alloc (.cells #[sl g N N, .slice none 0 0, .slice none 0 0] 77)) g (List.replicate N 0) := hM.below (below_alloc (Below.refl _ _) _)
  have hb2 : Below g w (w1.alloc (.cells #[sl g N N, .slice none 0 0, .slice none 0 0] 77)) := hb1.alloc (by omega) _
  have hgD : g ≠ w1.heap.size := by omega
  have hgD' : g ≤ w1.heap.size := by omega
  have hC2 : Kd.C (Kd.int .u8) (w1.alloc (.cells #[sl g N N, .slice none 0 0, .slice none 0 0] 77)) A m xs := Kd.C_below HC.out (hg ▸ hb2)
  obtain ⟨cs, hcp, hM3⟩ := Mem.copy (P := Tryd.prog) (dT := 29) (sT := 29) (ty := 3) Tryd.underlying29 size5' hM2 0 m N N c A hC2 hm (by rw [List.length_replicate]; omega)
  have e3 : List.take 0 (List.replicate N (0 : Int)) ++ xs ++ List.drop (0 + m) (List.replicate N 0) = padded xs N := by
    rw [List.take_zero, List.nil_append, Nat.zero_add, List.drop_replicate]
    unfold padded
    rw [HX.out]
  rw [e3] at hM3
  have HCP := Aside0.mk hcp
  have hr3 : Rt 77 w1.heap.size [sl g N N, .slice none 0 0, .slice none 0 0] ((w1.alloc (.cells #[sl g N N, .slice none 0 0, .slice none 0 0] 77)).setRow g cs) := (setRow_other _ g _ cs (Ne.symm hgD)).trans hr2
  have hb3 := below_setRow' hb2 (Nat.le_refl g) cs
  have HM := Aside0.mk hM3
  have HR := Aside0.mk hr3
  have HB := Aside0.mk hb3
  have HGD := Aside0.mk hgD'
  clear HMK hM hb1 hs1 hM2 hb2 hC2 hcp hM3 hr2 hr3 hb3 e3 e1 HC
  clear hgD hgD' hg hN
  go_wp2_with fail
  rw [HCP.out]
  simp only [Result.andThen_ok, Oper.upon_value]
  generalize (w1.alloc (.cells #[sl g N N, .slice none 0 0, .slice none 0 0] 77)).setRow g cs = w3 at *
  generalize w1.heap.size = D at *
  have hpl : (padded xs N).length = N := padded_len (by rw [HX.out]; exact hm)
  have hC3 := HM.out.all (by rw [hpl]; omega)
  rw [hpl] at hC3
  have c0 := HR.out.cell 0 _ rfl
  have HC3 := Aside0.mk hC3
  clear hC3 HCP
  go_wp2_with fail
  go_at_call 39
  refine (clone_at _ N N (padded xs N) w3 HC3.out hN1 (by omega)).mono ?_
  rintro e w4 ⟨gs, c', rfl, hM4, hgs, hc', hb4⟩
  have hr4 : Rt 77 D _ w4 := (hb4.block D HR.out.lt).trans HR.out
  have f1 := hr4.free 1
  have c1 := hr4.cell 1 _ rfl
  have hb := HB.out.trans (hb4.mono (by rw [← HG.out]; exact HB.out.size))
  have HK := Aside0.mk (show g ≠ gs ∧ g ≠ D ∧ gs ≠ D ∧ g ≤ gs ∧ N ≤ c' from by
    have q1 := HM.out.lt
    have q2 := HR.out.lt
    have q3 := HM.out.dne HR.out (by decide)
    refine ⟨by omega, q3, by omega, by omega, hc'⟩)
  have HM5 := Aside0.mk (HM.out.below hb4)
  have HR4 := Aside0.mk hr4
  have HM4 := Aside0.mk hM4
  have HB4 := Aside0.mk hb
  clear hM4 hgs hc' hb4 hr4 hb c0 HR HM HB
  go_wp2_with fail
  go_ret2
  rw [HR4.out.set 1]
  obtain ⟨k1, k2, k3, k4, k5⟩ := HK.out
  have hgD := HGD.out
  have e1 := HN.out
  have e2 := HG.out
  subst e1
  subst e2
  refine ⟨⟨D, w.heap.size, gs, 128 * k, 128 * k, c'⟩, rfl, rfl, ⟨HR4.out.row _, ?_, ?_, Kd.R_nil _ _ _ _ _, hpl, hpl, hgD, Nat.le_refl _, k4, k1, Nat.le_refl _, k5, hN2, hN1, by simp⟩, below_setRow' HB4.out hgD _⟩
  · exact HM5.out.move (setRow_other _ _ _ _ k2)
  · exact HM4.out.move (setRow_other _ _ _ _ k3)
end Go.Proofs.YtpaonoaedjkekaaDoor.Dk
namespace Go.Proofs.YtpaonoaedjkekaaDoor.Dk
open Go Go.RowKit Go.Proofs.YtpaonoaedjkekaaDoor.PD Go.Proofs.YtpaonoaedjkekaaDoorW.PrintWords Go.Proofs.YtpaonoaedjkekaaDoorW.PrintLast Go.Proofs.YtpaonoaedjkekaaDoorW.PrintMore
set_option linter.unusedVariables false
set_option linter.unusedSimpArgs false
set_option maxHeartbeats 4000000
set_option maxRecDepth 100000
theorem sectors_at {h : Hd} {B : Nat} {fs ss : List Int} {vo : Value} {ops : List (Int × List Int)} {W : World} (k : DkAt h B fs ss vo ops W) (q : Nat) (hq : h.n / 128 = q) :
    Calls Tryd.prog 19 #[ptr h.D] W fun e w' => e = .returned (.int .i64 (q : Int)) ∧ w' = W := by
  subst hq
  have c0 := k.row.cell 0 _ rfl
  have hb := k.big
  have e1 : wrap64 (Int.tdiv (h.n : Int) 128) = ((h.n / 128 : Nat) : Int) := by
    rw [Int.tdiv_eq_ediv_of_nonneg (by omega)]; unfold wrap64; omega
  clear k
  go_enter Tryd.func19, Tryd.ntmps19
  go_wp2_with fail
  go_ret
  exact ⟨congrArg (fun z => Ending.returned (.int .i64 z)) (by omega), rfl⟩
theorem count_at {h : Hd} {B : Nat} {fs ss : List Int} {A : Option Addr} {c : Nat} {ops : List (Int × List Int)} {W : World} (k : DkAt h B fs ss (.slice A ops.length c) ops W) :
    Calls Tryd.prog 18 #[ptr h.D] W fun e w' => e = .returned (.int .i64 (ops.length : Int)) ∧ w' = W := by
  have c2 := k.row.cell 2 _ rfl
  clear k
  go_enter Tryd.func18, Tryd.ntmps18
  go_wp2_with fail
  go_ret
  exact ⟨rfl, rfl⟩
/-- An operation's cells. -/
def opCells (n : Int) (bs : List Int) : List Value := Value.int .i64 n :: cellsB bs
def newOp (n : Int) : List Value := opCells n (List.replicate 128 0)
theorem newOp_len (n : Int) : (newOp n).length = 129 := by simp [newOp, opCells, cellsB]
theorem newOp_one (n : Int) : (newOp n).toArray.all (·.oneCell') = true := by
  rw [Array.all_eq_true_iff_forall_mem]
  intro v hv
  rcases List.mem_cons.1 (List.mem_toArray.1 hv) with rfl | hv
  · rfl
  · obtain ⟨x, _, rfl⟩ := List.mem_map.1 hv
    rfl
theorem opCells_len (n : Int) (bs : List Int) : (opCells n bs).length = bs.length + 1 := by simp [opCells, cellsB]
theorem build_op (n : Int) (W : World) : (Instr.build 83 #[(0, Value.int .i64 n)]).run Tryd.prog W = .ok (.agg (newOp n).toArray) W := by
  refine run_build (P := Tryd.prog) W 83 _ _ ?_
  kernel_rfl
theorem info83 : (Tryd.prog.info? 83).map (fun i => (i.zero, i.size, i.bytes)) = some (some (.agg (newOp 0).toArray), 129, 136) := by kernel_rfl
theorem alloc_op (v : Value) (W : World) : (Instr.alloc 83 true v).run Tryd.prog W = .ok (ptr W.heap.size) (W.alloc (.cells (newOp 0).toArray 83)) := by
  obtain ⟨i, hi, hz, _, _⟩ := infoParts info83
  cases v <;> simp [Instr.alloc, zeroValue, typeInfo, hi, hz, newVar, newRow, Value.cells]
section
variable {P : Program} {ops : Array Oper} {rest : List Oper} {o : Oper} {a : Act} {w w' : World} {Q : Exit → Act → World → Prop}
theorem wpList_runBuild (hg : o.guard = none) (t : TypeId) (parts : Array (Nat × Operand)) (ho : o.op = .build t parts) (v : Value) (parts' : Array (Nat × Value)) (hp : (parts.map fun (i, x) => (i, a.eval x)) = parts')
    (hrun : (Instr.build t parts').run P w = .ok v w') (h : wpList P ops Q rest (a.put o.dst v) w') : wpList P ops Q (o :: rest) a w :=
  wpList_plain hg fun K hK => by
    unfold Oper.wp execOp
    simp only [ho, hp, Sem.run_bind, hrun, Result.andThen_ok]
    exact hK _ _ h
theorem wp_runSlice {K : Act → World → Prop} (t : TypeId) (n : Nat) (parts : Array (Nat × Operand)) (ho : o.op = .buildSlice t n parts) (v : Value) (parts' : Array (Nat × Value)) (hp : (parts.map fun (i, x) => (i, a.eval x)) = parts')
    (hrun : (Instr.buildSlice t n parts').run P w = .ok v w') (h : K (a.put o.dst v) w') : o.wp P a w K Q := by
  unfold Oper.wp execOp
  simp only [ho, hp, Sem.run_bind, hrun, Result.andThen_ok]
  exact h
theorem wpList_runAlloc (hg : o.guard = none) (t : TypeId) (ho : o.op = .alloc t) (v : Value)
    (hrun : (Instr.alloc t true (.tuple #[])).run P w = .ok v w') (h : wpList P ops Q rest (a.put o.dst v) w') : wpList P ops Q (o :: rest) a w :=
  wpList_plain hg fun K hK => by
    unfold Oper.wp execOp
    simp only [ho, Sem.run_bind, hrun, Result.andThen_ok]
    exact hK _ _ h
end
theorem fill_one (cells0 : Array Value) (h0 : cells0.size = 129) (cs : List Value) (hl : cs.length = 129) : Instr.fill (fun i => some (i * 129, 129)) cells0 [(0, .agg cs.toArray)] = some cs.toArray := by
  obtain ⟨r, hr, hs, hk⟩ := Great.fill_dense (s := 129) (by decide) [.agg cs.toArray] 0 cells0 (fun v hv => by rw [List.mem_singleton.1 hv]; simp [Value.cells, hl]) (by simp [h0])
  have e : r = cs.toArray := by
    apply Array.ext_getElem?
    intro k
    rw [hk k]
    by_cases hk1 : k < 129
    · rw [if_pos (by simp; omega), Nat.div_eq_of_lt hk1, Nat.mod_eq_of_lt hk1]
      simp [Value.cells]
    · rw [if_neg (by simp; omega), Array.getElem?_eq_none (by omega), Array.getElem?_eq_none (by rw [List.size_toArray]; omega)]
  exact hr.trans (congrArg some e)
theorem slice_op (n : Int) (p : List Int) (hp : p.length = 128) (W : World) : (Instr.buildSlice 75 1 #[(0, .agg (opCells n p).toArray)]).run Tryd.prog W = .ok (.slice (some ⟨W.heap.size, 0, none⟩) 1 1) (W.alloc (.cells (opCells n p).toArray 83)) := by
  obtain ⟨i, hi, hz, hsz, _⟩ := infoParts info83
  refine run_buildSlice (P := Tryd.prog) W 75 83 1 _ _ i _ Tryd.underlying75 hi hz (by rw [hsz]; decide) (by rw [hsz]; decide) ?_
  rw [hsz]
  exact fill_one _ (by simp) _ (by rw [opCells_len, hp])
theorem load_op {b : Nat} {vs : List Value} {W : World} (h : Rt 83 b vs W) (hl : vs.length = 129) : (loadVar 83 ⟨b, 0, none⟩).run Tryd.prog W = .ok (.agg vs.toArray) W := by
  refine run_loadVar_row W b 83 83 vs.toArray (0, 0) _ h Tryd.underlying83 rfl ?_
  rw [List.size_toArray, hl]
  kernel_rfl
theorem write_at {h : Hd} {B : Nat} {fs ss : List Int} {A A2 : Option Addr} {c c2 : Nat} {ops : List (Int × List Int)} {W : World} (k : DkAt h B fs ss (.slice A ops.length c) ops W) (n : Nat) (p : List Int) (hC : ∀ W', Kept W W' (Own h (.slice A ops.length c)) → Kd.C (Kd.int .u8) W' A2 128 p) (hn : 128 * n + 128 ≤ h.n) (hl : ops.length < 65536) :
    Calls Tryd.prog 27 #[ptr h.D, .int .i64 (n : Int), .slice A2 128 c2] W fun e w' => e = .returned (.int .i64 0) ∧ ∃ A' c', DkAt h B fs (ss.take (128 * n) ++ p ++ ss.drop (128 * n + 128)) (.slice A' (ops.length + 1) c') (ops ++ [((n : Int), p)]) w' ∧ Kept W w' (Own h (.slice A ops.length c)) ∧ Below B W w' ∧ ∀ j, (Value.slice A' (ops.length + 1) c').ownBlock = some j → (Value.slice A ops.length c).ownBlock = some j ∨ W.heap.size ≤ j := by
  have K := Aside0.mk k
  have cd := k.row.cell 2 _ rfl
  have n1 : ¬ ((n : Int) < 0) := by omega
  obtain ⟨q, hq⟩ : ∃ q, h.n / 128 = q := ⟨_, rfl⟩
  have n2 : ¬ ((q : Int) ≤ (n : Int)) := by omega
  have HQ := Aside0.mk hq
  have HC := Aside0.mk hC
  have HN := Aside0.mk hn
  have HL := Aside0.mk hl
  clear k hC hn hq hl
  have hbd := build_op (n : Int)
  have hal := alloc_op
  go_enter Tryd.func27, Tryd.ntmps27
  go_upto_region 7 with (go_at_call 19; refine (sectors_at K.out q HQ.out).mono ?_; rintro e w' ⟨rfl, hw⟩; subst w')
  have n3 : decide ((65536 : Int) ≤ (ops.length : Int)) = false := decide_eq_false (by have := HL.out; omega)
  go_upto_region 9 with fail
  apply wp_region_lit
  refine Great.wpList_readTo rfl (some 31) rfl (.int .i64 (n : Int)) rfl ?_
  simp only [Act.put, List.setIfInBounds_toArray, List.set_cons_zero, List.set_cons_succ]
  refine wpList_runBuild rfl 83 #[(0, Operand.tmp 31)] rfl (.agg (newOp (n : Int)).toArray) #[(0, .int .i64 (n : Int))] (by rw [List.map_toArray]; rfl) (hbd W) ?_
  simp only [Act.put, List.setIfInBounds_toArray, List.set_cons_zero, List.set_cons_succ]
  refine wpList_runAlloc rfl 83 rfl (ptr W.heap.size) (hal _ W) ?_
  simp only [Act.put, List.setIfInBounds_toArray, List.set_cons_zero, List.set_cons_succ]
  refine wpList_store_row rfl 83 (.tmp 7) (.tmp 32) rfl W.heap.size (newOp (n : Int)).toArray rfl rfl 83 (newOp 0).toArray (heap_alloc_new W _) (by rw [List.size_toArray, newOp_len]; kernel_rfl) (by rw [List.size_toArray, List.size_toArray, newOp_len, newOp_len]) (newOp_one _) ?_
  simp only [Act.put, List.setIfInBounds_toArray, List.set_cons_zero, List.set_cons_succ]
  refine wpList_nil ?_
  obtain ⟨b, hbe⟩ : ∃ b, W.heap.size = b := ⟨_, rfl⟩
  have hr1 : Rt 83 b (newOp (n : Int)) ((W.alloc (.cells (newOp 0).toArray 83)).setRow b (newOp (n : Int)).toArray) := by
    have h0 : Rt 83 b (newOp 0) (W.alloc (.cells (newOp 0).toArray 83)) := hbe ▸ heap_alloc_new W _
    exact h0.row _
  have hb1 : Below W.heap.size W ((W.alloc (.cells (newOp 0).toArray 83)).setRow b (newOp (n : Int)).toArray) := below_setRow' (below_alloc (Below.refl _ _) _) (Nat.le_of_eq hbe) _
  have HBE := Aside0.mk hbe
  rw [hbe] at hb1 ⊢
  generalize (W.alloc (.cells (newOp 0).toArray 83)).setRow b (newOp (n : Int)).toArray = W1 at *
  have hC1 : Kd.C (Kd.int .u8) W1 A2 128 p := HC.out _ (Kept.of_below (HBE.out.symm ▸ hb1) _)
  have hpl : p.length = 128 := Kd.C_len hC1
  obtain ⟨ad, rfl, hcell⟩ := (Kd.reads_of_C (d := (0 : Int)) (h1 := fun _ => rfl) hC1).2.2 (by decide)
  have hcp := run_copy_row (P := Tryd.prog) W1 29 29 3 5 b 1 128 128 ad 128 c2 (newOp (n : Int)).toArray 83 (cellsB p) Tryd.underlying29 size5' hr1 (by rw [cellsB_len, hpl]; rfl) (fun j v hv => by
    obtain ⟨hj, rfl⟩ := List.getElem?_eq_some_iff.1 hv
    have hj2 : j < p.length := by rw [cellsB_len] at hj; exact hj
    rw [hcell j (by omega)]
    simp [cellsB, List.getD_eq_getElem?_getD, List.getElem?_eq_getElem hj2]) (by rw [cellsB_len, hpl, List.size_toArray, newOp_len]; decide) (fun v hv => by
    obtain ⟨x, _, rfl⟩ := List.mem_map.1 hv
    rfl)
  have hcs : ((newOp (n : Int)).toArray.toList.take 1 ++ cellsB p ++ (newOp (n : Int)).toArray.toList.drop (1 + (cellsB p).length)).toArray = (opCells (n : Int) p).toArray := by
    rw [cellsB_len, hpl, List.drop_of_length_le (by show (newOp (n : Int)).length ≤ _; rw [newOp_len]; decide), List.append_nil]
    rfl
  rw [hcs, cellsB_len, hpl] at hcp
  have hr2 := hr1.row (opCells (n : Int) p)
  have hb2 := below_setRow' hb1 (Nat.le_refl b) (opCells (n : Int) p).toArray
  have HCP := Aside0.mk hcp
  have HR2 := Aside0.mk hr2
  have HB2 := Aside0.mk hb2
  have HPL := Aside0.mk hpl
  clear hr1 hb1 hC1 hpl hcell hcp hcs hr2 hb2 hbd hal hbe cd
  go_wp2_with fail
  rw [HCP.out]
  simp only [Result.andThen_ok, Oper.upon_value]
  generalize W1.setRow b (opCells (n : Int) p).toArray = W2 at *
  have HB3 := Aside0.mk (show Below W.heap.size W W2 from HBE.out ▸ HB2.out)
  have K2 := Aside0.mk (K.out.stay HB3.out)
  have HWS := Aside0.mk (show W2.heap.size = W2.heap.size from rfl)
  clear HCP HB2
  go_upto_region 11 with fail
  have HR2d := Aside0.mk (show Rt 83 b (opCells (n : Int) p) W2.drew from HR2.out)
  have K3 := Aside0.mk (K2.out.stay (below_drew (Below.refl _ _)))
  have cd : W2.drew.cell? ⟨h.D, 2, none⟩ = some (.slice A ops.length c) := K3.out.row.cell 2 _ rfl
  have cd2 : (W2.drew.alloc (.cells (opCells (n : Int) p).toArray 83)).cell? ⟨h.D, 2, none⟩ = some (.slice A ops.length c) := (K3.out.stay (below_alloc (Below.refl _ _) _)).row.cell 2 _ rfl
  have cd3 : (W2.alloc (.cells (opCells (n : Int) p).toArray 83)).cell? ⟨h.D, 2, none⟩ = some (.slice A ops.length c) := (K2.out.stay (below_alloc (Below.refl _ _) _)).row.cell 2 _ rfl
  have HOPM := Aside0.mk (show kop.M W2.drew B (fun _ => False) ((n : Int), p) (opCells (n : Int) p) from ⟨[.int .i64 (n : Int)], cellsB p, rfl, rfl, Kd.arr_of_cells HPL.out⟩)
  have HBs := Aside0.mk K3.out.size
  have HLEN := Aside0.mk (show (ops.length + 1) * 136 ≤ 140737488355328 by have := HL.out; omega)
  have HNE := Aside0.mk (show some h.D ≠ (Value.slice A ops.length c).ownBlock from Kd.R_ne K3.out.o K3.out.row (by decide))
  -- region 11
  refine wp_region_any (by kernel_rfl) ?_
  change wpAny _ _ _ _ _ _ _ (World.drew _)
  refine wpAny_take (i := 0) (oi := { dst := some 37, op := Op.move (Operand.tmp 0), type := 25, pos := "disk.go:69", after := #[], guard := none }) (v := ?_) rfl (by kernel_rfl) (by kernel_rfl) (by kernel_rfl) (fun _ _ _ h => h) (Or.inl ⟨by rfl, ?_⟩) ?_
  rotate_left
  · intro w; go_simp; all_goals (with_reducible rfl)
  (try simp only [Act.put, List.setIfInBounds_toArray, List.set_cons_zero, List.set_cons_succ])
  refine wpAny_take (i := 1) (oi := { dst := some 38, op := Op.move (Operand.tmp 0), type := 25, pos := "disk.go:69", after := #[], guard := none }) (v := ?_) rfl (by kernel_rfl) (by kernel_rfl) (by kernel_rfl) (fun _ _ _ h => h) (Or.inl ⟨by rfl, ?_⟩) ?_
  rotate_left
  · intro w; go_simp; all_goals (with_reducible rfl)
  (try simp only [Act.put, List.setIfInBounds_toArray, List.set_cons_zero, List.set_cons_succ])
  refine wpAny_take (i := 2) (oi := { dst := some 39, op := Op.nilCheck (Operand.tmp 38), type := 0, pos := "disk.go:69", after := #[{ on := 1, ground := Ground.data }], guard := none }) (v := ?_) rfl (by kernel_rfl) (by kernel_rfl) (by kernel_rfl) (fun _ _ _ h => h) (Or.inl ⟨by rfl, ?_⟩) ?_
  rotate_left
  · intro w; go_simp; all_goals (with_reducible rfl)
  (try simp only [Act.put, List.setIfInBounds_toArray, List.set_cons_zero, List.set_cons_succ])
  refine wpAny_take (i := 3) (oi := { dst := some 40, op := Op.fieldAddr 77 (Operand.tmp 39) 2, type := 0, pos := "disk.go:69", after := #[{ on := 2, ground := Ground.data }], guard := none }) (v := ?_) rfl (by kernel_rfl) (by kernel_rfl) (by kernel_rfl) (fun _ _ _ h => h) (Or.inl ⟨by rfl, ?_⟩) ?_
  rotate_left
  · intro w; go_simp; all_goals (with_reducible rfl)
  (try simp only [Act.put, List.setIfInBounds_toArray, List.set_cons_zero, List.set_cons_succ])
  refine wpAny_ready (rs := [4, 5]) (by kernel_rfl) (by simp) ?_
  refine AllReady.cons (o := { dst := some 41, op := Op.load 75 (Operand.tmp 40), type := 75, pos := "disk.go:69", after := #[{ on := 3, ground := Ground.data }], guard := none }) rfl (fun K hK => ?w4) (AllReady.cons (o := { dst := some 42, op := Op.load 83 (Operand.tmp 7), type := 83, pos := "disk.go:69", after := #[], guard := none }) rfl (fun K hK => ?w5) AllReady.nil)
  case' w4 =>
    go_simp
    refine hK _ _ ?_
    clear hK K
    (try simp only [Act.put, List.setIfInBounds_toArray, List.set_cons_zero, List.set_cons_succ])
    refine wpAny_ready (rs := [5]) (by kernel_rfl) (by simp) ?_
    refine AllReady.cons (o := { dst := some 42, op := Op.load 83 (Operand.tmp 7), type := 83, pos := "disk.go:69", after := #[], guard := none }) rfl (fun K hK => ?_) AllReady.nil
    rw [if_pos (by rfl)]
    refine wp_load_row 83 (.tmp 7) rfl b rfl 83 (opCells (n : Int) p).toArray (0, 0) _ HR2d.out Tryd.underlying83 rfl (by rw [List.size_toArray, opCells_len, HPL.out]; kernel_rfl) ?_
    refine hK _ _ ?_
    clear hK K
    (try simp only [Act.put, List.setIfInBounds_toArray, List.set_cons_zero, List.set_cons_succ])
    refine wpAny_ready (rs := [6]) (by kernel_rfl) (by simp) ?_
    refine AllReady.cons (o := { dst := some 43, op := Op.buildSlice 75 1 #[(0, Operand.tmp 42)], type := 75, pos := "disk.go:69", after := #[{ on := 5, ground := Ground.data }], guard := none }) rfl (fun K hK => ?_) AllReady.nil
    rw [if_pos (by rfl)]
    refine wp_runSlice 75 1 #[(0, Operand.tmp 42)] rfl (.slice (some ⟨W2.drew.heap.size, 0, none⟩) 1 1) #[(0, .agg (opCells (n : Int) p).toArray)] (by rw [List.map_toArray]; rfl) (slice_op (n : Int) p HPL.out W2.drew) ?_
    refine hK _ _ ?_
    clear hK K
    (try simp only [Act.put, List.setIfInBounds_toArray, List.set_cons_zero, List.set_cons_succ])
  case' w5 =>
    rw [if_pos (by rfl)]
    refine wp_load_row 83 (.tmp 7) rfl b rfl 83 (opCells (n : Int) p).toArray (0, 0) _ HR2d.out Tryd.underlying83 rfl (by rw [List.size_toArray, opCells_len, HPL.out]; kernel_rfl) ?_
    refine hK _ _ ?_
    clear hK K
    (try simp only [Act.put, List.setIfInBounds_toArray, List.set_cons_zero, List.set_cons_succ])
    refine wpAny_ready (rs := [4, 6]) (by kernel_rfl) (by simp) ?_
    refine AllReady.cons (o := { dst := some 41, op := Op.load 75 (Operand.tmp 40), type := 75, pos := "disk.go:69", after := #[{ on := 3, ground := Ground.data }], guard := none }) rfl (fun K hK => ?w54) (AllReady.cons (o := { dst := some 43, op := Op.buildSlice 75 1 #[(0, Operand.tmp 42)], type := 75, pos := "disk.go:69", after := #[{ on := 5, ground := Ground.data }], guard := none }) rfl (fun K hK => ?w56) AllReady.nil)
  case' w54 =>
    go_simp
    refine hK _ _ ?_
    clear hK K
    (try simp only [Act.put, List.setIfInBounds_toArray, List.set_cons_zero, List.set_cons_succ])
    refine wpAny_ready (rs := [6]) (by kernel_rfl) (by simp) ?_
    refine AllReady.cons (o := { dst := some 43, op := Op.buildSlice 75 1 #[(0, Operand.tmp 42)], type := 75, pos := "disk.go:69", after := #[{ on := 5, ground := Ground.data }], guard := none }) rfl (fun K hK => ?_) AllReady.nil
    rw [if_pos (by rfl)]
    refine wp_runSlice 75 1 #[(0, Operand.tmp 42)] rfl (.slice (some ⟨W2.drew.heap.size, 0, none⟩) 1 1) #[(0, .agg (opCells (n : Int) p).toArray)] (by rw [List.map_toArray]; rfl) (slice_op (n : Int) p HPL.out W2.drew) ?_
    refine hK _ _ ?_
    clear hK K
    (try simp only [Act.put, List.setIfInBounds_toArray, List.set_cons_zero, List.set_cons_succ])
  case' w56 =>
    rw [if_pos (by rfl)]
    refine wp_runSlice 75 1 #[(0, Operand.tmp 42)] rfl (.slice (some ⟨W2.drew.heap.size, 0, none⟩) 1 1) #[(0, .agg (opCells (n : Int) p).toArray)] (by rw [List.map_toArray]; rfl) (slice_op (n : Int) p HPL.out W2.drew) ?_
    refine hK _ _ ?_
    clear hK K
    (try simp only [Act.put, List.setIfInBounds_toArray, List.set_cons_zero, List.set_cons_succ])
    refine wpAny_ready (rs := [4]) (by kernel_rfl) (by simp) ?_
    refine AllReady.cons (o := { dst := some 41, op := Op.load 75 (Operand.tmp 40), type := 75, pos := "disk.go:69", after := #[{ on := 3, ground := Ground.data }], guard := none }) rfl (fun K hK => ?_) AllReady.nil
    go_simp
    refine hK _ _ ?_
    clear hK K
    (try simp only [Act.put, List.setIfInBounds_toArray, List.set_cons_zero, List.set_cons_succ])
  all_goals
    refine wpAny_ready (rs := [7]) (by kernel_rfl) (by simp) ?_
    refine AllReady.cons (o := { dst := some 44, op := Op.call { callee := Callee.builtin Builtin.append, args := #[Operand.tmp 41, Operand.tmp 43], argTypes := #[75, 75] }, type := 75, pos := "disk.go:69", after := #[{ on := 4, ground := Ground.data }, { on := 6, ground := Ground.data }], guard := none }) rfl (fun K hK => ?_) AllReady.nil
    refine Kd.R_append_step kop (w0 := W2.drew) B (by rfl) (.tmp 41) (.tmp 43) 75 83 (.agg (newOp 0).toArray) 136 rfl Tryd.underlying75 info83 (by simp [Value.cells, newOp_len]; rfl) (by decide) (by decide) (.slice A ops.length c) ops ((n : Int), p) (opCells (n : Int) p) (fun _ => True) (fun _ => False) rfl rfl HOPM.out (fun _ hk => hk.elim) (fun _ _ => trivial) K3.out.o (Below.refl _ _) HBs.out HLEN.out ?_
    intro v1 w1 ho hb hg hat
    have hr6 : Rt 77 h.D _ w1 := (hg.block h.D K3.out.row.lt HNE.out).trans K3.out.row
    have HO := Aside0.mk ho
    have HG := Aside0.mk (show W2.drew.grownBy w1 (Value.slice A ops.length c).ownBlock ∧ Below B W2.drew w1 ∧ (v1.ownBlock = (Value.slice A ops.length c).ownBlock ∨ ∃ b, v1.ownBlock = some b ∧ W2.drew.heap.size ≤ b) from ⟨hg, hb, hat⟩)
    obtain ⟨Al, cl, e⟩ := Kd.R_slice ho
    rw [List.length_append, List.length_singleton] at e
    subst e
    have c8 := hr6.cell 2 _ rfl
    have f8 := hr6.free 2
    clear ho hb hg hat
    refine hK _ _ ?_
    clear hK K
    (try simp only [Act.put, List.setIfInBounds_toArray, List.set_cons_zero, List.set_cons_succ])
    refine wpAny_ready (rs := [8]) (by kernel_rfl) (by simp) ?_
    refine AllReady.cons (o := { dst := some 45, op := Op.nilCheck (Operand.tmp 37), type := 0, pos := "disk.go:69", after := #[{ on := 0, ground := Ground.data }, { on := 0, ground := Ground.phase }, { on := 1, ground := Ground.phase }, { on := 2, ground := Ground.phase }, { on := 3, ground := Ground.phase }, { on := 4, ground := Ground.phase }, { on := 5, ground := Ground.phase }, { on := 6, ground := Ground.phase }, { on := 7, ground := Ground.phase }], guard := none }) rfl (fun K hK => ?_) AllReady.nil
    go_simp
    refine hK _ _ ?_
    clear hK K
    (try simp only [Act.put, List.setIfInBounds_toArray, List.set_cons_zero, List.set_cons_succ])
    refine wpAny_ready (rs := [9]) (by kernel_rfl) (by simp) ?_
    refine AllReady.cons (o := { dst := some 46, op := Op.fieldAddr 77 (Operand.tmp 45) 2, type := 0, pos := "disk.go:69", after := #[{ on := 8, ground := Ground.data }, { on := 0, ground := Ground.phase }, { on := 1, ground := Ground.phase }, { on := 2, ground := Ground.phase }, { on := 3, ground := Ground.phase }, { on := 4, ground := Ground.phase }, { on := 5, ground := Ground.phase }, { on := 6, ground := Ground.phase }, { on := 7, ground := Ground.phase }], guard := none }) rfl (fun K hK => ?_) AllReady.nil
    go_simp
    refine hK _ _ ?_
    clear hK K
    (try simp only [Act.put, List.setIfInBounds_toArray, List.set_cons_zero, List.set_cons_succ])
    refine wpAny_ready (rs := [10]) (by kernel_rfl) (by simp) ?_
    refine AllReady.cons (o := { dst := none, op := Op.store 75 (Operand.tmp 46) (Operand.tmp 44), type := 0, pos := "disk.go:69", after := #[{ on := 9, ground := Ground.data }, { on := 7, ground := Ground.data }, { on := 7, ground := Ground.chain }, { on := 0, ground := Ground.phase }, { on := 1, ground := Ground.phase }, { on := 2, ground := Ground.phase }, { on := 3, ground := Ground.phase }, { on := 4, ground := Ground.phase }, { on := 5, ground := Ground.phase }, { on := 6, ground := Ground.phase }, { on := 7, ground := Ground.phase }], guard := none }) rfl (fun K hK => ?_) AllReady.nil
    go_simp
    refine hK _ _ ?_
    clear hK K
    (try simp only [Act.put, List.setIfInBounds_toArray, List.set_cons_zero, List.set_cons_succ])
    refine wpAny_done (by kernel_rfl) ?_ _
    (try simp only [Act.put, List.setIfInBounds_toArray, List.set_cons_zero, List.set_cons_succ])
  -- behind region 11
  all_goals
    have e8 := hr6.set 2 (.slice Al (ops.length + 1) cl)
    have hput := K3.out.appended HO.out HG.out.2.1 HG.out.1 HL.out
    rw [e8, show (dsk h (.slice A ops.length c)).set 2 (.slice Al (ops.length + 1) cl) = dsk h (.slice Al (ops.length + 1) cl) from rfl]
    have HKP := Aside0.mk (show Kept W (w1.setRow h.D (dsk h (.slice Al (ops.length + 1) cl)).toArray) (Own h (.slice A ops.length c)) from (Kept.of_below HB3.out _).then_ (Kept.then_ ⟨Nat.le_refl _, fun _ _ _ => rfl⟩ hput.2.1 (fun _ hk => .inl hk)) (fun _ hk => .inl hk))
    have HBP := Aside0.mk (show Below B W (w1.setRow h.D (dsk h (.slice Al (ops.length + 1) cl)).toArray) from (HB3.out.mono K.out.size).trans ((below_drew (Below.refl _ _)).trans hput.2.2))
    have HAT := Aside0.mk (show ∀ j, (Value.slice Al (ops.length + 1) cl).ownBlock = some j → (Value.slice A ops.length c).ownBlock = some j ∨ W.heap.size ≤ j from fun j hj => by
      rcases HG.out.2.2 with e | ⟨b', e, hb'⟩
      · exact .inl (e ▸ hj)
      · rw [e] at hj
        injection hj with hj
        exact .inr (hj ▸ Nat.le_trans HB3.out.size hb'))
    have KP := Aside0.mk hput.1
    clear hput e8 hr6 c8 f8 HG HO cd cd2 cd3 HR2d HOPM K3 K2 HR2
    generalize w1.setRow h.D (dsk h (.slice Al (ops.length + 1) cl)).toArray = w3 at *
    have c1 := KP.out.row.cell 1 _ rfl
    go_wp2_with fail
    go_at_call 38
    refine (part_at h.gs h.n h.cs n w3 HN.out K.out.cs (by have := K.out.big; omega)).mono ?_
    rintro e w' ⟨rfl, hw⟩
    subst w'
    obtain ⟨cs, hcp, hM⟩ := Mem.copy (P := Tryd.prog) (dT := 29) (sT := 29) (ty := 3) Tryd.underlying29 size5' KP.out.s (128 * n) 128 128 128 c2 (some ad) (HC.out _ HKP.out) (Nat.le_refl _) (by rw [K.out.ls]; exact HN.out)
    have hlk := KP.out.look cs hM (by rw [List.length_append, List.length_append, List.length_take, List.length_drop, K.out.ls, HPL.out]; have := HN.out; omega)
    have HLK := Aside0.mk hlk
    have HCP := Aside0.mk hcp
    clear hlk hcp hM c1
    go_wp2_with fail
    rw [HCP.out]
    simp only [Result.andThen_ok, Oper.upon_value]
    go_wp2_with fail
    go_ret
    refine ⟨rfl, Al, cl, HLK.out.1, HKP.out.then_ HLK.out.2.1 (fun j hj => ?_), HBP.out.trans HLK.out.2.2, HAT.out⟩
    rcases hj with hj | hj | hj
    · exact .inl (.inl hj)
    · exact .inl (.inr (.inl hj))
    · rcases HAT.out j hj.symm with e | e
      · exact .inl (.inr (.inr e.symm))
      · exact .inr e
end Go.Proofs.YtpaonoaedjkekaaDoor.Dk
namespace Go.Proofs.YtpaonoaedjkekaaDoor.Dk
open Go Go.RowKit Go.Proofs.YtpaonoaedjkekaaDoor.PD Go.Proofs.YtpaonoaedjkekaaDoorW.PrintWords Go.Proofs.YtpaonoaedjkekaaDoorW.PrintLast Go.Proofs.YtpaonoaedjkekaaDoorW.PrintMore
set_option linter.unusedVariables false
set_option linter.unusedSimpArgs false
set_option maxHeartbeats 4000000
set_option maxRecDepth 100000
def flushOp : Int × List Int := (-1, List.replicate 128 0)
/-- The listed variable: the flush. -/
abbrev Fl (W : World) : Prop := ∀ j v, (newOp (-1))[j]? = some v → W.cell? ⟨0, 0 + j, none⟩ = some v
/-- An operation's cells, where they lie. -/
theorem ops_at {h : Hd} {B : Nat} {fs ss : List Int} {A : Option Addr} {c : Nat} {ops : List (Int × List Int)} {W : World} (k : DkAt h B fs ss (.slice A ops.length c) ops W) (i : Nat) (op : Int × List Int) (hi : ops[i]? = some op) :
    op.2.length = 128 ∧ ∃ g, A = some ⟨g, 0, none⟩ ∧ ops.length ≤ c ∧ ∀ j v, (opCells op.1 op.2)[j]? = some v → W.cell? ⟨g, i * 129 + j, none⟩ = some v := by
  obtain ⟨hok, inner, ho, hr⟩ := k.o
  have hlt : i < ops.length := (List.getElem?_eq_some_iff.1 hi).1
  have hsz : kop.sz = 129 := rfl
  have hm := hr.2 i op hi
  have hm := kop.K_of_M hm
  obtain ⟨c0, c1, hcs, h0, h1⟩ := hm
  have h0 : c0 = [Value.int .i64 op.1] := h0
  obtain ⟨hl, h1⟩ := Kd.arr_cells h1
  have hcs : (inner.drop (i * 129)).take 129 = opCells op.1 op.2 := by rw [← hsz, hcs, h0, h1]; rfl
  refine ⟨hl, ?_⟩
  rcases ho.2 with ⟨_, hz⟩ | ⟨g, cap, cur, e, hB, hh, hc, _, _, ht⟩
  · omega
  · injection e with e1 e2 e3
    refine ⟨g, e1, by omega, fun j v hj => ?_⟩
    rw [cell_of_row W g _ cur 83 (0, 0) hh, ← Array.getElem?_toList]
    rw [← hcs, List.getElem?_take, List.getElem?_drop] at hj
    by_cases hj2 : j < 129
    · rw [if_pos hj2] at hj
      have := (List.getElem?_eq_some_iff.1 hj).1
      rw [← ht, List.getElem?_take] at hj
      split at hj
      · exact hj
      · cases hj
    · rw [if_neg hj2] at hj; cases hj
theorem run_load83 {W : World} {ad : Addr} {vs : List Value} (hl : vs.length = 129) (hc : ∀ j v, vs[j]? = some v → W.cell? (ad.add j) = some v) : (loadVar 83 ad).run Tryd.prog W = .ok (.agg vs.toArray) W := by
  have h1 := run_loadCells_list (P := Tryd.prog) W ad vs hc
  obtain ⟨i, hi, _, hs, _⟩ := infoParts info83
  have hagg : (isAgg 83).run Tryd.prog W = .ok true W := by
    unfold isAgg
    rw [Sem.run_bind, run_underlying Tryd.underlying83 W]
    rfl
  rw [hl] at h1
  simp [loadVar, Sem.run_bind, hagg, sizeOf, typeInfo, hi, hs, h1]
theorem add_at (g o j : Nat) : (⟨g, o, none⟩ : Addr).add j = ⟨g, o + j, none⟩ := add_off g o j
theorem exec_load83 {a : Act} {o : Oper} {W : World} {x : Operand} (ho : o.op = .load 83 x) {g off : Nat} {vs : List Value} (hx : a.eval x = .pointer (some ⟨g, off, none⟩)) (hl : vs.length = 129) (hc : ∀ j v, vs[j]? = some v → W.cell? ⟨g, off + j, none⟩ = some v) :
    (execOp a.eval o).run Tryd.prog W = .ok (.value (.agg vs.toArray)) W := by
  have h1 := run_load83 (W := W) (ad := ⟨g, off, none⟩) hl (fun j v hj => by rw [add_at]; exact hc j v hj)
  simp only [execOp, ho, hx, Instr.loadAt, Instr.sureAddr, Sem.run_bind, Sem.run_pure, Result.andThen_ok, h1]
theorem all_range_int : ∀ (xs ys : List Int), xs.length = ys.length → ((List.range xs.length).all fun i => xs.getD i 0 == ys.getD i 0) = (xs == ys)
  | [], [], _ => rfl
  | x :: xs, y :: ys, h => by
    have ih := all_range_int xs ys (by simpa using h)
    rw [List.length_cons, List.range_succ_eq_map, List.all_cons, List.all_map]
    simp only [List.getD_cons_zero, Function.comp_def, List.getD_cons_succ, ih]
    simp [List.cons_beq_cons]
  | [], _ :: _, h => by simp at h
  | _ :: _, [], h => by simp at h
theorem run_equalIn_cells (W : World) (d : Nat) (xs ys : List Int) (hx : xs.length = 128) (hy : ys.length = 128) :
    (Op.equalIn (d + 2) 81 (.agg (cellsB xs).toArray) (.agg (cellsB ys).toArray)).run Tryd.prog W = .ok (xs == ys) W := by
  have hsz : ∀ W : World, (sizeOf 5).run Tryd.prog W = .ok 1 W := fun W => by
    obtain ⟨i, hi, _, hs, _⟩ := infoParts info5'
    simp [sizeOf, typeInfo, hi, hs]
  rw [← all_range_int xs ys (hx.trans hy.symm), hx, List.range_eq_range', Op.equalIn]
  simp only [Sem.run_bind, run_underlying Tryd.underlying81, Result.andThen_ok, hsz, Std.Legacy.Range.forIn_eq_forIn_range', Std.Legacy.Range.size, Nat.sub_zero, Nat.add_sub_cancel, Nat.div_one]
  have hl : ∀ i ∈ List.range' 0 128 1, i < 128 := fun i hi => by have := (List.mem_range'_1.1 hi).2; omega
  generalize List.range' 0 128 1 = l at hl ⊢
  induction l with
  | nil => simp
  | cons i l ih =>
    have hi : i < 128 := hl i (by simp)
    have px : (part 5 (cellsB xs).toArray (i * 1)).run Tryd.prog W = .ok (.int .u8 (xs.getD i 0)) W := by
      simp [part, isAgg, run_underlying Tryd.underlying5, cellsB, List.getD, List.getElem?_eq_getElem (show i < xs.length by omega)]
    have py : (part 5 (cellsB ys).toArray (i * 1)).run Tryd.prog W = .ok (.int .u8 (ys.getD i 0)) W := by
      simp [part, isAgg, run_underlying Tryd.underlying5, cellsB, List.getD, List.getElem?_eq_getElem (show i < ys.length by omega)]
    have pe : (Op.equalIn (d + 1) 5 (.int .u8 (xs.getD i 0)) (.int .u8 (ys.getD i 0))).run Tryd.prog W = .ok (xs.getD i 0 == ys.getD i 0) W := run_equalIn_int W d 5 .u8 .u8 _ _ Tryd.underlying5
    simp only [List.forIn_cons, Sem.run_bind, px, py, pe, Result.andThen_ok, List.all_cons]
    cases hb : (xs.getD i 0 == ys.getD i 0)
    · simp
    · simp only [Bool.not_true, Bool.false_eq_true, if_false, Sem.run_pure, Result.andThen_ok, Bool.true_and]
      exact ih fun j hj => hl j (by simp [hj])
theorem run_neq_op (W : World) (n m : Int) (p q : List Int) (hp : p.length = 128) (hq : q.length = 128) :
    (binOp .neq 83 (.agg (opCells n p).toArray) (.agg (opCells m q).toArray)).run Tryd.prog W = .ok (.bool (!(n == m && p == q))) W := by
  have hsz : (sizeOf 81).run Tryd.prog W = .ok 128 W := by
    obtain ⟨i, hi, h2⟩ := Option.map_eq_some_iff.1 (show (Tryd.prog.info? 81).map (·.size) = some 128 by kernel_rfl)
    simp [sizeOf, typeInfo, hi, h2]
  have hagg : (isAgg 81).run Tryd.prog W = .ok true W := by
    unfold isAgg
    rw [Sem.run_bind, run_underlying Tryd.underlying81 W]
    rfl
  have hpart : ∀ (n : Int) (p : List Int), p.length = 128 → (part 81 (opCells n p).toArray 1).run Tryd.prog W = .ok (.agg (cellsB p).toArray) W := fun n p hp => by
    have he : (opCells n p).toArray.extract 1 (1 + 128) = (cellsB p).toArray := by
      rw [List.extract_toArray, List.extract_eq_take_drop]
      show (((opCells n p).drop 1).take 128).toArray = _
      rw [show (opCells n p).drop 1 = cellsB p from rfl, List.take_of_length_le (by rw [cellsB_len, hp]; exact Nat.le_refl _)]
    simp only [part, Sem.run_bind, hagg, Result.andThen_ok, hsz, if_true, Sem.run_pure, he]
  have hint : ∀ (n : Int) (p : List Int), (part 3 (opCells n p).toArray 0).run Tryd.prog W = .ok (.int .i64 n) W := fun n p => by
    simp [part, isAgg, run_underlying Tryd.underlying3, opCells]
  obtain ⟨fs, hfs⟩ : ∃ fs, fs = Tryd.prog.fieldsOf 83 := ⟨_, rfl⟩
  have he : (Op.equalIn 10000 83 (.agg (opCells n p).toArray) (.agg (opCells m q).toArray)).run Tryd.prog W = .ok (n == m && p == q) W := by
    refine eqA_of Tryd.underlying83 (by kernel_rfl) ?_
    refine eqf_cons rfl (hint n p) (hint m q) (run_equalIn_int W 9998 3 .i64 .i64 n m Tryd.underlying3) ?_
    exact eqf_last rfl (hpart n p hp) (hpart m q hq) (run_equalIn_cells W 9997 p q hp hq)
  rw [run_neq_struct, he]
  rfl
theorem exec_neq83 {a : Act} {o : Oper} {W : World} {x y : Operand} {t : TypeId} (ho : o.op = .binOp .neq 83 x y t) {n m : Int} {p q : List Int} (hx : a.eval x = .agg (opCells n p).toArray) (hy : a.eval y = .agg (opCells m q).toArray) (hp : p.length = 128) (hq : q.length = 128) :
    (execOp a.eval o).run Tryd.prog W = .ok (.value (.bool (!(n == m && p == q)))) W := by
  simp only [execOp, ho, hx, hy, Sem.run_bind, run_eqGuard_agg (P := Tryd.prog) W .neq 83 x y _ _ (by kernel_rfl), Result.andThen_ok, run_neq_op W n m p q hp hq, Sem.run_pure]
theorem wpQuiet_val {P : Program} {ops : Array Oper} {C : World → Prop} {Q : Act → Prop} {a : Act} {o : Oper} {rest : List Oper} (v : Value) (hw : Region.wanted o (yielded ops a.tmps) = true)
    (hv : ∀ w, C w → (execOp a.eval o).run P w = .ok (.value v) w) (h : wpQuiet P ops C Q rest (a.put o.dst v)) : wpQuiet P ops C Q (o :: rest) a := by
  unfold wpQuiet
  rw [if_pos hw]
  refine ⟨v, fun w hw => ?_, h⟩
  unfold Oper.quietAt
  rw [hv w hw]
  exact ⟨rfl, rfl⟩
end Go.Proofs.YtpaonoaedjkekaaDoor.Dk
