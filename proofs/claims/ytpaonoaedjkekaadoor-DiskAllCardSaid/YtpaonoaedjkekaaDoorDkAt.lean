/- A disk in memory: its block, what it was made of, what is seen, its operations. -/
import Derived.Test.YtpaonoaedjkekaaDoorDk1
import Derived.Test.YtpaonoaedjkekaaDoorWKept
namespace Go.Proofs.YtpaonoaedjkekaaDoor.Dk
open Go Go.RowKit Go.Proofs.YtpaonoaedjkekaaDoor.PD Go.Proofs.YtpaonoaedjkekaaDoorW.PrintWords Go.Proofs.YtpaonoaedjkekaaDoorW.PrintLast Go.Proofs.YtpaonoaedjkekaaDoorW.PrintMore
set_option linter.unusedVariables false
set_option linter.unusedSimpArgs false
set_option maxHeartbeats 4000000
set_option maxRecDepth 100000
abbrev kop : Kd (Int × List Int) := Kd.pair (Kd.int .i64) (Kd.arr 128 (Kd.int .u8) (by decide))
abbrev ptr (g : Nat) : Value := .pointer (some ⟨g, 0, none⟩)
abbrev sl (g n c : Nat) : Value := .slice (some ⟨g, 0, none⟩) n c
/-- A row of cells in a block of type t. -/
abbrev Rt (t g : Nat) (vs : List Value) (W : World) : Prop := W.heap[g]? = some (.cells vs.toArray t (0, 0))
theorem Rt.cell {t g : Nat} {vs : List Value} {W : World} (h : Rt t g vs W) (k : Nat) (v : Value) (hk : vs[k]? = some v) : W.cell? ⟨g, k, none⟩ = some v := by
  rw [cell_of_row W g k _ _ _ h]
  simpa using hk
theorem Rt.free {t g : Nat} {vs : List Value} {W : World} (h : Rt t g vs W) (k : Nat) : W.frozen? ⟨g, k, none⟩ = false := by simp [World.frozen?, h]
theorem Rt.set {t g : Nat} {vs : List Value} {W : World} (h : Rt t g vs W) (k : Nat) (v : Value) : W.setCell ⟨g, k, none⟩ v = W.setRow g (vs.set k v).toArray := by
  unfold World.setCell World.setRow
  congr 1
  apply Array.ext
  · simp
  · intro i h1 h2
    simp only [Array.getElem_modify]
    by_cases e : g = i
    · subst e
      have hlt : g < W.heap.size := by simpa using h1
      have hv : W.heap[g] = .cells vs.toArray t (0, 0) := (Array.getElem?_eq_some_iff.1 h).2
      simp [hv]
    · simp [e]
theorem Rt.row {t g : Nat} {vs : List Value} {W : World} (h : Rt t g vs W) (us : List Value) : Rt t g us (W.setRow g us.toArray) := setRow_heap W g _ _ _ _ h
theorem Rt.lt {t g : Nat} {vs : List Value} {W : World} (h : Rt t g vs W) : g < W.heap.size := (Array.getElem?_eq_some_iff.1 h).1
theorem below_setRow' {B g : Nat} {w0 w : World} (hb : Below B w0 w) (hBg : B ≤ g) (cs : Array Value) : Below B w0 (w.setRow g cs) :=
  ⟨hb.os, hb.tape, hb.output, by rw [setRow_size]; exact hb.size, fun k hk => (setRow_other w g k cs (by omega)).trans (hb.block k hk)⟩
structure Hd where
  D : Nat
  gf : Nat
  gs : Nat
  n : Nat
  cf : Nat
  cs : Nat
abbrev dsk (h : Hd) (vo : Value) : List Value := [sl h.gf h.n h.cf, sl h.gs h.n h.cs, vo]
structure DkAt (h : Hd) (B : Nat) (fs ss : List Int) (vo : Value) (ops : List (Int × List Int)) (W : World) : Prop where
  row : Rt 77 h.D (dsk h vo) W
  f : Mem W h.gf fs
  s : Mem W h.gs ss
  o : kop.R 83 W B (fun _ => True) vo ops
  lf : fs.length = h.n
  ls : ss.length = h.n
  bd : B ≤ h.D
  bf : B ≤ h.gf
  bs : B ≤ h.gs
  ne : h.gf ≠ h.gs
  cf : h.n ≤ h.cf
  cs : h.n ≤ h.cs
  big : h.n ≤ 524288
  pos : 0 < h.n
  few : ops.length ≤ 65536
theorem DkAt.size {h : Hd} {B : Nat} {fs ss : List Int} {vo : Value} {ops : List (Int × List Int)} {W : World} (k : DkAt h B fs ss vo ops W) : B ≤ W.heap.size := Nat.le_of_lt (Nat.lt_of_le_of_lt k.bd k.row.lt)
theorem DkAt.stay {h : Hd} {B : Nat} {fs ss : List Int} {vo : Value} {ops : List (Int × List Int)} {W W1 : World} (k : DkAt h B fs ss vo ops W) (hb : Below W.heap.size W W1) : DkAt h B fs ss vo ops W1 :=
  { k with row := (hb.block _ k.row.lt).trans k.row, f := k.f.below hb, s := k.s.below hb, o := Kd.R_below k.o hb }
theorem Mem.dne {W : World} {g D t : Nat} {xs : List Int} {vs : List Value} (h : Mem W g xs) (hr : Rt t D vs W) (ht : t ≠ 5) : g ≠ D := by
  rintro rfl
  obtain ⟨cur, h1, _⟩ := h
  have := h1.symm.trans hr
  injection this with this
  injection this with _ e _
  exact ht e.symm
/-- What a call that writes may touch. -/
abbrev Own (h : Hd) (vo : Value) : Nat → Prop := fun k => k = h.D ∨ k = h.gs ∨ some k = vo.ownBlock
theorem Mem.one {W : World} {g : Nat} {xs : List Int} (h : Mem W g xs) {B : Nat} {vo : Value} {ops : List (Int × List Int)} {ok : Nat → Prop} (ho : kop.R 83 W B ok vo ops) : some g ≠ vo.ownBlock := by
  obtain ⟨cur, h1, _⟩ := h
  exact Kd.R_ne ho h1 (by decide)
theorem DkAt.fD {h : Hd} {B : Nat} {fs ss : List Int} {vo : Value} {ops : List (Int × List Int)} {W : World} (k : DkAt h B fs ss vo ops W) : h.gf ≠ h.D ∧ h.gs ≠ h.D := ⟨k.f.dne k.row (by decide), k.s.dne k.row (by decide)⟩
theorem DkAt.own_lt {h : Hd} {B : Nat} {fs ss : List Int} {vo : Value} {ops : List (Int × List Int)} {W : World} (k : DkAt h B fs ss vo ops W) : ∀ j, Own h vo j → B ≤ j ∧ j < W.heap.size := by
  rintro j (rfl | rfl | hj)
  · exact ⟨k.bd, k.row.lt⟩
  · exact ⟨k.bs, k.s.lt⟩
  · exact ⟨Kd.R_base k.o j hj.symm, Kd.R_lt k.o j hj.symm⟩
theorem DkAt.appended {h : Hd} {B : Nat} {fs ss : List Int} {vo v1 : Value} {ops : List (Int × List Int)} {op : Int × List Int} {W w1 : World} (k : DkAt h B fs ss vo ops W)
    (ho : kop.R 83 w1 B (fun _ => True) v1 (ops ++ [op])) (hb : Below B W w1) (hg : W.grownBy w1 vo.ownBlock) (hl : ops.length < 65536) :
    DkAt h B fs ss v1 (ops ++ [op]) (w1.setRow h.D (dsk h v1).toArray) ∧ Kept W (w1.setRow h.D (dsk h v1).toArray) (Own h vo) ∧ Below B W (w1.setRow h.D (dsk h v1).toArray) := by
  obtain ⟨q1, q2⟩ := k.fD
  have hr1 : Rt 77 h.D (dsk h vo) w1 := (hg.block h.D k.row.lt (Kd.R_ne k.o k.row (by decide))).trans k.row
  refine ⟨{ k with row := hr1.row _, f := ?_, s := ?_, o := ?_, few := by simp; omega }, ?_, below_setRow' hb k.bd _⟩
  · exact (k.f.move (hg.block _ k.f.lt (k.f.one k.o))).move (setRow_other _ _ _ _ q1)
  · exact (k.s.move (hg.block _ k.s.lt (k.s.one k.o))).move (setRow_other _ _ _ _ q2)
  · exact Kd.R_mono (Kd.R_step (Kd.R_types ho hr1 (by intro q hq; simp [Kd.int, Kd.scalar, Kd.pair, Kd.arr] at hq; omega)) (fun j hj _ => setRow_other _ _ _ _ hj.2)) (fun _ _ => trivial)
  · refine ⟨by rw [setRow_size]; exact hg.size, fun j hj hn => ?_⟩
    exact (setRow_other _ _ _ _ (fun e => hn (.inl e))).trans (hg.block j hj (fun e => hn (.inr (.inr e))))
theorem DkAt.look {h : Hd} {B : Nat} {fs ss ss' : List Int} {vo : Value} {ops : List (Int × List Int)} {W : World} (k : DkAt h B fs ss vo ops W) (cs : Array Value)
    (hM : Mem (W.setRow h.gs cs) h.gs ss') (hl : ss'.length = h.n) :
    DkAt h B fs ss' vo ops (W.setRow h.gs cs) ∧ Kept W (W.setRow h.gs cs) (Own h vo) ∧ Below B W (W.setRow h.gs cs) := by
  obtain ⟨q1, q2⟩ := k.fD
  refine ⟨{ k with row := ?_, f := ?_, s := hM, o := ?_, ls := hl }, ?_, below_setRow' (Below.refl _ _) k.bs _⟩
  · exact (setRow_other _ _ _ _ (Ne.symm q2)).trans k.row
  · exact k.f.move (setRow_other _ _ _ _ k.ne)
  · obtain ⟨cur, h1, _⟩ := k.s
    exact Kd.R_mono (Kd.R_step (Kd.R_types k.o h1 (by intro q hq; simp [Kd.int, Kd.scalar, Kd.pair, Kd.arr] at hq; omega)) (fun j hj _ => setRow_other _ _ _ _ hj.2)) (fun _ _ => trivial)
  · exact ⟨by rw [setRow_size]; exact Nat.le_refl _, fun j hj hn => setRow_other _ _ _ _ (fun e => hn (.inr (.inl e)))⟩
end Go.Proofs.YtpaonoaedjkekaaDoor.Dk
