/- What the codec writes and reads: texts of this session joined, with what is not needed left out. -/
import Derived.Lib.SlBytesConst
import Derived.Lib.SliceRun
import Derived.Test.YtafmoglaockepaaFo1
import Derived.Test.YtafmoglaockepaaProg
import Derived.Below
import Derived.Deep.Draws
import Derived.Deep.AppendLies
import Derived.Maps.AppendAt
import Derived.OwnWalk
import Derived.Laws.BytesArg
import Derived.Laws.MakeOwn
import Derived.Laws.OwnMore
import Derived.Deep.OwnRows
import Derived.Tactics
import Derived.Lib.ConvBytes
import Derived.Laws.Slices
import Derived.WalkKit
import Derived.KernelRfl
import Derived.RowKit3
import Derived.Deep.LoopGhost
import Derived.Deep.QuietTactic
import Derived.BigQuiet
import Derived.WideLaws
import Derived.Deep.DeepCutAuto
import Derived.Deep.CutBlock
import Derived.Deep.RegionHeld3
import Derived.Laws.Rows
import Derived.Lib.AppendStr
import Derived.ArgAppend
import Derived.Laws.IdiomCopy
import Derived.OrdersHeld
import Derived.Laws.BitsLemmas
import Derived.RowKit
import Derived.Laws.BitsAllLaws
import Derived.Laws.Bits64
import Derived.Lib.Zigzag
import Derived.Deep.RegionLaw
section
namespace Go.Proofs.Ytafmoglaockepaa.Mine
set_option linter.unusedVariables false
open Go Go.RowKit Go.Proofs.YtafmoglaockepaaW.PrintWords Go.Proofs.YtafmoglaockepaaW.PrintLast Go.Proofs.YtafmoglaockepaaW.PrintMore
section
variable {P : Program} {ops : Array Oper} {rest : List Oper} {o : Oper} {a : Act} {Q : Exit → Act → World → Prop} {α : Type}
theorem R_makeCap (d : Kd α) {w0 W : World} (base e : Nat) (hgd : o.guard = none) {N : Tmp} (_hd : o.dst = some N) (t : TypeId) (x y : Operand) (ho : o.op = .makeSlice t x y) (n : Int) (hx : a.eval x = .int .i64 0) (hy : a.eval y = .int .i64 n)
    (ht : P.underlying t = some (.slice e)) (z : Value) (bytes : Nat) (hinfo : (P.info? e).map (fun i => (i.zero, i.size, i.bytes)) = some (some z, d.sz, bytes)) (hz : z.cells.size = d.sz) (hb0 : 0 < bytes)
    {ok : Nat → Prop} (hfresh : ok W.heap.size) (h0 : 0 ≤ n) (hl : n.toNat * bytes ≤ 281474976710656) (HB : Below base w0 W) (hbase : base ≤ W.heap.size)
    (h : ∀ v1 w1, d.R e w1 base ok v1 [] → Below base w0 w1 → W.grownBy w1 none → (∃ b, v1.ownBlock = some b ∧ W.heap.size ≤ b) → wpList P ops Q rest (a.put o.dst v1) w1) : wpList P ops Q (o :: rest) a W := by
  obtain ⟨m, rfl⟩ := Int.eq_ofNat_of_zero_le h0
  simp only [Int.toNat_natCast] at hl
  obtain ⟨i0, hi, hzz⟩ := Option.map_eq_some_iff.1 hinfo
  simp only [Prod.mk.injEq] at hzz
  obtain ⟨hz0, hz1, hz2⟩ := hzz
  have hm : m ≤ 281474976710656 := Nat.le_trans (Nat.le_mul_of_pos_right _ hb0) hl
  have hr := run_make (P := P) W t e i0 z ht hi hz0 .i64 .i64 0 (m : Int) (by omega) (by omega)
    (by
      have h3 : ((i0.bytes * m : Nat) : Int) ≤ 281474976710656 := by rw [hz2, Nat.mul_comm]; omega
      rwa [Int.natCast_mul] at h3) (by omega)
  simp only [Int.toNat_natCast] at hr
  rw [hz1] at hr
  have hrun : (execOp a.eval o).run P W = .ok (.value (.slice (some ⟨W.heap.size, 0, none⟩) 0 m)) (W.alloc (.cells (madeCells z.cells (m * d.sz)) e)) := by
    simp [execOp, ho, hx, hy, hr]
  refine Kd.event_run hgd hrun (h _ _ ⟨fun k hk => ?_, [], ?_, ?_⟩ (HB.alloc hbase _) (World.grownBy_alloc W _ none) ⟨W.heap.size, by simp [Value.ownBlock], Nat.le_refl _⟩)
  · have : W.heap.size = k := by simpa [Value.ownBlock] using hk
    subst this
    exact hfresh
  · refine ⟨by simp, .inr ⟨W.heap.size, m, madeCells z.cells (m * d.sz), rfl, hbase, heap_alloc_new W _, by simp, by simp only [maxLen]; omega, ?_, by simp⟩⟩
    simp [size_madeCells]
  · exact Reps.none _ _
end
end Go.Proofs.Ytafmoglaockepaa.Mine
end
section
-- Written by a program of this session (wip/pp), out of the translation.
namespace Go.Proofs.Ytafmoglaockepaa.PG
open Go.RowKit Go.Proofs.Ytafmoglaockepaa.Mine Go.Proofs.YtafmoglaockepaaW.PrintWords Go.Proofs.YtafmoglaockepaaW.PrintLast Go.Proofs.YtafmoglaockepaaW.PrintMore
attribute [local go_sem] max2_int min2_int max_two min_two max_three min_three max_four min_four   -- for this text's walks alone
set_option linter.unusedVariables false
set_option linter.unusedSimpArgs false
def errW : Option Int → Value
  | none => .nilIface
  | some c => .iface 0 (.int .i64 c)
theorem errW_none : errW none = .nilIface := rfl
theorem errW_some (c : Int) : errW (some c) = .iface 0 (.int .i64 c) := rfl
theorem info5 : (Try.prog.info? 5).map (fun i => (i.zero, i.size, i.bytes)) = some (some (.int .u8 0), 1, 1) := by kernel_rfl
theorem info28 : (Try.prog.info? 28).map (fun i => (i.zero, i.size, i.bytes)) = some (some (.agg #[(.string ⟨#[]⟩), (.int .i64 0), (.int .i64 0)]), 3, 32) := by kernel_rfl
theorem info110 : (Try.prog.info? 110).map (fun i => (i.zero, i.size, i.bytes)) = some (some (.agg #[(.string ⟨#[]⟩), (.int .i64 0)]), 2, 24) := by kernel_rfl
theorem info121 : (Try.prog.info? 121).map (fun i => (i.zero, i.size, i.bytes)) = some (some (.agg #[(.string ⟨#[]⟩), (.slice none 0 0), (.int .i64 0)]), 3, 48) := by kernel_rfl
theorem info123 : (Try.prog.info? 123).map (fun i => (i.zero, i.size, i.bytes)) = some (some (.agg #[(.string ⟨#[]⟩), (.int .i64 0), (.slice none 0 0), (.string ⟨#[]⟩), (.int .i64 0), (.int .i64 0), (.int .i64 0)]), 7, 88) := by kernel_rfl
-- the values' own types
structure S110 where
  f0 : ByteArray
  f1 : Int
def z110 : S110 := ⟨(⟨#[]⟩ : ByteArray), (0 : Int)⟩
def k110 : Kd S110 := Kd.iso (Kd.pair Kd.string (Kd.int .i64)) (fun x : S110 => (x.f0, x.f1))
theorem k110_open {w : World} {x : S110} {cs : List Value} (h : k110.K w x cs) : cs = [.string x.f0, .int .i64 x.f1] := by
  obtain ⟨_, _, rfl, rfl, rfl⟩ := h
  exact rfl
theorem k110_mk (w : World) (x : S110)  : k110.K w x [.string x.f0, .int .i64 x.f1] := ⟨[.string x.f0], [.int .i64 x.f1], rfl, rfl, rfl⟩
theorem k110_mkM (w : World) (base : Nat) (ok : Nat → Prop) (x : S110)  : k110.M w base ok x [.string x.f0, .int .i64 x.f1] := ⟨[.string x.f0], [.int .i64 x.f1], rfl, rfl, rfl⟩
def rd_T110 (xs : List S110) (i : Int) : S110 := xs.getD i.toNat z110
theorem at_T110 {w : World} {A : Option Addr} {n : Nat} {xs : List S110} (h : Kd.C k110 w A n xs) (i : Int) (h0 : 0 ≤ i) (h1 : i < n) : ∃ ad , A = some ad ∧ w.cell? (ad.add (i.toNat * 2)) = some (.string (rd_T110 xs i).f0) ∧ w.cell? ⟨(ad.add (i.toNat * 2)).block, (ad.add (i.toNat * 2)).off + 1, none⟩ = some (.int .i64 (rd_T110 xs i).f1) := by
  obtain ⟨ad, c, e, _, hK, hc0⟩ := Kd.C_get h z110 i h0 h1
  have hc : ∀ j u, c[j]? = some u → w.cell? (ad.add (i.toNat * 2 + j)) = some u := hc0
  obtain rfl := k110_open hK
  exact ⟨ad, e, hc 0 _ rfl, by rw [← add_field _ _ 1 (by omega)]; exact hc 1 _ rfl⟩
structure S28 where
  f0 : ByteArray
  f1 : Int
  f2 : Int
def z28 : S28 := ⟨(⟨#[]⟩ : ByteArray), (0 : Int), (0 : Int)⟩
def k28 : Kd S28 := Kd.iso (Kd.pair Kd.string (Kd.pair (Kd.int .i64) (Kd.int .i64))) (fun x : S28 => (x.f0, x.f1, x.f2))
theorem k28_open {w : World} {x : S28} {cs : List Value} (h : k28.K w x cs) : cs = [.string x.f0, .int .i64 x.f1, .int .i64 x.f2] := by
  obtain ⟨_, _, rfl, rfl, ⟨_, _, rfl, rfl, rfl⟩⟩ := h
  exact rfl
theorem k28_mkM (w : World) (base : Nat) (ok : Nat → Prop) (x : S28)  : k28.M w base ok x [.string x.f0, .int .i64 x.f1, .int .i64 x.f2] := ⟨[.string x.f0], [.int .i64 x.f1, .int .i64 x.f2], rfl, rfl, ⟨[.int .i64 x.f1], [.int .i64 x.f2], rfl, rfl, rfl⟩⟩
def rd_T28 (xs : List S28) (i : Int) : S28 := xs.getD i.toNat z28
theorem at_T28 {w : World} {A : Option Addr} {n : Nat} {xs : List S28} (h : Kd.C k28 w A n xs) (i : Int) (h0 : 0 ≤ i) (h1 : i < n) : ∃ ad , A = some ad ∧ w.cell? (ad.add (i.toNat * 3)) = some (.string (rd_T28 xs i).f0) ∧ w.cell? ⟨(ad.add (i.toNat * 3)).block, (ad.add (i.toNat * 3)).off + 1, none⟩ = some (.int .i64 (rd_T28 xs i).f1) ∧ w.cell? ⟨(ad.add (i.toNat * 3)).block, (ad.add (i.toNat * 3)).off + 2, none⟩ = some (.int .i64 (rd_T28 xs i).f2) := by
  obtain ⟨ad, c, e, _, hK, hc0⟩ := Kd.C_get h z28 i h0 h1
  have hc : ∀ j u, c[j]? = some u → w.cell? (ad.add (i.toNat * 3 + j)) = some u := hc0
  obtain rfl := k28_open hK
  exact ⟨ad, e, hc 0 _ rfl, by rw [← add_field _ _ 1 (by omega)]; exact hc 1 _ rfl, by rw [← add_field _ _ 2 (by omega)]; exact hc 2 _ rfl⟩
structure S121 where
  f0 : ByteArray
  f1 : (List S110)
  f2 : Int
def z121 : S121 := ⟨(⟨#[]⟩ : ByteArray), ([] : List S110), (0 : Int)⟩
def k121 : Kd S121 := Kd.iso (Kd.pair Kd.string (Kd.pair (Kd.slice 110 k110) (Kd.int .i64))) (fun x : S121 => (x.f0, x.f1, x.f2))
theorem k121_open {w : World} {x : S121} {cs : List Value} (h : k121.K w x cs) : ∃ A1 c1, cs = [.string x.f0, .slice A1 x.f1.length c1, .int .i64 x.f2] ∧ x.f1.length ≤ c1 ∧ k110.C w A1 x.f1.length x.f1 := by
  obtain ⟨_, _, rfl, rfl, ⟨_, _, rfl, ⟨A1, c1, rfl, l1, g1⟩, rfl⟩⟩ := h
  exact ⟨A1, c1, rfl, l1, g1⟩
theorem k121_mkM (w : World) (base : Nat) (ok : Nat → Prop) (x : S121) {v1 : Value} (g1 : k110.R 110 w base ok v1 x.f1) : k121.M w base ok x [.string x.f0, v1, .int .i64 x.f2] := ⟨[.string x.f0], [v1, .int .i64 x.f2], rfl, rfl, ⟨[v1], [.int .i64 x.f2], rfl, ⟨v1, rfl, g1⟩, rfl⟩⟩
def rd_T121 (xs : List S121) (i : Int) : S121 := xs.getD i.toNat z121
theorem at_T121 {w : World} {A : Option Addr} {n : Nat} {xs : List S121} (h : Kd.C k121 w A n xs) (i : Int) (h0 : 0 ≤ i) (h1 : i < n) : ∃ ad A1 c1, A = some ad ∧ w.cell? (ad.add (i.toNat * 3)) = some (.string (rd_T121 xs i).f0) ∧ w.cell? ⟨(ad.add (i.toNat * 3)).block, (ad.add (i.toNat * 3)).off + 1, none⟩ = some (.slice A1 (rd_T121 xs i).f1.length c1) ∧ w.cell? ⟨(ad.add (i.toNat * 3)).block, (ad.add (i.toNat * 3)).off + 2, none⟩ = some (.int .i64 (rd_T121 xs i).f2) ∧ (rd_T121 xs i).f1.length ≤ c1 ∧ k110.C w A1 (rd_T121 xs i).f1.length (rd_T121 xs i).f1 := by
  obtain ⟨ad, c, e, _, hK, hc0⟩ := Kd.C_get h z121 i h0 h1
  have hc : ∀ j u, c[j]? = some u → w.cell? (ad.add (i.toNat * 3 + j)) = some u := hc0
  obtain ⟨A1, c1, rfl, l1, g1⟩ := k121_open hK
  exact ⟨ad, A1, c1, e, hc 0 _ rfl, by rw [← add_field _ _ 1 (by omega)]; exact hc 1 _ rfl, by rw [← add_field _ _ 2 (by omega)]; exact hc 2 _ rfl, l1, g1⟩
structure S40 where
  f0 : ByteArray
  f1 : Int
  f2 : (List S110)
  f3 : ByteArray
  f4 : Int
  f5 : Int
def z40 : S40 := ⟨(⟨#[]⟩ : ByteArray), (0 : Int), ([] : List S110), (⟨#[]⟩ : ByteArray), (0 : Int), (0 : Int)⟩
def k40 : Kd S40 := Kd.iso (Kd.pair Kd.string (Kd.pair (Kd.int .i64) (Kd.pair (Kd.slice 110 k110) (Kd.pair Kd.string (Kd.pair (Kd.int .i64) (Kd.int .i64)))))) (fun x : S40 => (x.f0, x.f1, x.f2, x.f3, x.f4, x.f5))
theorem k40_open {w : World} {x : S40} {cs : List Value} (h : k40.K w x cs) : ∃ A2 c2, cs = [.string x.f0, .int .i64 x.f1, .slice A2 x.f2.length c2, .string x.f3, .int .i64 x.f4, .int .i64 x.f5] ∧ x.f2.length ≤ c2 ∧ k110.C w A2 x.f2.length x.f2 := by
  obtain ⟨_, _, rfl, rfl, ⟨_, _, rfl, rfl, ⟨_, _, rfl, ⟨A2, c2, rfl, l2, g2⟩, ⟨_, _, rfl, rfl, ⟨_, _, rfl, rfl, rfl⟩⟩⟩⟩⟩ := h
  exact ⟨A2, c2, rfl, l2, g2⟩
theorem k40_mkM (w : World) (base : Nat) (ok : Nat → Prop) (x : S40) {v2 : Value} (g2 : k110.R 110 w base ok v2 x.f2) : k40.M w base ok x [.string x.f0, .int .i64 x.f1, v2, .string x.f3, .int .i64 x.f4, .int .i64 x.f5] := ⟨[.string x.f0], [.int .i64 x.f1, v2, .string x.f3, .int .i64 x.f4, .int .i64 x.f5], rfl, rfl, ⟨[.int .i64 x.f1], [v2, .string x.f3, .int .i64 x.f4, .int .i64 x.f5], rfl, rfl, ⟨[v2], [.string x.f3, .int .i64 x.f4, .int .i64 x.f5], rfl, ⟨v2, rfl, g2⟩, ⟨[.string x.f3], [.int .i64 x.f4, .int .i64 x.f5], rfl, rfl, ⟨[.int .i64 x.f4], [.int .i64 x.f5], rfl, rfl, rfl⟩⟩⟩⟩⟩
structure S123 where
  f0 : S40
  f1 : Int
def z123 : S123 := ⟨z40, (0 : Int)⟩
def k123 : Kd S123 := Kd.iso (Kd.pair k40 (Kd.int .i64)) (fun x : S123 => (x.f0, x.f1))
theorem k123_open {w : World} {x : S123} {cs : List Value} (h : k123.K w x cs) : ∃ A2 c2, cs = [.string x.f0.f0, .int .i64 x.f0.f1, .slice A2 x.f0.f2.length c2, .string x.f0.f3, .int .i64 x.f0.f4, .int .i64 x.f0.f5, .int .i64 x.f1] ∧ x.f0.f2.length ≤ c2 ∧ k110.C w A2 x.f0.f2.length x.f0.f2 := by
  obtain ⟨_, _, rfl, s0, rfl⟩ := h
  obtain ⟨A2, c2, rfl, l2, g2⟩ := k40_open s0
  exact ⟨A2, c2, rfl, l2, g2⟩
theorem k123_mkM (w : World) (base : Nat) (ok : Nat → Prop) (x : S123) {v2 : Value} (g2 : k110.R 110 w base ok v2 x.f0.f2) : k123.M w base ok x [.string x.f0.f0, .int .i64 x.f0.f1, v2, .string x.f0.f3, .int .i64 x.f0.f4, .int .i64 x.f0.f5, .int .i64 x.f1] := ⟨[.string x.f0.f0, .int .i64 x.f0.f1, v2, .string x.f0.f3, .int .i64 x.f0.f4, .int .i64 x.f0.f5], [.int .i64 x.f1], rfl, (k40_mkM w base ok x.f0 g2), rfl⟩
def rd_T123 (xs : List S123) (i : Int) : S123 := xs.getD i.toNat z123
theorem at_T123 {w : World} {A : Option Addr} {n : Nat} {xs : List S123} (h : Kd.C k123 w A n xs) (i : Int) (h0 : 0 ≤ i) (h1 : i < n) : ∃ ad A2 c2, A = some ad ∧ w.cell? (ad.add (i.toNat * 7)) = some (.string (rd_T123 xs i).f0.f0) ∧ w.cell? ⟨(ad.add (i.toNat * 7)).block, (ad.add (i.toNat * 7)).off + 1, none⟩ = some (.int .i64 (rd_T123 xs i).f0.f1) ∧ w.cell? ⟨(ad.add (i.toNat * 7)).block, (ad.add (i.toNat * 7)).off + 2, none⟩ = some (.slice A2 (rd_T123 xs i).f0.f2.length c2) ∧ w.cell? ⟨(ad.add (i.toNat * 7)).block, (ad.add (i.toNat * 7)).off + 3, none⟩ = some (.string (rd_T123 xs i).f0.f3) ∧ w.cell? ⟨(ad.add (i.toNat * 7)).block, (ad.add (i.toNat * 7)).off + 4, none⟩ = some (.int .i64 (rd_T123 xs i).f0.f4) ∧ w.cell? ⟨(ad.add (i.toNat * 7)).block, (ad.add (i.toNat * 7)).off + 5, none⟩ = some (.int .i64 (rd_T123 xs i).f0.f5) ∧ w.cell? ⟨(ad.add (i.toNat * 7)).block, (ad.add (i.toNat * 7)).off + 6, none⟩ = some (.int .i64 (rd_T123 xs i).f1) ∧ (rd_T123 xs i).f0.f2.length ≤ c2 ∧ k110.C w A2 (rd_T123 xs i).f0.f2.length (rd_T123 xs i).f0.f2 := by
  obtain ⟨ad, c, e, _, hK, hc0⟩ := Kd.C_get h z123 i h0 h1
  have hc : ∀ j u, c[j]? = some u → w.cell? (ad.add (i.toNat * 7 + j)) = some u := hc0
  obtain ⟨A2, c2, rfl, l2, g2⟩ := k123_open hK
  exact ⟨ad, A2, c2, e, hc 0 _ rfl, by rw [← add_field _ _ 1 (by omega)]; exact hc 1 _ rfl, by rw [← add_field _ _ 2 (by omega)]; exact hc 2 _ rfl, by rw [← add_field _ _ 3 (by omega)]; exact hc 3 _ rfl, by rw [← add_field _ _ 4 (by omega)]; exact hc 4 _ rfl, by rw [← add_field _ _ 5 (by omega)]; exact hc 5 _ rfl, by rw [← add_field _ _ 6 (by omega)]; exact hc 6 _ rfl, l2, g2⟩
end Go.Proofs.Ytafmoglaockepaa.PG
end
section
-- Written by a program of this session (wip/pp), out of the translation.
namespace Go.Proofs.Ytafmoglaockepaa.PG
open Go.RowKit Go.Proofs.Ytafmoglaockepaa.Mine Go.Proofs.YtafmoglaockepaaW.PrintWords Go.Proofs.YtafmoglaockepaaW.PrintLast Go.Proofs.YtafmoglaockepaaW.PrintMore
attribute [local go_sem] max2_int min2_int max_two min_two max_three min_three max_four min_four   -- for this text's walks alone
set_option linter.unusedVariables false
set_option linter.unusedSimpArgs false
def frame_group.j0 : Nat → Int → Int → Int → Bool → Option (Int × Bool × Int)
  | 0, _, _, _, _ => none
  | k + 1, x0, x1, x2, x9 => if x9 = true then (some (0, false, 11)) else (if x2 = 0 then (if x1 > 0 then (some (0, false, 10)) else (if 0 ≤ (wrap64 (x1 * 7)) then (some (Go.bits .or .u64 x0 (shl .u64 (IntKind.u64.wrap (Go.bits .andNot .u8 x2 128)) (wrap64 (x1 * 7))), decide (x2 < 128), 0)) else (none))) else (if 0 ≤ (wrap64 (x1 * 7)) then (some (Go.bits .or .u64 x0 (shl .u64 (IntKind.u64.wrap (Go.bits .andNot .u8 x2 128)) (wrap64 (x1 * 7))), decide (x2 < 128), 0)) else (none)))
def frame_group.f (k : Nat) (a0 : Int) (a1 : Int) (a2 : Int) : Option (Int × Bool × Int) := if a1 = 9 then (frame_group.j0 k a0 a1 a2 (decide (a2 > 1))) else (frame_group.j0 k a0 a1 a2 false)
set_option maxHeartbeats 8000000 in
set_option maxRecDepth 100000 in
theorem frame_group.calls (k : Nat) (a0 : Int) (a1 : Int) (a2 : Int) (r1 : Int) (r2 : Bool) (r3 : Int) (w : World) (h : frame_group.f k a0 a1 a2 = some (r1, r2, r3)) :
    Calls Try.prog 140 #[.int .u64 a0, .int .i64 a1, .int .u8 a2] w fun e w' => e = .returned (.tuple #[.int .u64 r1, .bool r2, .int .i64 r3]) ∧ Drawn0 w w' := by
  have H : (if a1 = 9 then (frame_group.j0 k a0 a1 a2 (decide (a2 > 1))) else (frame_group.j0 k a0 a1 a2 false)) = some (r1, r2, r3) := h
  clear h
  have HC4 := Aside0.mk H
  clear H
  go_enter Try.func140, Try.ntmps140
  go_upto_region 1 with (fail)
  go_cut [9] (fun v9 wc => ∃ (kq : Nat) (x9_3 : Bool), v9 = .bool x9_3 ∧ Aside0 (frame_group.j0 kq a0 a1 a2 x9_3 = some (r1, r2, r3)) ∧ Aside0 (kq ≤ k) ∧ Drawn0 w wc)
  case first =>
    have H := HC4.out
    clear HC4
    by_cases c5 : a1 = 9
    · rw [if_pos c5] at H
      have c5b0 : (a1 == 9) = true := beq_iff_eq.mpr c5
      have c5b1 : (a1 != 9) = false := bne_eq_false_iff_eq.mpr c5
      clear c5
      (first | rw [c5b0] | (simp only [i64_w, i32_w]; rw [c5b0]) | skip)
      have H' := Aside0.mk H
      clear H
      go_wp2
      go_meet
      case rel => exact ⟨_, (decide (a2 > 1)), (by first | rfl | (simp; done) | (simp [*]; done)), H', ⟨by first | omega | exact Nat.le_refl _⟩, by repeat (first | exact Drawn0.refl _ | apply Drawn0.step)⟩
    · rw [if_neg c5] at H
      have c5b0 : (a1 == 9) = false := beq_eq_false_iff_ne.mpr c5
      have c5b1 : (a1 != 9) = true := bne_iff_ne.mpr c5
      (first | rw [c5b0] | (simp only [i64_w, i32_w]; rw [c5b0]) | skip)
      have H' := Aside0.mk H
      clear H
      go_wp2
      go_meet
      case rel => exact ⟨_, (false), (by first | rfl | (simp; done) | (simp [*]; done)), H', ⟨by first | omega | exact Nat.le_refl _⟩, by repeat (first | exact Drawn0.refl _ | apply Drawn0.step)⟩
  case rest =>
    clear HC4
    try clear c1
    try clear p2
    try clear c5
    try clear c5b0
    try clear c5b1
    obtain ⟨kq, x9_3, rfl, HA, HJ3, ⟨mc3, rfl⟩⟩ := hcut
    cases kq with
    | zero => exact absurd HA.out (by simp [frame_group.j0])
    | succ kj3 =>
      have H := HA.out
      clear HA
      simp only [frame_group.j0] at H
      by_cases c6 : x9_3 = true
      · subst c6
        have H1 : (some (0, false, 11)) = some (r1, r2, r3) := by rw [if_pos rfl] at H; exact H
        clear H
        have H := H1
        clear H1
        simp only [Option.some.injEq, Prod.mk.injEq] at H
        obtain ⟨rfl, rfl, rfl⟩ := H
        go_wp2
        go_ret3
        exact ⟨by first | rfl | (simp; done) | (simp [*]; done), by repeat (first | exact Drawn0.refl _ | apply Drawn0.step)⟩
      · replace c6 := Bool.eq_false_iff.mpr c6
        subst c6
        have H1 : (if a2 = 0 then (if a1 > 0 then (some (0, false, 10)) else (if 0 ≤ (wrap64 (a1 * 7)) then (some (Go.bits .or .u64 a0 (shl .u64 (IntKind.u64.wrap (Go.bits .andNot .u8 a2 128)) (wrap64 (a1 * 7))), decide (a2 < 128), 0)) else (none))) else (if 0 ≤ (wrap64 (a1 * 7)) then (some (Go.bits .or .u64 a0 (shl .u64 (IntKind.u64.wrap (Go.bits .andNot .u8 a2 128)) (wrap64 (a1 * 7))), decide (a2 < 128), 0)) else (none))) = some (r1, r2, r3) := by rw [if_neg (show ¬ (false = true) by decide)] at H; exact H
        clear H
        have H := H1
        clear H1
        by_cases c7 : a2 = 0
        · rw [if_pos c7] at H
          have c7b0 : (a2 == 0) = true := beq_iff_eq.mpr c7
          have c7b1 : (a2 != 0) = false := bne_eq_false_iff_eq.mpr c7
          clear c7
          by_cases c8 : a1 > 0
          · rw [if_pos c8] at H
            have c8b0 : decide (0 < a1) = true := decide_eq_true c8
            clear c8
            simp only [Option.some.injEq, Prod.mk.injEq] at H
            obtain ⟨rfl, rfl, rfl⟩ := H
            go_wp2
            go_ret3
            exact ⟨by first | rfl | (simp; done) | (simp [*]; done), by repeat (first | exact Drawn0.refl _ | apply Drawn0.step)⟩
          · rw [if_neg c8] at H
            have c8b0 : decide (0 < a1) = false := decide_eq_false c8
            clear c8
            obtain ⟨ji9, hji9⟩ : ∃ j_ : Int, (wrap64 (a1 * 7)) = j_ := ⟨_, rfl⟩
            replace H : (if 0 ≤ (ji9) then (some (Go.bits .or .u64 a0 (shl .u64 (IntKind.u64.wrap (Go.bits .andNot .u8 a2 128)) (ji9)), decide (a2 < 128), 0)) else (none)) = some (r1, r2, r3) := by first | (rw [hji9] at H; exact H) | (simp only [hji9] at H ⊢; exact H)
            have hji9w : (IntKind.i64.wrap (a1 * 7)) = ji9 := (i64_w _).trans hji9
            by_cases c10 : 0 ≤ (ji9)
            · rw [if_pos c10] at H
              have c10b0 := eq_true c10
              have c10b1 : decide (0 ≤ (ji9)) = true := decide_eq_true c10
              clear c10
              obtain ⟨ji11, hji11⟩ : ∃ j_ : Int, (shl .u64 (IntKind.u64.wrap (Go.bits .andNot .u8 a2 128)) (ji9)) = j_ := ⟨_, rfl⟩
              replace H : (some (Go.bits .or .u64 a0 (ji11), decide (a2 < 128), 0)) = some (r1, r2, r3) := by first | (rw [hji11] at H; exact H) | (simp only [hji11] at H ⊢; exact H)
              have hji11_ : (IntKind.u64.wrap ((IntKind.u64.wrap (Go.bits .andNot .u8 a2 128)) * 2 ^ min (ji9).toNat 64)) = ji11 := hji11
              have hji11z : (ji9) ≤ 64 → (IntKind.u64.wrap ((IntKind.u64.wrap (Go.bits .andNot .u8 a2 128)) * 2 ^ (ji9).toNat)) = ji11 := shl_small hji11
              (try rw [hji11] at hji9)
              (try rw [hji11] at hji9w)
              simp only [Option.some.injEq, Prod.mk.injEq] at H
              obtain ⟨rfl, rfl, rfl⟩ := H
              go_wp2
              go_ret3
              exact ⟨by first | rfl | (simp; done) | (simp only [← hji9, ← hji11] <;> (first | rfl | simp)) | (simp [*]; done), by repeat (first | exact Drawn0.refl _ | apply Drawn0.step)⟩
            · rw [if_neg c10] at H
              exact absurd H (by simp)
        · rw [if_neg c7] at H
          have c7b0 : (a2 == 0) = false := beq_eq_false_iff_ne.mpr c7
          have c7b1 : (a2 != 0) = true := bne_iff_ne.mpr c7
          obtain ⟨ji12, hji12⟩ : ∃ j_ : Int, (wrap64 (a1 * 7)) = j_ := ⟨_, rfl⟩
          replace H : (if 0 ≤ (ji12) then (some (Go.bits .or .u64 a0 (shl .u64 (IntKind.u64.wrap (Go.bits .andNot .u8 a2 128)) (ji12)), decide (a2 < 128), 0)) else (none)) = some (r1, r2, r3) := by first | (rw [hji12] at H; exact H) | (simp only [hji12] at H ⊢; exact H)
          have hji12w : (IntKind.i64.wrap (a1 * 7)) = ji12 := (i64_w _).trans hji12
          by_cases c13 : 0 ≤ (ji12)
          · rw [if_pos c13] at H
            have c13b0 := eq_true c13
            have c13b1 : decide (0 ≤ (ji12)) = true := decide_eq_true c13
            clear c13
            obtain ⟨ji14, hji14⟩ : ∃ j_ : Int, (shl .u64 (IntKind.u64.wrap (Go.bits .andNot .u8 a2 128)) (ji12)) = j_ := ⟨_, rfl⟩
            replace H : (some (Go.bits .or .u64 a0 (ji14), decide (a2 < 128), 0)) = some (r1, r2, r3) := by first | (rw [hji14] at H; exact H) | (simp only [hji14] at H ⊢; exact H)
            have hji14_ : (IntKind.u64.wrap ((IntKind.u64.wrap (Go.bits .andNot .u8 a2 128)) * 2 ^ min (ji12).toNat 64)) = ji14 := hji14
            have hji14z : (ji12) ≤ 64 → (IntKind.u64.wrap ((IntKind.u64.wrap (Go.bits .andNot .u8 a2 128)) * 2 ^ (ji12).toNat)) = ji14 := shl_small hji14
            (try rw [hji14] at hji12)
            (try rw [hji14] at hji12w)
            simp only [Option.some.injEq, Prod.mk.injEq] at H
            obtain ⟨rfl, rfl, rfl⟩ := H
            go_wp2
            go_ret3
            exact ⟨by first | rfl | (simp; done) | (simp only [← hji12, ← hji14] <;> (first | rfl | simp)) | (simp [*]; done), by repeat (first | exact Drawn0.refl _ | apply Drawn0.step)⟩
          · rw [if_neg c13] at H
            exact absurd H (by simp)
def frame_Uint.l0 : Nat → List Int → Int → List Int → Int → Int → Option (Int × Int × Int)
  | 0, _, _, _, _, _ => none
  | k + 1, x0, x5, x11, x12, x13 => if x13 < x12 then (if 0 ≤ x13 then (if x13 < (x11.length : Int) then ((frame_group.f k x5 x13 (rd x11 x13)).bind fun bt132 => (if bt132.2.2 = 0 then (if bt132.2.1 = true then (some (bt132.1, wrap64 (x13 + 1), 0)) else (frame_Uint.l0 k x0 bt132.1 x11 x12 (wrap64 (x13 + 1)))) else (some (0, x13, bt132.2.2)))) else (none)) else (none)) else (some (0, (x0.length : Int), 3))
def frame_Uint.f (k : Nat) (l0 : List Int) : Option (Int × Int × Int) := frame_Uint.l0 k l0 0 l0 (l0.length : Int) 0
set_option maxHeartbeats 8000000 in
set_option maxRecDepth 100000 in
theorem frame_Uint.calls (k : Nat) (A0 : Option Addr) (c0 : Nat) (l0 : List Int) (r1 : Int) (r2 : Int) (r3 : Int) (w : World) (hr0 : Kd.C (Kd.int .u8) w A0 l0.length l0) (hc0 : l0.length ≤ c0) (h : frame_Uint.f k l0 = some (r1, r2, r3)) :
    Calls Try.prog 129 #[.slice A0 l0.length c0] w fun e w' => e = .returned (.tuple #[.int .u64 r1, .int .i64 r2, .int .i64 r3]) ∧ Drawn0 w w' := by
  have HR0 := Aside0.mk hr0
  have HC0 := Aside0.mk hc0
  clear hr0 hc0
  have H : (frame_Uint.l0 k l0 0 l0 (l0.length : Int) 0) = some (r1, r2, r3) := h
  clear h
  have H' := Aside0.mk H
  clear H
  go_enter Try.func129, Try.ntmps129
  go_wp2
  go_loopg [5, 13] k (fun kq v5 v13 w' => ∃ (x5_1 : Int) (x13_1 : Int), v5 = .int .u64 x5_1 ∧ v13 = .int .i64 x13_1 ∧ Aside0 (frame_Uint.l0 kq l0 x5_1 l0 (l0.length : Int) x13_1 = some (r1, r2, r3)) ∧ Aside0 (kq ≤ k) ∧ Drawn0 w w')
  case atStart => exact ⟨(0), (0), (by first | rfl | (simp; done) | (simp [*]; done)), (by first | rfl | (simp; done) | (simp [*]; done)), H', ⟨Nat.le_refl _⟩, by repeat (first | exact Drawn0.refl _ | apply Drawn0.step)⟩
  case round =>
    clear H'
    try clear c1
    obtain ⟨x5_1, x13_1, rfl, rfl, HA, HK1, ⟨m1, rfl⟩⟩ := hrel
    cases gk with
    | zero => exact absurd HA.out (by simp [frame_Uint.l0])
    | succ k1 =>
      have H := HA.out
      clear HA
      simp only [frame_Uint.l0] at H
      by_cases c2 : x13_1 < (l0.length : Int)
      · rw [if_pos c2] at H
        have c2b0 : decide (x13_1 < (l0.length : Int)) = true := decide_eq_true c2
        clear c2
        by_cases c3 : 0 ≤ x13_1
        · rw [if_pos c3] at H
          have c3b0 : decide (0 ≤ x13_1) = true := decide_eq_true c3
          clear c3
          by_cases c4 : x13_1 < (l0.length : Int)
          · rw [if_pos c4] at H
            have c4b0 : decide (x13_1 < (l0.length : Int)) = true := decide_eq_true c4
            clear c4
            replace H := Option.bind_eq_some_iff.mp H
            obtain ⟨⟨t132, t133, t134⟩, A50, H⟩ := H
            replace H : (if t134 = 0 then (if t133 = true then (some (t132, wrap64 (x13_1 + 1), 0)) else (frame_Uint.l0 k1 l0 t132 l0 (l0.length : Int) (wrap64 (x13_1 + 1)))) else (some (0, x13_1, t134))) = some (r1, r2, r3) := H
            have A5 := Aside0.mk A50
            clear A50
            by_cases c6 : t134 = 0
            · rw [if_pos c6] at H
              have c6b0 : (t134 == 0) = true := beq_iff_eq.mpr c6
              have c6b1 : (t134 != 0) = false := bne_eq_false_iff_eq.mpr c6
              clear c6
              by_cases c7 : t133 = true
              · subst c7
                have H1 : (some (t132, wrap64 (x13_1 + 1), 0)) = some (r1, r2, r3) := by rw [if_pos rfl] at H; exact H
                clear H
                have H := H1
                clear H1
                simp only [Option.some.injEq, Prod.mk.injEq] at H
                obtain ⟨rfl, rfl, rfl⟩ := H
                have p131 : 0 ≤ (x13_1 : Int) := of_decide_eq_true (by first | (with_reducible assumption) | assumption)
                have q131 : x13_1 < (l0.length : Int) := of_decide_eq_true (by first | (with_reducible assumption) | assumption)
                obtain ⟨ad131, e131, hx131_0⟩ := Kd.at_int HR0.out x13_1 p131 q131
                cases e131
                replace p131 := eq_true p131
                replace q131 := eq_true q131
                go_wp2_with (first | ((with_reducible refine gate_callee (f := 140) rfl ?_); refine goesL_ (some 22) rfl rfl Try.func140 (by kernel_rfl) rfl #[.int .u64 x5_1, .int .i64 x13_1, .int .u8 (rd l0 x13_1)] rfl (by (try simp only [List.map_toArray, List.map_cons, List.map_nil]); first | done | rfl | (simp only [List.length_drop, List.length_take]; rfl)) ?_; (with_reducible refine (frame_group.calls k1 x5_1 x13_1 (rd l0 x13_1) t132 true t134 _ A5.out).mono ?_); rintro e w' ⟨rfl, ⟨nd, rfl⟩⟩; refine ⟨_, rfl, ?_⟩))
                go_ret3
                exact ⟨by first | rfl | (simp; done) | (simp [*]; done), by repeat (first | exact Drawn0.refl _ | apply Drawn0.step)⟩
              · replace c7 := Bool.eq_false_iff.mpr c7
                subst c7
                have H1 : (frame_Uint.l0 k1 l0 t132 l0 (l0.length : Int) (wrap64 (x13_1 + 1))) = some (r1, r2, r3) := by rw [if_neg (show ¬ (false = true) by decide)] at H; exact H
                clear H
                have H := H1
                clear H1
                have H' := Aside0.mk H
                clear H
                have p131 : 0 ≤ (x13_1 : Int) := of_decide_eq_true (by first | (with_reducible assumption) | assumption)
                have q131 : x13_1 < (l0.length : Int) := of_decide_eq_true (by first | (with_reducible assumption) | assumption)
                obtain ⟨ad131, e131, hx131_0⟩ := Kd.at_int HR0.out x13_1 p131 q131
                cases e131
                replace p131 := eq_true p131
                replace q131 := eq_true q131
                go_wp2_with (first | ((with_reducible refine gate_callee (f := 140) rfl ?_); refine goesL_ (some 22) rfl rfl Try.func140 (by kernel_rfl) rfl #[.int .u64 x5_1, .int .i64 x13_1, .int .u8 (rd l0 x13_1)] rfl (by (try simp only [List.map_toArray, List.map_cons, List.map_nil]); first | done | rfl | (simp only [List.length_drop, List.length_take]; rfl)) ?_; (with_reducible refine (frame_group.calls k1 x5_1 x13_1 (rd l0 x13_1) t132 false t134 _ A5.out).mono ?_); rintro e w' ⟨rfl, ⟨nd, rfl⟩⟩; refine ⟨_, rfl, ?_⟩))
                go_roundg k1
                case measure => have := HK1.out; omega
                case rel => exact ⟨(t132), (wrap64 (x13_1 + 1)), (by first | rfl | (simp; done) | (simp [*]; done)), (by first | rfl | (simp; done) | (simp [*]; done)), H', ⟨by have := HK1.out; omega⟩, by repeat (first | exact Drawn0.refl _ | apply Drawn0.step)⟩
            · rw [if_neg c6] at H
              have c6b0 : (t134 == 0) = false := beq_eq_false_iff_ne.mpr c6
              have c6b1 : (t134 != 0) = true := bne_iff_ne.mpr c6
              simp only [Option.some.injEq, Prod.mk.injEq] at H
              obtain ⟨rfl, rfl, rfl⟩ := H
              have p131 : 0 ≤ (x13_1 : Int) := of_decide_eq_true (by first | (with_reducible assumption) | assumption)
              have q131 : x13_1 < (l0.length : Int) := of_decide_eq_true (by first | (with_reducible assumption) | assumption)
              obtain ⟨ad131, e131, hx131_0⟩ := Kd.at_int HR0.out x13_1 p131 q131
              cases e131
              replace p131 := eq_true p131
              replace q131 := eq_true q131
              go_wp2_with (first | ((with_reducible refine gate_callee (f := 140) rfl ?_); refine goesL_ (some 22) rfl rfl Try.func140 (by kernel_rfl) rfl #[.int .u64 x5_1, .int .i64 x13_1, .int .u8 (rd l0 x13_1)] rfl (by (try simp only [List.map_toArray, List.map_cons, List.map_nil]); first | done | rfl | (simp only [List.length_drop, List.length_take]; rfl)) ?_; (with_reducible refine (frame_group.calls k1 x5_1 x13_1 (rd l0 x13_1) t132 t133 t134 _ A5.out).mono ?_); rintro e w' ⟨rfl, ⟨nd, rfl⟩⟩; refine ⟨_, rfl, ?_⟩))
              go_ret3
              exact ⟨by first | rfl | (simp; done) | (simp [*]; done), by repeat (first | exact Drawn0.refl _ | apply Drawn0.step)⟩
          · rw [if_neg c4] at H
            exact absurd H (by simp)
        · rw [if_neg c3] at H
          exact absurd H (by simp)
      · rw [if_neg c2] at H
        have c2b0 : decide (x13_1 < (l0.length : Int)) = false := decide_eq_false c2
        clear c2
        simp only [Option.some.injEq, Prod.mk.injEq] at H
        obtain ⟨rfl, rfl, rfl⟩ := H
        go_wp2
        go_ret3
        exact ⟨by first | rfl | (simp; done) | (simp [*]; done), by repeat (first | exact Drawn0.refl _ | apply Drawn0.step)⟩
def frame_Int.f (k : Nat) (l0 : List Int) : Option (Int × Int × Int) := (frame_Uint.f k l0).bind fun bt135 => (some (Go.bits .xor .i64 (wrap64 (bt135.1 / 2)) (wrap64 (-(wrap64 (Go.bits .and .u64 bt135.1 1)))), bt135.2.1, bt135.2.2))
set_option maxHeartbeats 8000000 in
set_option maxRecDepth 100000 in
theorem frame_Int.calls (k : Nat) (A0 : Option Addr) (c0 : Nat) (l0 : List Int) (r1 : Int) (r2 : Int) (r3 : Int) (w : World) (hr0 : Kd.C (Kd.int .u8) w A0 l0.length l0) (hc0 : l0.length ≤ c0) (h : frame_Int.f k l0 = some (r1, r2, r3)) :
    Calls Try.prog 117 #[.slice A0 l0.length c0] w fun e w' => e = .returned (.tuple #[.int .i64 r1, .int .i64 r2, .int .i64 r3]) ∧ Drawn0 w w' := by
  have HR0 := Aside0.mk hr0
  have HC0 := Aside0.mk hc0
  clear hr0 hc0
  have H : ((frame_Uint.f k l0).bind fun bt135 => (some (Go.bits .xor .i64 (wrap64 (bt135.1 / 2)) (wrap64 (-(wrap64 (Go.bits .and .u64 bt135.1 1)))), bt135.2.1, bt135.2.2))) = some (r1, r2, r3) := h
  clear h
  replace H := Option.bind_eq_some_iff.mp H
  obtain ⟨⟨t135, t136, t137⟩, A20, H⟩ := H
  replace H : (some (Go.bits .xor .i64 (wrap64 (t135 / 2)) (wrap64 (-(wrap64 (Go.bits .and .u64 t135 1)))), t136, t137)) = some (r1, r2, r3) := H
  have A2 := Aside0.mk A20
  clear A20
  simp only [Option.some.injEq, Prod.mk.injEq] at H
  obtain ⟨rfl, rfl, rfl⟩ := H
  go_enter Try.func117, Try.ntmps117
  go_wp2_with (first | ((with_reducible refine gate_callee (f := 129) rfl ?_); refine goesL_ (some 10) rfl rfl Try.func129 (by kernel_rfl) rfl #[.slice A0 l0.length c0] rfl (by (try simp only [List.map_toArray, List.map_cons, List.map_nil]); first | done | rfl | (simp only [List.length_drop, List.length_take]; rfl)) ?_; (with_reducible refine (frame_Uint.calls k _ _ l0 t135 t136 t137 _ ?side1 ?side2 A2.out).mono ?_); (case side1 => repeat (first | exact HR0.out | (with_reducible refine Kd.C_alloc ?_ _) | (with_reducible refine Kd.C_drewN ?_ _) | (with_reducible refine Kd.C_drew ?_))); (case side2 => exact HC0.out); rintro e w' ⟨rfl, ⟨nd, rfl⟩⟩; refine ⟨_, rfl, ?_⟩))
  go_ret3
  exact ⟨by first | rfl | (simp; done) | (simp [*]; done), by repeat (first | exact Drawn0.refl _ | apply Drawn0.step)⟩
def slices_Clone_byte_byte.f (l0 : List Int) : Option (List Int) := if l0.length < 140737488355328 then some l0 else none
set_option maxHeartbeats 4000000 in
set_option maxRecDepth 100000 in
theorem slices_Clone_byte_byte.calls (A0 : Option Addr) (c0 : Nat) (l0 : List Int) (r : List Int) (w : World) (hr0 : Kd.C (Kd.int .u8) w A0 l0.length l0) (hc0 : l0.length ≤ c0) (h : slices_Clone_byte_byte.f l0 = some r) :
    Calls Try.prog 139 #[.slice A0 l0.length c0] w fun e w' => ∃ v0_ : Value, e = .returned (v0_) ∧ Kd.R (Kd.int .u8) 5 w' w.heap.size (fun _ => True) v0_ r ∧ Below w.heap.size w w' := by
  unfold slices_Clone_byte_byte.f at h
  by_cases hL : l0.length < 140737488355328
  · rw [if_pos hL] at h
    obtain rfl := Option.some.inj h
    clear h
    have LM := Aside0.mk hL
    clear hL
    have hq := fun w : World => Lib.run_eql_slice_nil (P := Try.prog) w 26 5 A0 l0.length c0 0 0 Try.underlying26
    cases A0 with
    | none =>
      have h0 : l0 = [] := by
        have h1 := (Kd.reads_of_C (d := (0 : Int)) (h1 := fun _ => rfl) hr0).2.2
        rcases Nat.eq_zero_or_pos l0.length with h2 | h2
        · exact List.length_eq_zero_iff.1 h2
        · obtain ⟨_, h3, _⟩ := h1 h2
          cases h3
      have H0 := Aside0.mk h0
      clear h0 hr0 hc0
      go_enter Try.func139, Try.ntmps139
      go_wp2
      go_ret
      exact ⟨.slice none 0 0, rfl, by rw [H0.out]; exact Kd.R_nil _ _ _ _ _, Below.refl _ _⟩
    | some ad =>
      have HR0 := Aside0.mk hr0
      have HC0 := Aside0.mk hc0
      clear hr0 hc0
      have HB := Aside0.mk (Below.refl w.heap.size w)
      go_enter Try.func139, Try.ntmps139
      go_wp2_with (first | ((with_reducible refine gate_dst (N := 5) rfl ?_); refine Kd.R_lit (Kd.int .u8) _ 5 ?hg (N := 5) ?hd (xs := ([] : List Int)) (inner := []) (ok := fun _ => True) (okp := fun _ => True) ?hr ?hp (fun _ hk => hk) trivial (Below.refl _ _) (Nat.le_refl _) (by simp) ?_; (case hd => rfl); (case hg => rfl); (case hr => first | (go_simp; done) | (go_simp; rfl)); (case hp => exact (Reps.none _ _)); intro v5 w5 ho hb hg_ hnew_; clear hg_ hnew_; have n0_ := Aside0.mk (Kd.R_lower ho (below_size (by repeat (first | (with_reducible first | exact HB.out | apply below_alloc | apply pw_below_drewN | apply below_drew1) | exact HB.out)))); have n1_ := Aside0.mk (below_step (by repeat (first | (with_reducible first | exact HB.out | apply below_alloc | apply pw_below_drewN | apply below_drew1) | exact HB.out)) hb); clear HB; have HO5 := n0_; have HB := n1_; clear n0_ n1_; clear hb ho) | ((with_reducible refine gate_builtin (b := .append) (xs := #[.tmp 5, .tmp 6]) rfl ?_); at_builtin; refine Kd.R_append_rows (Kd.int .u8) (w0 := w) w.heap.size rfl (.tmp 5) (.tmp 6) 26 5 (.int .u8 0) 1 rfl Try.underlying26 info5 rfl (by decide) (by omega) v5 ([] : List Int) l0 _ _ _ (fun _ => True) (fun _ => False) rfl rfl ?aO ?aR (fun _ _ h => h) (fun _ h => h.elim) ?aF ?aB ?aS ?aL ?_; (case aR => repeat (first | exact (Kd.C_below HR0.out HB.out) | (with_reducible refine Kd.C_alloc ?_ _) | (with_reducible refine Kd.C_drewN ?_ _) | (with_reducible refine Kd.C_drew ?_))); (case aB => exact (by repeat (first | (with_reducible first | exact HB.out | apply below_alloc | apply pw_below_drewN | apply below_drew1) | exact HB.out))); (case aF => exact (fun _ _ => trivial)); (case aO => exact (by (with_reducible repeat (first | apply Kd.R_alloc | apply Kd.R_drewN | apply Kd.R_drew)); exact HO5.out)); (case aS => exact (below_size (by repeat (first | (with_reducible first | exact HB.out | apply below_alloc | apply pw_below_drewN | apply below_drew1) | exact HB.out)))); (case aL => have := LM.out; simp; omega); intro v6 w6 ho hb hg hat; rw [List.nil_append] at ho; have n0_ := Aside0.mk (hb); have n1_ := Aside0.mk (ho); clear HB; clear HO5; have HB := n0_; have HO6 := n1_; clear n0_ n1_; clear ho hb hg hat))
      go_ret
      exact ⟨_, by first | rfl | (simp [errW_none, errW_some] <;> rfl) | (simp [*, errW_none, errW_some] <;> rfl), by (with_reducible repeat (first | apply Kd.R_alloc | apply Kd.R_drewN | apply Kd.R_drew)); exact HO6.out, by repeat (first | (with_reducible first | exact HB.out | apply below_alloc | apply pw_below_drewN | apply below_drew1) | exact HB.out)⟩
  · rw [if_neg hL] at h
    exact absurd h (by simp)
end Go.Proofs.Ytafmoglaockepaa.PG
end
section
-- Written by a program of this session (wip/pp), out of the translation.
namespace Go.Proofs.Ytafmoglaockepaa.PG
open Go.RowKit Go.Proofs.Ytafmoglaockepaa.Mine Go.Proofs.YtafmoglaockepaaW.PrintWords Go.Proofs.YtafmoglaockepaaW.PrintLast Go.Proofs.YtafmoglaockepaaW.PrintMore
attribute [local go_sem] max2_int min2_int max_two min_two max_three min_three max_four min_four   -- for this text's walks alone
set_option linter.unusedVariables false
set_option linter.unusedSimpArgs false
def frame_Text.f (k : Nat) (l0 : List Int) (a1 : Int) : Option (ByteArray × Int × Int) := if a1 < 0 then (some ((⟨#[]⟩ : ByteArray), 0, 2)) else ((frame_Uint.f k l0).bind fun bt138 => (if bt138.2.2 = 0 then (if bt138.1 > (IntKind.u64.wrap (a1)) then (some ((⟨#[]⟩ : ByteArray), 0, 12)) else (if bt138.1 > (IntKind.u64.wrap (wrap64 ((l0.length : Int) - bt138.2.1))) then (some ((⟨#[]⟩ : ByteArray), (l0.length : Int), 3)) else (if 0 ≤ bt138.2.1 then (if bt138.2.1 ≤ (wrap64 (bt138.2.1 + (wrap64 (bt138.1)))) then (if (wrap64 (bt138.2.1 + (wrap64 (bt138.1)))) ≤ (l0.length : Int) then ((slices_Clone_byte_byte.f ((l0.take ((wrap64 (bt138.2.1 + (wrap64 (bt138.1)))) : Int).toNat).drop (bt138.2.1 : Int).toNat)).bind fun t142 => (some (strOfNums t142, wrap64 (bt138.2.1 + (wrap64 (bt138.1))), 0))) else (none)) else (none)) else (none)))) else (some ((⟨#[]⟩ : ByteArray), bt138.2.1, bt138.2.2))))
set_option maxHeartbeats 8000000 in
set_option maxRecDepth 100000 in
theorem frame_Text.calls (k : Nat) (A0 : Option Addr) (c0 : Nat) (l0 : List Int) (a1 : Int) (r1 : ByteArray) (r2 : Int) (r3 : Int) (w : World) (hr0 : Kd.C (Kd.int .u8) w A0 l0.length l0) (hc0 : l0.length ≤ c0) (h : frame_Text.f k l0 a1 = some (r1, r2, r3)) :
    Calls Try.prog 115 #[.slice A0 l0.length c0, .int .i64 a1] w fun e w' => e = .returned (.tuple #[.string r1, .int .i64 r2, .int .i64 r3]) ∧ Below w.heap.size w w' := by
  have HR0 := Aside0.mk hr0
  have HC0 := Aside0.mk hc0
  clear hr0 hc0
  have HB := Aside0.mk (Below.refl w.heap.size w)
  have H : (if a1 < 0 then (some ((⟨#[]⟩ : ByteArray), 0, 2)) else ((frame_Uint.f k l0).bind fun bt138 => (if bt138.2.2 = 0 then (if bt138.1 > (IntKind.u64.wrap (a1)) then (some ((⟨#[]⟩ : ByteArray), 0, 12)) else (if bt138.1 > (IntKind.u64.wrap (wrap64 ((l0.length : Int) - bt138.2.1))) then (some ((⟨#[]⟩ : ByteArray), (l0.length : Int), 3)) else (if 0 ≤ bt138.2.1 then (if bt138.2.1 ≤ (wrap64 (bt138.2.1 + (wrap64 (bt138.1)))) then (if (wrap64 (bt138.2.1 + (wrap64 (bt138.1)))) ≤ (l0.length : Int) then ((slices_Clone_byte_byte.f ((l0.take ((wrap64 (bt138.2.1 + (wrap64 (bt138.1)))) : Int).toNat).drop (bt138.2.1 : Int).toNat)).bind fun t142 => (some (strOfNums t142, wrap64 (bt138.2.1 + (wrap64 (bt138.1))), 0))) else (none)) else (none)) else (none)))) else (some ((⟨#[]⟩ : ByteArray), bt138.2.1, bt138.2.2))))) = some (r1, r2, r3) := h
  clear h
  by_cases c3 : a1 < 0
  · rw [if_pos c3] at H
    have c3b0 : decide (a1 < 0) = true := decide_eq_true c3
    clear c3
    simp only [Option.some.injEq, Prod.mk.injEq] at H
    obtain ⟨rfl, rfl, rfl⟩ := H
    go_enter Try.func115, Try.ntmps115
    go_wp2
    go_ret3
    exact ⟨by first | rfl | (simp [errW_none, errW_some] <;> rfl) | (simp [*, errW_none, errW_some] <;> rfl), by repeat (first | (with_reducible first | exact HB.out | apply below_alloc | apply pw_below_drewN | apply below_drew1) | exact HB.out)⟩
  · rw [if_neg c3] at H
    have c3b0 : decide (a1 < 0) = false := decide_eq_false c3
    clear c3
    replace H := Option.bind_eq_some_iff.mp H
    obtain ⟨⟨t138, t139, t140⟩, A40, H⟩ := H
    replace H : (if t140 = 0 then (if t138 > (IntKind.u64.wrap (a1)) then (some ((⟨#[]⟩ : ByteArray), 0, 12)) else (if t138 > (IntKind.u64.wrap (wrap64 ((l0.length : Int) - t139))) then (some ((⟨#[]⟩ : ByteArray), (l0.length : Int), 3)) else (if 0 ≤ t139 then (if t139 ≤ (wrap64 (t139 + (wrap64 (t138)))) then (if (wrap64 (t139 + (wrap64 (t138)))) ≤ (l0.length : Int) then ((slices_Clone_byte_byte.f ((l0.take ((wrap64 (t139 + (wrap64 (t138)))) : Int).toNat).drop (t139 : Int).toNat)).bind fun t142 => (some (strOfNums t142, wrap64 (t139 + (wrap64 (t138))), 0))) else (none)) else (none)) else (none)))) else (some ((⟨#[]⟩ : ByteArray), t139, t140))) = some (r1, r2, r3) := H
    have A4 := Aside0.mk A40
    clear A40
    by_cases c5 : t140 = 0
    · rw [if_pos c5] at H
      have c5b0 : (t140 == 0) = true := beq_iff_eq.mpr c5
      have c5b1 : (t140 != 0) = false := bne_eq_false_iff_eq.mpr c5
      clear c5
      by_cases c6 : t138 > (IntKind.u64.wrap (a1))
      · rw [if_pos c6] at H
        have c6b0 : decide ((IntKind.u64.wrap (a1)) < t138) = true := decide_eq_true c6
        clear c6
        simp only [Option.some.injEq, Prod.mk.injEq] at H
        obtain ⟨rfl, rfl, rfl⟩ := H
        go_enter Try.func115, Try.ntmps115
        go_wp2_with (first | ((with_reducible refine gate_callee (f := 129) rfl ?_); refine goesL_ (some 15) rfl rfl Try.func129 (by kernel_rfl) rfl #[.slice A0 l0.length c0] rfl (by (try simp only [List.map_toArray, List.map_cons, List.map_nil]); first | done | rfl | (simp only [List.length_drop, List.length_take]; rfl)) ?_; (with_reducible refine (frame_Uint.calls k _ _ l0 t138 t139 t140 _ ?side1 ?side2 A4.out).mono ?_); (case side1 => repeat (first | exact HR0.out | (with_reducible refine Kd.C_alloc ?_ _) | (with_reducible refine Kd.C_drewN ?_ _) | (with_reducible refine Kd.C_drew ?_))); (case side2 => exact HC0.out); rintro e w' ⟨rfl, ⟨nd, rfl⟩⟩; refine ⟨_, rfl, ?_⟩))
        go_ret3
        exact ⟨by first | rfl | (simp [errW_none, errW_some] <;> rfl) | (simp [*, errW_none, errW_some] <;> rfl), by repeat (first | (with_reducible first | exact HB.out | apply below_alloc | apply pw_below_drewN | apply below_drew1) | exact HB.out)⟩
      · rw [if_neg c6] at H
        have c6b0 : decide ((IntKind.u64.wrap (a1)) < t138) = false := decide_eq_false c6
        clear c6
        by_cases c7 : t138 > (IntKind.u64.wrap (wrap64 ((l0.length : Int) - t139)))
        · rw [if_pos c7] at H
          have c7b0 : decide ((IntKind.u64.wrap (wrap64 ((l0.length : Int) - t139))) < t138) = true := decide_eq_true c7
          clear c7
          simp only [Option.some.injEq, Prod.mk.injEq] at H
          obtain ⟨rfl, rfl, rfl⟩ := H
          go_enter Try.func115, Try.ntmps115
          go_wp2_with (first | ((with_reducible refine gate_callee (f := 129) rfl ?_); refine goesL_ (some 15) rfl rfl Try.func129 (by kernel_rfl) rfl #[.slice A0 l0.length c0] rfl (by (try simp only [List.map_toArray, List.map_cons, List.map_nil]); first | done | rfl | (simp only [List.length_drop, List.length_take]; rfl)) ?_; (with_reducible refine (frame_Uint.calls k _ _ l0 t138 t139 t140 _ ?side1 ?side2 A4.out).mono ?_); (case side1 => repeat (first | exact HR0.out | (with_reducible refine Kd.C_alloc ?_ _) | (with_reducible refine Kd.C_drewN ?_ _) | (with_reducible refine Kd.C_drew ?_))); (case side2 => exact HC0.out); rintro e w' ⟨rfl, ⟨nd, rfl⟩⟩; refine ⟨_, rfl, ?_⟩))
          go_ret3
          exact ⟨by first | rfl | (simp [errW_none, errW_some] <;> rfl) | (simp [*, errW_none, errW_some] <;> rfl), by repeat (first | (with_reducible first | exact HB.out | apply below_alloc | apply pw_below_drewN | apply below_drew1) | exact HB.out)⟩
        · rw [if_neg c7] at H
          have c7b0 : decide ((IntKind.u64.wrap (wrap64 ((l0.length : Int) - t139))) < t138) = false := decide_eq_false c7
          clear c7
          by_cases c8 : 0 ≤ t139
          · rw [if_pos c8] at H
            have c8b0 := eq_true c8
            have c8b1 : decide (0 ≤ t139) = true := decide_eq_true c8
            clear c8
            by_cases c9 : t139 ≤ (wrap64 (t139 + (wrap64 (t138))))
            · rw [if_pos c9] at H
              have c9b0 := eq_true c9
              have c9b1 : decide (t139 ≤ (wrap64 (t139 + (wrap64 (t138))))) = true := decide_eq_true c9
              by_cases c10 : (wrap64 (t139 + (wrap64 (t138)))) ≤ (l0.length : Int)
              · rw [if_pos c10] at H
                have c10b0 := eq_true c10
                have c10b1 : decide ((wrap64 (t139 + (wrap64 (t138)))) ≤ (l0.length : Int)) = true := decide_eq_true c10
                replace H := Option.bind_eq_some_iff.mp H
                obtain ⟨t142, A110, H⟩ := H
                replace H : (some (strOfNums t142, wrap64 (t139 + (wrap64 (t138))), 0)) = some (r1, r2, r3) := H
                have A11 := Aside0.mk A110
                clear A110
                simp only [Option.some.injEq, Prod.mk.injEq] at H
                obtain ⟨rfl, rfl, rfl⟩ := H
                go_enter Try.func115, Try.ntmps115
                go_wp2_with (first | ((with_reducible refine gate_callee (f := 129) rfl ?_); refine goesL_ (some 15) rfl rfl Try.func129 (by kernel_rfl) rfl #[.slice A0 l0.length c0] rfl (by (try simp only [List.map_toArray, List.map_cons, List.map_nil]); first | done | rfl | (simp only [List.length_drop, List.length_take]; rfl)) ?_; (with_reducible refine (frame_Uint.calls k _ _ l0 t138 t139 t140 _ ?side1 ?side2 A4.out).mono ?_); (case side1 => repeat (first | exact HR0.out | (with_reducible refine Kd.C_alloc ?_ _) | (with_reducible refine Kd.C_drewN ?_ _) | (with_reducible refine Kd.C_drew ?_))); (case side2 => exact HC0.out); rintro e w' ⟨rfl, ⟨nd, rfl⟩⟩; refine ⟨_, rfl, ?_⟩; obtain ⟨i012, hi012, _, hsz12, _⟩ := info_parts info5; obtain ⟨A12, hcut12, hA12, hC12⟩ := print_mid_of (P := Try.prog) (Value.int .u8) 0 26 5 .i64 .i64 Try.underlying26 hi012 hsz12 A0 c0 l0 t139 (wrap64 (t139 + (wrap64 (t138)))) (of_decide_eq_true (by first | (with_reducible assumption) | assumption)) (by first | omega | exact of_decide_eq_true (by first | (with_reducible assumption) | assumption)) (of_decide_eq_true (by first | (with_reducible assumption) | assumption)) HC0.out; have HR141 := Aside0.mk (Kd.C_of_reads (h1 := fun _ => rfl) (hA12 _ (Kd.reads_of_C HR0.out))); have HC141 := Aside0.mk hC12; clear hA12 hC12 hi012 hsz12) | ((with_reducible refine gate_callee (f := 139) rfl ?_); refine goesL_ (some 47) rfl rfl Try.func139 (by kernel_rfl) rfl #[.slice A12 ((l0.take ((wrap64 (t139 + (wrap64 (t138)))) : Int).toNat).drop (t139 : Int).toNat).length (c0 - t139.toNat)] rfl (by (try simp only [List.map_toArray, List.map_cons, List.map_nil]); first | done | (rw [show ((l0.take ((wrap64 (t139 + (wrap64 (t138)))) : Int).toNat).drop (t139 : Int).toNat).length = ((wrap64 (t139 + (wrap64 (t138)))).toNat - t139.toNat) from (by rw [List.length_drop, List.length_take]; have h_ : ((wrap64 (t139 + (wrap64 (t138)))) : Int) ≤ (l0.length : Int) := of_decide_eq_true (by first | (with_reducible assumption) | assumption); omega)] <;> rfl) | rfl | (simp only [List.length_drop, List.length_take]; rfl)) ?_; (with_reducible refine (slices_Clone_byte_byte.calls _ _ ((l0.take ((wrap64 (t139 + (wrap64 (t138)))) : Int).toNat).drop (t139 : Int).toNat) t142 _ ?side1 ?side2 A11.out).mono ?_); (case side1 => repeat (first | exact HR141.out | (with_reducible refine Kd.C_alloc ?_ _) | (with_reducible refine Kd.C_drewN ?_ _) | (with_reducible refine Kd.C_drew ?_))); (case side2 => exact HC141.out); rintro e w13 ⟨v143, rfl, ho0, hb⟩; refine ⟨_, rfl, ?_⟩; have n0_ := Aside0.mk (Kd.R_lower ho0 (below_size (by repeat (first | (with_reducible first | exact HB.out | apply below_alloc | apply pw_below_drewN | apply below_drew1) | exact HB.out)))); have n1_ := Aside0.mk (below_step (by repeat (first | (with_reducible first | exact HB.out | apply below_alloc | apply pw_below_drewN | apply below_drew1) | exact HB.out)) hb); clear HB; have HO144 := n0_; have HB := n1_; clear n0_ n1_; (try clear hb); (try clear hb2); (try clear hk); (try clear hi); (try clear ho0); have hcv14 := own_string (P := Try.prog) Try.underlying26 Try.underlying5 Try.underlying9 (Kd.own_of_R HO144.out)))
                go_ret3
                exact ⟨by first | rfl | (simp [errW_none, errW_some] <;> rfl) | (simp [*, errW_none, errW_some] <;> rfl), by repeat (first | (with_reducible first | exact HB.out | apply below_alloc | apply pw_below_drewN | apply below_drew1) | exact HB.out)⟩
              · rw [if_neg c10] at H
                exact absurd H (by simp)
            · rw [if_neg c9] at H
              exact absurd H (by simp)
          · rw [if_neg c8] at H
            exact absurd H (by simp)
    · rw [if_neg c5] at H
      have c5b0 : (t140 == 0) = false := beq_eq_false_iff_ne.mpr c5
      have c5b1 : (t140 != 0) = true := bne_iff_ne.mpr c5
      simp only [Option.some.injEq, Prod.mk.injEq] at H
      obtain ⟨rfl, rfl, rfl⟩ := H
      go_enter Try.func115, Try.ntmps115
      go_wp2_with (first | ((with_reducible refine gate_callee (f := 129) rfl ?_); refine goesL_ (some 15) rfl rfl Try.func129 (by kernel_rfl) rfl #[.slice A0 l0.length c0] rfl (by (try simp only [List.map_toArray, List.map_cons, List.map_nil]); first | done | rfl | (simp only [List.length_drop, List.length_take]; rfl)) ?_; (with_reducible refine (frame_Uint.calls k _ _ l0 t138 t139 t140 _ ?side1 ?side2 A4.out).mono ?_); (case side1 => repeat (first | exact HR0.out | (with_reducible refine Kd.C_alloc ?_ _) | (with_reducible refine Kd.C_drewN ?_ _) | (with_reducible refine Kd.C_drew ?_))); (case side2 => exact HC0.out); rintro e w' ⟨rfl, ⟨nd, rfl⟩⟩; refine ⟨_, rfl, ?_⟩))
      go_ret3
      exact ⟨by first | rfl | (simp [errW_none, errW_some] <;> rfl) | (simp [*, errW_none, errW_some] <;> rfl), by repeat (first | (with_reducible first | exact HB.out | apply below_alloc | apply pw_below_drewN | apply below_drew1) | exact HB.out)⟩
end Go.Proofs.Ytafmoglaockepaa.PG
end
section
-- Written by a program of this session (wip/pp), out of the translation.
namespace Go.Proofs.Ytafmoglaockepaa.PG
open Go.RowKit Go.Proofs.Ytafmoglaockepaa.Mine Go.Proofs.YtafmoglaockepaaW.PrintWords Go.Proofs.YtafmoglaockepaaW.PrintLast Go.Proofs.YtafmoglaockepaaW.PrintMore
attribute [local go_sem] max2_int min2_int max_two min_two max_three min_three max_four min_four   -- for this text's walks alone
set_option linter.unusedVariables false
set_option linter.unusedSimpArgs false
mutual
def larderref01_Uint.l0 : Nat → List Int → Int → Int → Int → Option (Int × Int × Int)
  | 0, _, _, _, _ => none
  | k + 1, x0, x5, x6, x7 => if x7 < (x0.length : Int) then (if x7 = 9 then (if 0 ≤ x7 then (larderref01_Uint.j1 k x0 x5 x6 x7 (decide ((rd x0 x7) > 1))) else (none)) else (larderref01_Uint.j1 k x0 x5 x6 x7 false)) else (some (0, (x0.length : Int), 3))
def larderref01_Uint.j1 : Nat → List Int → Int → Int → Int → Bool → Option (Int × Int × Int)
  | 0, _, _, _, _, _ => none
  | k + 1, x0, x5, x6, x7, x22 => if x22 = true then (some (0, x7, 11)) else (if x7 > 0 then (if 0 ≤ x7 then (if x7 < (x0.length : Int) then (larderref01_Uint.j2 k x0 x5 x6 x7 ((rd x0 x7) == 0)) else (none)) else (none)) else (larderref01_Uint.j2 k x0 x5 x6 x7 false))
def larderref01_Uint.j2 : Nat → List Int → Int → Int → Int → Bool → Option (Int × Int × Int)
  | 0, _, _, _, _, _ => none
  | k + 1, x0, x5, x6, x7, x32 => if x32 = true then (some (0, x7, 10)) else (if 0 ≤ x7 then (if x7 < (x0.length : Int) then (if (rd x0 x7) < 128 then (some (IntKind.u64.wrap (x5 + (IntKind.u64.wrap ((IntKind.u64.wrap (Int.tmod (rd x0 x7) 128)) * x6))), wrap64 (x7 + 1), 0)) else (larderref01_Uint.l0 k x0 (IntKind.u64.wrap (x5 + (IntKind.u64.wrap ((IntKind.u64.wrap (Int.tmod (rd x0 x7) 128)) * x6)))) (IntKind.u64.wrap (x6 * 128)) (wrap64 (x7 + 1)))) else (none)) else (none))
end
def larderref01_Uint.f (k : Nat) (l0 : List Int) : Option (Int × Int × Int) := larderref01_Uint.l0 k l0 0 1 0
end Go.Proofs.Ytafmoglaockepaa.PG
end
section
-- Written by a program of this session (wip/pp), out of the translation.
namespace Go.Proofs.Ytafmoglaockepaa.PG
open Go.RowKit Go.Proofs.Ytafmoglaockepaa.Mine Go.Proofs.YtafmoglaockepaaW.PrintWords Go.Proofs.YtafmoglaockepaaW.PrintLast Go.Proofs.YtafmoglaockepaaW.PrintMore
attribute [local go_sem] max2_int min2_int max_two min_two max_three min_three max_four min_four   -- for this text's walks alone
set_option linter.unusedVariables false
set_option linter.unusedSimpArgs false
theorem eqA110 (d : Nat) (w : World) (x0 y0 : ByteArray) (x1 y1 : Int) :
    (Op.equalIn (d + 2) 110 (.agg #[.string x0, .int .i64 x1]) (.agg #[.string y0, .int .i64 y1])).run Try.prog w = .ok (x0.toList == y0.toList && (x1 == y1)) w := by
  refine eqA_of Try.underlying110 (by kernel_rfl) ?_
  refine eqf_cons (by rfl) (by go_simp; rfl) (by go_simp; rfl) (by go_simp) ?_
  exact eqf_last (by rfl) (by go_simp; rfl) (by go_simp; rfl) (by go_simp)
end Go.Proofs.Ytafmoglaockepaa.PG
end
section
-- Written by a program of this session (wip/pp), out of the translation.
namespace Go.Proofs.Ytafmoglaockepaa.PG
open Go.RowKit Go.Proofs.Ytafmoglaockepaa.Mine Go.Proofs.YtafmoglaockepaaW.PrintWords Go.Proofs.YtafmoglaockepaaW.PrintLast Go.Proofs.YtafmoglaockepaaW.PrintMore
attribute [local go_sem] max2_int min2_int max_two min_two max_three min_three max_four min_four   -- for this text's walks alone
set_option linter.unusedVariables false
set_option linter.unusedSimpArgs false
attribute [local go_sem high] eqA110
end Go.Proofs.Ytafmoglaockepaa.PG
end
section
-- Written by a program of this session (wip/pp), out of the translation.
namespace Go.Proofs.Ytafmoglaockepaa.PG
open Go.RowKit Go.Proofs.Ytafmoglaockepaa.Mine Go.Proofs.YtafmoglaockepaaW.PrintWords Go.Proofs.YtafmoglaockepaaW.PrintLast Go.Proofs.YtafmoglaockepaaW.PrintMore
attribute [local go_sem] max2_int min2_int max_two min_two max_three min_three max_four min_four   -- for this text's walks alone
set_option linter.unusedVariables false
set_option linter.unusedSimpArgs false
end Go.Proofs.Ytafmoglaockepaa.PG
end
section
-- Written by a program of this session (wip/pp), out of the translation.
namespace Go.Proofs.Ytafmoglaockepaa.PG
open Go.RowKit Go.Proofs.Ytafmoglaockepaa.Mine Go.Proofs.YtafmoglaockepaaW.PrintWords Go.Proofs.YtafmoglaockepaaW.PrintLast Go.Proofs.YtafmoglaockepaaW.PrintMore
attribute [local go_sem] max2_int min2_int max_two min_two max_three min_three max_four min_four   -- for this text's walks alone
set_option linter.unusedVariables false
set_option linter.unusedSimpArgs false
end Go.Proofs.Ytafmoglaockepaa.PG
end
section
-- Written by a program of this session (wip/pp), out of the translation.
namespace Go.Proofs.Ytafmoglaockepaa.PG
open Go.RowKit Go.Proofs.Ytafmoglaockepaa.Mine Go.Proofs.YtafmoglaockepaaW.PrintWords Go.Proofs.YtafmoglaockepaaW.PrintLast Go.Proofs.YtafmoglaockepaaW.PrintMore
attribute [local go_sem] max2_int min2_int max_two min_two max_three min_three max_four min_four   -- for this text's walks alone
set_option linter.unusedVariables false
set_option linter.unusedSimpArgs false
theorem eqA28 (d : Nat) (w : World) (x0 y0 : ByteArray) (x1 y1 : Int) (x2 y2 : Int) :
    (Op.equalIn (d + 2) 28 (.agg #[.string x0, .int .i64 x1, .int .i64 x2]) (.agg #[.string y0, .int .i64 y1, .int .i64 y2])).run Try.prog w = .ok (x0.toList == y0.toList && (x1 == y1 && (x2 == y2))) w := by
  refine eqA_of Try.underlying28 (by kernel_rfl) ?_
  refine eqf_cons (by rfl) (by go_simp; rfl) (by go_simp; rfl) (by go_simp) ?_
  refine eqf_cons (by rfl) (by go_simp; rfl) (by go_simp; rfl) (by go_simp) ?_
  exact eqf_last (by rfl) (by go_simp; rfl) (by go_simp; rfl) (by go_simp)
end Go.Proofs.Ytafmoglaockepaa.PG
end
section
-- Written by a program of this session (wip/pp), out of the translation.
namespace Go.Proofs.Ytafmoglaockepaa.PG
open Go.RowKit Go.Proofs.Ytafmoglaockepaa.Mine Go.Proofs.YtafmoglaockepaaW.PrintWords Go.Proofs.YtafmoglaockepaaW.PrintLast Go.Proofs.YtafmoglaockepaaW.PrintMore
attribute [local go_sem] max2_int min2_int max_two min_two max_three min_three max_four min_four   -- for this text's walks alone
set_option linter.unusedVariables false
set_option linter.unusedSimpArgs false
end Go.Proofs.Ytafmoglaockepaa.PG
end
section
-- Written by a program of this session (wip/pp), out of the translation.
namespace Go.Proofs.Ytafmoglaockepaa.PG
open Go.RowKit Go.Proofs.Ytafmoglaockepaa.Mine Go.Proofs.YtafmoglaockepaaW.PrintWords Go.Proofs.YtafmoglaockepaaW.PrintLast Go.Proofs.YtafmoglaockepaaW.PrintMore
attribute [local go_sem] max2_int min2_int max_two min_two max_three min_three max_four min_four   -- for this text's walks alone
set_option linter.unusedVariables false
set_option linter.unusedSimpArgs false
attribute [local go_sem high] eqA28
end Go.Proofs.Ytafmoglaockepaa.PG
end
section
-- Written by a program of this session (wip/pp), out of the translation.
namespace Go.Proofs.Ytafmoglaockepaa.PG
open Go.RowKit Go.Proofs.Ytafmoglaockepaa.Mine Go.Proofs.YtafmoglaockepaaW.PrintWords Go.Proofs.YtafmoglaockepaaW.PrintLast Go.Proofs.YtafmoglaockepaaW.PrintMore
attribute [local go_sem] max2_int min2_int max_two min_two max_three min_three max_four min_four   -- for this text's walks alone
set_option linter.unusedVariables false
set_option linter.unusedSimpArgs false
end Go.Proofs.Ytafmoglaockepaa.PG
end
section
-- Written by a program of this session (wip/pp), out of the translation.
namespace Go.Proofs.Ytafmoglaockepaa.PG
open Go.RowKit Go.Proofs.Ytafmoglaockepaa.Mine Go.Proofs.YtafmoglaockepaaW.PrintWords Go.Proofs.YtafmoglaockepaaW.PrintLast Go.Proofs.YtafmoglaockepaaW.PrintMore
attribute [local go_sem] max2_int min2_int max_two min_two max_three min_three max_four min_four   -- for this text's walks alone
set_option linter.unusedVariables false
set_option linter.unusedSimpArgs false
end Go.Proofs.Ytafmoglaockepaa.PG
end
section
-- Written by a program of this session (wip/pp), out of the translation.
namespace Go.Proofs.Ytafmoglaockepaa.PG
open Go.RowKit Go.Proofs.Ytafmoglaockepaa.Mine Go.Proofs.YtafmoglaockepaaW.PrintWords Go.Proofs.YtafmoglaockepaaW.PrintLast Go.Proofs.YtafmoglaockepaaW.PrintMore
attribute [local go_sem] max2_int min2_int max_two min_two max_three min_three max_four min_four   -- for this text's walks alone
set_option linter.unusedVariables false
set_option linter.unusedSimpArgs false
def frame_putUint.l0 : Nat → List Int → Int → Option (List Int)
  | 0, _, _ => none
  | k + 1, x0, x1 => if x1 ≥ 128 then (if x0.length < 140737488355328 then (frame_putUint.l0 k (x0 ++ [Go.bits .or .u8 ((x1) % 256) 128]) (x1 / 128)) else (none)) else (if x0.length < 140737488355328 then (some (x0 ++ [(x1) % 256])) else (none))
def frame_putUint.f (k : Nat) (l0 : List Int) (a1 : Int) : Option (List Int) := frame_putUint.l0 k l0 a1
set_option maxHeartbeats 8000000 in
set_option maxRecDepth 100000 in
theorem frame_putUint.calls (k : Nat) (P0_ : Nat → Prop) (u9000_ : Value) (l0 : List Int) (a1 : Int) (r : List Int) (w0 w : World) (hB : Below w0.heap.size w0 w) (ho0 : Kd.R (Kd.int .u8) 5 w w0.heap.size P0_ u9000_ l0) (h : frame_putUint.f k l0 a1 = some r) :
    Calls Try.prog 137 #[u9000_, .int .u64 a1] w fun e w' => ∃ v0_ : Value, e = .returned (v0_) ∧ Kd.R (Kd.int .u8) 5 w' w0.heap.size (fun k_ => (P0_ k_ ∨ w.heap.size ≤ k_)) v0_ r ∧ Below w0.heap.size w0 w' ∧ Kept w w' (fun k_ => P0_ k_) := by
  have HO0 := Aside0.mk (show Kd.R (Kd.int .u8) 5 w w0.heap.size (fun k_ => (P0_ k_ ∨ w.heap.size ≤ k_)) u9000_ l0 from Kd.R_mono ho0 (fun k_ hk => (.inl hk)))
  have HK := Aside0.mk (Kept.refl w (fun k_ => P0_ k_))
  have HW0 := Aside0.mk hB.size
  have HB := Aside0.mk hB
  clear hB
  have H : (frame_putUint.l0 k l0 a1) = some r := h
  clear h
  have H' := Aside0.mk H
  clear H
  go_enter Try.func137, Try.ntmps137
  go_wp2
  go_loopg [0, 1] k (fun kq v0 v1 w' => ∃ (x0_1 : List Int) (x1_1 : Int), v1 = .int .u64 x1_1 ∧ Aside0 (frame_putUint.l0 kq x0_1 x1_1 = some r) ∧ Aside0 (kq ≤ k) ∧ Aside0 (Kd.R (Kd.int .u8) 5 w' w0.heap.size (fun k_ => (P0_ k_ ∨ w.heap.size ≤ k_)) v0 x0_1) ∧ Aside0 (Kept w w' (fun k_ => P0_ k_)) ∧ Aside0 (Below w0.heap.size w0 w'))
  case atStart => exact ⟨(l0), (a1), (by first | rfl | (simp; done) | (simp [*]; done)), H', ⟨Nat.le_refl _⟩, ⟨by (with_reducible repeat (first | apply Kd.R_alloc | apply Kd.R_drewN | apply Kd.R_drew)); exact HO0.out⟩, ⟨by repeat (first | (with_reducible first | exact HK.out | apply Kept.alloc | apply Kept.drewN | apply Kept.drew) | exact HK.out)⟩, ⟨by repeat (first | (with_reducible first | exact HB.out | apply below_alloc | apply pw_below_drewN | apply below_drew1) | exact HB.out)⟩⟩
  case round =>
    clear H'
    try clear c1
    try clear p2
    obtain ⟨x0_1, x1_1, rfl, HA, HK1, HO_0, HK, HB⟩ := hrel
    cases gk with
    | zero => exact absurd HA.out (by simp [frame_putUint.l0])
    | succ k1 =>
      have H := HA.out
      clear HA
      simp only [frame_putUint.l0] at H
      by_cases c3 : x1_1 ≥ 128
      · rw [if_pos c3] at H
        have c3b0 : decide (128 ≤ x1_1) = true := decide_eq_true c3
        clear c3
        by_cases c4 : x0_1.length < 140737488355328
        · rw [if_pos c4] at H
          have LMc4 := Aside0.mk c4
          clear c4
          obtain ⟨y101, hy101⟩ : ∃ y_ : List Int, y_ = (x0_1 ++ [Go.bits .or .u8 ((x1_1) % 256) 128]) := ⟨_, rfl⟩
          replace H : (frame_putUint.l0 k1 y101 (x1_1 / 128)) = some r := by first | (rw [hy101]; with_reducible exact H) | (have H2_ := (Option.bind_some _ _).symm.trans H; rw [hy101]; with_reducible exact H2_) | (have H2_ := (Option.bind_some _ _).symm.trans H; with_reducible exact H2_) | with_reducible exact H | (rw [hy101]; exact H) | exact H
          have Ny101 := Aside0.mk hy101
          clear hy101
          have H' := Aside0.mk H
          clear H
          go_wp2_with (first | ((with_reducible refine gate_builtin (b := .append) (xs := #[.tmp 7, .tmp 11]) rfl ?_); at_builtin; refine Kd.R_append (Kd.int .u8) (w0 := w0) w0.heap.size rfl (.tmp 7) (.tmp 11) 26 5 (.int .u8 0) 1 rfl Try.underlying26 info5 rfl (by decide) (by omega) u0 x0_1 (Go.bits .or .u8 ((x1_1) % 256) 128) [.int .u8 (Go.bits .or .u8 ((x1_1) % 256) 128)] (fun k_ => (P0_ k_ ∨ w.heap.size ≤ k_)) (fun _ => False) rfl rfl ?aP (fun _ hk => hk.elim) ?aF ?aO ?aB ?aS ?aL ?_; (case aP => exact rfl); (case aB => exact (by repeat (first | (with_reducible first | exact HB.out | apply below_alloc | apply pw_below_drewN | apply below_drew1) | exact HB.out))); (case aF => exact (fun k_ hk => (.inr (Nat.le_trans (by first | exact HK.out.1 | exact (show Kept w _ (fun k_ => P0_ k_) from by repeat (first | (with_reducible first | exact HK.out | apply Kept.alloc | apply Kept.drewN | apply Kept.drew) | exact HK.out)).1) hk)))); (case aO => exact (by (with_reducible repeat (first | apply Kd.R_alloc | apply Kd.R_drewN | apply Kd.R_drew)); exact HO_0.out)); (case aS => exact (below_size (by repeat (first | (with_reducible first | exact HB.out | apply below_alloc | apply pw_below_drewN | apply below_drew1) | exact HB.out)))); (case aL => have := LMc4.out; omega); intro v102 w5 ho hb hg hat; rw [← Ny101.out] at ho; have n0_ := Aside0.mk (hb); have n1_ := Aside0.mk (Kept.of_grown (S := (fun k_ => P0_ k_)) hg (by repeat (first | (with_reducible first | exact HK.out | apply Kept.alloc | apply Kept.drewN | apply Kept.drew) | exact HK.out)) (fun k_ e_ => (HO_0.out.1 k_ e_))); have n2_ := Aside0.mk (ho); clear HB; clear HK; clear HO_0; have HB := n0_; have HK := n1_; have HO103 := n2_; clear n0_ n1_ n2_; clear ho hb hg hat))
          go_roundg k1
          case measure => have := HK1.out; omega
          case rel => exact ⟨(y101), (x1_1 / 128), (by first | rfl | (simp; done) | (simp [*]; done)), H', ⟨by have := HK1.out; omega⟩, ⟨by (with_reducible repeat (first | apply Kd.R_alloc | apply Kd.R_drewN | apply Kd.R_drew)); exact HO103.out⟩, ⟨by repeat (first | (with_reducible first | exact HK.out | apply Kept.alloc | apply Kept.drewN | apply Kept.drew) | exact HK.out)⟩, ⟨by repeat (first | (with_reducible first | exact HB.out | apply below_alloc | apply pw_below_drewN | apply below_drew1) | exact HB.out)⟩⟩
        · rw [if_neg c4] at H
          exact absurd H (by simp)
      · rw [if_neg c3] at H
        have c3b0 : decide (128 ≤ x1_1) = false := decide_eq_false c3
        clear c3
        by_cases c6 : x0_1.length < 140737488355328
        · rw [if_pos c6] at H
          have LMc6 := Aside0.mk c6
          clear c6
          obtain ⟨y104, hy104⟩ : ∃ y_ : List Int, y_ = (x0_1 ++ [(x1_1) % 256]) := ⟨_, rfl⟩
          replace H : (some y104) = some r := by first | (rw [hy104]; with_reducible exact H) | (have H2_ := (Option.bind_some _ _).symm.trans H; rw [hy104]; with_reducible exact H2_) | (have H2_ := (Option.bind_some _ _).symm.trans H; with_reducible exact H2_) | with_reducible exact H | (rw [hy104]; exact H) | exact H
          have Ny104 := Aside0.mk hy104
          clear hy104
          obtain rfl := Option.some.inj H
          go_wp2_with (first | ((with_reducible refine gate_builtin (b := .append) (xs := #[.tmp 15, .tmp 18]) rfl ?_); at_builtin; refine Kd.R_append (Kd.int .u8) (w0 := w0) w0.heap.size rfl (.tmp 15) (.tmp 18) 26 5 (.int .u8 0) 1 rfl Try.underlying26 info5 rfl (by decide) (by omega) u0 x0_1 ((x1_1) % 256) [.int .u8 ((x1_1) % 256)] (fun k_ => (P0_ k_ ∨ w.heap.size ≤ k_)) (fun _ => False) rfl rfl ?aP (fun _ hk => hk.elim) ?aF ?aO ?aB ?aS ?aL ?_; (case aP => exact rfl); (case aB => exact (by repeat (first | (with_reducible first | exact HB.out | apply below_alloc | apply pw_below_drewN | apply below_drew1) | exact HB.out))); (case aF => exact (fun k_ hk => (.inr (Nat.le_trans (by first | exact HK.out.1 | exact (show Kept w _ (fun k_ => P0_ k_) from by repeat (first | (with_reducible first | exact HK.out | apply Kept.alloc | apply Kept.drewN | apply Kept.drew) | exact HK.out)).1) hk)))); (case aO => exact (by (with_reducible repeat (first | apply Kd.R_alloc | apply Kd.R_drewN | apply Kd.R_drew)); exact HO_0.out)); (case aS => exact (below_size (by repeat (first | (with_reducible first | exact HB.out | apply below_alloc | apply pw_below_drewN | apply below_drew1) | exact HB.out)))); (case aL => have := LMc6.out; omega); intro v105 w7 ho hb hg hat; rw [← Ny104.out] at ho; have n0_ := Aside0.mk (hb); have n1_ := Aside0.mk (Kept.of_grown (S := (fun k_ => P0_ k_)) hg (by repeat (first | (with_reducible first | exact HK.out | apply Kept.alloc | apply Kept.drewN | apply Kept.drew) | exact HK.out)) (fun k_ e_ => (HO_0.out.1 k_ e_))); have n2_ := Aside0.mk (ho); clear HB; clear HK; clear HO_0; have HB := n0_; have HK := n1_; have HO106 := n2_; clear n0_ n1_ n2_; clear ho hb hg hat))
          go_ret
          exact ⟨_, by first | rfl | (simp [errW_none, errW_some] <;> rfl) | (simp [*, errW_none, errW_some] <;> rfl), by (with_reducible repeat (first | apply Kd.R_alloc | apply Kd.R_drewN | apply Kd.R_drew)); exact HO106.out, by repeat (first | (with_reducible first | exact HB.out | apply below_alloc | apply pw_below_drewN | apply below_drew1) | exact HB.out), by repeat (first | (with_reducible first | exact HK.out | apply Kept.alloc | apply Kept.drewN | apply Kept.drew) | exact HK.out)⟩
        · rw [if_neg c6] at H
          exact absurd H (by simp)
def frame_grown.f (l0 : List Int) (a1 : Int) : Option (List Int) := if 0 ≤ (wrap64 ((l0.length : Int) + a1)) then (if (wrap64 ((l0.length : Int) + a1) : Int).toNat ≤ 281474976710656 then ((some (([] : List Int) : List Int)).bind fun y107 => (if y107.length + l0.length < 140737488355328 then (some (y107 ++ l0)) else (none))) else (none)) else (none)
set_option maxHeartbeats 8000000 in
set_option maxRecDepth 100000 in
theorem frame_grown.calls (A0 : Option Addr) (c0 : Nat) (l0 : List Int) (a1 : Int) (r : List Int) (w : World) (hr0 : Kd.C (Kd.int .u8) w A0 l0.length l0) (hc0 : l0.length ≤ c0) (h : frame_grown.f l0 a1 = some r) :
    Calls Try.prog 138 #[.slice A0 l0.length c0, .int .i64 a1] w fun e w' => ∃ v0_ : Value, e = .returned (v0_) ∧ Kd.R (Kd.int .u8) 5 w' w.heap.size (fun _ => True) v0_ r ∧ Below w.heap.size w w' := by
  have HR0 := Aside0.mk hr0
  have HC0 := Aside0.mk hc0
  clear hr0 hc0
  have HB := Aside0.mk (Below.refl w.heap.size w)
  have H : (if 0 ≤ (wrap64 ((l0.length : Int) + a1)) then (if (wrap64 ((l0.length : Int) + a1) : Int).toNat ≤ 281474976710656 then ((some (([] : List Int) : List Int)).bind fun y107 => (if y107.length + l0.length < 140737488355328 then (some (y107 ++ l0)) else (none))) else (none)) else (none)) = some r := h
  clear h
  obtain ⟨ji3, hji3⟩ : ∃ j_ : Int, (wrap64 ((l0.length : Int) + a1)) = j_ := ⟨_, rfl⟩
  replace H : (if 0 ≤ (ji3) then (if (ji3 : Int).toNat ≤ 281474976710656 then ((some (([] : List Int) : List Int)).bind fun y107 => (if y107.length + l0.length < 140737488355328 then (some (y107 ++ l0)) else (none))) else (none)) else (none)) = some r := by first | (rw [hji3] at H; exact H) | (simp only [hji3] at H ⊢; exact H)
  have hji3w : (IntKind.i64.wrap ((l0.length : Int) + a1)) = ji3 := (i64_w _).trans hji3
  by_cases c4 : 0 ≤ (ji3)
  · rw [if_pos c4] at H
    have c4b0 := eq_true c4
    have c4b1 : decide (0 ≤ (ji3)) = true := decide_eq_true c4
    clear c4
    by_cases c5 : (ji3 : Int).toNat ≤ 281474976710656
    · rw [if_pos c5] at H
      have c5b0 := eq_true c5
      have c5b1 : decide ((ji3 : Int).toNat ≤ 281474976710656) = true := decide_eq_true c5
      clear c5
      obtain ⟨y107, hy107⟩ : ∃ y_ : List Int, y_ = (([] : List Int)) := ⟨_, rfl⟩
      replace H : (if y107.length + l0.length < 140737488355328 then (some (y107 ++ l0)) else (none)) = some r := by first | (rw [hy107]; with_reducible exact H) | (have H2_ := (Option.bind_some _ _).symm.trans H; rw [hy107]; with_reducible exact H2_) | (have H2_ := (Option.bind_some _ _).symm.trans H; with_reducible exact H2_) | with_reducible exact H | (rw [hy107]; exact H) | exact H
      have Ny107 := Aside0.mk hy107
      clear hy107
      by_cases c6 : y107.length + l0.length < 140737488355328
      · rw [if_pos c6] at H
        have LMc6 := Aside0.mk c6
        clear c6
        obtain ⟨y110, hy110⟩ : ∃ y_ : List Int, y_ = (y107 ++ l0) := ⟨_, rfl⟩
        replace H : (some y110) = some r := by first | (rw [hy110]; with_reducible exact H) | (have H2_ := (Option.bind_some _ _).symm.trans H; rw [hy110]; with_reducible exact H2_) | (have H2_ := (Option.bind_some _ _).symm.trans H; with_reducible exact H2_) | with_reducible exact H | (rw [hy110]; exact H) | exact H
        have Ny110 := Aside0.mk hy110
        clear hy110
        obtain rfl := Option.some.inj H
        go_enter Try.func138, Try.ntmps138
        go_wp2_with (first | ((with_reducible refine gate_dst (N := 9) rfl ?_); refine Go.Proofs.Ytafmoglaockepaa.Mine.R_makeCap (Kd.int .u8) _ 5 rfl (N := 9) rfl 26 _ _ rfl ji3 rfl rfl Try.underlying26 (.int .u8 0) 1 info5 rfl (by omega) (ok := fun _ => True) trivial (of_decide_eq_true (by first | (with_reducible assumption) | assumption)) (Nat.le_trans (Nat.mul_le_mul_right _ (of_decide_eq_true (by first | (with_reducible assumption) | assumption) : ji3.toNat ≤ 281474976710656)) (by omega)) (Below.refl _ _) (Nat.le_refl _) ?_; intro v108 w7 ho8 hb hg_ hnew_; clear hg_ hnew_; (first | rw [← Ny107.out] at ho8 | (simp only [Int.reduceToNat] at ho8; rw [← Ny107.out] at ho8)); have n0_ := Aside0.mk (Kd.R_lower ho8 (below_size (by repeat (first | (with_reducible first | exact HB.out | apply below_alloc | apply pw_below_drewN | apply below_drew1) | exact HB.out)))); have n1_ := Aside0.mk (below_step (by repeat (first | (with_reducible first | exact HB.out | apply below_alloc | apply pw_below_drewN | apply below_drew1) | exact HB.out)) hb); clear HB; have HO109 := n0_; have HB := n1_; clear n0_ n1_; clear hb ho8) | ((with_reducible refine gate_builtin (b := .append) (xs := #[.tmp 9, .tmp 10]) rfl ?_); at_builtin; refine Kd.R_append_rows (Kd.int .u8) (w0 := w) w.heap.size rfl (.tmp 9) (.tmp 10) 26 5 (.int .u8 0) 1 rfl Try.underlying26 info5 rfl (by decide) (by omega) v108 y107 l0 _ _ _ (fun _ => True) (fun _ => False) rfl rfl ?aO ?aR (fun _ _ h => h) (fun _ h => h.elim) ?aF ?aB ?aS ?aL ?_; (case aR => repeat (first | exact (Kd.C_below HR0.out HB.out) | (with_reducible refine Kd.C_alloc ?_ _) | (with_reducible refine Kd.C_drewN ?_ _) | (with_reducible refine Kd.C_drew ?_))); (case aB => exact (by repeat (first | (with_reducible first | exact HB.out | apply below_alloc | apply pw_below_drewN | apply below_drew1) | exact HB.out))); (case aF => exact (fun _ _ => trivial)); (case aO => exact (by (with_reducible repeat (first | apply Kd.R_alloc | apply Kd.R_drewN | apply Kd.R_drew)); exact HO109.out)); (case aS => exact (below_size (by repeat (first | (with_reducible first | exact HB.out | apply below_alloc | apply pw_below_drewN | apply below_drew1) | exact HB.out)))); (case aL => have := LMc6.out; omega); intro v111 w9 ho hb hg hat; rw [← Ny110.out] at ho; have n0_ := Aside0.mk (hb); have n1_ := Aside0.mk (ho); clear HB; clear HO109; have HB := n0_; have HO112 := n1_; clear n0_ n1_; clear ho hb hg hat))
        go_ret
        exact ⟨_, by first | rfl | (simp [errW_none, errW_some] <;> rfl) | (simp only [← hji3]; first | rfl | (simp [errW_none, errW_some] <;> rfl)) | (simp [*, errW_none, errW_some] <;> rfl), by (with_reducible repeat (first | apply Kd.R_alloc | apply Kd.R_drewN | apply Kd.R_drew)); exact HO112.out, by repeat (first | (with_reducible first | exact HB.out | apply below_alloc | apply pw_below_drewN | apply below_drew1) | exact HB.out)⟩
      · rw [if_neg c6] at H
        exact absurd H (by simp)
    · rw [if_neg c5] at H
      exact absurd H (by simp)
  · rw [if_neg c4] at H
    exact absurd H (by simp)
def frame_PutUint.f (k : Nat) (l0 : List Int) (a1 : Int) : Option (List Int) := (frame_grown.f l0 10).bind fun t113 => ((frame_putUint.f k t113 a1).bind fun t116 => (some t116))
set_option maxHeartbeats 8000000 in
set_option maxRecDepth 100000 in
theorem frame_PutUint.calls (k : Nat) (A0 : Option Addr) (c0 : Nat) (l0 : List Int) (a1 : Int) (r : List Int) (w : World) (hr0 : Kd.C (Kd.int .u8) w A0 l0.length l0) (hc0 : l0.length ≤ c0) (h : frame_PutUint.f k l0 a1 = some r) :
    Calls Try.prog 125 #[.slice A0 l0.length c0, .int .u64 a1] w fun e w' => ∃ v0_ : Value, e = .returned (v0_) ∧ Kd.R (Kd.int .u8) 5 w' w.heap.size (fun _ => True) v0_ r ∧ Below w.heap.size w w' := by
  have HR0 := Aside0.mk hr0
  have HC0 := Aside0.mk hc0
  clear hr0 hc0
  have HB := Aside0.mk (Below.refl w.heap.size w)
  have H : ((frame_grown.f l0 10).bind fun t113 => ((frame_putUint.f k t113 a1).bind fun t116 => (some t116))) = some r := h
  clear h
  replace H := Option.bind_eq_some_iff.mp H
  obtain ⟨t113, A30, H⟩ := H
  replace H : ((frame_putUint.f k t113 a1).bind fun t116 => (some t116)) = some r := H
  have A3 := Aside0.mk A30
  clear A30
  replace H := Option.bind_eq_some_iff.mp H
  obtain ⟨t116, A40, H⟩ := H
  replace H : (some t116) = some r := H
  have A4 := Aside0.mk A40
  clear A40
  obtain rfl := Option.some.inj H
  go_enter Try.func125, Try.ntmps125
  go_wp2_with (first | ((with_reducible refine gate_callee (f := 138) rfl ?_); refine goesL_ (some 6) rfl rfl Try.func138 (by kernel_rfl) rfl #[.slice A0 l0.length c0, .int .i64 10] rfl (by (try simp only [List.map_toArray, List.map_cons, List.map_nil]); first | done | rfl | (simp only [List.length_drop, List.length_take]; rfl)) ?_; (with_reducible refine (frame_grown.calls _ _ l0 10 t113 _ ?side1 ?side2 A3.out).mono ?_); (case side1 => repeat (first | exact HR0.out | (with_reducible refine Kd.C_alloc ?_ _) | (with_reducible refine Kd.C_drewN ?_ _) | (with_reducible refine Kd.C_drew ?_))); (case side2 => exact HC0.out); rintro e w5 ⟨v114, rfl, ho0, hb⟩; refine ⟨_, rfl, ?_⟩; have n0_ := Aside0.mk (Kd.R_lower ho0 (below_size (by repeat (first | (with_reducible first | exact HB.out | apply below_alloc | apply pw_below_drewN | apply below_drew1) | exact HB.out)))); have n1_ := Aside0.mk (below_step (by repeat (first | (with_reducible first | exact HB.out | apply below_alloc | apply pw_below_drewN | apply below_drew1) | exact HB.out)) hb); clear HB; have HO115 := n0_; have HB := n1_; clear n0_ n1_; (try clear hb); (try clear hb2); (try clear hk); (try clear hi); (try clear ho0); obtain ⟨Ao6, co6, eo6⟩ := Kd.R_slice HO115.out; subst eo6) | ((with_reducible refine gate_callee (f := 137) rfl ?_); refine goesL_ (some 8) rfl rfl Try.func137 (by kernel_rfl) rfl #[.slice Ao6 t113.length co6, .int .u64 a1] rfl (by (try simp only [List.map_toArray, List.map_cons, List.map_nil]); first | done | rfl | (simp only [List.length_drop, List.length_take]; rfl)) ?_; (with_reducible refine (frame_putUint.calls k (fun k_ => some k_ = (.slice Ao6 t113.length co6 : Value).ownBlock) (.slice Ao6 t113.length co6) t113 a1 t116 w _ ?side1 ?side2 A4.out).mono ?_); (case side1 => repeat (first | (with_reducible first | exact HB.out | apply below_alloc | apply pw_below_drewN | apply below_drew1) | exact HB.out)); (case side2 => exact Kd.R_tight rfl HO115.out); rintro e w7 ⟨v117, rfl, ho0, hb, hkp⟩; refine ⟨_, rfl, ?_⟩; have n0_ := Aside0.mk (Kd.R_mono (ok' := fun k_ => True) ho0 (fun k_ hk_ => trivial)); have n1_ := Aside0.mk (hb); clear HB; clear HO115; have HO118 := n0_; have HB := n1_; clear n0_ n1_; (try clear hb); (try clear hkp); (try clear ho0)))
  go_ret
  exact ⟨_, by first | rfl | (simp [errW_none, errW_some] <;> rfl) | (simp [*, errW_none, errW_some] <;> rfl), by (with_reducible repeat (first | apply Kd.R_alloc | apply Kd.R_drewN | apply Kd.R_drew)); exact HO118.out, by repeat (first | (with_reducible first | exact HB.out | apply below_alloc | apply pw_below_drewN | apply below_drew1) | exact HB.out)⟩
def frame_PutInt.f (k : Nat) (l0 : List Int) (a1 : Int) : Option (List Int) := (frame_PutUint.f k l0 (Go.bits .xor .u64 (IntKind.u64.wrap ((IntKind.u64.wrap (a1)) * 2)) (IntKind.u64.wrap (a1 / 9223372036854775808)))).bind fun t119 => (some t119)
set_option maxHeartbeats 8000000 in
set_option maxRecDepth 100000 in
theorem frame_PutInt.calls (k : Nat) (A0 : Option Addr) (c0 : Nat) (l0 : List Int) (a1 : Int) (r : List Int) (w : World) (hr0 : Kd.C (Kd.int .u8) w A0 l0.length l0) (hc0 : l0.length ≤ c0) (h : frame_PutInt.f k l0 a1 = some r) :
    Calls Try.prog 107 #[.slice A0 l0.length c0, .int .i64 a1] w fun e w' => ∃ v0_ : Value, e = .returned (v0_) ∧ Kd.R (Kd.int .u8) 5 w' w.heap.size (fun _ => True) v0_ r ∧ Below w.heap.size w w' := by
  have HR0 := Aside0.mk hr0
  have HC0 := Aside0.mk hc0
  clear hr0 hc0
  have HB := Aside0.mk (Below.refl w.heap.size w)
  have H : ((frame_PutUint.f k l0 (Go.bits .xor .u64 (IntKind.u64.wrap ((IntKind.u64.wrap (a1)) * 2)) (IntKind.u64.wrap (a1 / 9223372036854775808)))).bind fun t119 => (some t119)) = some r := h
  clear h
  replace H := Option.bind_eq_some_iff.mp H
  obtain ⟨t119, A30, H⟩ := H
  replace H : (some t119) = some r := H
  have A3 := Aside0.mk A30
  clear A30
  obtain rfl := Option.some.inj H
  go_enter Try.func107, Try.ntmps107
  go_wp2_with (first | ((with_reducible refine gate_callee (f := 125) rfl ?_); refine goesL_ (some 13) rfl rfl Try.func125 (by kernel_rfl) rfl #[.slice A0 l0.length c0, .int .u64 (Go.bits .xor .u64 (IntKind.u64.wrap ((IntKind.u64.wrap (a1)) * 2)) (IntKind.u64.wrap (a1 / 9223372036854775808)))] rfl (by (try simp only [List.map_toArray, List.map_cons, List.map_nil]); first | done | rfl | (simp only [List.length_drop, List.length_take]; rfl)) ?_; (with_reducible refine (frame_PutUint.calls k _ _ l0 (Go.bits .xor .u64 (IntKind.u64.wrap ((IntKind.u64.wrap (a1)) * 2)) (IntKind.u64.wrap (a1 / 9223372036854775808))) t119 _ ?side1 ?side2 A3.out).mono ?_); (case side1 => repeat (first | exact HR0.out | (with_reducible refine Kd.C_alloc ?_ _) | (with_reducible refine Kd.C_drewN ?_ _) | (with_reducible refine Kd.C_drew ?_))); (case side2 => exact HC0.out); rintro e w4 ⟨v120, rfl, ho0, hb⟩; refine ⟨_, rfl, ?_⟩; have n0_ := Aside0.mk (Kd.R_lower ho0 (below_size (by repeat (first | (with_reducible first | exact HB.out | apply below_alloc | apply pw_below_drewN | apply below_drew1) | exact HB.out)))); have n1_ := Aside0.mk (below_step (by repeat (first | (with_reducible first | exact HB.out | apply below_alloc | apply pw_below_drewN | apply below_drew1) | exact HB.out)) hb); clear HB; have HO121 := n0_; have HB := n1_; clear n0_ n1_; (try clear hb); (try clear hb2); (try clear hk); (try clear hi); (try clear ho0)))
  go_ret
  exact ⟨_, by first | rfl | (simp [errW_none, errW_some] <;> rfl) | (simp [*, errW_none, errW_some] <;> rfl), by (with_reducible repeat (first | apply Kd.R_alloc | apply Kd.R_drewN | apply Kd.R_drew)); exact HO121.out, by repeat (first | (with_reducible first | exact HB.out | apply below_alloc | apply pw_below_drewN | apply below_drew1) | exact HB.out)⟩
def frame_PutText.f (k : Nat) (l0 : List Int) (a1 : ByteArray) : Option (List Int) := (frame_grown.f l0 (wrap64 (10 + (a1.size : Int)))).bind fun t122 => ((frame_putUint.f k t122 (IntKind.u64.wrap ((a1.size : Int)))).bind fun t125 => (if t125.length + a1.size < 140737488355328 then (some (t125 ++ bytesOf a1)) else (none)))
set_option maxHeartbeats 8000000 in
set_option maxRecDepth 100000 in
theorem frame_PutText.calls (k : Nat) (A0 : Option Addr) (c0 : Nat) (l0 : List Int) (a1 : ByteArray) (r : List Int) (w : World) (hr0 : Kd.C (Kd.int .u8) w A0 l0.length l0) (hc0 : l0.length ≤ c0) (h : frame_PutText.f k l0 a1 = some r) :
    Calls Try.prog 106 #[.slice A0 l0.length c0, .string a1] w fun e w' => ∃ v0_ : Value, e = .returned (v0_) ∧ Kd.R (Kd.int .u8) 5 w' w.heap.size (fun _ => True) v0_ r ∧ Below w.heap.size w w' := by
  have HR0 := Aside0.mk hr0
  have HC0 := Aside0.mk hc0
  clear hr0 hc0
  have HB := Aside0.mk (Below.refl w.heap.size w)
  have H : ((frame_grown.f l0 (wrap64 (10 + (a1.size : Int)))).bind fun t122 => ((frame_putUint.f k t122 (IntKind.u64.wrap ((a1.size : Int)))).bind fun t125 => (if t125.length + a1.size < 140737488355328 then (some (t125 ++ bytesOf a1)) else (none)))) = some r := h
  clear h
  replace H := Option.bind_eq_some_iff.mp H
  obtain ⟨t122, A30, H⟩ := H
  replace H : ((frame_putUint.f k t122 (IntKind.u64.wrap ((a1.size : Int)))).bind fun t125 => (if t125.length + a1.size < 140737488355328 then (some (t125 ++ bytesOf a1)) else (none))) = some r := H
  have A3 := Aside0.mk A30
  clear A30
  replace H := Option.bind_eq_some_iff.mp H
  obtain ⟨t125, A40, H⟩ := H
  replace H : (if t125.length + a1.size < 140737488355328 then (some (t125 ++ bytesOf a1)) else (none)) = some r := H
  have A4 := Aside0.mk A40
  clear A40
  by_cases c5 : t125.length + a1.size < 140737488355328
  · rw [if_pos c5] at H
    have LMc5 := Aside0.mk c5
    clear c5
    obtain ⟨y128, hy128⟩ : ∃ y_ : List Int, y_ = (t125 ++ bytesOf a1) := ⟨_, rfl⟩
    replace H : (some y128) = some r := by first | (rw [hy128]; with_reducible exact H) | (have H2_ := (Option.bind_some _ _).symm.trans H; rw [hy128]; with_reducible exact H2_) | (have H2_ := (Option.bind_some _ _).symm.trans H; with_reducible exact H2_) | with_reducible exact H | (rw [hy128]; exact H) | exact H
    have Ny128 := Aside0.mk hy128
    clear hy128
    obtain rfl := Option.some.inj H
    go_enter Try.func106, Try.ntmps106
    go_wp2_with (first | ((with_reducible refine gate_callee (f := 138) rfl ?_); refine goesL_ (some 9) rfl rfl Try.func138 (by kernel_rfl) rfl #[.slice A0 l0.length c0, .int .i64 (wrap64 (10 + (a1.size : Int)))] rfl (by (try simp only [List.map_toArray, List.map_cons, List.map_nil]); first | done | rfl | (simp only [List.length_drop, List.length_take]; rfl)) ?_; (with_reducible refine (frame_grown.calls _ _ l0 (wrap64 (10 + (a1.size : Int))) t122 _ ?side1 ?side2 A3.out).mono ?_); (case side1 => repeat (first | exact HR0.out | (with_reducible refine Kd.C_alloc ?_ _) | (with_reducible refine Kd.C_drewN ?_ _) | (with_reducible refine Kd.C_drew ?_))); (case side2 => exact HC0.out); rintro e w6 ⟨v123, rfl, ho0, hb⟩; refine ⟨_, rfl, ?_⟩; have n0_ := Aside0.mk (Kd.R_lower ho0 (below_size (by repeat (first | (with_reducible first | exact HB.out | apply below_alloc | apply pw_below_drewN | apply below_drew1) | exact HB.out)))); have n1_ := Aside0.mk (below_step (by repeat (first | (with_reducible first | exact HB.out | apply below_alloc | apply pw_below_drewN | apply below_drew1) | exact HB.out)) hb); clear HB; have HO124 := n0_; have HB := n1_; clear n0_ n1_; (try clear hb); (try clear hb2); (try clear hk); (try clear hi); (try clear ho0); obtain ⟨Ao7, co7, eo7⟩ := Kd.R_slice HO124.out; subst eo7) | ((with_reducible refine gate_callee (f := 137) rfl ?_); refine goesL_ (some 13) rfl rfl Try.func137 (by kernel_rfl) rfl #[.slice Ao7 t122.length co7, .int .u64 (IntKind.u64.wrap ((a1.size : Int)))] rfl (by (try simp only [List.map_toArray, List.map_cons, List.map_nil]); first | done | rfl | (simp only [List.length_drop, List.length_take]; rfl)) ?_; (with_reducible refine (frame_putUint.calls k (fun k_ => some k_ = (.slice Ao7 t122.length co7 : Value).ownBlock) (.slice Ao7 t122.length co7) t122 (IntKind.u64.wrap ((a1.size : Int))) t125 w _ ?side1 ?side2 A4.out).mono ?_); (case side1 => repeat (first | (with_reducible first | exact HB.out | apply below_alloc | apply pw_below_drewN | apply below_drew1) | exact HB.out)); (case side2 => exact Kd.R_tight rfl HO124.out); rintro e w8 ⟨v126, rfl, ho0, hb, hkp⟩; refine ⟨_, rfl, ?_⟩; have n0_ := Aside0.mk (Kd.R_mono (ok' := fun k_ => True) ho0 (fun k_ hk_ => trivial)); have n1_ := Aside0.mk (hb); clear HB; clear HO124; have HO127 := n0_; have HB := n1_; clear n0_ n1_; (try clear hb); (try clear hkp); (try clear ho0)) | (at_builtin; refine print_append_str (w0 := w) w.heap.size rfl (.tmp 13) _ 26 9 5 rfl Try.underlying26 Try.underlying9 info5 v126 t125 a1 rfl rfl ?aO ?aB ?aS ?aL ?_; (case aB => exact (by repeat (first | (with_reducible first | exact HB.out | apply below_alloc | apply pw_below_drewN | apply below_drew1) | exact HB.out))); (case aO => exact (Kd.own_of_R (by (with_reducible repeat (first | apply Kd.R_alloc | apply Kd.R_drewN | apply Kd.R_drew)); exact HO127.out))); (case aS => exact (below_size (by repeat (first | (with_reducible first | exact HB.out | apply below_alloc | apply pw_below_drewN | apply below_drew1) | exact HB.out)))); (case aL => have := LMc5.out; omega); intro v129 w9 ho0 hb hg; have ho := Kd.R_of_own (h1 := fun _ => rfl) (ok := fun _ => True) ho0 (fun _ _ => trivial); clear ho0; have hat := True.intro; rw [← Ny128.out] at ho; change Kd.R (Kd.int .u8) 5 w9 w.heap.size (fun _ => True) v129 y128 at ho; have n0_ := Aside0.mk (hb); have n1_ := Aside0.mk (ho); clear HB; clear HO127; have HB := n0_; have HO130 := n1_; clear n0_ n1_; clear ho hb hg hat))
    go_ret
    exact ⟨_, by first | rfl | (simp [errW_none, errW_some] <;> rfl) | (simp [*, errW_none, errW_some] <;> rfl), by (with_reducible repeat (first | apply Kd.R_alloc | apply Kd.R_drewN | apply Kd.R_drew)); exact HO130.out, by repeat (first | (with_reducible first | exact HB.out | apply below_alloc | apply pw_below_drewN | apply below_drew1) | exact HB.out)⟩
  · rw [if_neg c5] at H
    exact absurd H (by simp)
end Go.Proofs.Ytafmoglaockepaa.PG
end
section
-- Written by a program of this session (wip/pp), out of the translation.
namespace Go.Proofs.Ytafmoglaockepaa.PG
open Go.RowKit Go.Proofs.Ytafmoglaockepaa.Mine Go.Proofs.YtafmoglaockepaaW.PrintWords Go.Proofs.YtafmoglaockepaaW.PrintLast Go.Proofs.YtafmoglaockepaaW.PrintMore
attribute [local go_sem] max2_int min2_int max_two min_two max_three min_three max_four min_four   -- for this text's walks alone
set_option linter.unusedVariables false
set_option linter.unusedSimpArgs false
def larderref01_Text.f (k : Nat) (l0 : List Int) (a1 : Int) : Option (ByteArray × Int × Int) := if a1 < 0 then (some ((⟨#[]⟩ : ByteArray), 0, 2)) else ((larderref01_Uint.f k l0).bind fun bt187 => (if bt187.2.2 = 0 then (if bt187.1 > (IntKind.u64.wrap (a1)) then (some ((⟨#[]⟩ : ByteArray), 0, 12)) else (if bt187.1 > (IntKind.u64.wrap (wrap64 ((l0.length : Int) - bt187.2.1))) then (some ((⟨#[]⟩ : ByteArray), (l0.length : Int), 3)) else (if 0 ≤ bt187.2.1 then (if bt187.2.1 ≤ (wrap64 (bt187.2.1 + (wrap64 (bt187.1)))) then (if (wrap64 (bt187.2.1 + (wrap64 (bt187.1)))) ≤ (l0.length : Int) then (some (strOfNums ((l0.take ((wrap64 (bt187.2.1 + (wrap64 (bt187.1)))) : Int).toNat).drop (bt187.2.1 : Int).toNat), wrap64 (bt187.2.1 + (wrap64 (bt187.1))), 0)) else (none)) else (none)) else (none)))) else (some ((⟨#[]⟩ : ByteArray), bt187.2.1, bt187.2.2))))
end Go.Proofs.Ytafmoglaockepaa.PG
end
section
namespace Go.Proofs.Ytafmoglaockepaa.Num
open Go Go.RowKit Go.Proofs.YtafmoglaockepaaW.PrintWords Go.Proofs.YtafmoglaockepaaW.PrintMore
theorem w64 {x : Int} (h0 : -9223372036854775808 ≤ x) (h1 : x ≤ 9223372036854775807) : wrap64 x = x := by unfold wrap64; omega
def IsBytes (l : List Int) : Prop := ∀ x ∈ l, 0 ≤ x ∧ x < 256
theorem u8_bd {a : Int} (h : (Lit.int .u8 a).wf = true) : 0 ≤ a ∧ a < 256 := by
  simp [Lit.wf, IntKind.min, IntKind.max, IntKind.bits, IntKind.signed] at h
  omega
theorem IsBytes.append {a b : List Int} (ha : IsBytes a) (hb : IsBytes b) : IsBytes (a ++ b) := fun x hx => by
  rcases List.mem_append.1 hx with h | h
  · exact ha x h
  · exact hb x h
theorem IsBytes.drop {a : List Int} (ha : IsBytes a) (n : Nat) : IsBytes (a.drop n) := fun x hx => ha x (List.mem_of_mem_drop hx)
theorem IsBytes.take {a : List Int} (ha : IsBytes a) (n : Nat) : IsBytes (a.take n) := fun x hx => ha x (List.mem_of_mem_take hx)
def enc : Nat → Nat → List Int
  | 0, _ => []
  | f + 1, n => if n < 128 then [(n : Int)] else ((n % 128 + 128 : Nat) : Int) :: enc f (n / 128)
theorem enc_len (f : Nat) : ∀ n, (enc f n).length ≤ f := by
  induction f with
  | zero => intro n; simp [enc]
  | succ f ih =>
    intro n
    unfold enc
    split
    · simp
    · simp only [List.length_cons]; have := ih (n / 128); omega
theorem enc_pos (f : Nat) (n : Nat) : 0 < (enc (f + 1) n).length := by
  unfold enc
  split <;> simp
def ug : Nat → Nat → List Int → Int × Int × Int
  | i, _, [] => (0, (i : Int), 3)
  | i, n, c :: t => if i = 9 ∧ c > 1 then (0, (i : Int), 11) else if 0 < i ∧ c = 0 then (0, (i : Int), 10) else if c < 128 then (((n + c.toNat % 128 * 128 ^ i : Nat) : Int), ((i + 1 : Nat) : Int), 0) else ug (i + 1) (n + c.toNat % 128 * 128 ^ i) t
theorem pow_128 (i : Nat) : (2 : Nat) ^ (7 * i) = 128 ^ i := by rw [Nat.pow_mul]
theorem pow_le8 {i : Nat} (h : i ≤ 8) : 128 ^ i ≤ 72057594037927936 := Nat.le_trans (Nat.pow_le_pow_right (by decide) h) (by decide)
theorem pow_le9 {i : Nat} (h : i ≤ 9) : 128 ^ i ≤ 9223372036854775808 := Nat.le_trans (Nat.pow_le_pow_right (by decide) h) (by decide)
theorem group_lt {i d : Nat} (hi : i ≤ 9) (hd : d < 128) (h9 : i = 9 → d ≤ 1) : d * 128 ^ i ≤ 9223372036854775808 := by
  rcases Nat.lt_or_ge i 9 with h | h
  · have h1 := pow_le8 (show i ≤ 8 by omega)
    have h2 : d * 128 ^ i ≤ 127 * 72057594037927936 := Nat.mul_le_mul (by omega) h1
    omega
  · obtain rfl : i = 9 := by omega
    have h2 : d * 128 ^ 9 ≤ 1 * 128 ^ 9 := Nat.mul_le_mul_right _ (h9 rfl)
    have h3 : (128 : Nat) ^ 9 = 9223372036854775808 := by decide
    omega
theorem or_add {i n d : Nat} (hn : n < 128 ^ i) : n ||| d * 128 ^ i = n + d * 128 ^ i := by
  rw [Nat.or_comm, nat_join (7 * i) (d * 128 ^ i) n, Nat.add_comm]
  · rw [pow_128, Nat.mul_mod_left]
  · rw [pow_128]; exact hn
theorem next_lt {i n d : Nat} (hn : n < 128 ^ i) (hd : d < 128) : n + d * 128 ^ i < 128 ^ (i + 1) := by
  rw [Nat.pow_succ]
  have h1 : d * 128 ^ i ≤ 127 * 128 ^ i := Nat.mul_le_mul_right _ (by omega)
  omega
theorem ug_lt (l : List Int) : ∀ (i n : Nat), i ≤ 9 → n < 128 ^ i → IsBytes l → 0 ≤ (ug i n l).1 ∧ (ug i n l).1 < 18446744073709551616 := by
  induction l with
  | nil => intro i n _ _ _; simp [ug]
  | cons c t ih =>
    intro i n hi hn hb
    have hc := hb c (List.mem_cons_self ..)
    unfold ug
    by_cases h1 : i = 9 ∧ c > 1
    · rw [if_pos h1]; simp
    · rw [if_neg h1]
      by_cases h2 : 0 < i ∧ c = 0
      · rw [if_pos h2]; simp
      · rw [if_neg h2]
        have h9 := pow_le9 hi
        have hg := group_lt (i := i) (d := c.toNat % 128) hi (Nat.mod_lt _ (by decide)) (fun e => by omega)
        by_cases h3 : c < 128
        · rw [if_pos h3]
          simp only
          omega
        · rw [if_neg h3]
          exact ih (i + 1) _ (by omega) (next_lt hn (Nat.mod_lt _ (by decide))) (fun x hx => hb x (List.mem_cons_of_mem _ hx))
theorem rd_drop {l : List Int} {i : Nat} {c : Int} {t : List Int} (h : l.drop i = c :: t) : i < l.length ∧ rd l (i : Int) = c ∧ l.drop (i + 1) = t := by
  have hl : i < l.length := by
    rcases Nat.lt_or_ge i l.length with h2 | h2
    · exact h2
    · rw [List.drop_eq_nil_of_le h2] at h; cases h
  refine ⟨hl, ?_, ?_⟩
  · unfold rd
    rw [Int.toNat_natCast, List.getD_eq_getElem?_getD]
    have : (l.drop i)[0]? = some c := by rw [h]; rfl
    rw [List.getElem?_drop] at this
    simp only [Nat.add_zero] at this
    rw [this]; rfl
  · have := congrArg (List.drop 1) h
    rw [List.drop_drop] at this
    exact this
end Go.Proofs.Ytafmoglaockepaa.Num
end
section
namespace Go.Proofs.Ytafmoglaockepaa.Num
open Go Go.RowKit Go.Proofs.YtafmoglaockepaaW.PrintWords Go.Proofs.YtafmoglaockepaaW.PrintLast Go.Proofs.YtafmoglaockepaaW.PrintMore Go.Proofs.Ytafmoglaockepaa.PG
set_option linter.unusedVariables false
theorem group_wide (k : Nat) (hk : 0 < k) (n c : Int) (h : c > 1) : frame_group.f k n 9 c = some (0, false, 11) := by
  obtain ⟨k, rfl⟩ : ∃ m, k = m + 1 := ⟨k - 1, by omega⟩
  unfold frame_group.f
  rw [if_pos rfl, decide_eq_true h]
  simp [frame_group.j0]
theorem group_form (k : Nat) (hk : 0 < k) (n : Int) (i : Nat) (h : 0 < i) : frame_group.f k n i 0 = some (0, false, 10) := by
  obtain ⟨k, rfl⟩ : ∃ m, k = m + 1 := ⟨k - 1, by omega⟩
  unfold frame_group.f
  split
  · rw [decide_eq_false (by decide)]
    simp only [frame_group.j0]
    rw [if_neg (by decide), if_pos trivial, if_pos (by omega)]
  · simp only [frame_group.j0]
    rw [if_neg (by decide), if_pos trivial, if_pos (by omega)]
theorem group_ok (k : Nat) (hk : 0 < k) (i n : Nat) (c : Int) (hi : i ≤ 9) (hn : n < 128 ^ i) (hc : 0 ≤ c ∧ c < 256) (h1 : ¬ (i = 9 ∧ c > 1)) (h2 : ¬ (0 < i ∧ c = 0)) :
    frame_group.f k n i c = some (((n + c.toNat % 128 * 128 ^ i : Nat) : Int), decide (c < 128), 0) := by
  obtain ⟨k, rfl⟩ : ∃ m, k = m + 1 := ⟨k - 1, by omega⟩
  have hw : 0 ≤ wrap64 ((i : Int) * 7) := by rw [w64 (by omega) (by omega)]; omega
  have hv : Go.bits .or .u64 (n : Int) (shl .u64 (IntKind.u64.wrap (Go.bits .andNot .u8 c 128)) (wrap64 ((i : Int) * 7))) = ((n + c.toNat % 128 * 128 ^ i : Nat) : Int) := by
    have hw : wrap64 ((i : Int) * 7) = ((7 * i : Nat) : Int) := by unfold wrap64; omega
    have hg := group_lt (i := i) (d := c.toNat % 128) hi (Nat.mod_lt _ (by decide)) (fun e => by omega)
    have h9 := pow_le9 hi
    have hb : Go.bits .andNot .u8 c 128 = ((c.toNat % 128 : Nat) : Int) := by
      have := u8_andNot_nat c.toNat 128 (by omega) (by decide)
      rw [show ((c.toNat : Nat) : Int) = c by omega, show (255 - 128 : Nat) = 127 from rfl, nat_mask7] at this
      exact this
    have hd : c.toNat % 128 < 128 := Nat.mod_lt _ (by decide)
    have hp : (2 : Int) ^ (7 * i) = ((128 ^ i : Nat) : Int) := by rw [← pow_128]; exact_mod_cast rfl
    rw [hb, hw, IntKind.wrap_u64, Int.emod_eq_of_lt (by omega) (by omega)]
    unfold shl
    rw [Int.toNat_natCast, Nat.min_eq_left (show 7 * i ≤ IntKind.u64.bits by show 7 * i ≤ 64; omega), hp, ← Int.natCast_mul, IntKind.wrap_u64, Int.emod_eq_of_lt (by omega) (by omega), u64_or_nat n _ (by omega) (by omega), or_add hn]
  have key : ∀ x : Bool, x = false → frame_group.j0 (k + 1) n i c x = some (((n + c.toNat % 128 * 128 ^ i : Nat) : Int), decide (c < 128), 0) := by
    intro x hx
    subst hx
    simp only [frame_group.j0]
    rw [if_neg (by decide), hv]
    by_cases h0 : c = 0
    · rw [if_pos h0, if_neg (by omega), if_pos hw]
    · rw [if_neg h0, if_pos hw]
  unfold frame_group.f
  split
  · exact key _ (decide_eq_false (by omega))
  · exact key _ rfl
theorem frame_uint_l0 (l : List Int) (hb : IsBytes l) (hl : l.length < 9223372036854775807) : ∀ (rest : List Int) (i n k : Nat), l.drop i = rest → i ≤ l.length → i ≤ 9 → n < 128 ^ i → rest.length + 1 < k →
    frame_Uint.l0 k l n l (l.length : Int) i = some (ug i n rest) := by
  intro rest
  induction rest with
  | nil =>
    intro i n k hd hil _ _ hk
    obtain ⟨k, rfl⟩ : ∃ m, k = m + 1 := ⟨k - 1, by omega⟩
    have : l.length ≤ i := by
      rcases Nat.lt_or_ge i l.length with h | h
      · have := congrArg List.length hd; simp at this; omega
      · exact h
    simp only [frame_Uint.l0]
    rw [if_neg (by omega), ug, show i = l.length by omega]
  | cons c t ih =>
    intro i n k hd _ hi hn hk
    obtain ⟨k, rfl⟩ : ∃ m, k = m + 1 := ⟨k - 1, by omega⟩
    obtain ⟨hlt, hrd, hd2⟩ := rd_drop hd
    have hc : 0 ≤ c ∧ c < 256 := (hb.drop i) c (by rw [hd]; exact List.mem_cons_self ..)
    simp only [List.length_cons] at hk
    simp only [frame_Uint.l0]
    rw [if_pos (by omega), if_pos (by omega), if_pos (by omega), hrd, ug]
    have hw : wrap64 ((i : Int) + 1) = ((i + 1 : Nat) : Int) := by unfold wrap64; omega
    by_cases h1 : i = 9 ∧ c > 1
    · rw [if_pos h1]
      obtain ⟨rfl, h1⟩ := h1
      rw [show ((9 : Nat) : Int) = 9 from rfl, group_wide k (by omega) _ c h1]
      simp
    · rw [if_neg h1]
      by_cases h2 : 0 < i ∧ c = 0
      · rw [if_pos h2]
        obtain ⟨h2, rfl⟩ := h2
        rw [group_form k (by omega) _ i h2]
        simp
      · rw [if_neg h2, group_ok k (by omega) i n c hi hn hc h1 h2]
        simp only [Option.bind_some, if_true]
        by_cases h3 : c < 128
        · rw [if_pos h3, if_pos (decide_eq_true h3), hw]
        · rw [if_neg h3, if_neg (by simp [h3]), hw]
          exact ih (i + 1) _ k hd2 (by omega) (by omega) (next_lt hn (Nat.mod_lt _ (by decide))) (by omega)
theorem frame_uint (l : List Int) (hb : IsBytes l) (hl : l.length < 9223372036854775807) (k : Nat) (hk : l.length + 1 < k) : frame_Uint.f k l = some (ug 0 0 l) := by
  unfold frame_Uint.f
  exact frame_uint_l0 l hb hl l 0 0 k rfl (by omega) (by omega) (by decide) hk
theorem grown_ok (l : List Int) (n : Int) (h0 : 0 ≤ n) (h1 : n ≤ 140737488355328) (hl : l.length < 140737488355328) : frame_grown.f l n = some l := by
  unfold frame_grown.f
  have hw : wrap64 ((l.length : Int) + n) = (l.length : Int) + n := by unfold wrap64; omega
  rw [hw, if_pos (by omega), if_pos (by omega)]
  simp only [Option.bind_some, List.length_nil, List.nil_append]
  rw [if_pos (by omega)]
theorem putUint_l0 (f : Nat) : ∀ (n k : Nat) (x : List Int), n < 128 ^ f → 0 < f → n < 18446744073709551616 → f < k → x.length + f < 140737488355328 → frame_putUint.l0 k x n = some (x ++ enc f n) := by
  induction f with
  | zero => intro n k x _ h; omega
  | succ f ih =>
    intro n k x hn _ hb hk hx
    obtain ⟨k, rfl⟩ : ∃ m, k = m + 1 := ⟨k - 1, by omega⟩
    simp only [frame_putUint.l0]
    rw [enc]
    by_cases h : n < 128
    · rw [if_neg (by omega), if_pos (by omega), if_pos h, show (n : Int) % 256 = n by omega]
    · rw [if_pos (by omega), if_pos (by omega), if_neg h]
      have h2 : n / 128 < 128 ^ f := by rw [Nat.pow_succ] at hn; omega
      have hf : 0 < f := by
        rcases Nat.eq_zero_or_pos f with h0 | h0
        · subst h0; simp at hn; omega
        · exact h0
      have hv : Go.bits .or .u8 ((n : Int) % 256) 128 = ((n % 128 + 128 : Nat) : Int) := by
        have := u8_or_nat (n % 256) 128 (by omega) (by decide)
        rw [show ((n % 256 : Nat) : Int) = (n : Int) % 256 by omega] at this
        rw [show ((128 : Nat) : Int) = 128 from rfl] at this
        rw [this]
        congr 1
        have h3 : n % 256 = n % 256 / 128 * 128 + n % 128 := by omega
        rw [show n % 256 ||| 128 = (n % 128) + 128 from ?_]
        have h5 : n % 256 < 256 := Nat.mod_lt _ (by decide)
        have h6 : n % 128 = n % 256 % 128 := by omega
        rw [h6]
        generalize n % 256 = m at h5
        have : ∀ m, m < 256 → m ||| 128 = m % 128 + 128 := by decide +kernel
        exact this m h5
      rw [hv, show (n : Int) / 128 = ((n / 128 : Nat) : Int) by omega, ih (n / 128) k _ h2 hf (by omega) (by omega) (by simp; omega), List.append_assoc]
      rfl
theorem pow10 : (18446744073709551616 : Nat) ≤ 128 ^ 10 := by decide
theorem putUint_raw (k : Nat) (hk : 10 < k) (l : List Int) (n : Nat) (hn : n < 18446744073709551616) (hl : l.length + 10 < 140737488355328) : frame_putUint.f k l n = some (l ++ enc 10 n) :=
  putUint_l0 10 n k l (Nat.lt_of_lt_of_le hn pow10) (by decide) hn hk hl
theorem putUint_ok (k : Nat) (hk : 10 < k) (l : List Int) (n : Nat) (hn : n < 18446744073709551616) (hl : l.length + 10 < 140737488355328) : frame_PutUint.f k l n = some (l ++ enc 10 n) := by
  unfold frame_PutUint.f
  rw [grown_ok l 10 (by decide) (by decide) (by omega)]
  simp only [Option.bind_some]
  rw [putUint_raw k hk l n hn hl]
  rfl
end Go.Proofs.Ytafmoglaockepaa.Num
end
section
namespace Go.Proofs.Ytafmoglaockepaa.Num
open Go Go.RowKit Go.Proofs.YtafmoglaockepaaW.PrintWords Go.Proofs.YtafmoglaockepaaW.PrintLast Go.Proofs.YtafmoglaockepaaW.PrintMore Go.Proofs.Ytafmoglaockepaa.PG
set_option linter.unusedVariables false
theorem ref_uint_l0 (l : List Int) (hb : IsBytes l) (hl : l.length < 9223372036854775807) : ∀ (rest : List Int) (i n k : Nat), l.drop i = rest → i ≤ l.length → i ≤ 9 → n < 128 ^ i → 3 * rest.length + 1 < k →
    larderref01_Uint.l0 k l n ((128 ^ i : Nat) : Int) i = some (ug i n rest) := by
  intro rest
  induction rest with
  | nil =>
    intro i n k hd hil _ _ hk
    obtain ⟨k, rfl⟩ : ∃ m, k = m + 1 := ⟨k - 1, by omega⟩
    have : l.length ≤ i := by
      rcases Nat.lt_or_ge i l.length with h | h
      · have := congrArg List.length hd; simp at this; omega
      · exact h
    simp only [larderref01_Uint.l0]
    rw [if_neg (by omega), ug, show i = l.length by omega]
  | cons c t ih =>
    intro i n k hd _ hi hn hk
    simp only [List.length_cons] at hk
    obtain ⟨k, rfl⟩ : ∃ m, k = m + 3 := ⟨k - 3, by omega⟩
    obtain ⟨hlt, hrd, hd2⟩ := rd_drop hd
    have hc : 0 ≤ c ∧ c < 256 := (hb.drop i) c (by rw [hd]; exact List.mem_cons_self ..)
    have hw : wrap64 ((i : Int) + 1) = ((i + 1 : Nat) : Int) := by rw [w64 (by omega) (by omega)]; omega
    have hp9 := pow_le9 hi
    have e1 : ¬ (i = 9 ∧ c > 1) → IntKind.u64.wrap ((n : Int) + IntKind.u64.wrap (IntKind.u64.wrap (Int.tmod c 128) * ((128 ^ i : Nat) : Int))) = ((n + c.toNat % 128 * 128 ^ i : Nat) : Int) := by
      intro h1
      have hg := group_lt (i := i) (d := c.toNat % 128) hi (Nat.mod_lt _ (by decide)) (fun e => by omega)
      have h3 : IntKind.u64.wrap (Int.tmod c 128) = ((c.toNat % 128 : Nat) : Int) := by
        rw [Int.tmod_eq_emod_of_nonneg hc.1, IntKind.wrap_u64]; omega
      rw [h3, ← Int.natCast_mul, IntKind.wrap_u64, IntKind.wrap_u64]
      generalize c.toNat % 128 * 128 ^ i = q at hg
      omega
    have j2 : ∀ x : Bool, x = false → ¬ (i = 9 ∧ c > 1) → ¬ (0 < i ∧ c = 0) → larderref01_Uint.j2 (k + 1) l n ((128 ^ i : Nat) : Int) i x = some (ug i n (c :: t)) := by
      intro x hx h1 h2
      subst hx
      simp only [larderref01_Uint.j2]
      rw [if_neg (by decide), if_pos (by omega), if_pos (by omega), hrd, e1 h1, ug, if_neg h1, if_neg h2, hw]
      by_cases h3 : c < 128
      · rw [if_pos h3, if_pos h3]
      · rw [if_neg h3, if_neg h3]
        have hi9 : i ≤ 8 := by omega
        have e2 : IntKind.u64.wrap (((128 ^ i : Nat) : Int) * 128) = ((128 ^ (i + 1) : Nat) : Int) := by
          have := pow_le8 hi9
          rw [show ((128 ^ i : Nat) : Int) * 128 = ((128 ^ i * 128 : Nat) : Int) from (Int.natCast_mul _ _).symm, ← Nat.pow_succ, IntKind.wrap_u64]
          have h5 := pow_le9 (show i + 1 ≤ 9 by omega)
          exact Int.emod_eq_of_lt (by omega) (by omega)
        rw [e2]
        exact ih (i + 1) _ k hd2 (by omega) (by omega) (next_lt hn (Nat.mod_lt _ (by decide))) (by omega)
    have j2t : 0 < i → c = 0 → ¬ (i = 9 ∧ c > 1) → larderref01_Uint.j2 (k + 1) l n ((128 ^ i : Nat) : Int) i true = some (ug i n (c :: t)) := by
      intro h0 h2 h1
      simp only [larderref01_Uint.j2]
      rw [if_pos trivial, ug, if_neg h1, if_pos ⟨h0, h2⟩]
    have j1 : ∀ x : Bool, x = false → ¬ (i = 9 ∧ c > 1) → larderref01_Uint.j1 (k + 2) l n ((128 ^ i : Nat) : Int) i x = some (ug i n (c :: t)) := by
      intro x hx h1
      subst hx
      simp only [larderref01_Uint.j1]
      rw [if_neg (by decide)]
      by_cases h0 : 0 < i
      · rw [if_pos (by omega), if_pos (by omega), if_pos (by omega), hrd]
        by_cases h2 : c = 0
        · rw [show (c == 0) = true by rw [h2]; rfl]
          exact j2t h0 h2 h1
        · exact j2 _ (by simp [h2]) h1 (fun h => h2 h.2)
      · rw [if_neg (by omega)]
        exact j2 _ rfl h1 (fun h => h0 h.1)
    rw [larderref01_Uint.l0, if_pos (by omega)]
    by_cases h9 : i = 9
    · subst h9
      rw [if_pos (show ((9 : Nat) : Int) = 9 from rfl), if_pos (by decide), hrd]
      by_cases h1 : c > 1
      · rw [decide_eq_true h1]
        simp only [larderref01_Uint.j1]
        rw [if_pos trivial, ug, if_pos ⟨rfl, h1⟩]
      · exact j1 _ (decide_eq_false h1) (fun h => h1 h.2)
    · rw [if_neg (by omega)]
      exact j1 _ rfl (fun h => h9 h.1)
theorem ref_uint (l : List Int) (hb : IsBytes l) (hl : l.length < 9223372036854775807) (k : Nat) (hk : 3 * l.length + 1 < k) : larderref01_Uint.f k l = some (ug 0 0 l) := by
  unfold larderref01_Uint.f
  exact ref_uint_l0 l hb hl l 0 0 k rfl (by omega) (by omega) (by decide) hk
def zz (a : Int) : Nat := if 0 ≤ a then (2 * a).toNat else (-2 * a - 1).toNat
def unzz (u : Int) : Int := if u % 2 = 0 then u / 2 else -(u / 2) - 1
theorem zz_lt {a : Int} (h0 : -9223372036854775808 ≤ a) (h1 : a ≤ 9223372036854775807) : zz a < 18446744073709551616 := by
  unfold zz; split <;> omega
theorem unzz_zz (a : Int) : unzz (zz a) = a := by
  unfold zz unzz; split <;> (split <;> omega)
theorem zz_unzz (u : Int) (h : 0 ≤ u) : ((zz (unzz u) : Nat) : Int) = u := by
  unfold zz unzz; split <;> (split <;> omega)
theorem frame_fold {a : Int} (h0 : -9223372036854775808 ≤ a) (h1 : a ≤ 9223372036854775807) :
    Go.bits .xor .u64 (IntKind.u64.wrap (IntKind.u64.wrap a * 2)) (IntKind.u64.wrap (a / 9223372036854775808)) = ((zz a : Nat) : Int) := by
  by_cases h : 0 ≤ a
  · have e1 : IntKind.u64.wrap (IntKind.u64.wrap a * 2) = (((2 * a).toNat : Nat) : Int) := by
      rw [IntKind.wrap_u64, IntKind.wrap_u64]; omega
    have e2 : IntKind.u64.wrap (a / 9223372036854775808) = ((0 : Nat) : Int) := by
      rw [IntKind.wrap_u64]; omega
    rw [e1, e2, bits_xor_u64_nat _ _ (by omega) (by decide), Nat.xor_zero]
    unfold zz
    rw [if_pos h]
  · have e1 : IntKind.u64.wrap (IntKind.u64.wrap a * 2) = (((2 * a + 18446744073709551616).toNat : Nat) : Int) := by
      rw [IntKind.wrap_u64, IntKind.wrap_u64]; omega
    have e2 : IntKind.u64.wrap (a / 9223372036854775808) = ((2 ^ 64 - 1 : Nat) : Int) := by
      rw [IntKind.wrap_u64, show a / 9223372036854775808 = -1 by omega]; rfl
    rw [e1, e2, bits_xor_u64_nat _ _ (by omega) (by decide), Nat.xor_comm, Lib.xor_ones64 _ (by omega)]
    unfold zz
    rw [if_neg h]
    omega
theorem putInt_ok (k : Nat) (hk : 10 < k) (l : List Int) (a : Int) (h0 : -9223372036854775808 ≤ a) (h1 : a ≤ 9223372036854775807) (hl : l.length + 10 < 140737488355328) : frame_PutInt.f k l a = some (l ++ enc 10 (zz a)) := by
  unfold frame_PutInt.f
  rw [frame_fold h0 h1, putUint_ok k hk l _ (zz_lt h0 h1) hl]
  rfl
theorem xor_comm_i64 (x y : Int) : Go.bits .xor .i64 x y = Go.bits .xor .i64 y x := by
  unfold Go.bits
  simp only
  rw [BitVec.xor_comm]
theorem xor_zero_i64 (x : Nat) (h : x < 9223372036854775808) : Go.bits .xor .i64 (x : Int) 0 = x := by
  show IntKind.i64.wrap ((BitVec.ofInt 64 (x : Int) ^^^ BitVec.ofInt 64 0).toNat : Int) = _
  rw [show BitVec.ofInt 64 0 = 0#64 from rfl, BitVec.xor_zero, BitVec.ofInt_natCast, BitVec.toNat_ofNat, Nat.mod_eq_of_lt (by omega), IntKind.wrap_i64]
  omega
theorem frame_unfold {u : Int} (h0 : 0 ≤ u) (h1 : u < 18446744073709551616) : Go.bits .xor .i64 (wrap64 (u / 2)) (wrap64 (-(wrap64 (Go.bits .and .u64 u 1)))) = unzz u := by
  rw [Lib.u64_and1 u h0 h1, w64 (x := u / 2) (by omega) (by omega), w64 (x := u % 2) (by omega) (by omega), w64 (by omega) (by omega)]
  unfold unzz
  have e : u / 2 = (((u / 2).toNat : Nat) : Int) := by omega
  by_cases h : u % 2 = 0
  · rw [if_pos h, h, e]
    exact xor_zero_i64 _ (by omega)
  · rw [if_neg h, show u % 2 = 1 by omega, xor_comm_i64, e]
    exact Lib.i64_not _ (by omega)
def ig (r : Int × Int × Int) : Int × Int × Int := (unzz r.1, r.2.1, r.2.2)
theorem frame_int (l : List Int) (hb : IsBytes l) (hl : l.length < 9223372036854775807) (k : Nat) (hk : l.length + 1 < k) : frame_Int.f k l = some (ig (ug 0 0 l)) := by
  unfold frame_Int.f
  rw [frame_uint l hb hl k hk]
  simp only [Option.bind_some]
  have := ug_lt l 0 0 (by omega) (by decide) hb
  rw [frame_unfold this.1 this.2]
  rfl
end Go.Proofs.Ytafmoglaockepaa.Num
end
section
namespace Go.Proofs.Ytafmoglaockepaa.Cd
open Go Go.RowKit Go.Proofs.Ytafmoglaockepaa.Num Go.Proofs.Ytafmoglaockepaa.PG Go.Proofs.YtafmoglaockepaaW.PrintWords Go.Proofs.YtafmoglaockepaaW.PrintLast Go.Proofs.YtafmoglaockepaaW.PrintMore
set_option linter.unusedVariables false
inductive Res (α : Type) where
  | ok (x : α) (n : Nat)
  | fail (e p : Int)
def Res.bind {α β : Type} : Res α → (α → Nat → Res β) → Res β
  | .ok x n, f => f x n
  | .fail e p, _ => .fail e p
def Res.map {α β : Type} (f : α → β) : Res α → Res β
  | .ok x n => .ok (f x) n
  | .fail e p => .fail e p
def tx (most : Int) (l : List Int) : ByteArray × Int × Int :=
  if (ug 0 0 l).2.2 = 0 then
    if (ug 0 0 l).1 > most then (⟨#[]⟩, 0, 12)
    else if (ug 0 0 l).1 > (l.length : Int) - (ug 0 0 l).2.1 then (⟨#[]⟩, (l.length : Int), 3)
    else (strOfNums ((l.take ((ug 0 0 l).2.1 + (ug 0 0 l).1).toNat).drop (ug 0 0 l).2.1.toNat), (ug 0 0 l).2.1 + (ug 0 0 l).1, 0)
  else (⟨#[]⟩, (ug 0 0 l).2.1, (ug 0 0 l).2.2)
def took {α : Type} (n : Nat) (r : α × Int × Int) : Res α := if r.2.2 = 0 then .ok r.1 (n + r.2.1.toNat) else .fail r.2.2 ((n : Int) + r.2.1)
def pI (xs : List Int) (n : Nat) : Res Int := took n (ig (ug 0 0 (xs.drop n)))
def pT (xs : List Int) (most : Nat) (n : Nat) : Res ByteArray := took n (tx most (xs.drop n))
def pU (xs : List Int) (most : Nat) (n : Nat) : Res Nat := (took n (ug 0 0 (xs.drop n))).bind fun u m => if u > (most : Int) then .fail 91 (n : Int) else .ok u.toNat m
def pN {α : Type} (one : Nat → Res α) : Nat → List α → Nat → Res (List α)
  | 0, l, n => .ok l n
  | k + 1, l, n => (one n).bind fun x m => pN one k (l ++ [x]) m
def pList {α : Type} (xs : List Int) (most : Nat) (one : Nat → Res α) (n : Nat) : Res (List α) := (pU xs most n).bind fun k m => pN one k [] m
def pLevel (xs : List Int) (most : Nat) (n : Nat) : Res S28 := (pT xs most n).bind fun c n => (pI xs n).bind fun a n => (pI xs n).bind fun b n => .ok ⟨c, a, b⟩ n
def whole {α : Type} (key : Int) (most : Nat) (xs : List Int) (fields : Nat → Res α) : Res α :=
  if most < xs.length then .fail 1 0
  else if xs.length = 0 then .fail 3 0
  else if xs.headD 0 ≠ key then .fail 90 0
  else (fields 1).bind fun x n => if n < xs.length then .fail 4 (n : Int) else .ok x n
theorem ug_at (l : List Int) : ∀ (i n : Nat), (i : Int) ≤ (ug i n l).2.1 ∧ (ug i n l).2.1 ≤ (i : Int) + l.length := by
  induction l with
  | nil => intro i n; simp [ug]
  | cons c t ih =>
    intro i n
    unfold ug
    split
    · simp only [List.length_cons]; omega
    · split
      · simp only [List.length_cons]; omega
      · split
        · simp only [List.length_cons]; omega
        · have := ih (i + 1) (n + c.toNat % 128 * 128 ^ i)
          simp only [List.length_cons]
          omega
theorem sclone_ok (l : List Int) (h : l.length < 140737488355328) : slices_Clone_byte_byte.f l = some l := by
  unfold slices_Clone_byte_byte.f
  rw [if_pos h]
theorem text_ok (k : Nat) (l : List Int) (a : Nat) (hb : IsBytes l) (hl : l.length < 140737488355328) (hk : 3 * l.length + 20 < k) (ha : a ≤ 9223372036854775807) :
    frame_Text.f k l a = some (tx a l) ∧ larderref01_Text.f k l a = some (tx a l) := by
  unfold frame_Text.f larderref01_Text.f tx
  have h0 : ¬ ((a : Int) < 0) := by omega
  rw [if_neg h0, if_neg h0, frame_uint l hb (by omega) k (by omega), Option.bind_some, ref_uint l hb (by omega) k (by omega), Option.bind_some]
  have hu := ug_lt l 0 0 (by omega) (by decide) hb
  have hat := ug_at l 0 0
  generalize ug 0 0 l = g at *
  obtain ⟨u, t, e⟩ := g
  dsimp only at hu hat ⊢
  by_cases he : e = 0
  · rw [if_pos he, if_pos he, if_pos he, show IntKind.u64.wrap (a : Int) = a by rw [IntKind.wrap_u64]; omega]
    by_cases h1 : u > (a : Int)
    · rw [if_pos h1, if_pos h1, if_pos h1]
      exact ⟨rfl, rfl⟩
    · rw [if_neg h1, if_neg h1, if_neg h1, w64 (x := (l.length : Int) - t) (by omega) (by omega), show IntKind.u64.wrap ((l.length : Int) - t) = (l.length : Int) - t by rw [IntKind.wrap_u64]; omega]
      by_cases h2 : u > (l.length : Int) - t
      · rw [if_pos h2, if_pos h2, if_pos h2]
        exact ⟨rfl, rfl⟩
      · rw [if_neg h2, if_neg h2, if_neg h2, w64 (x := u) (by omega) (by omega), w64 (x := t + u) (by omega) (by omega), if_pos (by omega), if_pos (by omega), if_pos (by omega), sclone_ok _ (by rw [List.length_drop, List.length_take]; omega), Option.bind_some, if_pos (by omega), if_pos (by omega), if_pos (by omega)]
        exact ⟨rfl, rfl⟩
  · rw [if_neg he, if_neg he, if_neg he]
    exact ⟨rfl, rfl⟩
def encT (s : ByteArray) : List Int := enc 10 s.size ++ bytesOf s
def encI (a : Int) : List Int := enc 10 (zz a)
def encU (n : Nat) : List Int := enc 10 n
theorem encT_len (s : ByteArray) : (encT s).length ≤ 10 + s.size := by
  unfold encT
  have := enc_len 10 s.size
  have h2 : (bytesOf s).length = s.size := bytesOf_length s
  rw [List.length_append]
  omega
theorem encI_len (a : Int) : (encI a).length ≤ 10 := enc_len 10 _
theorem encU_len (n : Nat) : (encU n).length ≤ 10 := enc_len 10 _
theorem putText_ok (k : Nat) (hk : 10 < k) (l : List Int) (s : ByteArray) (hl : l.length + s.size + 20 < 140737488355328) : frame_PutText.f k l s = some (l ++ encT s) := by
  have hlen : (bytesOf s).length = s.size := bytesOf_length s
  have e2 : IntKind.u64.wrap (s.size : Int) = ((s.size : Nat) : Int) := by rw [IntKind.wrap_u64]; omega
  have hel := enc_len 10 s.size
  unfold frame_PutText.f encT
  rw [w64 (by omega) (by omega), grown_ok l _ (by omega) (by omega) (by omega), Option.bind_some, e2, putUint_raw _ (by omega) l s.size (by omega) (by omega), Option.bind_some, if_pos (by rw [List.length_append]; omega), List.append_assoc]
end Go.Proofs.Ytafmoglaockepaa.Cd
end
section
namespace Go.Proofs.Ytafmoglaockepaa.Cd
open Go Go.RowKit Go.Proofs.YtafmoglaockepaaW.PrintWords Go.Proofs.YtafmoglaockepaaW.PrintLast Go.Proofs.YtafmoglaockepaaW.PrintMore
set_option linter.unusedVariables false
abbrev ptr (g : Nat) : Value := .pointer (some ⟨g, 0, none⟩)
abbrev Rt (t g : Nat) (vs : List Value) (W : World) : Prop := W.heap[g]? = some (.cells vs.toArray t (0, 0))
theorem Rt.cell {t g : Nat} {vs : List Value} {W : World} (h : Rt t g vs W) (k : Nat) (v : Value) (hk : vs[k]? = some v) : W.cell? ⟨g, k, none⟩ = some v := by
  rw [cell_of_row W g k _ _ _ h]
  simpa using hk
theorem Rt.free {t g : Nat} {vs : List Value} {W : World} (h : Rt t g vs W) (k : Nat) : W.frozen? ⟨g, k, none⟩ = false := by simp [World.frozen?, h]
theorem Rt.set {t g : Nat} {vs : List Value} {W : World} (h : Rt t g vs W) (k : Nat) (v : Value) : W.setCell ⟨g, k, none⟩ v = W.setRow g (vs.set k v).toArray := by
  unfold World.setCell World.setRow
  congr 1
  apply Array.ext
  · simp
  · intro i h1 h2
    simp only [Array.getElem_modify]
    by_cases e : g = i
    · subst e
      have hlt : g < W.heap.size := by simpa using h1
      have hv : W.heap[g] = .cells vs.toArray t (0, 0) := (Array.getElem?_eq_some_iff.1 h).2
      simp [hv]
    · simp [e]
theorem Rt.row {t g : Nat} {vs : List Value} {W : World} (h : Rt t g vs W) (us : List Value) : Rt t g us (W.setRow g us.toArray) := setRow_heap W g _ _ _ _ h
theorem Rt.same {t g : Nat} {vs : List Value} {W : World} (h : Rt t g vs W) (k : Nat) (v : Value) (hk : vs[k]? = some v) : W.setCell ⟨g, k, none⟩ v = W := by
  have e : vs.set k v = vs := by
    obtain ⟨hlt, rfl⟩ := List.getElem?_eq_some_iff.1 hk
    exact List.set_getElem_self hlt
  rw [h.set, e]
  have h2 : W.heap[g]? = some (.cells vs.toArray t (0, 0)) := h
  clear h hk
  obtain ⟨heap, tape, drawn, os, output⟩ := W
  simp only [World.setRow, World.mk.injEq, and_true]
  simp only at h2
  apply Array.ext
  · simp
  · intro i h1 h3
    simp only [Array.getElem_modify]
    by_cases e : g = i
    · subst e
      have hv : heap[g] = .cells vs.toArray t (0, 0) := (Array.getElem?_eq_some_iff.1 h2).2
      simp [hv]
    · simp [e]
theorem Rt.lt {t g : Nat} {vs : List Value} {W : World} (h : Rt t g vs W) : g < W.heap.size := (Array.getElem?_eq_some_iff.1 h).1
theorem Rt.below {t g : Nat} {vs : List Value} {W W' : World} (h : Rt t g vs W) (hb : Below W.heap.size W W') : Rt t g vs W' := (hb.block _ h.lt).trans h
theorem below_setRow' {B g : Nat} {w0 w : World} (hb : Below B w0 w) (hBg : B ≤ g) (cs : Array Value) : Below B w0 (w.setRow g cs) :=
  ⟨hb.os, hb.tape, hb.output, by rw [setRow_size]; exact hb.size, fun k hk => (setRow_other w g k cs (by omega)).trans (hb.block k hk)⟩
theorem info5' : (Try.prog.info? 5).map (fun i => (i.zero, i.size, i.bytes)) = some (some (.int .u8 0), 1, 1) := by kernel_rfl
theorem blk_types {W : World} {g a b : Nat} {u v : Array Value} (h1 : W.heap[g]? = some (.cells u a (0, 0))) (h2 : W.heap[g]? = some (.cells v b (0, 0))) : a = b := by
  have := h1.symm.trans h2
  injection this with this
  injection this with _ e _
def Others (W W' : World) : Prop := ∀ (j t : Nat) (u : Array Value), W.heap[j]? = some (.cells u t (0, 0)) → t ≠ 146 → t ≠ 5 → W'.heap[j]? = W.heap[j]?
theorem Others.refl (W : World) : Others W W := fun _ _ _ _ _ _ => rfl
theorem Others.trans {A B C : World} (h : Others A B) (k : Others B C) : Others A C := fun j t u hj h1 h2 => by
  have e := h j t u hj h1 h2
  exact (k j t u (e.trans hj) h1 h2).trans e
theorem Others.of_below {W W' : World} (h : Below W.heap.size W W') : Others W W' := fun j t u hj _ _ => h.block j (Array.getElem?_eq_some_iff.1 hj).1
theorem Others.row {W W' : World} (h : Others W W') {t g : Nat} {vs : List Value} (hr : Rt t g vs W) (h1 : t ≠ 146) (h2 : t ≠ 5) : Rt t g vs W' := (h g t _ hr h1 h2).trans hr
structure WrAt (g B : Nat) (xs : List Int) (W : World) : Prop where
  ex : ∃ v, Rt 146 g [v] W ∧ (Kd.int .u8).R 5 W B (fun _ => True) v xs
  b : B ≤ g
theorem WrAt.size {g B : Nat} {xs : List Int} {W : World} (k : WrAt g B xs W) : B ≤ W.heap.size := by
  obtain ⟨v, hr, _⟩ := k.ex
  exact Nat.le_of_lt (Nat.lt_of_le_of_lt k.b hr.lt)
theorem WrAt.below {g B : Nat} {xs : List Int} {W W' : World} (k : WrAt g B xs W) (hb : Below W.heap.size W W') : WrAt g B xs W' := by
  obtain ⟨v, hr, hR⟩ := k.ex
  exact ⟨⟨v, hr.below hb, Kd.R_below hR hb⟩, k.b⟩
theorem WrAt.appended {g B : Nat} {xs ys : List Int} {v v1 : Value} {W w1 : World} (hr : Rt 146 g [v] W) (hR0 : (Kd.int .u8).R 5 W B (fun _ => True) v xs) (hB : B ≤ g) (hR : (Kd.int .u8).R 5 w1 B (fun _ => True) v1 ys) (hb : Below B W w1) (hg : W.grownBy w1 v.ownBlock) :
    Rt 146 g [v] w1 ∧ WrAt g B ys (w1.setRow g [v1].toArray) ∧ Below B W (w1.setRow g [v1].toArray) ∧ Others W (w1.setRow g [v1].toArray) := by
  have hr1 : Rt 146 g [v] w1 := (hg.block g hr.lt (Kd.R_ne hR0 hr (by decide))).trans hr
  refine ⟨hr1, ⟨⟨v1, hr1.row _, ?_⟩, hB⟩, below_setRow' hb hB _, fun j t u hj h1 h2 => ?_⟩
  rotate_left
  · have hjg : j ≠ g := by
      rintro rfl
      exact h1 (blk_types hj hr)
    exact (setRow_other _ _ _ _ hjg).trans (hg.block j (Array.getElem?_eq_some_iff.1 hj).1 (Kd.R_ne hR0 hj (Ne.symm h2)))
  exact Kd.R_mono (Kd.R_step (Kd.R_types hR hr1 (by intro q hq; simp [Kd.int, Kd.scalar] at hq; omega)) (fun j hj _ => setRow_other _ _ _ _ hj.2)) (fun _ _ => trivial)
end Go.Proofs.Ytafmoglaockepaa.Cd
end
section
namespace Go.Proofs.Ytafmoglaockepaa.Cd
open Go Go.RowKit Go.Proofs.Ytafmoglaockepaa.Num Go.Proofs.Ytafmoglaockepaa.PG Go.Proofs.YtafmoglaockepaaW.PrintWords Go.Proofs.YtafmoglaockepaaW.PrintLast Go.Proofs.YtafmoglaockepaaW.PrintMore
set_option linter.unusedVariables false
set_option linter.unusedSimpArgs false
set_option maxHeartbeats 4000000
set_option maxRecDepth 100000
theorem w_text {g B : Nat} {xs : List Int} {W : World} (k : WrAt g B xs W) (s : ByteArray) (hl : xs.length + s.size + 20 < 140737488355328) :
    Calls Try.prog 52 #[ptr g, .string s] W fun e w' => e = .returned (.tuple #[]) ∧ WrAt g B (xs ++ encT s) w' ∧ Below B W w' ∧ Others W w' := by
  have HSZ := Aside0.mk k.size
  have HBG := Aside0.mk k.b
  obtain ⟨v, hr, hR⟩ := k.ex
  have HR := Aside0.mk hr
  have HX := Aside0.mk hR
  have HLEN := Aside0.mk (show (xs.length + (encT s).length) * 1 ≤ 140737488355328 by have := encT_len s; omega)
  have HLEN2 := Aside0.mk hl
  have c0 := hr.cell 0 _ rfl
  clear k hr hR hl
  go_enter Try.func52, Try.ntmps52
  go_upto_region 0 with fail
  go_region_law (first
    | (go_simp
       go_at_call 106
       refine (frame_PutText.calls 11 none 0 [] s (encT s) _ (Kd.C_nil _ _) (Nat.le_refl _) (by have := putText_ok 11 (by decide) [] s (by have := HLEN2.out; simp only [List.length_nil]; omega); rwa [List.nil_append] at this)).mono ?_
       rintro e wa ⟨v0, rfl, hR, hb⟩
       obtain ⟨Av, cv, rfl, hcv, hC⟩ := Kd.R_reads hR
       have hb0 : Below W.heap.size W wa := (below_drew (Below.refl _ _)).trans hb
       have HRa := Aside0.mk (HR.out.below hb0)
       have HXa := Aside0.mk (Kd.R_below HX.out hb0)
       have HBa := Aside0.mk (hb0.mono HSZ.out)
       have HSB := Aside0.mk (Nat.le_trans HSZ.out hb0.size)
       have HCa := Aside0.mk hC
       have HOa := Aside0.mk (Others.of_below hb0)
       have ca := HRa.out.cell 0 _ rfl
       clear hR hb hcv hC hb0)
    | (refine Kd.R_append_rows_step (Kd.int .u8) (Rr := (Kd.int .u8).K wa) (w0 := W) B (by rfl) (.tmp 8) (.tmp 10) 26 5 (.int .u8 0) 1 rfl Try.underlying26 info5' rfl (by decide) (by decide) v xs (encT s) Av (encT s).length cv (fun _ => True) (fun _ => False) rfl rfl HXa.out HCa.out (fun _ _ h => h) (fun _ h => h.elim) (fun _ _ => trivial) HBa.out HSB.out HLEN.out ?_
       intro v1 w1 ho hb hg hat
       obtain ⟨Al, cl, el⟩ := Kd.R_slice ho
       obtain ⟨n1, hn1⟩ : ∃ n1, (xs ++ encT s).length = n1 := ⟨_, rfl⟩
       rw [hn1] at el
       subst el
       clear hn1
       have hfin := WrAt.appended HRa.out HXa.out HBG.out ho ((Below.refl _ _).grown hg HSB.out (Kd.R_base HXa.out)) hg
       have HFIN := Aside0.mk (show WrAt g B (xs ++ encT s) (w1.setRow g [Value.slice Al n1 cl].toArray) ∧ Below B W (w1.setRow g [Value.slice Al n1 cl].toArray) ∧ Others W (w1.setRow g [Value.slice Al n1 cl].toArray) from ⟨hfin.2.1, HBa.out.trans hfin.2.2.1, HOa.out.trans hfin.2.2.2⟩)
       have HR1 := Aside0.mk hfin.1
       have c1 := hfin.1.cell 0 _ rfl
       have f1 := hfin.1.free 0
       clear ho hb hg hat hfin))
  all_goals
    have e1 := HR1.out.set 0 (.slice Al n1 cl)
    rw [show [v].set 0 (.slice Al n1 cl) = [Value.slice Al n1 cl] from rfl] at e1
    go_wp2_with fail
    go_end0
    rw [e1]
    exact ⟨rfl, HFIN.out⟩
theorem w_int {g B : Nat} {xs : List Int} {W : World} (k : WrAt g B xs W) (a : Int) (ha : -9223372036854775808 ≤ a ∧ a ≤ 9223372036854775807) (hl : xs.length + 20 < 140737488355328) :
    Calls Try.prog 53 #[ptr g, .int .i64 a] W fun e w' => e = .returned (.tuple #[]) ∧ WrAt g B (xs ++ encI a) w' ∧ Below B W w' ∧ Others W w' := by
  have HSZ := Aside0.mk k.size
  have HBG := Aside0.mk k.b
  obtain ⟨v, hr, hR⟩ := k.ex
  have HR := Aside0.mk hr
  have HX := Aside0.mk hR
  have HLEN := Aside0.mk (show (xs.length + (encI a).length) * 1 ≤ 140737488355328 by have := encI_len a; omega)
  have HLEN2 := Aside0.mk ha
  have c0 := hr.cell 0 _ rfl
  clear k hr hR ha hl
  go_enter Try.func53, Try.ntmps53
  go_upto_region 0 with fail
  go_region_law (first
    | (go_simp
       go_at_call 107
       refine (frame_PutInt.calls 11 none 0 [] a (encI a) _ (Kd.C_nil _ _) (Nat.le_refl _) (by have := putInt_ok 11 (by decide) [] a HLEN2.out.1 HLEN2.out.2 (by decide); rwa [List.nil_append] at this)).mono ?_
       rintro e wa ⟨v0, rfl, hR, hb⟩
       obtain ⟨Av, cv, rfl, hcv, hC⟩ := Kd.R_reads hR
       have hb0 : Below W.heap.size W wa := (below_drew (Below.refl _ _)).trans hb
       have HRa := Aside0.mk (HR.out.below hb0)
       have HXa := Aside0.mk (Kd.R_below HX.out hb0)
       have HBa := Aside0.mk (hb0.mono HSZ.out)
       have HSB := Aside0.mk (Nat.le_trans HSZ.out hb0.size)
       have HCa := Aside0.mk hC
       have HOa := Aside0.mk (Others.of_below hb0)
       have ca := HRa.out.cell 0 _ rfl
       clear hR hb hcv hC hb0)
    | (refine Kd.R_append_rows_step (Kd.int .u8) (Rr := (Kd.int .u8).K wa) (w0 := W) B (by rfl) (.tmp 8) (.tmp 10) 26 5 (.int .u8 0) 1 rfl Try.underlying26 info5' rfl (by decide) (by decide) v xs (encI a) Av (encI a).length cv (fun _ => True) (fun _ => False) rfl rfl HXa.out HCa.out (fun _ _ h => h) (fun _ h => h.elim) (fun _ _ => trivial) HBa.out HSB.out HLEN.out ?_
       intro v1 w1 ho hb hg hat
       obtain ⟨Al, cl, el⟩ := Kd.R_slice ho
       obtain ⟨n1, hn1⟩ : ∃ n1, (xs ++ encI a).length = n1 := ⟨_, rfl⟩
       rw [hn1] at el
       subst el
       clear hn1
       have hfin := WrAt.appended HRa.out HXa.out HBG.out ho ((Below.refl _ _).grown hg HSB.out (Kd.R_base HXa.out)) hg
       have HFIN := Aside0.mk (show WrAt g B (xs ++ encI a) (w1.setRow g [Value.slice Al n1 cl].toArray) ∧ Below B W (w1.setRow g [Value.slice Al n1 cl].toArray) ∧ Others W (w1.setRow g [Value.slice Al n1 cl].toArray) from ⟨hfin.2.1, HBa.out.trans hfin.2.2.1, HOa.out.trans hfin.2.2.2⟩)
       have HR1 := Aside0.mk hfin.1
       have c1 := hfin.1.cell 0 _ rfl
       have f1 := hfin.1.free 0
       clear ho hb hg hat hfin))
  all_goals
    have e1 := HR1.out.set 0 (.slice Al n1 cl)
    rw [show [v].set 0 (.slice Al n1 cl) = [Value.slice Al n1 cl] from rfl] at e1
    go_wp2_with fail
    go_end0
    rw [e1]
    exact ⟨rfl, HFIN.out⟩
end Go.Proofs.Ytafmoglaockepaa.Cd
end
section
namespace Go.Proofs.Ytafmoglaockepaa.Cd
open Go Go.RowKit Go.Proofs.Ytafmoglaockepaa.Num Go.Proofs.Ytafmoglaockepaa.PG Go.Proofs.YtafmoglaockepaaW.PrintWords Go.Proofs.YtafmoglaockepaaW.PrintLast Go.Proofs.YtafmoglaockepaaW.PrintMore
set_option linter.unusedVariables false
set_option linter.unusedSimpArgs false
set_option maxHeartbeats 4000000
set_option maxRecDepth 100000
def encL (x : S28) : List Int := encT x.f0 ++ (encI x.f1 ++ encI x.f2)
theorem encL_len (x : S28) : (encL x).length ≤ 30 + x.f0.size := by
  have h0 := encT_len x.f0
  have h1 := encI_len x.f1
  have h2 := encI_len x.f2
  unfold encL
  rw [List.length_append, List.length_append]
  omega
def Int64 (a : Int) : Prop := -9223372036854775808 ≤ a ∧ a ≤ 9223372036854775807
theorem w_level {g B gb : Nat} {xs : List Int} {W : World} (k : WrAt g B xs W) (hbx : Rt 92 gb [ptr g] W) (x : S28) (h1 : Int64 x.f1) (h2 : Int64 x.f2) (hl : xs.length + x.f0.size + 100 < 140737488355328) :
    Calls Try.prog 109 #[.agg #[.string x.f0, .int .i64 x.f1, .int .i64 x.f2], ptr gb] W fun e w' => e = .returned (.tuple #[]) ∧ WrAt g B (xs ++ encL x) w' ∧ Below B W w' ∧ Others W w' := by
  have HK := Aside0.mk k
  have HBX := Aside0.mk hbx
  have H1 := Aside0.mk h1
  have H2 := Aside0.mk h2
  have HL := Aside0.mk hl
  have HS := Aside0.mk k.size
  clear k hbx h1 h2 hl
  go_enter Try.func109, Try.ntmps109
  go_upto_region 1 with fail
  have hr2 : Rt 28 W.heap.size [.string x.f0, .int .i64 x.f1, .int .i64 x.f2] (W.alloc (.cells #[.string x.f0, .int .i64 x.f1, .int .i64 x.f2] 28)) := heap_alloc_new W _
  have hb1 : Below W.heap.size W (W.alloc (.cells #[.string x.f0, .int .i64 x.f1, .int .i64 x.f2] 28)) := below_alloc (Below.refl _ _) _
  obtain ⟨b2, hb2⟩ : ∃ b2, W.heap.size = b2 := ⟨_, rfl⟩
  have K1 := Aside0.mk (HK.out.below hb1)
  have B1 := Aside0.mk (hb1.mono HS.out)
  have O1 := Aside0.mk (Others.of_below hb1)
  have X1 := Aside0.mk (HBX.out.below hb1)
  rw [hb2] at hr2 ⊢
  have R1 := Aside0.mk hr2
  clear hr2 hb1 hb2
  generalize W.alloc (.cells #[.string x.f0, .int .i64 x.f1, .int .i64 x.f2] 28) = w1 at *
  have c0 := R1.out.cell 0 _ rfl
  have cx := X1.out.cell 0 _ rfl
  go_wp2_with fail
  go_at_call 52
  refine (w_text K1.out x.f0 (by have := HL.out; omega)).mono ?_
  rintro e w2 ⟨rfl, hk, hb, ho⟩
  have K2 := Aside0.mk hk
  have B2 := Aside0.mk (B1.out.trans hb)
  have O2 := Aside0.mk (O1.out.trans ho)
  have R2 := Aside0.mk (ho.row R1.out (by decide) (by decide))
  have X2 := Aside0.mk (ho.row X1.out (by decide) (by decide))
  clear hk hb ho c0 cx
  have c1 := R2.out.cell 1 _ rfl
  have cx := X2.out.cell 0 _ rfl
  go_wp2_with fail
  go_at_call 53
  refine (w_int K2.out x.f1 H1.out (by have := HL.out; have := encT_len x.f0; rw [List.length_append]; omega)).mono ?_
  rintro e w3 ⟨rfl, hk, hb, ho⟩
  have K3 := Aside0.mk hk
  have B3 := Aside0.mk (B2.out.trans hb)
  have O3 := Aside0.mk (O2.out.trans ho)
  have R3 := Aside0.mk (ho.row R2.out (by decide) (by decide))
  have X3 := Aside0.mk (ho.row X2.out (by decide) (by decide))
  clear hk hb ho c1 cx
  have c2 := R3.out.cell 2 _ rfl
  have cx := X3.out.cell 0 _ rfl
  go_wp2_with fail
  go_at_call 53
  refine (w_int K3.out x.f2 H2.out (by have := HL.out; have := encT_len x.f0; have := encI_len x.f1; rw [List.length_append, List.length_append]; omega)).mono ?_
  rintro e w4 ⟨rfl, hk, hb, ho⟩
  have K4 := Aside0.mk hk
  have B4 := Aside0.mk (B3.out.trans hb)
  have O4 := Aside0.mk (O3.out.trans ho)
  clear hk hb ho c2 cx
  go_wp2_with fail
  go_end0
  have e : xs ++ encL x = xs ++ encT x.f0 ++ encI x.f1 ++ encI x.f2 := by unfold encL; simp only [List.append_assoc]
  rw [e]
  exact ⟨rfl, K4.out, B4.out, O4.out⟩
def encLs (l : List S28) : List Int := l.flatMap encL
def bulkL (l : List S28) : Nat := (l.map fun x => 30 + x.f0.size).sum
theorem encLs_len : ∀ l : List S28, (encLs l).length ≤ bulkL l
  | [] => by simp [encLs, bulkL]
  | x :: l => by
    have h1 := encLs_len l
    have h2 := encL_len x
    simp only [encLs, bulkL, List.flatMap_cons, List.length_append, List.map_cons, List.sum_cons] at h1 ⊢
    omega
theorem bulkL_take : ∀ (l : List S28) (i : Nat), bulkL (l.take i) ≤ bulkL l
  | [], i => by simp [bulkL]
  | x :: l, 0 => by simp [bulkL]
  | x :: l, i + 1 => by
    have h1 := bulkL_take l i
    simp only [bulkL, List.take_succ_cons, List.map_cons, List.sum_cons] at h1 ⊢
    omega
theorem bulkL_mem : ∀ (l : List S28) (x : S28), x ∈ l → 30 + x.f0.size ≤ bulkL l
  | y :: l, x, h => by
    simp only [bulkL, List.map_cons, List.sum_cons]
    rcases List.mem_cons.1 h with rfl | h
    · omega
    · have := bulkL_mem l x h
      simp only [bulkL] at this
      omega
theorem take_snoc {α : Type} {l : List α} {j : Nat} {x : α} (h : l[j]? = some x) : l.take (j + 1) = l.take j ++ [x] := by rw [List.take_add_one, h]; rfl
def LevOk (l : List S28) : Prop := ∀ x ∈ l, Int64 x.f1 ∧ Int64 x.f2
theorem w_putLevels {g B gb : Nat} {xs : List Int} {W : World} (k : WrAt g B xs W) (hbx : Rt 92 gb [ptr g] W) (A : Option Addr) (n c : Nat) (l : List S28) (hC : ∀ W', Below B W W' → Kd.C k28 W' A n l) (hlo : LevOk l) (hl : xs.length + bulkL l + 200 < 140737488355328) :
    Calls Try.prog 108 #[ptr g, .slice A n c, .func (.func 109) #[] #[ptr gb]] W fun e w' => e = .returned (.tuple #[]) ∧ WrAt g B (xs ++ (encU n ++ encLs l)) w' ∧ Below B W w' ∧ Others W w' := by
  have hln : l.length = n := Kd.C_len (hC W (Below.refl _ _))
  have hn63 := (Kd.C_len (hC W (Below.refl _ _)))
  have hbl : 30 * l.length ≤ bulkL l := by
    clear hC hl hlo hln hn63
    induction l with
    | nil => simp [bulkL]
    | cons x l ih => simp only [bulkL, List.map_cons, List.sum_cons, List.length_cons] at ih ⊢; omega
  have HN := Aside0.mk (show n < 140737488355328 by omega)
  have HLN := Aside0.mk hln
  have HCC := Aside0.mk hC
  have HLO := Aside0.mk hlo
  have HLL := Aside0.mk hl
  have HBX := Aside0.mk hbx
  have HSZ := Aside0.mk k.size
  have HBG := Aside0.mk k.b
  obtain ⟨v, hr, hR⟩ := k.ex
  have HR := Aside0.mk hr
  have HX := Aside0.mk hR
  have HLEN := Aside0.mk (show (xs.length + (encU n).length) * 1 ≤ 140737488355328 by have := encU_len n; omega)
  have c0 := hr.cell 0 _ rfl
  have hw64 : IntKind.u64.wrap (n : Int) = (n : Int) := by rw [IntKind.wrap_u64]; omega
  clear k hr hR hln hn63 hbl hC hlo hl hbx
  go_enter Try.func108, Try.ntmps108
  go_upto_region 0 with fail
  go_region_law (first
    | (go_simp
       go_at_call 125
       refine (frame_PutUint.calls 11 none 0 [] (n : Int) (encU n) _ (Kd.C_nil _ _) (Nat.le_refl _) (by have := putUint_ok 11 (by decide) [] n (by have := HN.out; omega) (by decide); rwa [List.nil_append] at this)).mono ?_
       rintro e wa ⟨v0, rfl, hR, hb⟩
       obtain ⟨Av, cv, rfl, hcv, hC⟩ := Kd.R_reads hR
       have hb0 : Below W.heap.size W wa := (below_drew (Below.refl _ _)).trans hb
       have HRa := Aside0.mk (HR.out.below hb0)
       have HXa := Aside0.mk (Kd.R_below HX.out hb0)
       have HBa := Aside0.mk (hb0.mono HSZ.out)
       have HSB := Aside0.mk (Nat.le_trans HSZ.out hb0.size)
       have HCa := Aside0.mk hC
       have HOa := Aside0.mk (Others.of_below hb0)
       have ca := HRa.out.cell 0 _ rfl
       clear hR hb hcv hC hb0)
    | (refine Kd.R_append_rows_step (Kd.int .u8) (Rr := (Kd.int .u8).K wa) (w0 := W) B (by rfl) (.tmp 12) (.tmp 16) 26 5 (.int .u8 0) 1 rfl Try.underlying26 info5' rfl (by decide) (by decide) v xs (encU n) Av (encU n).length cv (fun _ => True) (fun _ => False) rfl rfl HXa.out HCa.out (fun _ _ h => h) (fun _ h => h.elim) (fun _ _ => trivial) HBa.out HSB.out HLEN.out ?_
       intro v1 w1 ho hb hg hat
       obtain ⟨Al, cl, el⟩ := Kd.R_slice ho
       obtain ⟨n1, hn1⟩ : ∃ n1, (xs ++ encU n).length = n1 := ⟨_, rfl⟩
       rw [hn1] at el
       subst el
       clear hn1
       have hfin := WrAt.appended HRa.out HXa.out HBG.out ho ((Below.refl _ _).grown hg HSB.out (Kd.R_base HXa.out)) hg
       have HFIN := Aside0.mk (show WrAt g B (xs ++ encU n) (w1.setRow g [Value.slice Al n1 cl].toArray) ∧ Below B W (w1.setRow g [Value.slice Al n1 cl].toArray) ∧ Others W (w1.setRow g [Value.slice Al n1 cl].toArray) from ⟨hfin.2.1, HBa.out.trans hfin.2.2.1, HOa.out.trans hfin.2.2.2⟩)
       have HR1 := Aside0.mk hfin.1
       have c1 := hfin.1.cell 0 _ rfl
       have f1 := hfin.1.free 0
       clear ho hb hg hat hfin))
  all_goals
    have e1 := HR1.out.set 0 (.slice Al n1 cl)
    rw [show [v].set 0 (.slice Al n1 cl) = [Value.slice Al n1 cl] from rfl] at e1
    rw [e1]
    clear e1 c0 ca c1 f1 hw64
    have X1 := Aside0.mk (HFIN.out.2.2.row HBX.out (by decide) (by decide))
    generalize w1.setRow g [Value.slice Al n1 cl].toArray = w2 at *
    go_wp2_with fail
    go_loopw [22] (fun p wr => ∃ i : Nat, p = .int .i64 (i : Int) ∧ Aside0 (i ≤ n) ∧ Aside0 (WrAt g B (xs ++ encU n ++ encLs (l.take i)) wr) ∧ Aside0 (Below B W wr) ∧ Aside0 (Others W wr) ∧ Aside0 (Rt 92 gb [ptr g] wr)) (fun p _ => n - (intOf p).toNat)
    · exact ⟨0, rfl, ⟨Nat.zero_le _⟩, ⟨by rw [List.take_zero]; show WrAt g B (xs ++ encU n ++ []) w2; rw [List.append_nil]; exact HFIN.out.1⟩, ⟨HFIN.out.2.1⟩, ⟨HFIN.out.2.2⟩, X1⟩
    · obtain ⟨i, rfl, HI, HK, HB, HO, HXr⟩ := hrel
      by_cases ci : i < n
      · have ci1 : decide ((i : Int) < (n : Int)) = true := decide_eq_true (by omega)
        have ci2 : (i : Int) < (n : Int) := by omega
        have ci3 : (0 : Int) ≤ (i : Int) := by omega
        have hw1 : IntKind.i64.wrap ((i : Int) + 1) = ((i + 1 : Nat) : Int) := by rw [IntWalk.i64_in _ (by have := HN.out; omega)]; omega
        obtain ⟨x, hx⟩ : ∃ x, l[i]? = some x := ⟨_, List.getElem?_eq_getElem (by have := HLN.out; omega)⟩
        obtain ⟨ad, rfl, d0, d1, d2⟩ := at_T28 (HCC.out wr HB.out) (i : Int) ci3 ci2
        have hrd : rd_T28 l (i : Int) = x := by unfold rd_T28; rw [Int.toNat_natCast, List.getD_eq_getElem?_getD, hx]; rfl
        rw [hrd, Int.toNat_natCast] at d0 d1 d2
        have HX2 := Aside0.mk hx
        clear hrd hx
        have hsz : B ≤ wr.heap.size := HK.out.size
        have hba : Below wr.heap.size wr (wr.alloc (.cells #[.string x.f0, .int .i64 x.f1, .int .i64 x.f2] 28)) := below_alloc (Below.refl _ _) _
        have HK2 := Aside0.mk (HK.out.below hba)
        have HB2 := Aside0.mk (HB.out.trans (hba.mono hsz))
        have HO2 := Aside0.mk (HO.out.trans (Others.of_below hba))
        have HXr2 := Aside0.mk (HXr.out.below hba)
        have hr7 : Rt 28 wr.heap.size [.string x.f0, .int .i64 x.f1, .int .i64 x.f2] (wr.alloc (.cells #[.string x.f0, .int .i64 x.f1, .int .i64 x.f2] 28)) := heap_alloc_new wr _
        have s0 := hr7.cell 0 _ rfl
        have s1 := hr7.cell 1 _ rfl
        have s2 := hr7.cell 2 _ rfl
        have hmem : x ∈ l := List.mem_of_getElem? HX2.out
        have HLV := Aside0.mk (HLO.out x hmem)
        have HSM := Aside0.mk (show (xs ++ encU n ++ encLs (l.take i)).length + x.f0.size + 100 < 140737488355328 by
          have h1 := encU_len n
          have h2 := encLs_len (l.take (i + 1))
          have h3 := bulkL_take l (i + 1)
          have h4 := HLL.out
          have h5 := bulkL_mem _ x (show x ∈ l.take (i + 1) by rw [take_snoc HX2.out]; simp)
          have h6 := encLs_len (l.take i)
          have h7 : bulkL (l.take (i + 1)) = bulkL (l.take i) + (30 + x.f0.size) := by rw [take_snoc HX2.out]; simp [bulkL]
          rw [List.length_append, List.length_append]
          omega)
        clear hba hsz hr7 hmem HK
        go_upto_region 4 with fail
        generalize wr.alloc (.cells #[.string x.f0, .int .i64 x.f1, .int .i64 x.f2] 28) = w5 at *
        go_wp2_with fail
        go_at_call 109
        refine (w_level HK2.out HXr2.out x HLV.out.1 HLV.out.2 HSM.out).mono ?_
        rintro e w6 ⟨rfl, hk, hb, ho⟩
        have HK3 := Aside0.mk (show WrAt g B (xs ++ encU n ++ encLs (l.take (i + 1))) w6 from by
          have e : xs ++ encU n ++ encLs (l.take (i + 1)) = xs ++ encU n ++ encLs (l.take i) ++ encL x := by
            rw [take_snoc HX2.out]
            simp [encLs]
          rw [e]
          exact hk)
        have HB3 := Aside0.mk (HB2.out.trans hb)
        have HO3 := Aside0.mk (HO2.out.trans ho)
        have HX3 := Aside0.mk (ho.row HXr2.out (by decide) (by decide))
        clear hk hb ho s0 s1 s2 d0 d1 d2
        go_wp2_with fail
        refine ⟨⟨i + 1, rfl, ⟨ci⟩, HK3, HB3, HO3, HX3⟩, ?_⟩
        simp only [intOf]
        omega
      · have ci1 : decide ((i : Int) < (n : Int)) = false := decide_eq_false (by omega)
        go_wp2_with fail
        go_end0
        obtain rfl : i = n := by have := HI.out; omega
        have hk := HK.out
        rw [List.take_of_length_le (Nat.le_of_eq HLN.out), List.append_assoc] at hk
        exact ⟨rfl, hk, HB.out, HO.out⟩
theorem w_levels {g B : Nat} {xs : List Int} {W : World} (k : WrAt g B xs W) (A : Option Addr) (n c : Nat) (l : List S28) (hC : ∀ W', Below B W W' → Kd.C k28 W' A n l) (hlo : LevOk l) (hl : xs.length + bulkL l + 200 < 140737488355328) :
    Calls Try.prog 54 #[ptr g, .slice A n c] W fun e w' => e = .returned (.tuple #[]) ∧ WrAt g B (xs ++ (encU n ++ encLs l)) w' ∧ Below B W w' ∧ Others W w' := by
  have HK := Aside0.mk k
  have HC := Aside0.mk hC
  have HLO := Aside0.mk hlo
  have HLL := Aside0.mk hl
  have hr2 : Rt 92 W.heap.size [ptr g] (W.alloc (.cells #[ptr g] 92)) := heap_alloc_new W _
  have hb1 : Below W.heap.size W (W.alloc (.cells #[ptr g] 92)) := below_alloc (Below.refl _ _) _
  have hmf : ∀ (fn : Fn) (first cap : Array Value) (w : World), (Instr.makeFunc fn first cap).run Try.prog w = .ok (.func fn first cap) w := fun _ _ _ _ => rfl
  clear k hC hlo hl
  go_enter Try.func54, Try.ntmps54
  go_upto_region 1 with fail
  obtain ⟨b2, hb2⟩ : ∃ b2, W.heap.size = b2 := ⟨_, rfl⟩
  have K1 := Aside0.mk (HK.out.below hb1)
  have B1 := Aside0.mk (hb1.mono HK.out.size)
  have O1 := Aside0.mk (Others.of_below hb1)
  rw [hb2] at hr2 ⊢
  have R1 := Aside0.mk hr2
  clear hr2 hb1 hb2
  generalize W.alloc (.cells #[ptr g] 92) = w1 at *
  have c0 := R1.out.cell 0 _ rfl
  go_wp2_with fail
  go_at_call 108
  refine (w_putLevels K1.out R1.out A n c l (fun W' hb => HC.out W' (B1.out.trans hb)) HLO.out HLL.out).mono ?_
  rintro e w2 ⟨rfl, hk, hb, ho⟩
  have K2 := Aside0.mk hk
  have B2 := Aside0.mk (B1.out.trans hb)
  have O2 := Aside0.mk (O1.out.trans ho)
  clear hk hb ho c0 hmf
  go_wp2_with fail
  go_end0
  exact ⟨rfl, K2.out, B2.out, O2.out⟩
def encReply (id : ByteArray) (er line : Int) (l : List S28) (now : Int) : List Int := encT id ++ (encI er ++ (encI line ++ ((encU l.length ++ encLs l) ++ encI now)))
theorem w_reply {g B br : Nat} {xs : List Int} {W : World} (k : WrAt g B xs W) (id : ByteArray) (er line now : Int) (A : Option Addr) (n c : Nat) (l : List S28) (hbr : Rt 25 br [.string id, .int .i64 er, .int .i64 line, .slice A n c, .int .i64 now] W) (hC : ∀ W', Below B W W' → Kd.C k28 W' A n l) (hlo : LevOk l)
    (h1 : Int64 er) (h2 : Int64 line) (h3 : Int64 now) (hl : xs.length + id.size + bulkL l + 400 < 140737488355328) :
    Calls Try.prog 51 #[ptr g, ptr br] W fun e w' => e = .returned (.tuple #[]) ∧ WrAt g B (xs ++ encReply id er line l now) w' ∧ Below B W w' ∧ Others W w' := by
  have HK := Aside0.mk k
  have HC := Aside0.mk hC
  have HLO := Aside0.mk hlo
  have HLL := Aside0.mk hl
  have H1 := Aside0.mk h1
  have H2 := Aside0.mk h2
  have H3 := Aside0.mk h3
  have HR := Aside0.mk hbr
  have HN := Aside0.mk (show l.length = n from Kd.C_len (hC W (Below.refl _ _)))
  have HT := Aside0.mk (encT_len id)
  have HI := Aside0.mk (fun a => encI_len a)
  have HU := Aside0.mk (encU_len n)
  have HE := Aside0.mk (encLs_len l)
  clear k hC hlo hl h1 h2 h3 hbr
  have c0 := HR.out.cell 0 _ rfl
  go_enter Try.func51, Try.ntmps51
  go_wp2_with fail
  go_at_call 52
  refine (w_text HK.out id (by have := HLL.out; omega)).mono ?_
  rintro e w1 ⟨rfl, hk, hb, ho⟩
  have K1 := Aside0.mk hk
  have B1 := Aside0.mk hb
  have O1 := Aside0.mk ho
  have R1 := Aside0.mk (ho.row HR.out (by decide) (by decide))
  clear hk hb ho c0
  have c1 := R1.out.cell 1 _ rfl
  go_wp2_with fail
  go_at_call 53
  refine (w_int K1.out er H1.out (by have := HLL.out; have := HT.out; rw [List.length_append]; omega)).mono ?_
  rintro e w2 ⟨rfl, hk, hb, ho⟩
  have K2 := Aside0.mk hk
  have B2 := Aside0.mk (B1.out.trans hb)
  have O2 := Aside0.mk (O1.out.trans ho)
  have R2 := Aside0.mk (ho.row R1.out (by decide) (by decide))
  clear hk hb ho c1
  have c2 := R2.out.cell 2 _ rfl
  go_wp2_with fail
  go_at_call 53
  refine (w_int K2.out line H2.out (by have := HLL.out; have := HT.out; have := HI.out er; rw [List.length_append, List.length_append]; omega)).mono ?_
  rintro e w3 ⟨rfl, hk, hb, ho⟩
  have K3 := Aside0.mk hk
  have B3 := Aside0.mk (B2.out.trans hb)
  have O3 := Aside0.mk (O2.out.trans ho)
  have R3 := Aside0.mk (ho.row R2.out (by decide) (by decide))
  clear hk hb ho c2
  have c3 := R3.out.cell 3 _ rfl
  go_wp2_with fail
  go_at_call 54
  refine (w_levels K3.out A n c l (fun W' hb => HC.out W' (B3.out.trans hb)) HLO.out (by have := HLL.out; have := HT.out; have := HI.out er; have := HI.out line; rw [List.length_append, List.length_append, List.length_append]; omega)).mono ?_
  rintro e w4 ⟨rfl, hk, hb, ho⟩
  have K4 := Aside0.mk hk
  have B4 := Aside0.mk (B3.out.trans hb)
  have O4 := Aside0.mk (O3.out.trans ho)
  have R4 := Aside0.mk (ho.row R3.out (by decide) (by decide))
  clear hk hb ho c3
  have c4 := R4.out.cell 4 _ rfl
  go_wp2_with fail
  go_at_call 53
  refine (w_int K4.out now H3.out (by have := HLL.out; have := HT.out; have := HI.out er; have := HI.out line; have := HU.out; have := HE.out; rw [List.length_append, List.length_append, List.length_append, List.length_append, List.length_append]; omega)).mono ?_
  rintro e w5 ⟨rfl, hk, hb, ho⟩
  have K5 := Aside0.mk hk
  have B5 := Aside0.mk (B4.out.trans hb)
  have O5 := Aside0.mk (O4.out.trans ho)
  clear hk hb ho c4
  go_wp2_with fail
  go_end0
  have e : xs ++ encReply id er line l now = xs ++ encT id ++ encI er ++ encI line ++ (encU n ++ encLs l) ++ encI now := by
    unfold encReply
    rw [HN.out]
    simp only [List.append_assoc]
  rw [e]
  exact ⟨rfl, K5.out, B5.out, O5.out⟩
end Go.Proofs.Ytafmoglaockepaa.Cd
end
section
namespace Go.Proofs.Ytafmoglaockepaa.Cd
open Go Go.RowKit Go.Proofs.Ytafmoglaockepaa.Num Go.Proofs.Ytafmoglaockepaa.PG Go.Proofs.YtafmoglaockepaaW.PrintWords Go.Proofs.YtafmoglaockepaaW.PrintLast Go.Proofs.YtafmoglaockepaaW.PrintMore
set_option linter.unusedVariables false
set_option linter.unusedSimpArgs false
set_option maxHeartbeats 4000000
set_option maxRecDepth 100000
theorem key_row {W : World} {g B : Nat} {x : Int} (h : W.heap[g]? = some (.cells #[.int .u8 x] 5 (0, 0))) (hB : B ≤ g) : (Kd.int .u8).R 5 W B (fun _ => True) (.slice (some ⟨g, 0, none⟩) 1 1) [x] := by
  refine Kd.R_of_own ?_ (fun _ _ => trivial)
  exact ⟨rfl, .inr ⟨g, 1, #[.int .u8 x], rfl, hB, h, Nat.le_refl _, by decide, rfl, rfl⟩⟩
def putCode (most : Nat) (bs : List Int) : Int := if most < bs.length then 1 else 0
def putOut (most : Nat) (bs : List Int) : List Int := if most < bs.length then [] else bs
theorem put_reply (key : Int) (most br : Nat) (ys : List Int) (W : World) (hm : most ≤ 1000000000)
    (hF : ∀ g W', WrAt g W.heap.size [key] W' → Below W.heap.size W W' → Calls Try.prog 51 #[ptr g, ptr br] W' fun e w' => e = .returned (.tuple #[]) ∧ WrAt g W.heap.size ([key] ++ ys) w' ∧ Below W.heap.size W' w' ∧ Others W' w') :
    Calls Try.prog 50 #[.int .u8 key, .int .i64 (most : Int), .func (.func 51) #[] #[ptr br]] W fun e w' => ∃ v, e = .returned (.tuple #[v, .int .i64 (putCode most (key :: ys))]) ∧ (Kd.int .u8).R 5 w' W.heap.size (fun _ => True) v (putOut most (key :: ys)) ∧ Below W.heap.size W w' := by
  have HF := Aside0.mk hF
  have HM := Aside0.mk hm
  clear hF hm
  go_enter Try.func50, Try.ntmps50
  go_upto_region 2 with fail
  have ha1 : (W.alloc (.cells #[.int .u8 key] 5)).heap[W.heap.size]? = some (.cells #[.int .u8 key] 5 (0, 0)) := heap_alloc_new W _
  have hs1 : (W.alloc (.cells #[.int .u8 key] 5)).heap.size = W.heap.size + 1 := by simp
  have hb1 : Below W.heap.size W (W.alloc (.cells #[.int .u8 key] 5)) := below_alloc (Below.refl _ _) _
  obtain ⟨B, hB⟩ : ∃ B, W.heap.size = B := ⟨_, rfl⟩
  have HB := Aside0.mk hB
  rw [hB] at ha1 hs1 hb1 ⊢
  generalize W.alloc (.cells #[.int .u8 key] 5) = wx at *
  have hr2 : Rt 146 wx.heap.size [.slice (some ⟨B, 0, none⟩) 1 1] (wx.alloc (.cells #[.slice (some ⟨B, 0, none⟩) 1 1] 146)) := heap_alloc_new wx _
  have hb2 : Below wx.heap.size wx (wx.alloc (.cells #[.slice (some ⟨B, 0, none⟩) 1 1] 146)) := below_alloc (Below.refl _ _) _
  have hk := key_row (B := B) ((hb2.block B (by omega)).trans ha1) (Nat.le_refl _)
  have K1 := Aside0.mk (show WrAt (B + 1) B [key] (wx.alloc (.cells #[.slice (some ⟨B, 0, none⟩) 1 1] 146)) from ⟨⟨_, by rw [hs1] at hr2; exact hr2, hk⟩, Nat.le_succ _⟩)
  have B1 := Aside0.mk (show Below B W (wx.alloc (.cells #[.slice (some ⟨B, 0, none⟩) 1 1] 146)) from hb1.trans (hb2.mono (by omega)))
  clear ha1 hs1 hb1 hr2 hb2 hk hB
  generalize wx.alloc (.cells #[.slice (some ⟨B, 0, none⟩) 1 1] 146) = w1 at *
  obtain ⟨g, hg⟩ : ∃ g, B + 1 = g := ⟨_, rfl⟩
  have k1 := K1.out
  rw [hg] at k1 ⊢
  have K1 := Aside0.mk k1
  have HFN := HF.out g w1 (by rw [HB.out]; exact K1.out) (by rw [HB.out]; exact B1.out)
  rw [HB.out] at HFN
  have HFN := Aside0.mk HFN
  clear k1 hg HF
  go_wp2_with fail
  go_at_call 51
  refine HFN.out.mono ?_
  rintro e w2 ⟨rfl, hk, hb, ho⟩
  obtain ⟨ys2, hys⟩ : ∃ ys2, [key] ++ ys = ys2 := ⟨_, rfl⟩
  rw [hys] at hk
  have HYS := Aside0.mk (show key :: ys = ys2 from hys)
  obtain ⟨v, hr, hR⟩ := hk.ex
  have B2 := Aside0.mk (B1.out.trans hb)
  obtain ⟨Av, cv, rfl⟩ := Kd.R_slice hR
  obtain ⟨m, hm2⟩ : ∃ m, ys2.length = m := ⟨_, rfl⟩
  have HRR := Aside0.mk hR
  have HM2 := Aside0.mk hm2
  rw [hm2] at hr
  have c0 := hr.cell 0 _ rfl
  clear hk hb ho hr hR hm2 hys HFN K1 B1
  by_cases hmo : most < m
  · have d1 : decide ((most : Int) < (m : Int)) = true := decide_eq_true (by omega)
    have d2 : decide (most < m) = true := decide_eq_true hmo
    have HMO := Aside0.mk hmo
    clear hmo
    go_wp2_with fail
    go_ret2
    rw [HYS.out, HB.out]
    refine ⟨.slice none 0 0, ?_, ?_, B2.out⟩
    · unfold putCode
      rw [HM2.out, if_pos HMO.out]
      rfl
    · unfold putOut
      rw [HM2.out, if_pos HMO.out]
      exact Kd.R_nil _ _ _ _ _
  · have d1 : decide ((most : Int) < (m : Int)) = false := decide_eq_false (by omega)
    have d2 : decide (most < m) = false := decide_eq_false hmo
    have HMO := Aside0.mk hmo
    clear hmo
    go_wp2_with fail
    go_ret2
    rw [HYS.out, HB.out]
    refine ⟨.slice Av m cv, ?_, ?_, B2.out⟩
    · unfold putCode
      rw [HM2.out, if_neg HMO.out]
      rfl
    · unfold putOut
      rw [HM2.out, if_neg HMO.out, ← HM2.out]
      exact HRR.out
theorem PutReply_at (id : ByteArray) (er line now : Int) (A : Option Addr) (n c : Nat) (l : List S28) (W : World) (hC : Kd.C k28 W A n l) (hlo : LevOk l) (h1 : Int64 er) (h2 : Int64 line) (h3 : Int64 now) (hl : id.size + bulkL l + 500 < 140737488355328) :
    Calls Try.prog 11 #[.agg #[.string id, .int .i64 er, .int .i64 line, .slice A n c, .int .i64 now]] W fun e w' => ∃ v, e = .returned (.tuple #[v, .int .i64 (putCode 4096 (82 :: encReply id er line l now))]) ∧ (Kd.int .u8).R 5 w' W.heap.size (fun _ => True) v (putOut 4096 (82 :: encReply id er line l now)) ∧ Below W.heap.size W w' := by
  have HC := Aside0.mk hC
  have HLO := Aside0.mk hlo
  have H1 := Aside0.mk h1
  have H2 := Aside0.mk h2
  have H3 := Aside0.mk h3
  have HL := Aside0.mk hl
  have hr1 : Rt 25 W.heap.size [.string id, .int .i64 er, .int .i64 line, .slice A n c, .int .i64 now] (W.alloc (.cells #[.string id, .int .i64 er, .int .i64 line, .slice A n c, .int .i64 now] 25)) := heap_alloc_new W _
  have hb1 : Below W.heap.size W (W.alloc (.cells #[.string id, .int .i64 er, .int .i64 line, .slice A n c, .int .i64 now] 25)) := below_alloc (Below.refl _ _) _
  have hmf : ∀ (fn : Fn) (first cap : Array Value) (w : World), (Instr.makeFunc fn first cap).run Try.prog w = .ok (.func fn first cap) w := fun _ _ _ _ => rfl
  clear hC hlo h1 h2 h3 hl
  go_enter Try.func11, Try.ntmps11
  go_upto_region 1 with fail
  obtain ⟨b, hb⟩ : ∃ b, W.heap.size = b := ⟨_, rfl⟩
  have HB := Aside0.mk hb1
  have HBE := Aside0.mk hb
  rw [hb] at hr1 ⊢
  have HR := Aside0.mk hr1
  clear hr1 hb1 hb
  generalize W.alloc (.cells #[.string id, .int .i64 er, .int .i64 line, .slice A n c, .int .i64 now] 25) = w1 at *
  have HPUT := Aside0.mk (put_reply 82 4096 b (encReply id er line l now) w1 (by decide) (fun g W' hk hb => w_reply hk id er line now A n c l (HR.out.below hb) (fun W2 hb2 => Kd.C_below HC.out ((HB.out.trans (hb.mono HB.out.size)).trans (hb2.mono HB.out.size))) HLO.out H1.out H2.out H3.out (by have := HL.out; simp only [List.length_singleton]; omega)))
  go_wp2_with fail
  go_at_call 50
  refine HPUT.out.mono ?_
  rintro e w2 ⟨v, rfl, hR, hb⟩
  have HRR := Aside0.mk (show (Kd.int .u8).R 5 w2 W.heap.size (fun _ => True) v (putOut 4096 (82 :: encReply id er line l now)) from Kd.R_lower hR HB.out.size)
  have HBB := Aside0.mk (HB.out.trans (hb.mono HB.out.size))
  obtain ⟨Av, cv, ev⟩ := Kd.R_slice hR
  obtain ⟨m, hm⟩ : ∃ m, (putOut 4096 (82 :: encReply id er line l now)).length = m := ⟨_, rfl⟩
  rw [hm] at ev
  subst ev
  clear hR hb hm hmf HPUT
  go_wp2_with fail
  go_ret2
  rw [HBE.out] at *
  exact ⟨_, rfl, HRR.out, HBB.out⟩
end Go.Proofs.Ytafmoglaockepaa.Cd
end
section
namespace Go.Proofs.Ytafmoglaockepaa.Cd
open Go Go.RowKit Go.Proofs.Ytafmoglaockepaa.Num Go.Proofs.Ytafmoglaockepaa.PG Go.Proofs.YtafmoglaockepaaW.PrintWords Go.Proofs.YtafmoglaockepaaW.PrintLast Go.Proofs.YtafmoglaockepaaW.PrintMore
set_option linter.unusedVariables false
theorem w64n {k : Nat} (h : k < 9223372036854775807) : wrap64 ((k : Int) + 1) = ((k + 1 : Nat) : Int) := by unfold wrap64; omega
end Go.Proofs.Ytafmoglaockepaa.Cd
end
section
namespace Go.Proofs.Ytafmoglaockepaa.Cd
open Go Go.RowKit Go.Proofs.Ytafmoglaockepaa.Mine Go.Proofs.Ytafmoglaockepaa.Num Go.Proofs.Ytafmoglaockepaa.PG Go.Proofs.YtafmoglaockepaaW.PrintWords Go.Proofs.YtafmoglaockepaaW.PrintLast Go.Proofs.YtafmoglaockepaaW.PrintMore
attribute [local go_sem] max2_int min2_int max_two min_two max_three min_three max_four min_four
attribute [local go_sem high] eqA110
set_option linter.unusedVariables false
set_option linter.unusedSimpArgs false
set_option maxHeartbeats 8000000
set_option maxRecDepth 100000
end Go.Proofs.Ytafmoglaockepaa.Cd
end
section
namespace Go.Proofs.Ytafmoglaockepaa.Cd
open Go Go.RowKit Go.Proofs.Ytafmoglaockepaa.Num Go.Proofs.Ytafmoglaockepaa.PG Go.Proofs.YtafmoglaockepaaW.PrintWords Go.Proofs.YtafmoglaockepaaW.PrintLast Go.Proofs.YtafmoglaockepaaW.PrintMore
set_option linter.unusedVariables false
set_option linter.unusedSimpArgs false
set_option maxHeartbeats 4000000
set_option maxRecDepth 100000
def encN (x : S110) : List Int := encT x.f0 ++ encI x.f1
theorem encN_len (x : S110) : (encN x).length ≤ 20 + x.f0.size := by
  have h0 := encT_len x.f0
  have h1 := encI_len x.f1
  unfold encN
  rw [List.length_append]
  omega
theorem w_line {g B gb : Nat} {xs : List Int} {W : World} (k : WrAt g B xs W) (hbx : Rt 92 gb [ptr g] W) (x : S110) (h1 : Int64 x.f1) (hl : xs.length + x.f0.size + 100 < 140737488355328) :
    Calls Try.prog 127 #[.agg #[.string x.f0, .int .i64 x.f1], ptr gb] W fun e w' => e = .returned (.tuple #[]) ∧ WrAt g B (xs ++ encN x) w' ∧ Below B W w' ∧ Others W w' := by
  have HK := Aside0.mk k
  have HBX := Aside0.mk hbx
  have H1 := Aside0.mk h1
  have HL := Aside0.mk hl
  have HS := Aside0.mk k.size
  clear k hbx h1 hl
  go_enter Try.func127, Try.ntmps127
  go_upto_region 1 with fail
  have hr2 : Rt 110 W.heap.size [.string x.f0, .int .i64 x.f1] (W.alloc (.cells #[.string x.f0, .int .i64 x.f1] 110)) := heap_alloc_new W _
  have hb1 : Below W.heap.size W (W.alloc (.cells #[.string x.f0, .int .i64 x.f1] 110)) := below_alloc (Below.refl _ _) _
  obtain ⟨b2, hb2⟩ : ∃ b2, W.heap.size = b2 := ⟨_, rfl⟩
  have K1 := Aside0.mk (HK.out.below hb1)
  have B1 := Aside0.mk (hb1.mono HS.out)
  have O1 := Aside0.mk (Others.of_below hb1)
  have X1 := Aside0.mk (HBX.out.below hb1)
  rw [hb2] at hr2 ⊢
  have R1 := Aside0.mk hr2
  clear hr2 hb1 hb2
  generalize W.alloc (.cells #[.string x.f0, .int .i64 x.f1] 110) = w1 at *
  have c0 := R1.out.cell 0 _ rfl
  have cx := X1.out.cell 0 _ rfl
  go_wp2_with fail
  go_at_call 52
  refine (w_text K1.out x.f0 (by have := HL.out; omega)).mono ?_
  rintro e w2 ⟨rfl, hk, hb, ho⟩
  have K2 := Aside0.mk hk
  have B2 := Aside0.mk (B1.out.trans hb)
  have O2 := Aside0.mk (O1.out.trans ho)
  have R2 := Aside0.mk (ho.row R1.out (by decide) (by decide))
  have X2 := Aside0.mk (ho.row X1.out (by decide) (by decide))
  clear hk hb ho c0 cx
  have c1 := R2.out.cell 1 _ rfl
  have cx := X2.out.cell 0 _ rfl
  go_wp2_with fail
  go_at_call 53
  refine (w_int K2.out x.f1 H1.out (by have := HL.out; have := encT_len x.f0; rw [List.length_append]; omega)).mono ?_
  rintro e w3 ⟨rfl, hk, hb, ho⟩
  have K3 := Aside0.mk hk
  have B3 := Aside0.mk (B2.out.trans hb)
  have O3 := Aside0.mk (O2.out.trans ho)
  have R3 := Aside0.mk (ho.row R2.out (by decide) (by decide))
  have X3 := Aside0.mk (ho.row X2.out (by decide) (by decide))
  clear hk hb ho c1 cx
  go_wp2_with fail
  go_end0
  have e : xs ++ encN x = xs ++ encT x.f0 ++ encI x.f1 := by unfold encN; simp only [List.append_assoc]
  rw [e]
  exact ⟨rfl, K3.out, B3.out, O3.out⟩
def encNs (l : List S110) : List Int := l.flatMap encN
def bulkN (l : List S110) : Nat := (l.map fun x => 20 + x.f0.size).sum
theorem encNs_len : ∀ l : List S110, (encNs l).length ≤ bulkN l
  | [] => by simp [encNs, bulkN]
  | x :: l => by
    have h1 := encNs_len l
    have h2 := encN_len x
    simp only [encNs, bulkN, List.flatMap_cons, List.length_append, List.map_cons, List.sum_cons] at h1 ⊢
    omega
theorem bulkN_take : ∀ (l : List S110) (i : Nat), bulkN (l.take i) ≤ bulkN l
  | [], i => by simp [bulkN]
  | x :: l, 0 => by simp [bulkN]
  | x :: l, i + 1 => by
    have h1 := bulkN_take l i
    simp only [bulkN, List.take_succ_cons, List.map_cons, List.sum_cons] at h1 ⊢
    omega
theorem bulkN_mem : ∀ (l : List S110) (x : S110), x ∈ l → 20 + x.f0.size ≤ bulkN l
  | y :: l, x, h => by
    simp only [bulkN, List.map_cons, List.sum_cons]
    rcases List.mem_cons.1 h with rfl | h
    · omega
    · have := bulkN_mem l x h
      simp only [bulkN] at this
      omega
def LinOk (l : List S110) : Prop := ∀ x ∈ l, Int64 x.f1
theorem w_putLines {g B gb : Nat} {xs : List Int} {W : World} (k : WrAt g B xs W) (hbx : Rt 92 gb [ptr g] W) (A : Option Addr) (n c : Nat) (l : List S110) (hC : ∀ W', Below B W W' → Kd.C k110 W' A n l) (hlo : LinOk l) (hl : xs.length + bulkN l + 200 < 140737488355328) :
    Calls Try.prog 126 #[ptr g, .slice A n c, .func (.func 127) #[] #[ptr gb]] W fun e w' => e = .returned (.tuple #[]) ∧ WrAt g B (xs ++ (encU n ++ encNs l)) w' ∧ Below B W w' ∧ Others W w' := by
  have hln : l.length = n := Kd.C_len (hC W (Below.refl _ _))
  have hn63 := (Kd.C_len (hC W (Below.refl _ _)))
  have hbl : 20 * l.length ≤ bulkN l := by
    clear hC hl hlo hln hn63
    induction l with
    | nil => simp [bulkN]
    | cons x l ih => simp only [bulkN, List.map_cons, List.sum_cons, List.length_cons] at ih ⊢; omega
  have HN := Aside0.mk (show n < 140737488355328 by omega)
  have HLN := Aside0.mk hln
  have HCC := Aside0.mk hC
  have HLO := Aside0.mk hlo
  have HLL := Aside0.mk hl
  have HBX := Aside0.mk hbx
  have HSZ := Aside0.mk k.size
  have HBG := Aside0.mk k.b
  obtain ⟨v, hr, hR⟩ := k.ex
  have HR := Aside0.mk hr
  have HX := Aside0.mk hR
  have HLEN := Aside0.mk (show (xs.length + (encU n).length) * 1 ≤ 140737488355328 by have := encU_len n; omega)
  have c0 := hr.cell 0 _ rfl
  have hw64 : IntKind.u64.wrap (n : Int) = (n : Int) := by rw [IntKind.wrap_u64]; omega
  clear k hr hR hln hn63 hbl hC hlo hl hbx
  go_enter Try.func126, Try.ntmps126
  go_upto_region 0 with fail
  go_region_law (first
    | (go_simp
       go_at_call 125
       refine (frame_PutUint.calls 11 none 0 [] (n : Int) (encU n) _ (Kd.C_nil _ _) (Nat.le_refl _) (by have := putUint_ok 11 (by decide) [] n (by have := HN.out; omega) (by decide); rwa [List.nil_append] at this)).mono ?_
       rintro e wa ⟨v0, rfl, hR, hb⟩
       obtain ⟨Av, cv, rfl, hcv, hC⟩ := Kd.R_reads hR
       have hb0 : Below W.heap.size W wa := (below_drew (Below.refl _ _)).trans hb
       have HRa := Aside0.mk (HR.out.below hb0)
       have HXa := Aside0.mk (Kd.R_below HX.out hb0)
       have HBa := Aside0.mk (hb0.mono HSZ.out)
       have HSB := Aside0.mk (Nat.le_trans HSZ.out hb0.size)
       have HCa := Aside0.mk hC
       have HOa := Aside0.mk (Others.of_below hb0)
       have ca := HRa.out.cell 0 _ rfl
       clear hR hb hcv hC hb0)
    | (refine Kd.R_append_rows_step (Kd.int .u8) (Rr := (Kd.int .u8).K wa) (w0 := W) B (by rfl) (.tmp 12) (.tmp 16) 26 5 (.int .u8 0) 1 rfl Try.underlying26 info5' rfl (by decide) (by decide) v xs (encU n) Av (encU n).length cv (fun _ => True) (fun _ => False) rfl rfl HXa.out HCa.out (fun _ _ h => h) (fun _ h => h.elim) (fun _ _ => trivial) HBa.out HSB.out HLEN.out ?_
       intro v1 w1 ho hb hg hat
       obtain ⟨Al, cl, el⟩ := Kd.R_slice ho
       obtain ⟨n1, hn1⟩ : ∃ n1, (xs ++ encU n).length = n1 := ⟨_, rfl⟩
       rw [hn1] at el
       subst el
       clear hn1
       have hfin := WrAt.appended HRa.out HXa.out HBG.out ho ((Below.refl _ _).grown hg HSB.out (Kd.R_base HXa.out)) hg
       have HFIN := Aside0.mk (show WrAt g B (xs ++ encU n) (w1.setRow g [Value.slice Al n1 cl].toArray) ∧ Below B W (w1.setRow g [Value.slice Al n1 cl].toArray) ∧ Others W (w1.setRow g [Value.slice Al n1 cl].toArray) from ⟨hfin.2.1, HBa.out.trans hfin.2.2.1, HOa.out.trans hfin.2.2.2⟩)
       have HR1 := Aside0.mk hfin.1
       have c1 := hfin.1.cell 0 _ rfl
       have f1 := hfin.1.free 0
       clear ho hb hg hat hfin))
  all_goals
    have e1 := HR1.out.set 0 (.slice Al n1 cl)
    rw [show [v].set 0 (.slice Al n1 cl) = [Value.slice Al n1 cl] from rfl] at e1
    rw [e1]
    clear e1 c0 ca c1 f1 hw64
    have X1 := Aside0.mk (HFIN.out.2.2.row HBX.out (by decide) (by decide))
    generalize w1.setRow g [Value.slice Al n1 cl].toArray = w2 at *
    go_wp2_with fail
    go_loopw [22] (fun p wr => ∃ i : Nat, p = .int .i64 (i : Int) ∧ Aside0 (i ≤ n) ∧ Aside0 (WrAt g B (xs ++ encU n ++ encNs (l.take i)) wr) ∧ Aside0 (Below B W wr) ∧ Aside0 (Others W wr) ∧ Aside0 (Rt 92 gb [ptr g] wr)) (fun p _ => n - (intOf p).toNat)
    · exact ⟨0, rfl, ⟨Nat.zero_le _⟩, ⟨by rw [List.take_zero]; show WrAt g B (xs ++ encU n ++ []) w2; rw [List.append_nil]; exact HFIN.out.1⟩, ⟨HFIN.out.2.1⟩, ⟨HFIN.out.2.2⟩, X1⟩
    · obtain ⟨i, rfl, HI, HK, HB, HO, HXr⟩ := hrel
      by_cases ci : i < n
      · have ci1 : decide ((i : Int) < (n : Int)) = true := decide_eq_true (by omega)
        have ci2 : (i : Int) < (n : Int) := by omega
        have ci3 : (0 : Int) ≤ (i : Int) := by omega
        have hw1 : IntKind.i64.wrap ((i : Int) + 1) = ((i + 1 : Nat) : Int) := by rw [IntWalk.i64_in _ (by have := HN.out; omega)]; omega
        obtain ⟨x, hx⟩ : ∃ x, l[i]? = some x := ⟨_, List.getElem?_eq_getElem (by have := HLN.out; omega)⟩
        obtain ⟨ad, rfl, d0, d1⟩ := at_T110 (HCC.out wr HB.out) (i : Int) ci3 ci2
        have hrd : rd_T110 l (i : Int) = x := by unfold rd_T110; rw [Int.toNat_natCast, List.getD_eq_getElem?_getD, hx]; rfl
        rw [hrd, Int.toNat_natCast] at d0 d1
        have HX2 := Aside0.mk hx
        clear hrd hx
        have hsz : B ≤ wr.heap.size := HK.out.size
        have hba : Below wr.heap.size wr (wr.alloc (.cells #[.string x.f0, .int .i64 x.f1] 110)) := below_alloc (Below.refl _ _) _
        have HK2 := Aside0.mk (HK.out.below hba)
        have HB2 := Aside0.mk (HB.out.trans (hba.mono hsz))
        have HO2 := Aside0.mk (HO.out.trans (Others.of_below hba))
        have HXr2 := Aside0.mk (HXr.out.below hba)
        have hr7 : Rt 110 wr.heap.size [.string x.f0, .int .i64 x.f1] (wr.alloc (.cells #[.string x.f0, .int .i64 x.f1] 110)) := heap_alloc_new wr _
        have s0 := hr7.cell 0 _ rfl
        have s1 := hr7.cell 1 _ rfl
        have hmem : x ∈ l := List.mem_of_getElem? HX2.out
        have HLV := Aside0.mk (HLO.out x hmem)
        have HSM := Aside0.mk (show (xs ++ encU n ++ encNs (l.take i)).length + x.f0.size + 100 < 140737488355328 by
          have h1 := encU_len n
          have h2 := encNs_len (l.take (i + 1))
          have h3 := bulkN_take l (i + 1)
          have h4 := HLL.out
          have h5 := bulkN_mem _ x (show x ∈ l.take (i + 1) by rw [take_snoc HX2.out]; simp)
          have h6 := encNs_len (l.take i)
          have h7 : bulkN (l.take (i + 1)) = bulkN (l.take i) + (20 + x.f0.size) := by rw [take_snoc HX2.out]; simp [bulkN]
          rw [List.length_append, List.length_append]
          omega)
        clear hba hsz hr7 hmem HK
        go_upto_region 4 with fail
        generalize wr.alloc (.cells #[.string x.f0, .int .i64 x.f1] 110) = w5 at *
        go_wp2_with fail
        go_at_call 127
        refine (w_line HK2.out HXr2.out x HLV.out HSM.out).mono ?_
        rintro e w6 ⟨rfl, hk, hb, ho⟩
        have HK3 := Aside0.mk (show WrAt g B (xs ++ encU n ++ encNs (l.take (i + 1))) w6 from by
          have e : xs ++ encU n ++ encNs (l.take (i + 1)) = xs ++ encU n ++ encNs (l.take i) ++ encN x := by
            rw [take_snoc HX2.out]
            simp [encNs]
          rw [e]
          exact hk)
        have HB3 := Aside0.mk (HB2.out.trans hb)
        have HO3 := Aside0.mk (HO2.out.trans ho)
        have HX3 := Aside0.mk (ho.row HXr2.out (by decide) (by decide))
        clear hk hb ho s0 s1 d0 d1
        go_wp2_with fail
        refine ⟨⟨i + 1, rfl, ⟨ci⟩, HK3, HB3, HO3, HX3⟩, ?_⟩
        simp only [intOf]
        omega
      · have ci1 : decide ((i : Int) < (n : Int)) = false := decide_eq_false (by omega)
        go_wp2_with fail
        go_end0
        obtain rfl : i = n := by have := HI.out; omega
        have hk := HK.out
        rw [List.take_of_length_le (Nat.le_of_eq HLN.out), List.append_assoc] at hk
        exact ⟨rfl, hk, HB.out, HO.out⟩
theorem w_lines {g B : Nat} {xs : List Int} {W : World} (k : WrAt g B xs W) (A : Option Addr) (n c : Nat) (l : List S110) (hC : ∀ W', Below B W W' → Kd.C k110 W' A n l) (hlo : LinOk l) (hl : xs.length + bulkN l + 200 < 140737488355328) :
    Calls Try.prog 84 #[ptr g, .slice A n c] W fun e w' => e = .returned (.tuple #[]) ∧ WrAt g B (xs ++ (encU n ++ encNs l)) w' ∧ Below B W w' ∧ Others W w' := by
  have HK := Aside0.mk k
  have HC := Aside0.mk hC
  have HLO := Aside0.mk hlo
  have HLL := Aside0.mk hl
  have hr2 : Rt 92 W.heap.size [ptr g] (W.alloc (.cells #[ptr g] 92)) := heap_alloc_new W _
  have hb1 : Below W.heap.size W (W.alloc (.cells #[ptr g] 92)) := below_alloc (Below.refl _ _) _
  have hmf : ∀ (fn : Fn) (first cap : Array Value) (w : World), (Instr.makeFunc fn first cap).run Try.prog w = .ok (.func fn first cap) w := fun _ _ _ _ => rfl
  clear k hC hlo hl
  go_enter Try.func84, Try.ntmps84
  go_upto_region 1 with fail
  obtain ⟨b2, hb2⟩ : ∃ b2, W.heap.size = b2 := ⟨_, rfl⟩
  have K1 := Aside0.mk (HK.out.below hb1)
  have B1 := Aside0.mk (hb1.mono HK.out.size)
  have O1 := Aside0.mk (Others.of_below hb1)
  rw [hb2] at hr2 ⊢
  have R1 := Aside0.mk hr2
  clear hr2 hb1 hb2
  generalize W.alloc (.cells #[ptr g] 92) = w1 at *
  have c0 := R1.out.cell 0 _ rfl
  go_wp2_with fail
  go_at_call 126
  refine (w_putLines K1.out R1.out A n c l (fun W' hb => HC.out W' (B1.out.trans hb)) HLO.out HLL.out).mono ?_
  rintro e w2 ⟨rfl, hk, hb, ho⟩
  have K2 := Aside0.mk hk
  have B2 := Aside0.mk (B1.out.trans hb)
  have O2 := Aside0.mk (O1.out.trans ho)
  clear hk hb ho c0 hmf
  go_wp2_with fail
  go_end0
  exact ⟨rfl, K2.out, B2.out, O2.out⟩
def encReq (id : ByteArray) (ki : Int) (l : List S110) (ho : ByteArray) (ttl now : Int) : List Int := encT id ++ (encI ki ++ ((encU l.length ++ encNs l) ++ (encT ho ++ (encI ttl ++ encI now))))
theorem w_request {g B : Nat} {xs : List Int} {W : World} (k : WrAt g B xs W) (id : ByteArray) (ki : Int) (A : Option Addr) (n c : Nat) (l : List S110) (ho : ByteArray) (ttl now : Int) (hC : ∀ W', Below B W W' → Kd.C k110 W' A n l) (hlo : LinOk l)
    (h1 : Int64 ki) (h2 : Int64 ttl) (h3 : Int64 now) (hl : xs.length + id.size + ho.size + bulkN l + 400 < 140737488355328) :
    Calls Try.prog 71 #[ptr g, .agg #[.string id, .int .i64 ki, .slice A n c, .string ho, .int .i64 ttl, .int .i64 now]] W fun e w' => e = .returned (.tuple #[]) ∧ WrAt g B (xs ++ encReq id ki l ho ttl now) w' ∧ Below B W w' ∧ Others W w' := by
  have HLL := Aside0.mk hl
  have HN := Aside0.mk (show l.length = n from Kd.C_len (hC W (Below.refl _ _)))
  have HC := Aside0.mk hC
  have HLO := Aside0.mk hlo
  have H1 := Aside0.mk h1
  have H2 := Aside0.mk h2
  have H3 := Aside0.mk h3
  have HT := Aside0.mk (encT_len id)
  have HT2 := Aside0.mk (encT_len ho)
  have HI := Aside0.mk (fun a => encI_len a)
  have HU := Aside0.mk (encU_len n)
  have HE := Aside0.mk (encNs_len l)
  have hr2 : Rt 40 W.heap.size [.string id, .int .i64 ki, .slice A n c, .string ho, .int .i64 ttl, .int .i64 now] (W.alloc (.cells #[.string id, .int .i64 ki, .slice A n c, .string ho, .int .i64 ttl, .int .i64 now] 40)) := heap_alloc_new W _
  have hb1 : Below W.heap.size W (W.alloc (.cells #[.string id, .int .i64 ki, .slice A n c, .string ho, .int .i64 ttl, .int .i64 now] 40)) := below_alloc (Below.refl _ _) _
  have HS := Aside0.mk k.size
  obtain ⟨b2, hb2⟩ : ∃ b2, W.heap.size = b2 := ⟨_, rfl⟩
  have HB2 := Aside0.mk hb2
  have K1 := Aside0.mk (k.below hb1)
  have B1 := Aside0.mk (hb1.mono HS.out)
  have O1 := Aside0.mk (Others.of_below hb1)
  rw [hb2] at hr2
  have R1 := Aside0.mk hr2
  clear k hC hlo hl h1 h2 h3 hr2 hb1 hb2
  go_enter Try.func71, Try.ntmps71
  go_upto_region 1 with fail
  have hb2 := HB2.out
  rw [hb2]
  clear hb2
  generalize W.alloc (.cells #[.string id, .int .i64 ki, .slice A n c, .string ho, .int .i64 ttl, .int .i64 now] 40) = w1 at *
  have c0 := R1.out.cell 0 _ rfl
  go_wp2_with fail
  go_at_call 52
  refine (w_text K1.out id (by have := HLL.out; have := HT.out; have := HT2.out; have := HI.out ki; have := HI.out ttl; have := HI.out now; have := HU.out; have := HE.out; (try simp only [List.length_append]); omega)).mono ?_
  rintro e w2 ⟨rfl, hk, hb, ho⟩
  have K2 := Aside0.mk hk
  have B2 := Aside0.mk (B1.out.trans hb)
  have O2 := Aside0.mk (O1.out.trans ho)
  have R2 := Aside0.mk (ho.row R1.out (by decide) (by decide))
  clear hk hb ho c0
  have c0 := R2.out.cell 1 _ rfl
  go_wp2_with fail
  go_at_call 53
  refine (w_int K2.out ki H1.out (by have := HLL.out; have := HT.out; have := HT2.out; have := HI.out ki; have := HI.out ttl; have := HI.out now; have := HU.out; have := HE.out; (try simp only [List.length_append]); omega)).mono ?_
  rintro e w3 ⟨rfl, hk, hb, ho⟩
  have K3 := Aside0.mk hk
  have B3 := Aside0.mk (B2.out.trans hb)
  have O3 := Aside0.mk (O2.out.trans ho)
  have R3 := Aside0.mk (ho.row R2.out (by decide) (by decide))
  clear hk hb ho c0
  have c0 := R3.out.cell 2 _ rfl
  go_wp2_with fail
  go_at_call 84
  refine (w_lines K3.out A n c l (fun W' hb => HC.out W' (B3.out.trans hb)) HLO.out (by have := HLL.out; have := HT.out; have := HT2.out; have := HI.out ki; have := HI.out ttl; have := HI.out now; have := HU.out; have := HE.out; (try simp only [List.length_append]); omega)).mono ?_
  rintro e w4 ⟨rfl, hk, hb, ho⟩
  have K4 := Aside0.mk hk
  have B4 := Aside0.mk (B3.out.trans hb)
  have O4 := Aside0.mk (O3.out.trans ho)
  have R4 := Aside0.mk (ho.row R3.out (by decide) (by decide))
  clear hk hb ho c0
  have c0 := R4.out.cell 3 _ rfl
  go_wp2_with fail
  go_at_call 52
  refine (w_text K4.out ho (by have := HLL.out; have := HT.out; have := HT2.out; have := HI.out ki; have := HI.out ttl; have := HI.out now; have := HU.out; have := HE.out; (try simp only [List.length_append]); omega)).mono ?_
  rintro e w5 ⟨rfl, hk, hb, ho⟩
  have K5 := Aside0.mk hk
  have B5 := Aside0.mk (B4.out.trans hb)
  have O5 := Aside0.mk (O4.out.trans ho)
  have R5 := Aside0.mk (ho.row R4.out (by decide) (by decide))
  clear hk hb ho c0
  have c0 := R5.out.cell 4 _ rfl
  go_wp2_with fail
  go_at_call 53
  refine (w_int K5.out ttl H2.out (by have := HLL.out; have := HT.out; have := HT2.out; have := HI.out ki; have := HI.out ttl; have := HI.out now; have := HU.out; have := HE.out; (try simp only [List.length_append]); omega)).mono ?_
  rintro e w6 ⟨rfl, hk, hb, ho⟩
  have K6 := Aside0.mk hk
  have B6 := Aside0.mk (B5.out.trans hb)
  have O6 := Aside0.mk (O5.out.trans ho)
  have R6 := Aside0.mk (ho.row R5.out (by decide) (by decide))
  clear hk hb ho c0
  have c0 := R6.out.cell 5 _ rfl
  go_wp2_with fail
  go_at_call 53
  refine (w_int K6.out now H3.out (by have := HLL.out; have := HT.out; have := HT2.out; have := HI.out ki; have := HI.out ttl; have := HI.out now; have := HU.out; have := HE.out; (try simp only [List.length_append]); omega)).mono ?_
  rintro e w7 ⟨rfl, hk, hb, ho⟩
  have K7 := Aside0.mk hk
  have B7 := Aside0.mk (B6.out.trans hb)
  have O7 := Aside0.mk (O6.out.trans ho)
  have R7 := Aside0.mk (ho.row R6.out (by decide) (by decide))
  clear hk hb ho c0
  go_wp2_with fail
  go_end0
  have e : xs ++ encReq id ki l ho ttl now = xs ++ encT id ++ encI ki ++ (encU n ++ encNs l) ++ encT ho ++ encI ttl ++ encI now := by
    unfold encReq
    rw [HN.out]
    simp only [List.append_assoc]
  rw [e]
  exact ⟨rfl, K7.out, B7.out, O7.out⟩
theorem w_requestC {g B br : Nat} {xs : List Int} {W : World} (k : WrAt g B xs W) (id : ByteArray) (ki : Int) (A : Option Addr) (n c : Nat) (l : List S110) (ho : ByteArray) (ttl now : Int) (hbr : Rt 40 br [.string id, .int .i64 ki, .slice A n c, .string ho, .int .i64 ttl, .int .i64 now] W) (hC : ∀ W', Below B W W' → Kd.C k110 W' A n l) (hlo : LinOk l)
    (h1 : Int64 ki) (h2 : Int64 ttl) (h3 : Int64 now) (hl : xs.length + id.size + ho.size + bulkN l + 400 < 140737488355328) :
    Calls Try.prog 70 #[ptr g, ptr br] W fun e w' => e = .returned (.tuple #[]) ∧ WrAt g B (xs ++ encReq id ki l ho ttl now) w' ∧ Below B W w' ∧ Others W w' := by
  have HQ := Aside0.mk (w_request k id ki A n c l ho ttl now hC hlo h1 h2 h3 hl)
  have q0 := hbr.cell 0 _ rfl
  have q1 := hbr.cell 1 _ rfl
  have q2 := hbr.cell 2 _ rfl
  have q3 := hbr.cell 3 _ rfl
  have q4 := hbr.cell 4 _ rfl
  have q5 := hbr.cell 5 _ rfl
  clear k hbr hC hlo h1 h2 h3 hl
  go_enter Try.func70, Try.ntmps70
  go_wp2_with fail
  go_at_call 71
  refine HQ.out.mono ?_
  rintro e w2 ⟨rfl, hk, hb, ho⟩
  have K2 := Aside0.mk hk
  have B2 := Aside0.mk hb
  have O2 := Aside0.mk ho
  clear hk hb ho q0 q1 q2 q3 q4 q5
  go_wp2_with fail
  go_end0
  exact ⟨rfl, K2.out, B2.out, O2.out⟩
theorem put_request (key : Int) (most br : Nat) (ys : List Int) (W : World) (hm : most ≤ 1000000000)
    (hF : ∀ g W', WrAt g W.heap.size [key] W' → Below W.heap.size W W' → Calls Try.prog 70 #[ptr g, ptr br] W' fun e w' => e = .returned (.tuple #[]) ∧ WrAt g W.heap.size ([key] ++ ys) w' ∧ Below W.heap.size W' w' ∧ Others W' w') :
    Calls Try.prog 50 #[.int .u8 key, .int .i64 (most : Int), .func (.func 70) #[] #[ptr br]] W fun e w' => ∃ v, e = .returned (.tuple #[v, .int .i64 (putCode most (key :: ys))]) ∧ (Kd.int .u8).R 5 w' W.heap.size (fun _ => True) v (putOut most (key :: ys)) ∧ Below W.heap.size W w' := by
  have HF := Aside0.mk hF
  have HM := Aside0.mk hm
  clear hF hm
  go_enter Try.func50, Try.ntmps50
  go_upto_region 2 with fail
  have ha1 : (W.alloc (.cells #[.int .u8 key] 5)).heap[W.heap.size]? = some (.cells #[.int .u8 key] 5 (0, 0)) := heap_alloc_new W _
  have hs1 : (W.alloc (.cells #[.int .u8 key] 5)).heap.size = W.heap.size + 1 := by simp
  have hb1 : Below W.heap.size W (W.alloc (.cells #[.int .u8 key] 5)) := below_alloc (Below.refl _ _) _
  obtain ⟨B, hB⟩ : ∃ B, W.heap.size = B := ⟨_, rfl⟩
  have HB := Aside0.mk hB
  rw [hB] at ha1 hs1 hb1 ⊢
  generalize W.alloc (.cells #[.int .u8 key] 5) = wx at *
  have hr2 : Rt 146 wx.heap.size [.slice (some ⟨B, 0, none⟩) 1 1] (wx.alloc (.cells #[.slice (some ⟨B, 0, none⟩) 1 1] 146)) := heap_alloc_new wx _
  have hb2 : Below wx.heap.size wx (wx.alloc (.cells #[.slice (some ⟨B, 0, none⟩) 1 1] 146)) := below_alloc (Below.refl _ _) _
  have hk := key_row (B := B) ((hb2.block B (by omega)).trans ha1) (Nat.le_refl _)
  have K1 := Aside0.mk (show WrAt (B + 1) B [key] (wx.alloc (.cells #[.slice (some ⟨B, 0, none⟩) 1 1] 146)) from ⟨⟨_, by rw [hs1] at hr2; exact hr2, hk⟩, Nat.le_succ _⟩)
  have B1 := Aside0.mk (show Below B W (wx.alloc (.cells #[.slice (some ⟨B, 0, none⟩) 1 1] 146)) from hb1.trans (hb2.mono (by omega)))
  clear ha1 hs1 hb1 hr2 hb2 hk hB
  generalize wx.alloc (.cells #[.slice (some ⟨B, 0, none⟩) 1 1] 146) = w1 at *
  obtain ⟨g, hg⟩ : ∃ g, B + 1 = g := ⟨_, rfl⟩
  have k1 := K1.out
  rw [hg] at k1 ⊢
  have K1 := Aside0.mk k1
  have HFN := HF.out g w1 (by rw [HB.out]; exact K1.out) (by rw [HB.out]; exact B1.out)
  rw [HB.out] at HFN
  have HFN := Aside0.mk HFN
  clear k1 hg HF
  go_wp2_with fail
  go_at_call 70
  refine HFN.out.mono ?_
  rintro e w2 ⟨rfl, hk, hb, ho⟩
  obtain ⟨ys2, hys⟩ : ∃ ys2, [key] ++ ys = ys2 := ⟨_, rfl⟩
  rw [hys] at hk
  have HYS := Aside0.mk (show key :: ys = ys2 from hys)
  obtain ⟨v, hr, hR⟩ := hk.ex
  have B2 := Aside0.mk (B1.out.trans hb)
  obtain ⟨Av, cv, rfl⟩ := Kd.R_slice hR
  obtain ⟨m, hm2⟩ : ∃ m, ys2.length = m := ⟨_, rfl⟩
  have HRR := Aside0.mk hR
  have HM2 := Aside0.mk hm2
  rw [hm2] at hr
  have c0 := hr.cell 0 _ rfl
  clear hk hb ho hr hR hm2 hys HFN K1 B1
  by_cases hmo : most < m
  · have d1 : decide ((most : Int) < (m : Int)) = true := decide_eq_true (by omega)
    have d2 : decide (most < m) = true := decide_eq_true hmo
    have HMO := Aside0.mk hmo
    clear hmo
    go_wp2_with fail
    go_ret2
    rw [HYS.out, HB.out]
    refine ⟨.slice none 0 0, ?_, ?_, B2.out⟩
    · unfold putCode
      rw [HM2.out, if_pos HMO.out]
      rfl
    · unfold putOut
      rw [HM2.out, if_pos HMO.out]
      exact Kd.R_nil _ _ _ _ _
  · have d1 : decide ((most : Int) < (m : Int)) = false := decide_eq_false (by omega)
    have d2 : decide (most < m) = false := decide_eq_false hmo
    have HMO := Aside0.mk hmo
    clear hmo
    go_wp2_with fail
    go_ret2
    rw [HYS.out, HB.out]
    refine ⟨.slice Av m cv, ?_, ?_, B2.out⟩
    · unfold putCode
      rw [HM2.out, if_neg HMO.out]
      rfl
    · unfold putOut
      rw [HM2.out, if_neg HMO.out, ← HM2.out]
      exact HRR.out
theorem PutRequest_at (id : ByteArray) (ki : Int) (A : Option Addr) (n c : Nat) (l : List S110) (ho : ByteArray) (ttl now : Int) (W : World) (hC : Kd.C k110 W A n l) (hlo : LinOk l) (h1 : Int64 ki) (h2 : Int64 ttl) (h3 : Int64 now) (hl : id.size + ho.size + bulkN l + 500 < 140737488355328) :
    Calls Try.prog 21 #[.agg #[.string id, .int .i64 ki, .slice A n c, .string ho, .int .i64 ttl, .int .i64 now]] W fun e w' => ∃ v, e = .returned (.tuple #[v, .int .i64 (putCode 4096 (81 :: encReq id ki l ho ttl now))]) ∧ (Kd.int .u8).R 5 w' W.heap.size (fun _ => True) v (putOut 4096 (81 :: encReq id ki l ho ttl now)) ∧ Below W.heap.size W w' := by
  have HC := Aside0.mk hC
  have HLO := Aside0.mk hlo
  have H1 := Aside0.mk h1
  have H2 := Aside0.mk h2
  have H3 := Aside0.mk h3
  have HL := Aside0.mk hl
  have hr1 : Rt 40 W.heap.size [.string id, .int .i64 ki, .slice A n c, .string ho, .int .i64 ttl, .int .i64 now] (W.alloc (.cells #[.string id, .int .i64 ki, .slice A n c, .string ho, .int .i64 ttl, .int .i64 now] 40)) := heap_alloc_new W _
  have hb1 : Below W.heap.size W (W.alloc (.cells #[.string id, .int .i64 ki, .slice A n c, .string ho, .int .i64 ttl, .int .i64 now] 40)) := below_alloc (Below.refl _ _) _
  have hmf : ∀ (fn : Fn) (first cap : Array Value) (w : World), (Instr.makeFunc fn first cap).run Try.prog w = .ok (.func fn first cap) w := fun _ _ _ _ => rfl
  clear hC hlo h1 h2 h3 hl
  go_enter Try.func21, Try.ntmps21
  go_upto_region 1 with fail
  obtain ⟨b, hb⟩ : ∃ b, W.heap.size = b := ⟨_, rfl⟩
  have HB := Aside0.mk hb1
  have HBE := Aside0.mk hb
  rw [hb] at hr1 ⊢
  have HR := Aside0.mk hr1
  clear hr1 hb1 hb
  generalize W.alloc (.cells #[.string id, .int .i64 ki, .slice A n c, .string ho, .int .i64 ttl, .int .i64 now] 40) = w1 at *
  have HPUT := Aside0.mk (put_request 81 4096 b (encReq id ki l ho ttl now) w1 (by decide) (fun g W' hk hb => w_requestC hk id ki A n c l ho ttl now (HR.out.below hb) (fun W2 hb2 => Kd.C_below HC.out ((HB.out.trans (hb.mono HB.out.size)).trans (hb2.mono HB.out.size))) HLO.out H1.out H2.out H3.out (by have := HL.out; simp only [List.length_singleton]; omega)))
  go_wp2_with fail
  go_at_call 50
  refine HPUT.out.mono ?_
  rintro e w2 ⟨v, rfl, hR, hb⟩
  have HRR := Aside0.mk (show (Kd.int .u8).R 5 w2 W.heap.size (fun _ => True) v (putOut 4096 (81 :: encReq id ki l ho ttl now)) from Kd.R_lower hR HB.out.size)
  have HBB := Aside0.mk (HB.out.trans (hb.mono HB.out.size))
  obtain ⟨Av, cv, ev⟩ := Kd.R_slice hR
  obtain ⟨m, hm⟩ : ∃ m, (putOut 4096 (81 :: encReq id ki l ho ttl now)).length = m := ⟨_, rfl⟩
  rw [hm] at ev
  subst ev
  clear hR hb hm hmf HPUT
  go_wp2_with fail
  go_ret2
  rw [HBE.out] at *
  exact ⟨_, rfl, HRR.out, HBB.out⟩
end Go.Proofs.Ytafmoglaockepaa.Cd
end
section
namespace Go.Proofs.Ytafmoglaockepaa.Cd
open Go Go.RowKit Go.Proofs.Ytafmoglaockepaa.Num Go.Proofs.Ytafmoglaockepaa.PG Go.Proofs.YtafmoglaockepaaW.PrintWords Go.Proofs.YtafmoglaockepaaW.PrintLast Go.Proofs.YtafmoglaockepaaW.PrintMore
set_option linter.unusedVariables false
set_option linter.unusedSimpArgs false
set_option maxHeartbeats 4000000
set_option maxRecDepth 100000
theorem cell_up {w w' : World} {p : Addr} {v : Value} (h : Below w.heap.size w w') (hc : w.cell? p = some v) : w'.cell? p = some v := by
  have hp : p.block < w.heap.size := by
    rcases Nat.lt_or_ge p.block w.heap.size with h | h
    · exact h
    · have : w.heap[p.block]? = none := Array.getElem?_eq_none h
      simp [World.cell?, this] at hc
  rw [h.cell hp]
  exact hc
def encQ (q : S40) : List Int := encReq q.f0 q.f1 q.f2 q.f3 q.f4 q.f5
def encH (x : S121) : List Int := encT x.f0 ++ ((encU x.f1.length ++ encNs x.f1) ++ encI x.f2)
def encD (x : S123) : List Int := encQ x.f0 ++ encI x.f1
def bulkQ (q : S40) : Nat := 60 + q.f0.size + q.f3.size + bulkN q.f2
def bulkH (x : S121) : Nat := 40 + x.f0.size + bulkN x.f1
def bulkD (x : S123) : Nat := 20 + bulkQ x.f0
def ReqOk (q : S40) : Prop := Int64 q.f1 ∧ LinOk q.f2 ∧ Int64 q.f4 ∧ Int64 q.f5
def HeldOk (x : S121) : Prop := LinOk x.f1 ∧ Int64 x.f2
def DoneOk (x : S123) : Prop := ReqOk x.f0 ∧ Int64 x.f1
theorem bulkH_ge (x : S121) : 20 ≤ bulkH x := by unfold bulkH; omega
theorem bulkD_ge (x : S123) : 20 ≤ bulkD x := by unfold bulkD; omega
theorem encQ_len (q : S40) : (encQ q).length ≤ bulkQ q := by
  have h0 := encT_len q.f0
  have h1 := encI_len q.f1
  have h2 := encU_len q.f2.length
  have h3 := encNs_len q.f2
  have h4 := encT_len q.f3
  have h5 := encI_len q.f4
  have h6 := encI_len q.f5
  unfold encQ encReq bulkQ
  simp only [List.length_append]
  omega
theorem encH_len (x : S121) : (encH x).length ≤ bulkH x := by
  have h0 := encT_len x.f0
  have h2 := encU_len x.f1.length
  have h3 := encNs_len x.f1
  have h6 := encI_len x.f2
  unfold encH bulkH
  simp only [List.length_append]
  omega
theorem encD_len (x : S123) : (encD x).length ≤ bulkD x := by
  have h0 := encQ_len x.f0
  have h6 := encI_len x.f1
  unfold encD bulkD
  simp only [List.length_append]
  omega
theorem w_held {g B gb : Nat} {xs : List Int} {W W0 : World} (k : WrAt g B xs W) (hbx : Rt 92 gb [ptr g] W) (hW0 : Below W0.heap.size W0 W) (hB0 : W0.heap.size ≤ B) (x : S121) (Al : Option Addr) (cl : Nat) (hCl : Kd.C k110 W0 Al x.f1.length x.f1) (h1 : LinOk x.f1) (h2 : Int64 x.f2) (hl : xs.length + bulkH x + 900 < 140737488355328) :
    Calls Try.prog 83 #[.agg #[.string x.f0, .slice Al x.f1.length cl, .int .i64 x.f2], ptr gb] W fun e w' => e = .returned (.tuple #[]) ∧ WrAt g B (xs ++ encH x) w' ∧ Below B W w' ∧ Others W w' := by
  have HLL := Aside0.mk hl
  have HW0 := Aside0.mk hW0
  have HB0 := Aside0.mk hB0
  have HS := Aside0.mk k.size
  have HCl := Aside0.mk hCl
  have H1 := Aside0.mk h1
  have H2 := Aside0.mk h2
  have hr2 : Rt 121 W.heap.size [.string x.f0, .slice Al x.f1.length cl, .int .i64 x.f2] (W.alloc (.cells #[.string x.f0, .slice Al x.f1.length cl, .int .i64 x.f2] 121)) := heap_alloc_new W _
  have hb1 : Below W.heap.size W (W.alloc (.cells #[.string x.f0, .slice Al x.f1.length cl, .int .i64 x.f2] 121)) := below_alloc (Below.refl _ _) _
  obtain ⟨b2, hb2⟩ : ∃ b2, W.heap.size = b2 := ⟨_, rfl⟩
  have HB2 := Aside0.mk hb2
  have K1 := Aside0.mk (k.below hb1)
  have B1 := Aside0.mk (hb1.mono HS.out)
  have O1 := Aside0.mk (Others.of_below hb1)
  have X1 := Aside0.mk (hbx.below hb1)
  rw [hb2] at hr2
  have R1 := Aside0.mk hr2
  clear k hbx hr2 hb1 hb2 hl hW0 hB0 hCl h1 h2
  go_enter Try.func83, Try.ntmps83
  go_upto_region 1 with fail
  have hb2 := HB2.out
  rw [hb2]
  clear hb2
  generalize W.alloc (.cells #[.string x.f0, .slice Al x.f1.length cl, .int .i64 x.f2] 121) = w1 at *
  have cx := X1.out.cell 0 _ rfl
  have c0 := R1.out.cell 0 _ rfl
  go_wp2_with fail
  go_at_call 52
  refine (w_text K1.out x.f0 (by have := HLL.out; have := encT_len x.f0; have := encU_len x.f1.length; have := encNs_len x.f1; have := encI_len x.f2; have := show bulkH x = 40 + x.f0.size + bulkN x.f1 from rfl; (try simp only [List.length_append]); omega)).mono ?_
  rintro e w2 ⟨rfl, hk, hb, ho⟩
  have K2 := Aside0.mk hk
  have B2 := Aside0.mk (B1.out.trans hb)
  have O2 := Aside0.mk (O1.out.trans ho)
  have R2 := Aside0.mk (ho.row R1.out (by decide) (by decide))
  have X2 := Aside0.mk (ho.row X1.out (by decide) (by decide))
  clear hk hb ho cx c0
  have cx := X2.out.cell 0 _ rfl
  have c1 := R2.out.cell 1 _ rfl
  go_wp2_with fail
  go_at_call 84
  refine (w_lines K2.out Al x.f1.length cl x.f1 (fun W' hb => Kd.C_below HCl.out (HW0.out.trans ((B2.out.trans hb).mono HB0.out))) H1.out (by have := HLL.out; have := encT_len x.f0; have := encU_len x.f1.length; have := encNs_len x.f1; have := encI_len x.f2; have := show bulkH x = 40 + x.f0.size + bulkN x.f1 from rfl; (try simp only [List.length_append]); omega)).mono ?_
  rintro e w3 ⟨rfl, hk, hb, ho⟩
  have K3 := Aside0.mk hk
  have B3 := Aside0.mk (B2.out.trans hb)
  have O3 := Aside0.mk (O2.out.trans ho)
  have R3 := Aside0.mk (ho.row R2.out (by decide) (by decide))
  have X3 := Aside0.mk (ho.row X2.out (by decide) (by decide))
  clear hk hb ho cx c1
  have cx := X3.out.cell 0 _ rfl
  have c2 := R3.out.cell 2 _ rfl
  go_wp2_with fail
  go_at_call 53
  refine (w_int K3.out x.f2 H2.out (by have := HLL.out; have := encT_len x.f0; have := encU_len x.f1.length; have := encNs_len x.f1; have := encI_len x.f2; have := show bulkH x = 40 + x.f0.size + bulkN x.f1 from rfl; (try simp only [List.length_append]); omega)).mono ?_
  rintro e w4 ⟨rfl, hk, hb, ho⟩
  have K4 := Aside0.mk hk
  have B4 := Aside0.mk (B3.out.trans hb)
  have O4 := Aside0.mk (O3.out.trans ho)
  have R4 := Aside0.mk (ho.row R3.out (by decide) (by decide))
  have X4 := Aside0.mk (ho.row X3.out (by decide) (by decide))
  clear hk hb ho cx c2
  go_wp2_with fail
  go_end0
  have e : xs ++ encH x = xs ++ encT x.f0 ++ (encU x.f1.length ++ encNs x.f1) ++ encI x.f2 := by
    unfold encH
    simp only [List.append_assoc]
  rw [e]
  exact ⟨rfl, K4.out, B4.out, O4.out⟩
theorem w_done {g B gb : Nat} {xs : List Int} {W W0 : World} (k : WrAt g B xs W) (hbx : Rt 92 gb [ptr g] W) (hW0 : Below W0.heap.size W0 W) (hB0 : W0.heap.size ≤ B) (x : S123) (Al : Option Addr) (cl : Nat) (hCl : Kd.C k110 W0 Al x.f0.f2.length x.f0.f2) (h0 : ReqOk x.f0) (h1 : Int64 x.f1) (hl : xs.length + bulkD x + 900 < 140737488355328) :
    Calls Try.prog 86 #[.agg #[.string x.f0.f0, .int .i64 x.f0.f1, .slice Al x.f0.f2.length cl, .string x.f0.f3, .int .i64 x.f0.f4, .int .i64 x.f0.f5, .int .i64 x.f1], ptr gb] W fun e w' => e = .returned (.tuple #[]) ∧ WrAt g B (xs ++ encD x) w' ∧ Below B W w' ∧ Others W w' := by
  have HLL := Aside0.mk hl
  have HW0 := Aside0.mk hW0
  have HB0 := Aside0.mk hB0
  have HS := Aside0.mk k.size
  have HCl := Aside0.mk hCl
  have H0 := Aside0.mk h0
  have H1 := Aside0.mk h1
  have hr2 : Rt 123 W.heap.size [.string x.f0.f0, .int .i64 x.f0.f1, .slice Al x.f0.f2.length cl, .string x.f0.f3, .int .i64 x.f0.f4, .int .i64 x.f0.f5, .int .i64 x.f1] (W.alloc (.cells #[.string x.f0.f0, .int .i64 x.f0.f1, .slice Al x.f0.f2.length cl, .string x.f0.f3, .int .i64 x.f0.f4, .int .i64 x.f0.f5, .int .i64 x.f1] 123)) := heap_alloc_new W _
  have hb1 : Below W.heap.size W (W.alloc (.cells #[.string x.f0.f0, .int .i64 x.f0.f1, .slice Al x.f0.f2.length cl, .string x.f0.f3, .int .i64 x.f0.f4, .int .i64 x.f0.f5, .int .i64 x.f1] 123)) := below_alloc (Below.refl _ _) _
  obtain ⟨b2, hb2⟩ : ∃ b2, W.heap.size = b2 := ⟨_, rfl⟩
  have HB2 := Aside0.mk hb2
  have K1 := Aside0.mk (k.below hb1)
  have B1 := Aside0.mk (hb1.mono HS.out)
  have O1 := Aside0.mk (Others.of_below hb1)
  have X1 := Aside0.mk (hbx.below hb1)
  rw [hb2] at hr2
  have R1 := Aside0.mk hr2
  clear k hbx hr2 hb1 hb2 hl hW0 hB0 hCl h0 h1
  go_enter Try.func86, Try.ntmps86
  go_upto_region 1 with fail
  have hb2 := HB2.out
  rw [hb2]
  clear hb2
  generalize W.alloc (.cells #[.string x.f0.f0, .int .i64 x.f0.f1, .slice Al x.f0.f2.length cl, .string x.f0.f3, .int .i64 x.f0.f4, .int .i64 x.f0.f5, .int .i64 x.f1] 123) = w1 at *
  have cx := X1.out.cell 0 _ rfl
  have c0 := R1.out.cell 0 _ rfl
  have c1 := R1.out.cell 1 _ rfl
  have c2 := R1.out.cell 2 _ rfl
  have c3 := R1.out.cell 3 _ rfl
  have c4 := R1.out.cell 4 _ rfl
  have c5 := R1.out.cell 5 _ rfl
  go_wp2_with fail
  go_at_call 71
  refine (w_request K1.out x.f0.f0 x.f0.f1 Al x.f0.f2.length cl x.f0.f2 x.f0.f3 x.f0.f4 x.f0.f5 (fun W' hb => Kd.C_below HCl.out (HW0.out.trans ((B1.out.trans hb).mono HB0.out))) H0.out.2.1 H0.out.1 H0.out.2.2.1 H0.out.2.2.2 (by have := HLL.out; have := show (encReq x.f0.f0 x.f0.f1 x.f0.f2 x.f0.f3 x.f0.f4 x.f0.f5).length ≤ bulkQ x.f0 from encQ_len x.f0; have := show bulkQ x.f0 = 60 + x.f0.f0.size + x.f0.f3.size + bulkN x.f0.f2 from rfl; have := encI_len x.f1; have := show bulkD x = 20 + bulkQ x.f0 from rfl; (try simp only [List.length_append]); omega)).mono ?_
  rintro e w2 ⟨rfl, hk, hb, ho⟩
  have K2 := Aside0.mk hk
  have B2 := Aside0.mk (B1.out.trans hb)
  have O2 := Aside0.mk (O1.out.trans ho)
  have R2 := Aside0.mk (ho.row R1.out (by decide) (by decide))
  have X2 := Aside0.mk (ho.row X1.out (by decide) (by decide))
  clear hk hb ho cx c0 c1 c2 c3 c4 c5
  have cx := X2.out.cell 0 _ rfl
  have c6 := R2.out.cell 6 _ rfl
  go_wp2_with fail
  go_at_call 53
  refine (w_int K2.out x.f1 H1.out (by have := HLL.out; have := show (encReq x.f0.f0 x.f0.f1 x.f0.f2 x.f0.f3 x.f0.f4 x.f0.f5).length ≤ bulkQ x.f0 from encQ_len x.f0; have := show bulkQ x.f0 = 60 + x.f0.f0.size + x.f0.f3.size + bulkN x.f0.f2 from rfl; have := encI_len x.f1; have := show bulkD x = 20 + bulkQ x.f0 from rfl; (try simp only [List.length_append]); omega)).mono ?_
  rintro e w3 ⟨rfl, hk, hb, ho⟩
  have K3 := Aside0.mk hk
  have B3 := Aside0.mk (B2.out.trans hb)
  have O3 := Aside0.mk (O2.out.trans ho)
  have R3 := Aside0.mk (ho.row R2.out (by decide) (by decide))
  have X3 := Aside0.mk (ho.row X2.out (by decide) (by decide))
  clear hk hb ho cx c6
  go_wp2_with fail
  go_end0
  have e : xs ++ encD x = xs ++ encQ x.f0 ++ encI x.f1 := by
    unfold encD
    simp only [List.append_assoc]
  rw [e]
  exact ⟨rfl, K3.out, B3.out, O3.out⟩
end Go.Proofs.Ytafmoglaockepaa.Cd
end
