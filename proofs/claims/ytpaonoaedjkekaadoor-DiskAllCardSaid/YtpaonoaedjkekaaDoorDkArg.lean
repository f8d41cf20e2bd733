/- Puts that come in as an argument, read. -/
import Derived.Test.YtpaonoaedjkekaaDoorDkLaid
import Derived.Deep.Slices
import Derived.Deep.Strs
import Derived.ChangeSame
import Derived.OpenShut
import Derived.Lib.SmallJoins
namespace Go.Proofs.YtpaonoaedjkekaaDoor.Dk
open Go Go.Deep Go.ChangeShapes Go.WideShapes Go.RowKit Go.Proofs.YtpaonoaedjkekaaDoor.PD Go.Proofs.YtpaonoaedjkekaaDoorW.PrintWords Go.Proofs.YtpaonoaedjkekaaDoorW.PrintLast Go.Proofs.YtpaonoaedjkekaaDoorW.PrintMore
set_option linter.unusedVariables false
theorem putsArg {H : Type} {enc : TypeId × Value → H} {W : World} {base : Nat} {held : Bool} {a : Option Addr} {len cap : Nat} {d : DataW H} {ps : List MemPlace}
    (h : DataW.Trod enc Tryd.prog W base (fun _ => true) held 22 (.slice a len cap) d ps) : ∃ puts : List S37, Kd.C k37 W a len puts ∧ Puts puts ∧ len ≤ cap := by
  obtain ⟨fuel, hf⟩ := h
  have c3 : Tryd.prog.cellsOf 3 = 1 := by kernel_rfl
  have c4 : Tryd.prog.cellsOf 4 = 1 := by kernel_rfl
  have c5 : Tryd.prog.cellsOf 5 = 1 := by kernel_rfl
  have c37 : Tryd.prog.cellsOf 37 = 3 := by kernel_rfl
  rcases open_slice Tryd.underlying22 hf with ⟨hcs, _⟩ | ⟨ad, l, c, m, n, D, Pl, hcs, _, hl, hm, hmm, _, hr⟩
  · simp [Value.cells] at hcs
    obtain ⟨rfl, rfl, rfl⟩ := hcs
    exact ⟨[], Kd.C_nil _ _, fun _ hp => (by cases hp), Nat.le_refl _⟩
  · simp [Value.cells] at hcs
    obtain ⟨rfl, rfl, rfl⟩ := hcs
    rw [if_pos rfl] at hmm
    have hcell : ∀ i, i < len → ∃ p : S37, W.cell? (ad.add (i * 3)) = some (.int .i64 p.f0) ∧ W.cell? (ad.add (i * 3 + 1)) = some (.int .u8 p.f1) ∧ W.cell? (ad.add (i * 3 + 2)) = some (.bool p.f2) ∧ -9223372036854775808 ≤ p.f0 ∧ p.f0 ≤ 9223372036854775807 := fun i hi => by
      obtain ⟨cs, hc, ht⟩ := hr i (by omega)
      rw [c37] at hc
      obtain ⟨y0, y1, y2, n', _, hlen, h0, h1, h2⟩ := trod_struct3 Tryd.underlying37 ht
      rw [c37] at hlen
      obtain ⟨_, _, hat⟩ := World.cells?_some hc
      match cs, hlen with
      | [v0, v1, v2], _ =>
        simp only [c3, c4, c5] at h0 h1 h2
        obtain ⟨k0, e0, _, w0⟩ := DataW.trod_int Tryd.underlying3 h0
        obtain ⟨k1, e1, _, w1⟩ := DataW.trod_int Tryd.underlying5 h1
        obtain ⟨k2, e2, _⟩ := DataW.trod_bool Tryd.underlying4 h2
        simp at e0 e1 e2
        subst e0
        subst e1
        subst e2
        have g0 := hat (i := 0) (by decide)
        have g1 := hat (i := 1) (by decide)
        have g2 := hat (i := 2) (by decide)
        rw [Go.Deep.add_add, Nat.add_zero] at g0
        rw [Go.Deep.add_add] at g1 g2
        exact ⟨⟨k0, k1, k2⟩, by simpa using g0, by simpa using g1, by simpa using g2, bounds_i64 w0⟩
    obtain ⟨f, hfun⟩ : ∃ f : Nat → S37, ∀ i, i < len → W.cell? (ad.add (i * 3)) = some (.int .i64 (f i).f0) ∧ W.cell? (ad.add (i * 3 + 1)) = some (.int .u8 (f i).f1) ∧ W.cell? (ad.add (i * 3 + 2)) = some (.bool (f i).f2) ∧ -9223372036854775808 ≤ (f i).f0 ∧ (f i).f0 ≤ 9223372036854775807 :=
      ⟨fun i => if h : i < len then (hcell i h).choose else z37, fun i hi => by simp only [dif_pos hi]; exact (hcell i hi).choose_spec⟩
    refine ⟨(List.range len).map f, ⟨by simp, by simp only [maxLen] at hm; omega, fun _ => ⟨ad, rfl, fun j p hj => ?_⟩⟩, fun p hp => ?_, hl⟩
    · obtain ⟨hj1, hj2⟩ := List.getElem?_eq_some_iff.1 hj
      have hjl : j < len := by simpa using hj1
      simp only [List.getElem_map, List.getElem_range] at hj2
      subst hj2
      obtain ⟨e0, e1, e2, _⟩ := hfun j hjl
      refine ⟨_, by rfl, k37_mk W (f j), fun i u hu => ?_⟩
      show W.cell? (ad.add (j * 3 + i)) = _
      match i, hu with
      | 0, hu => simp at hu; subst hu; rw [Nat.add_zero]; exact e0
      | 1, hu => simp at hu; subst hu; exact e1
      | 2, hu => simp at hu; subst hu; exact e2
      | i + 3, hu => simp at hu
    · obtain ⟨i, hi, rfl⟩ := List.mem_map.1 hp
      exact (hfun i (List.mem_range.1 hi)).2.2.2
theorem intsArg {H : Type} {enc : TypeId × Value → H} {W : World} {base : Nat} {held : Bool} {a : Option Addr} {len cap : Nat} {d : DataW H} {ps : List MemPlace}
    (h : DataW.Trod enc Tryd.prog W base (fun _ => true) held 23 (.slice a len cap) d ps) : ∃ zs : List Int, Kd.C (Kd.int .i64) W a len zs ∧ (∀ v ∈ zs, (Lit.int .i64 v).wf = true) ∧ len ≤ cap := by
  obtain ⟨fuel, hf⟩ := h
  rcases open_ints Tryd.underlying23 Tryd.underlying3 (by kernel_rfl) hf with ⟨hcs, _⟩ | ⟨x, l, c, zs, hcs, _, hl, hm, hz, _, hcell, hwz⟩
  · simp [Value.cells] at hcs
    obtain ⟨rfl, rfl, rfl⟩ := hcs
    exact ⟨[], Kd.C_nil _ _, fun _ hp => (by cases hp), Nat.le_refl _⟩
  · simp [Value.cells] at hcs
    obtain ⟨rfl, rfl, rfl⟩ := hcs
    have hz : zs.length = cap := by simpa using hz
    refine ⟨zs.take len, Kd.C_of_reads (d := (0 : Int)) (h1 := fun _ => rfl) ⟨by rw [List.length_take]; omega, by simp only [maxLen] at hm; omega, fun _ => ⟨x, rfl, fun i hi => ?_⟩⟩, fun v hv => hwz v (List.mem_of_mem_take hv), hl⟩
    rw [hcell i (by omega)]
    congr 2
    rw [List.getD_eq_getElem?_getD, List.getD_eq_getElem?_getD, List.getElem?_take, if_pos hi]
open Go.Joins in
theorem crashArg {H : Type} {enc : TypeId × Value → H} {W : World} {base b0 : Nat} {r : Reach} {held : Bool} {v : Value} {d : DataW H} {ps : List MemPlace} (hv : Value.okWide Tryd.prog W r b0 34 v)
    (h : DataW.Trod enc Tryd.prog W base (fun _ => true) held 34 v d ps) : ∃ (a : Option Addr) (len cap : Nat) (torn y : Int) (zs : List Int), v = .agg #[.slice a len cap, .int .i64 torn, .int .i64 y] ∧ Kd.C (Kd.int .i64) W a len zs ∧ (∀ v ∈ zs, (Lit.int .i64 v).wf = true) ∧ len ≤ cap ∧ (Lit.int .i64 torn).wf = true ∧ (Lit.int .i64 y).wf = true := by
  obtain ⟨v0, v1, v2, y0, y1, y2, n, rfl, _, _, h0, h1, h2⟩ := open_agg3 Tryd.underlying34 (by kernel_rfl) (by kernel_rfl) hv h
  obtain ⟨k1, e1, _, w1⟩ := DataW.trod_int Tryd.underlying3 h1
  obtain ⟨k2, e2, _, w2⟩ := DataW.trod_int Tryd.underlying3 h2
  simp at e1 e2
  subst e1
  subst e2
  obtain ⟨a, len, cap, rfl⟩ : ∃ a len cap, v0 = .slice a len cap := by
    rcases open_slice Tryd.underlying23 h0 with ⟨hcs, _⟩ | ⟨ad, l, c, _, _, _, _, hcs, _⟩
    · simp at hcs; exact ⟨_, _, _, hcs⟩
    · simp at hcs; exact ⟨_, _, _, hcs⟩
  obtain ⟨zs, hC, hb, hl⟩ := intsArg (len := len) (cap := cap) (a := a) (d := y0.1) (ps := y0.2) ⟨n, h0⟩
  exact ⟨a, len, cap, k1, k2, zs, rfl, hC, hb, hl, w1, w2⟩
end Go.Proofs.YtpaonoaedjkekaaDoor.Dk
