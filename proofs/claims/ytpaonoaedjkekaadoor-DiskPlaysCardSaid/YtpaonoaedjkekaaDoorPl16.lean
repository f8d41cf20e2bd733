/- Bytes, and a script of operations, that come in as an argument, read. The listed variable of this seat (larder/disk.flush), read cell by cell. -/
import Derived.Test.YtpaonoaedjkekaaDoorPl15
import Derived.Test.YtpaonoaedjkekaaDoorWSized
import Derived.SizedLaws
import Derived.Test.YtpaonoaedjkekaaDoorRows
import Derived.Test.YtpaonoaedjkekaaDoorPl1
import Derived.WalkKit
import Derived.ProofKit
import Derived.LaidMore
import Derived.OpenShut
import Derived.Stop.Joined
import Derived.ChangeSame
namespace Go.Proofs.YtpaonoaedjkekaaDoor.Dk
open Go Go.Deep Go.ChangeShapes Go.WideShapes Go.RowKit Go.Proofs.YtpaonoaedjkekaaDoor.PD Go.Proofs.YtpaonoaedjkekaaDoorW.PrintWords Go.Proofs.YtpaonoaedjkekaaDoorW.PrintLast Go.Proofs.YtpaonoaedjkekaaDoorW.PrintMore
set_option linter.unusedVariables false
theorem bytesArg {H : Type} {enc : TypeId × Value → H} {W : World} {base : Nat} {held : Bool} {a : Option Addr} {len cap : Nat} {d : DataW H} {ps : List MemPlace}
    (h : DataW.Trod enc Tryd.prog W base (fun _ => true) held 29 (.slice a len cap) d ps) : ∃ zs : List Int, Kd.C (Kd.int .u8) W a len zs ∧ len ≤ cap := by
  obtain ⟨fuel, hf⟩ := h
  rcases open_ints Tryd.underlying29 Tryd.underlying5 (by kernel_rfl) hf with ⟨hcs, _⟩ | ⟨x, l, c, zs, hcs, _, hl, hm, hz, _, hcell, hwz⟩
  · simp [Value.cells] at hcs
    obtain ⟨rfl, rfl, rfl⟩ := hcs
    exact ⟨[], Kd.C_nil _ _, Nat.le_refl _⟩
  · simp [Value.cells] at hcs
    obtain ⟨rfl, rfl, rfl⟩ := hcs
    have hz : zs.length = cap := by simpa using hz
    refine ⟨zs.take len, Kd.C_of_reads (d := (0 : Int)) (h1 := fun _ => rfl) ⟨by rw [List.length_take]; omega, by simp only [maxLen] at hm; omega, fun _ => ⟨x, rfl, fun i hi => ?_⟩⟩, hl⟩
    rw [hcell i (by omega)]
    congr 2
    rw [List.getD_eq_getElem?_getD, List.getD_eq_getElem?_getD, List.getElem?_take, if_pos hi]
theorem trod_struct6 {H : Type} {enc : TypeId × Value → H} {P : Program} {w : World} {base : Nat} {spare : Nat → Bool} {held : Bool} {t : TypeId} {f0 f1 f2 f3 f4 f5 : Field} {fuel : Nat} {cs : List Value} {x : DataW H × List MemPlace} (ht : P.underlying t = some (.struct #[f0, f1, f2, f3, f4, f5])) (h : DataW.trod enc P w base spare held fuel t cs = some x) :
    ∃ y0 y1 y2 y3 y4 y5 n, x.1 = .agg [y0.1, y1.1, y2.1, y3.1, y4.1, y5.1] ∧ cs.length = P.cellsOf t ∧ DataW.trod enc P w base spare held n f0.type ((cs.drop f0.offset).take (P.cellsOf f0.type)) = some y0 ∧
      DataW.trod enc P w base spare held n f1.type ((cs.drop f1.offset).take (P.cellsOf f1.type)) = some y1 ∧ DataW.trod enc P w base spare held n f2.type ((cs.drop f2.offset).take (P.cellsOf f2.type)) = some y2 ∧
      DataW.trod enc P w base spare held n f3.type ((cs.drop f3.offset).take (P.cellsOf f3.type)) = some y3 ∧ DataW.trod enc P w base spare held n f4.type ((cs.drop f4.offset).take (P.cellsOf f4.type)) = some y4 ∧
      DataW.trod enc P w base spare held n f5.type ((cs.drop f5.offset).take (P.cellsOf f5.type)) = some y5 := by
  obtain ⟨xs, n, _, rfl, hl, hlen, hf⟩ := DataW.trod_struct ht h
  match xs, hlen with
  | [y0, y1, y2, y3, y4, y5], _ => exact ⟨y0, y1, y2, y3, y4, y5, n, by simp, hl, by simpa using hf 0 f0 rfl, by simpa using hf 1 f1 rfl, by simpa using hf 2 f2 rfl, by simpa using hf 3 f3 rfl, by simpa using hf 4 f4 rfl, by simpa using hf 5 f5 rfl⟩
theorem weights_mem_all {H : Type} {P : Program} {e : TypeId} : ∀ {ds : List (DataW H)} {d : DataW H}, d ∈ ds → ∀ n ∈ d.weights P e, n ∈ DataW.weightsAll P e ds
  | d0 :: ds, d, hd, n, hn => by
    simp only [DataW.weightsAll, List.mem_append]
    rcases List.mem_cons.1 hd with rfl | hd
    · exact Or.inl hn
    · exact Or.inr (weights_mem_all hd n hn)
  | [], _, hd, _, _ => by cases hd
theorem weights_one {H : Type} {P : Program} {t : TypeId} {d : DataW H} (h : ∀ n ∈ d.weights P t, n ≤ reachBytes) : (DataW.weightsEach P [t] [d]).all (· ≤ reachBytes) = true := by
  simp only [DataW.weightsEach, List.append_nil]
  exact List.all_eq_true.2 fun n hn => by simpa using h n hn
theorem list8 {α : Type} {cs : List α} (h : cs.length = 8) : ∃ c0 c1 c2 c3 c4 c5 c6 c7, cs = [c0, c1, c2, c3, c4, c5, c6, c7] := by
  match cs, h with
  | [c0, c1, c2, c3, c4, c5, c6, c7], _ => exact ⟨c0, c1, c2, c3, c4, c5, c6, c7, rfl⟩
theorem opArg {H : Type} {enc : TypeId × Value → H} {W : World} {base : Nat} {held : Bool} {n : Nat} {ad : Addr} {i : Nat} {cs : List Value} {x : DataW H × List MemPlace} (hc : W.cells? base (ad.add (i * 8)) 8 = some cs)
    (h : DataW.trod enc Tryd.prog W base (fun _ => true) held n 69 cs = some x) (hw : ∀ n ∈ x.1.weights Tryd.prog 69, n ≤ reachBytes) : OpAt W ad i := by
  have c3 : Tryd.prog.cellsOf 3 = 1 := by kernel_rfl
  have c4 : Tryd.prog.cellsOf 4 = 1 := by kernel_rfl
  have c5 : Tryd.prog.cellsOf 5 = 1 := by kernel_rfl
  have c23 : Tryd.prog.cellsOf 23 = 1 := by kernel_rfl
  have c29 : Tryd.prog.cellsOf 29 = 1 := by kernel_rfl
  have c34 : Tryd.prog.cellsOf 34 = 3 := by kernel_rfl
  have c69 : Tryd.prog.cellsOf 69 = 8 := by kernel_rfl
  obtain ⟨y0, y1, y2, y3, y4, y5, n1, ex, hl, h0, h1, h2, h3, h4, h5⟩ := trod_struct6 Tryd.underlying69 h
  rw [c69] at hl
  obtain ⟨_, _, hat⟩ := World.cells?_some hc
  obtain ⟨v0, v1, v2, v3, v4, v5, v6, v7, rfl⟩ := list8 hl
  simp only [c3, c4, c5, c29, c34] at h0 h1 h2 h3 h4 h5
  have h0' : DataW.trod enc Tryd.prog W base (fun _ => true) held n1 3 [v0] = some y0 := h0
  have h1' : DataW.trod enc Tryd.prog W base (fun _ => true) held n1 3 [v1] = some y1 := h1
  have h2' : DataW.trod enc Tryd.prog W base (fun _ => true) held n1 5 [v2] = some y2 := h2
  have h3' : DataW.trod enc Tryd.prog W base (fun _ => true) held n1 29 [v3] = some y3 := h3
  have h4' : DataW.trod enc Tryd.prog W base (fun _ => true) held n1 4 [v4] = some y4 := h4
  have h5' : DataW.trod enc Tryd.prog W base (fun _ => true) held n1 34 [v5, v6, v7] = some y5 := h5
  clear h0 h1 h2 h3 h4 h5
  obtain ⟨z0, z1, z2, n2, ez, _, k0, k1, k2⟩ := trod_struct3 Tryd.underlying34 h5'
  simp only [c3, c23] at k0 k1 k2
  have k0' : DataW.trod enc Tryd.prog W base (fun _ => true) held n2 23 [v5] = some z0 := k0
  have k1' : DataW.trod enc Tryd.prog W base (fun _ => true) held n2 3 [v6] = some z1 := k1
  have k2' : DataW.trod enc Tryd.prog W base (fun _ => true) held n2 3 [v7] = some z2 := k2
  clear k0 k1 k2
  obtain ⟨i0, e0, _, w0⟩ := DataW.trod_int Tryd.underlying3 h0'
  obtain ⟨i1, e1, _, w1⟩ := DataW.trod_int Tryd.underlying3 h1'
  obtain ⟨i2, e2, _, w2⟩ := DataW.trod_int Tryd.underlying5 h2'
  obtain ⟨i4, e4, _⟩ := DataW.trod_bool Tryd.underlying4 h4'
  obtain ⟨i6, e6, _, w6⟩ := DataW.trod_int Tryd.underlying3 k1'
  obtain ⟨i7, e7, _, w7⟩ := DataW.trod_int Tryd.underlying3 k2'
  simp at e0 e1 e2 e4 e6 e7
  subst e0 e1 e2 e4 e6 e7
  obtain ⟨Ab, m, cb, rfl⟩ : ∃ a len cap, v3 = .slice a len cap := by
    rcases open_slice Tryd.underlying29 h3' with ⟨hcs, _⟩ | ⟨ad, l, c, _, _, _, _, hcs, _⟩
    · simp at hcs; exact ⟨_, _, _, hcs⟩
    · simp at hcs; exact ⟨_, _, _, hcs⟩
  obtain ⟨Ak, mk, ck, rfl⟩ : ∃ a len cap, v5 = .slice a len cap := by
    rcases open_slice Tryd.underlying23 k0' with ⟨hcs, _⟩ | ⟨ad, l, c, _, _, _, _, hcs, _⟩
    · simp at hcs; exact ⟨_, _, _, hcs⟩
    · simp at hcs; exact ⟨_, _, _, hcs⟩
  have t3 : DataW.Trod enc Tryd.prog W base (fun _ => true) held 29 (.slice Ab m cb) y3.1 y3.2 := ⟨n1, h3'⟩
  have t5 : DataW.Trod enc Tryd.prog W base (fun _ => true) held 23 (.slice Ak mk ck) z0.1 z0.2 := ⟨n2, k0'⟩
  rw [ex] at hw
  have hws : ∀ n ∈ DataW.weightsEach Tryd.prog [3, 3, 5, 29, 4, 34] [y0.1, y1.1, y2.1, y3.1, y4.1, y5.1], n ≤ reachBytes := by
    have : (DataW.agg [y0.1, y1.1, y2.1, y3.1, y4.1, y5.1]).weights Tryd.prog 69 = DataW.weightsEach Tryd.prog [3, 3, 5, 29, 4, 34] [y0.1, y1.1, y2.1, y3.1, y4.1, y5.1] := by
      rw [DataW.weights, Tryd.underlying69]
      rfl
    rwa [this] at hw
  have hw3 : ∀ n ∈ y3.1.weights Tryd.prog 29, n ≤ reachBytes := fun n hn => hws n (DataW.weights_mem_each (j := 3) rfl rfl n hn)
  have hw5 : ∀ n ∈ y5.1.weights Tryd.prog 34, n ≤ reachBytes := fun n hn => hws n (DataW.weights_mem_each (j := 5) rfl rfl n hn)
  have ez1 : y5.1 = .agg [z0.1, z1.1, z2.1] := congrArg Prod.fst ez
  have hwk : ∀ n ∈ z0.1.weights Tryd.prog 23, n ≤ reachBytes := fun n hn => hw5 n (by
    have : (DataW.agg [z0.1, z1.1, z2.1]).weights Tryd.prog 34 = DataW.weightsEach Tryd.prog [23, 3, 3] [z0.1, z1.1, z2.1] := by
      rw [DataW.weights, Tryd.underlying34]
      rfl
    rw [ez1, this]
    exact DataW.weights_mem_each (j := 0) rfl rfl n hn)
  have s3 := sized_ints (weights_one hw3) (j := 0) (t := 29) rfl rfl Tryd.underlying29 Tryd.underlying5 (by kernel_rfl) (B := 1) (by kernel_rfl) t3
  have s5 := sized_ints (weights_one hwk) (j := 0) (t := 23) rfl rfl Tryd.underlying23 Tryd.underlying3 (by kernel_rfl) (B := 8) (by kernel_rfl) t5
  obtain ⟨bs, hbC, hbl⟩ := bytesArg t3
  obtain ⟨keep, hkC, _, hkl⟩ := intsArg t5
  have g : ∀ j v, [Value.int .i64 i0, .int .i64 i1, .int .u8 i2, .slice Ab m cb, .bool i4, .slice Ak mk ck, .int .i64 i6, .int .i64 i7][j]? = some v → W.cell? (ad.add (i * 8 + j)) = some v := fun j v hj => by
    have hj8 : j < 8 := by
      rcases Nat.lt_or_ge j 8 with h | h
      · exact h
      · rw [List.getElem?_eq_none (by simpa using h)] at hj; cases hj
    have := hat (i := j) hj8
    rw [Go.Deep.add_add] at this
    rw [this]
    exact hj
  have g' : ∀ j v, 0 < j → [Value.int .i64 i0, .int .i64 i1, .int .u8 i2, .slice Ab m cb, .bool i4, .slice Ak mk ck, .int .i64 i6, .int .i64 i7][j]? = some v → W.cell? ⟨(ad.add (i * 8)).block, (ad.add (i * 8)).off + j, none⟩ = some v := fun j v h0 hj => by
    rw [← add_field _ _ j h0]
    exact g j v hj
  exact ⟨i0, i1, i2, i6, i7, Ab, Ak, m, cb, mk, ck, i4, bs, keep, ⟨by have := g 0 _ rfl; rwa [Nat.add_zero] at this, g' 1 _ (by decide) rfl, g' 2 _ (by decide) rfl, g' 3 _ (by decide) rfl⟩, ⟨g' 4 _ (by decide) rfl, g' 5 _ (by decide) rfl, g' 6 _ (by decide) rfl, g' 7 _ (by decide) rfl⟩,
    bounds_i64 w1, hbC, hbl, by omega, hkC, hkl, by omega⟩
theorem opsArg {H : Type} {enc : TypeId × Value → H} {W : World} {base : Nat} {held : Bool} {a : Option Addr} {len cap : Nat} {d : DataW H} {ps : List MemPlace}
    (h : DataW.Trod enc Tryd.prog W base (fun _ => true) held 59 (.slice a len cap) d ps) (hw : ∀ n ∈ d.weights Tryd.prog 59, n ≤ reachBytes) : len < 9223372036854775807 ∧ ∀ i, i < len → ∃ ad, a = some ad ∧ OpAt W ad i := by
  obtain ⟨fuel, hf⟩ := h
  have c69 : Tryd.prog.cellsOf 69 = 8 := by kernel_rfl
  rcases open_slice Tryd.underlying59 hf with ⟨hcs, _⟩ | ⟨ad, l, c, m, n, D, Pl, hcs, _, hl, hm, hmm, hx, hr⟩
  · simp [Value.cells] at hcs
    obtain ⟨rfl, rfl, rfl⟩ := hcs
    exact ⟨by decide, fun i hi => absurd hi (Nat.not_lt_zero i)⟩
  · simp [Value.cells] at hcs
    obtain ⟨rfl, rfl, rfl⟩ := hcs
    rw [if_pos rfl] at hmm
    have hd : d = .slice ((List.range len).map D) ((List.range (m - len)).map fun j => D (len + j)) := congrArg Prod.fst hx
    have hB : 1 ≤ Tryd.prog.bytesOf 69 := by decide +kernel
    have hlen : len < 9223372036854775807 := by
      have := hw ((((List.range len).map D).length + ((List.range (m - len)).map fun j => D (len + j)).length) * Tryd.prog.bytesOf 69) (by
        rw [hd, DataW.weights, Tryd.underlying59]
        exact List.mem_cons_self ..)
      have h2 := Nat.le_trans (Nat.le_mul_of_pos_right (((List.range len).map D).length + ((List.range (m - len)).map fun j => D (len + j)).length) hB) this
      rw [List.length_map, List.length_range] at h2
      have h3 : reachBytes = 140737488351232 := rfl
      omega
    refine ⟨hlen, fun i hi => ⟨ad, rfl, ?_⟩⟩
    obtain ⟨cs, hc, ht⟩ := hr i (by omega)
    rw [c69] at hc
    refine opArg hc ht (fun n hn => hw n ?_)
    rw [hd, DataW.weights, Tryd.underlying59]
    exact List.mem_cons_of_mem _ (List.mem_append_left _ (weights_mem_all (List.mem_map.2 ⟨i, List.mem_range.2 hi, rfl⟩) n hn))
end Go.Proofs.YtpaonoaedjkekaaDoor.Dk
namespace Go.Proofs.YtpaonoaedjkekaaDoor.Table
open Go.ChangeShapes Go.WideShapes Go.ChangeAt Go.WideMaps Go.WideElems Go.RowKit Go.Proofs.YtpaonoaedjkekaaDoor.Dk Go.Proofs.YtpaonoaedjkekaaDoorW.PrintWords
set_option maxRecDepth 100000
def laid {H : Type} : List (String × DataW H) := [("larder/disk.flush", Rows.laid_larder_disk_flush)]
theorem gTab : Tryd.prog.globalNamed "larder/disk.flush" = some 0 := by kernel_rfl
theorem tTab : (Tryd.prog.globals[0]?).map (·.type) = some 83 := by kernel_rfl
theorem door_met (os : Os) (args : Array Value) : laidMetH Tryd.prog laid ((World.doorLaid Tryd.prog 400 os).forCall (fun _ _ => 0) ⟨#[], args, []⟩).memory :=
  laidMetH_of_parts3 (fuel := 8) (laidMet_of_run' 8 (by kernel_rfl) (by kernel_rfl)) (by kernel_rfl) (by kernel_rfl)
theorem flush_data {H : Type} : (Rows.laid_larder_disk_flush : DataW H) = .agg [.lit (.int .i64 (-1)), .agg ((List.replicate 128 (0 : Int)).map fun n => .lit (.int .u8 n))] := rfl
theorem fl_of_laid {W : World} (h : laidMetH Tryd.prog laid W) : Fl W := by
  rw [MakeChecks.laidMetH_plain _ _ _ (by kernel_rfl)] at h
  obtain ⟨ps, ⟨g0, t0, cs0, f0, p0, q0, hg0, ht0, hv0, hd0, _, _⟩, _, _⟩ := h
  obtain rfl := Option.some.inj (gTab.symm.trans hg0)
  obtain rfl := Option.some.inj (tTab.symm.trans ht0)
  rw [flush_data] at hd0
  obtain ⟨y0, y1, m, hx, hlen, h0, h1⟩ := trod_struct2 Tryd.underlying83 hd0
  simp only [Prod.mk.injEq, DataW.agg.injEq, List.cons.injEq, and_true] at hx
  obtain ⟨⟨hy0, hy1⟩, _⟩ := hx
  have c3 : Tryd.prog.cellsOf 3 = 1 := by kernel_rfl
  have c5 : Tryd.prog.cellsOf 5 = 1 := by kernel_rfl
  have c81 : Tryd.prog.cellsOf 81 = 128 := by kernel_rfl
  have c83 : Tryd.prog.cellsOf 83 = 129 := by kernel_rfl
  rw [c83] at hlen
  obtain ⟨k, e1, e2, _⟩ := DataW.trod_int Tryd.underlying3 h0
  obtain ⟨xs, m1, _, hx1, hlen1, hn, hel⟩ := DataW.trod_array Tryd.underlying81 h1
  have hk : k = -1 := by
    rw [e2] at hy0
    simp only [DataW.lit.injEq, Lit.int.injEq] at hy0
    exact hy0.2.symm
  intro j v hj
  rw [Nat.zero_add]
  have hcell := World.var?_cell hg0 hv0 j
  rw [hcell]
  rw [c3] at e1
  rcases j with _ | j
  · have hv : Value.int .i64 (-1) = v := Option.some.inj hj
    rw [← hv, ← hk]
    have := congrArg (fun l => l[0]?) e1
    simp only [List.getElem?_take, List.getElem?_drop] at this
    simpa using this
  · have hj1 : j < 128 := by
      have := (List.getElem?_eq_some_iff.1 hj).1
      rw [newOp_len] at this
      omega
    have hv : Value.int .u8 0 = v := by
      have h2 : (cellsB (List.replicate 128 0))[j]? = some v := hj
      rw [show cellsB (List.replicate 128 0) = List.replicate 128 (Value.int .u8 0) by simp [cellsB], List.getElem?_replicate, if_pos hj1] at h2
      exact Option.some.inj h2
    rw [← hv]
    have he := hel j hj1
    have hj2 : j < xs.length := by omega
    rw [c5, Nat.mul_one, List.getElem?_eq_getElem hj2] at he
    obtain ⟨k2, f1, f2, _⟩ := DataW.trod_int Tryd.underlying5 he
    have hk2 : k2 = 0 := by
      rw [hx1] at hy1
      simp only [DataW.agg.injEq] at hy1
      have h3 := congrArg (fun l => l[j]?) hy1
      simp only [List.getElem?_map, List.getElem?_eq_getElem hj2, Option.map_some, List.getElem?_replicate, if_pos hj1, Option.some.injEq] at h3
      rw [f2] at h3
      simp only [DataW.lit.injEq, Lit.int.injEq] at h3
      exact h3.2.symm
    rw [c81] at f1
    have := congrArg (fun l => l[0]?) f1
    simp only [List.getElem?_take, List.getElem?_drop] at this
    rw [if_pos (by decide), if_pos (by omega), Nat.add_zero, Nat.add_comm] at this
    rw [← Array.getElem?_toList, this, hk2]
    rfl
theorem pos_of_laid {W : World} (h : laidMetH Tryd.prog laid W) : 0 < W.heap.size := World.block_lt_of_cell? W ⟨0, 0, none⟩ (fl_of_laid h 0 _ rfl)
end Go.Proofs.YtpaonoaedjkekaaDoor.Table
