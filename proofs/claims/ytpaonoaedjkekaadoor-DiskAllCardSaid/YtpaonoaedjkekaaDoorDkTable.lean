/- The listed variable of this seat (larder/disk.flush), read cell by cell. -/
import Derived.Test.YtpaonoaedjkekaaDoorRows
import Derived.Test.YtpaonoaedjkekaaDoorDkOps
import Derived.WalkKit
import Derived.ProofKit
import Derived.LaidMore
import Derived.OpenShut
import Derived.Stop.Joined
import Derived.ChangeSame
namespace Go.Proofs.YtpaonoaedjkekaaDoor.Table
open Go.ChangeShapes Go.WideShapes Go.ChangeAt Go.WideMaps Go.WideElems Go.RowKit Go.Proofs.YtpaonoaedjkekaaDoor.Dk Go.Proofs.YtpaonoaedjkekaaDoorW.PrintWords
set_option maxRecDepth 100000
def laid {H : Type} : List (String × DataW H) := [("larder/disk.flush", Rows.laid_larder_disk_flush)]
theorem gTab : Tryd.prog.globalNamed "larder/disk.flush" = some 0 := by kernel_rfl
theorem tTab : (Tryd.prog.globals[0]?).map (·.type) = some 83 := by kernel_rfl
theorem door_met (os : Os) (args : Array Value) : laidMetH Tryd.prog laid ((World.doorLaid Tryd.prog 400 os).forCall (fun _ _ => 0) ⟨#[], args, []⟩).memory :=
  laidMetH_of_parts3 (fuel := 8) (laidMet_of_run' 8 (by kernel_rfl) (by kernel_rfl)) (by kernel_rfl) (by kernel_rfl)
theorem flush_data {H : Type} : (Rows.laid_larder_disk_flush : DataW H) = .agg [.lit (.int .i64 (-1)), .agg ((List.replicate 128 (0 : Int)).map fun n => .lit (.int .u8 n))] := rfl
theorem fl_of_laid {W : World} (h : laidMetH Tryd.prog laid W) : Fl W := by
  rw [MakeChecks.laidMetH_plain _ _ _ (by kernel_rfl)] at h
  obtain ⟨ps, ⟨g0, t0, cs0, f0, p0, q0, hg0, ht0, hv0, hd0, _, _⟩, _, _⟩ := h
  obtain rfl := Option.some.inj (gTab.symm.trans hg0)
  obtain rfl := Option.some.inj (tTab.symm.trans ht0)
  rw [flush_data] at hd0
  obtain ⟨y0, y1, m, hx, hlen, h0, h1⟩ := trod_struct2 Tryd.underlying83 hd0
  simp only [Prod.mk.injEq, DataW.agg.injEq, List.cons.injEq, and_true] at hx
  obtain ⟨⟨hy0, hy1⟩, _⟩ := hx
  have c3 : Tryd.prog.cellsOf 3 = 1 := by kernel_rfl
  have c5 : Tryd.prog.cellsOf 5 = 1 := by kernel_rfl
  have c81 : Tryd.prog.cellsOf 81 = 128 := by kernel_rfl
  have c83 : Tryd.prog.cellsOf 83 = 129 := by kernel_rfl
  rw [c83] at hlen
  obtain ⟨k, e1, e2, _⟩ := DataW.trod_int Tryd.underlying3 h0
  obtain ⟨xs, m1, _, hx1, hlen1, hn, hel⟩ := DataW.trod_array Tryd.underlying81 h1
  have hk : k = -1 := by
    rw [e2] at hy0
    simp only [DataW.lit.injEq, Lit.int.injEq] at hy0
    exact hy0.2.symm
  intro j v hj
  rw [Nat.zero_add]
  have hcell := World.var?_cell hg0 hv0 j
  rw [hcell]
  rw [c3] at e1
  rcases j with _ | j
  · have hv : Value.int .i64 (-1) = v := Option.some.inj hj
    rw [← hv, ← hk]
    have := congrArg (fun l => l[0]?) e1
    simp only [List.getElem?_take, List.getElem?_drop] at this
    simpa using this
  · have hj1 : j < 128 := by
      have := (List.getElem?_eq_some_iff.1 hj).1
      rw [newOp_len] at this
      omega
    have hv : Value.int .u8 0 = v := by
      have h2 : (cellsB (List.replicate 128 0))[j]? = some v := hj
      rw [show cellsB (List.replicate 128 0) = List.replicate 128 (Value.int .u8 0) by simp [cellsB], List.getElem?_replicate, if_pos hj1] at h2
      exact Option.some.inj h2
    rw [← hv]
    have he := hel j hj1
    have hj2 : j < xs.length := by omega
    rw [c5, Nat.mul_one, List.getElem?_eq_getElem hj2] at he
    obtain ⟨k2, f1, f2, _⟩ := DataW.trod_int Tryd.underlying5 he
    have hk2 : k2 = 0 := by
      rw [hx1] at hy1
      simp only [DataW.agg.injEq] at hy1
      have h3 := congrArg (fun l => l[j]?) hy1
      simp only [List.getElem?_map, List.getElem?_eq_getElem hj2, Option.map_some, List.getElem?_replicate, if_pos hj1, Option.some.injEq] at h3
      rw [f2] at h3
      simp only [DataW.lit.injEq, Lit.int.injEq] at h3
      exact h3.2.symm
    rw [c81] at f1
    have := congrArg (fun l => l[0]?) f1
    simp only [List.getElem?_take, List.getElem?_drop] at this
    rw [if_pos (by decide), if_pos (by omega), Nat.add_zero, Nat.add_comm] at this
    rw [← Array.getElem?_toList, this, hk2]
    rfl
theorem pos_of_laid {W : World} (h : laidMetH Tryd.prog laid W) : 0 < W.heap.size := World.block_lt_of_cell? W ⟨0, 0, none⟩ (fl_of_laid h 0 _ rfl)
end Go.Proofs.YtpaonoaedjkekaaDoor.Table
