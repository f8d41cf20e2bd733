/- The listed table, read cell by cell: what the tied rows of this seat give the walks. -/
import Derived.Test.YtlblleideihhmaaDoorRows
import Derived.Test.YtlblleideihhmaaDoorMine
import Derived.WalkKit
import Derived.ProofKit
import Derived.LaidMore
import Derived.OpenShut
import Derived.Stop.Joined
namespace Go.Proofs.YtlblleideihhmaaDoor.Table
open Go.ChangeShapes Go.WideShapes Go.ChangeAt Go.WideMaps Go.WideElems Go.RowKit Go.Proofs.YtlblleideihhmaaDoor.Mine Go.Proofs.YtlblleideihhmaaDoorW.PrintWords

def laid {H : Type} : List (String × DataW H) := [("larder/frame.table", Rows.laid_larder_frame_table)]
theorem gTab : Tryd.prog.globalNamed "larder/frame.table" = some 0 := by kernel_rfl
theorem tTab : (Tryd.prog.globals[0]?).map (·.type) = some 121 := by kernel_rfl
theorem door_met (os : Os) (args : Array Value) : laidMetH Tryd.prog laid ((World.doorLaid Tryd.prog 400 os).forCall (fun _ _ => 0) ⟨#[], args, []⟩).memory :=
  laidMetH_of_parts3 (fuel := 8) (laidMet_of_run' 8 (by kernel_rfl) (by kernel_rfl)) (by kernel_rfl) (by kernel_rfl)
theorem crcTab_data {H : Type} : (Rows.laid_larder_frame_table : DataW H) = .agg (crcTab.map fun n => .lit (.int .u32 n)) := rfl
theorem table_of_laid {W : World} (h : laidMetH Tryd.prog laid W) : Kd.C (Kd.int .u32) W (some ⟨0, 0, none⟩) 16 crcTab := by
  rw [MakeChecks.laidMetH_plain _ _ _ (by kernel_rfl)] at h
  obtain ⟨ps, ⟨g0, t0, cs0, f0, p0, q0, hg0, ht0, hv0, hd0, _, _⟩, _, _⟩ := h
  obtain rfl := Option.some.inj (gTab.symm.trans hg0)
  obtain rfl := Option.some.inj (tTab.symm.trans ht0)
  rw [crcTab_data] at hd0
  obtain ⟨xs, m1, rfl, hx1, hlen, hn, hel⟩ := DataW.trod_array Tryd.underlying121 hd0
  have c1 : Tryd.prog.cellsOf 23 = 1 := by kernel_rfl
  have c16 : Tryd.prog.cellsOf 121 = 16 := by kernel_rfl
  rw [c16] at hlen
  simp only [Prod.mk.injEq, DataW.agg.injEq] at hx1
  refine Kd.C_of_reads (d := (0 : Int)) (h1 := fun _ => rfl) ⟨rfl, by decide, fun _ => ⟨_, rfl, fun j hj => ?_⟩⟩
  have hj2 : j < xs.length := by omega
  have hcell := World.var?_cell hg0 hv0 j
  have he := hel j hj
  rw [c1, Nat.mul_one, List.getElem?_eq_getElem hj2] at he
  have hcl : j < cs0.toList.length := by omega
  have htk : (cs0.toList.drop j).take 1 = [cs0.toList[j]] := by
    rw [List.drop_eq_getElem_cons hcl]
    simp
  rw [htk] at he
  obtain ⟨k, e1, e2, _⟩ := DataW.trod_int Tryd.underlying23 he
  have hk : k = crcTab.getD j 0 := by
    have h3 := congrArg (fun l => l[j]?) hx1.1
    simp only [List.getElem?_map, List.getElem?_eq_getElem hj2, Option.map_some] at h3
    have hjc : j < crcTab.length := by rw [crcTab_length]; omega
    rw [List.getElem?_eq_getElem hjc] at h3
    simp only [Option.map_some, Option.some.injEq] at h3
    rw [e2] at h3
    simp only [DataW.lit.injEq, Lit.int.injEq] at h3
    rw [List.getD_eq_getElem?_getD, List.getElem?_eq_getElem hjc]
    simpa using h3.2.symm
  have hc0 : cs0[j]? = some (.int .u32 k) := by
    have h5 : cs0.toList[j] = .int .u32 k := by simpa using e1
    have h6 : cs0.toList[j]? = some (.int .u32 k) := by rw [List.getElem?_eq_getElem hcl, h5]
    simpa using h6
  rw [hc0, hk] at hcell
  rw [Go.Proofs.YtlblleideihhmaaDoorW.PrintWords.add_plain]
  exact hcell
end Go.Proofs.YtlblleideihhmaaDoor.Table
