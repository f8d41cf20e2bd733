import Derived.Test.YtlblleideihhmaaDoorEach
namespace Go.Proofs.YtlblleideihhmaaDoor.Each
open Go Go.RowKit Go.Proofs.SeqWith Go.Proofs.YtlblleideihhmaaDoor.UnLaw Go.Proofs.YtlblleideihhmaaDoor.Num Go.Proofs.YtlblleideihhmaaDoor.FrMore Go.Proofs.YtlblleideihhmaaDoor.Crc Go.Proofs.YtlblleideihhmaaDoor.CrcLaw Go.Proofs.YtlblleideihhmaaDoor.SealLaw Go.Proofs.YtlblleideihhmaaDoor.PB Go.Proofs.YtlblleideihhmaaDoor.Mine Go.Proofs.YtlblleideihhmaaDoorW.PrintWords Go.Proofs.YtlblleideihhmaaDoorW.PrintLast Go.Proofs.YtlblleideihhmaaDoorW.PrintMore
set_option linter.unusedVariables false
set_option linter.unusedSimpArgs false
set_option maxHeartbeats 4000000
set_option maxRecDepth 100000
theorem each_calls (A : Option Addr) (c : Nat) (l : List Int) (w : World) (hC : Kd.C (Kd.int .u8) w A l.length l) (hlc : l.length ≤ c) (hl : l.length < 140737488355328) :
    Calls Tryd.prog 46 #[.slice A l.length c] w fun e w' => ∃ A' c', e = .returned (.func (.func 74) #[] #[.pointer (some ⟨w.heap.size, 0, none⟩)]) ∧ w'.cell? ⟨w.heap.size, 0, none⟩ = some (.slice A' l.length c') ∧
      l.length ≤ c' ∧ Kd.R (Kd.int .u8) 5 w' (w.heap.size + 1) (fun _ => True) (.slice A' l.length c') l ∧ Below w.heap.size w w' := by
  have HC := Aside0.mk hC
  have HL := Aside0.mk hlc
  have HB := Aside0.mk hl
  clear hC hlc hl
  have hcell : (w.alloc (.cells #[.slice A l.length c] 22)).cell? ⟨w.heap.size, 0, none⟩ = some (.slice A l.length c) := by simp
  have hfroz : (w.alloc (.cells #[.slice A l.length c] 22)).frozen? ⟨w.heap.size, 0, none⟩ = false := by simp
  go_enter Tryd.func46, Tryd.ntmps46
  go_wp2_with fail
  go_at_call 70
  refine (bytes_Clone.calls A c l l _ (Kd.C_alloc HC.out _) HL.out (clone_ok l HB.out)).mono ?_
  rintro e w2 ⟨v, rfl, hR, hB⟩
  have hc2 := Go.cell_kept hcell (grown_of_below hB none) (fun r e => by cases e)
  have hf2 := (Go.frozen_kept hcell (grown_of_below hB none) (fun r e => by cases e)).trans hfroz
  obtain ⟨A', c', rfl, hc', hC'⟩ := Kd.R_reads hR
  rw [World.size_alloc] at hR
  have HR := Aside0.mk hR
  have HC' := Aside0.mk hc'
  have HB2 := Aside0.mk (below_then (below_alloc (Below.refl w.heap.size w) _) (by simp) hB)
  clear hR hc' hB hcell hfroz hC'
  go_wp2_with fail
  go_ret
  refine ⟨A', c', rfl, World.cell?_setCell_same' w2 ⟨w.heap.size, 0, none⟩ _ (by rw [hc2]; rfl), HC'.out, ?_, HB2.out.setCell (p := ⟨w.heap.size, 0, none⟩) (Nat.le_refl _) _⟩
  refine Kd.R_grown1 HR.out rfl (grownBy_setCell' w2 w.heap.size _) (fun h => ?_)
  have := ((Kd.R_bound HR.out).1 w.heap.size h.symm).2.1
  omega
end Go.Proofs.YtlblleideihhmaaDoor.Each
