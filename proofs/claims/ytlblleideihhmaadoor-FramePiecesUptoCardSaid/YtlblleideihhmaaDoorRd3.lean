/- The Reader of frames: What larderlaw01.FramePieces computes, walked: true, for bytes and cuts of at most 1048576 each. -/
import Derived.Test.YtlblleideihhmaaDoorEach
import Derived.Test.YtlblleideihhmaaDoorScans
import Derived.Test.YtlblleideihhmaaDoorRd2
import Derived.Test.YtlblleideihhmaaDoorPBx
namespace Go.Proofs.YtlblleideihhmaaDoor.Each
open Go Go.RowKit Go.Proofs.SeqWith Go.Proofs.YtlblleideihhmaaDoor.UnLaw Go.Proofs.YtlblleideihhmaaDoor.Num Go.Proofs.YtlblleideihhmaaDoor.FrMore Go.Proofs.YtlblleideihhmaaDoor.Crc Go.Proofs.YtlblleideihhmaaDoor.CrcLaw Go.Proofs.YtlblleideihhmaaDoor.SealLaw Go.Proofs.YtlblleideihhmaaDoor.PB Go.Proofs.YtlblleideihhmaaDoor.Mine Go.Proofs.YtlblleideihhmaaDoorW.PrintWords Go.Proofs.YtlblleideihhmaaDoorW.PrintLast Go.Proofs.YtlblleideihhmaaDoorW.PrintMore
set_option linter.unusedVariables false
set_option linter.unusedSimpArgs false
set_option maxHeartbeats 4000000
set_option maxRecDepth 100000
theorem each_calls (A : Option Addr) (c : Nat) (l : List Int) (w : World) (hC : Kd.C (Kd.int .u8) w A l.length l) (hlc : l.length ≤ c) (hl : l.length < 140737488355328) :
    Calls Tryd.prog 46 #[.slice A l.length c] w fun e w' => ∃ A' c', e = .returned (.func (.func 74) #[] #[.pointer (some ⟨w.heap.size, 0, none⟩)]) ∧ w'.cell? ⟨w.heap.size, 0, none⟩ = some (.slice A' l.length c') ∧
      l.length ≤ c' ∧ Kd.R (Kd.int .u8) 5 w' (w.heap.size + 1) (fun _ => True) (.slice A' l.length c') l ∧ Below w.heap.size w w' := by
  have HC := Aside0.mk hC
  have HL := Aside0.mk hlc
  have HB := Aside0.mk hl
  clear hC hlc hl
  have hcell : (w.alloc (.cells #[.slice A l.length c] 22)).cell? ⟨w.heap.size, 0, none⟩ = some (.slice A l.length c) := by simp
  have hfroz : (w.alloc (.cells #[.slice A l.length c] 22)).frozen? ⟨w.heap.size, 0, none⟩ = false := by simp
  go_enter Tryd.func46, Tryd.ntmps46
  go_wp2_with fail
  go_at_call 70
  refine (bytes_Clone.calls A c l l _ (Kd.C_alloc HC.out _) HL.out (clone_ok l HB.out)).mono ?_
  rintro e w2 ⟨v, rfl, hR, hB⟩
  have hc2 := Go.cell_kept hcell (grown_of_below hB none) (fun r e => by cases e)
  have hf2 := (Go.frozen_kept hcell (grown_of_below hB none) (fun r e => by cases e)).trans hfroz
  obtain ⟨A', c', rfl, hc', hC'⟩ := Kd.R_reads hR
  rw [World.size_alloc] at hR
  have HR := Aside0.mk hR
  have HC' := Aside0.mk hc'
  have HB2 := Aside0.mk (below_then (below_alloc (Below.refl w.heap.size w) _) (by simp) hB)
  clear hR hc' hB hcell hfroz hC'
  go_wp2_with fail
  go_ret
  refine ⟨A', c', rfl, World.cell?_setCell_same' w2 ⟨w.heap.size, 0, none⟩ _ (by rw [hc2]; rfl), HC'.out, ?_, HB2.out.setCell (p := ⟨w.heap.size, 0, none⟩) (Nat.le_refl _) _⟩
  refine Kd.R_grown1 HR.out rfl (grownBy_setCell' w2 w.heap.size _) (fun h => ?_)
  have := ((Kd.R_bound HR.out).1 w.heap.size h.symm).2.1
  omega
end Go.Proofs.YtlblleideihhmaaDoor.Each
namespace Go.Proofs.YtlblleideihhmaaDoor.Each
open Go Go.RowKit Go.Proofs.SeqWith Go.Proofs.YtlblleideihhmaaDoor.UnLaw Go.Proofs.YtlblleideihhmaaDoor.Num Go.Proofs.YtlblleideihhmaaDoor.FrMore Go.Proofs.YtlblleideihhmaaDoor.Crc Go.Proofs.YtlblleideihhmaaDoor.CrcLaw Go.Proofs.YtlblleideihhmaaDoor.SealLaw Go.Proofs.YtlblleideihhmaaDoor.PB Go.Proofs.YtlblleideihhmaaDoor.Mine Go.Proofs.YtlblleideihhmaaDoorW.PrintWords Go.Proofs.YtlblleideihhmaaDoorW.PrintLast Go.Proofs.YtlblleideihhmaaDoorW.PrintMore
set_option linter.unusedVariables false
set_option linter.unusedSimpArgs false
set_option maxHeartbeats 4000000
set_option maxRecDepth 100000
section
variable (l : List Int) (hb : IsBytes l) (hl : l.length < 4398046511104) (A : Option Addr) (c : Nat) (W : World) (hC : Kd.C (Kd.int .u8) W A l.length l) (hc : l.length ≤ c)
include hl hC hc
theorem lent_at : Calls Tryd.prog 22 #[.slice A l.length c] W fun e w' => ∃ A' c', e = .returned (.slice A' l.length c') ∧ l.length ≤ c' ∧ Kd.R (Kd.int .u8) 5 w' W.heap.size (fun _ => True) (.slice A' l.length c') l ∧
    Kd.C (Kd.int .u8) w' A' (l ++ marks9).length (l ++ marks9) ∧ (l ++ marks9).length ≤ c' ∧ Below W.heap.size W w' := by
  refine (larderref01_Lent.calls A c l l W hC hc (by rw [larderref01_Lent.f, if_pos (by omega)])).mono ?_
  rintro e w' ⟨v, rfl, hR, ⟨hC2, hc2⟩, hB⟩
  obtain ⟨A', c', rfl, hc', _⟩ := Kd.R_reads hR
  exact ⟨A', c', rfl, hc', hR, hC2, hc2, hB⟩
include hb
theorem scan_at (hT : Kd.C (Kd.int .u32) W (some ⟨0, 0, none⟩) 16 crcTab) : Calls Tryd.prog 42 #[.slice A l.length c] W fun e w' => ∃ A' c', e = .returned (.tuple #[.slice A' (frames l.length l 0).length c', .int .i64 (ends l.length l 0).1, .int .i64 (ends l.length l 0).2]) ∧
    (frames l.length l 0).length ≤ c' ∧ Kd.C (Kd.slice 5 (Kd.int .u8)) w' A' (frames l.length l 0).length ((frames l.length l 0).map (·.2)) ∧ Below W.heap.size W w' := by
  refine (frame_Scan.calls (11 * l.length + 61) A c l _ _ _ W hC hc hT (scans l hb hl _ (by omega)).1).mono ?_
  rintro e w' ⟨v, rfl, hR, hB⟩
  obtain ⟨A', c', rfl, hc', hC'⟩ := Kd.S_reads hR
  rw [List.length_map] at hc' hC' ⊢
  exact ⟨A', c', rfl, hc', hC', hB⟩
theorem refScan_at : Calls Tryd.prog 43 #[.slice A l.length c] W fun e w' => ∃ A' c', e = .returned (.tuple #[.slice A' (frames l.length l 0).length c', .int .i64 (ends l.length l 0).1, .int .i64 (ends l.length l 0).2]) ∧
    (frames l.length l 0).length ≤ c' ∧ Kd.C (Kd.slice 5 (Kd.int .u8)) w' A' (frames l.length l 0).length ((frames l.length l 0).map (·.2)) ∧ Below W.heap.size W w' := by
  refine (larderref01_Scan.calls (11 * l.length + 61) A c l _ _ _ W hC hc (scans l hb hl _ (by omega)).2.2.1).mono ?_
  rintro e w' ⟨v, rfl, hR, hB⟩
  obtain ⟨A', c', rfl, hc', hC'⟩ := Kd.N_reads hR
  rw [List.length_map] at hc' hC' ⊢
  exact ⟨A', c', rfl, hc', hC', hB⟩
theorem row_at : Calls Tryd.prog 45 #[.slice A l.length c] W fun e w' => ∃ A' c', e = .returned (.tuple #[.slice A' (frames l.length l 0).length c', .int .i64 (ends l.length l 0).1, .int .i64 (ends l.length l 0).2]) ∧
    (frames l.length l 0).length ≤ c' ∧ Kd.C k66 w' A' (frames l.length l 0).length ((frames l.length l 0).map (fun x => (⟨x.1, x.2⟩ : S66))) ∧
    Kd.S k66 66 w' W.heap.size (fun _ => True) (.slice A' (frames l.length l 0).length c') ((frames l.length l 0).map (fun x => (⟨x.1, x.2⟩ : S66))) ∧ Below W.heap.size W w' := by
  refine (larderref01_Row.calls (11 * l.length + 61) A c l _ _ _ W hC hc (scans l hb hl _ (by omega)).2.1).mono ?_
  rintro e w' ⟨v, rfl, hR, hB⟩
  obtain ⟨A', c', rfl, hc', hC'⟩ := Kd.S_reads hR
  rw [List.length_map] at hc' hC' hR ⊢
  exact ⟨A', c', rfl, hc', hC', hR, hB⟩
end
theorem kept_at (l : List Int) (A : Option Addr) (c : Nat) (A1 : Option Addr) (c1 : Nat) (W : World) (hC : Kd.C (Kd.int .u8) W A l.length l) (hc : l.length ≤ c) (hC1 : Kd.C (Kd.int .u8) W A1 l.length l) (hc1 : l.length ≤ c1)
    (hs : Kd.C (Kd.int .u8) W A (l ++ marks9).length (l ++ marks9)) (hs2 : (l ++ marks9).length ≤ c) : Calls Tryd.prog 27 #[.slice A l.length c, .slice A1 l.length c1] W fun e w' => e = .returned (.bool true) ∧ Below W.heap.size W w' := by
  refine (larderref01_Kept.calls A c l A1 c1 l true W hC hc hC1 hc1 hs hs2 (by rw [larderref01_Kept.f, if_pos rfl])).mono ?_
  rintro e w' ⟨rfl, h⟩
  obtain ⟨n, rfl⟩ := h.out
  exact ⟨rfl, pw_below_drewN (Below.refl _ _) n⟩
theorem same_at (l : List Int) (hb : IsBytes l) (hl : l.length < 4398046511104) (A : Option Addr) (c : Nat) (A1 : Option Addr) (c1 : Nat) (W : World) (hC : Kd.C (Kd.slice 5 (Kd.int .u8)) W A (frames l.length l 0).length ((frames l.length l 0).map (·.2))) (hc : (frames l.length l 0).length ≤ c)
    (hC1 : Kd.C (Kd.slice 5 (Kd.int .u8)) W A1 (frames l.length l 0).length ((frames l.length l 0).map (·.2))) (hc1 : (frames l.length l 0).length ≤ c1) :
    Calls Tryd.prog 44 #[.slice A (frames l.length l 0).length c, .slice A1 (frames l.length l 0).length c1] W fun e w' => e = .returned (.bool true) ∧ Below W.heap.size W w' := by
  have h := larderlaw01_same.calls (11 * l.length + 61) A c ((frames l.length l 0).map (·.2)) A1 c1 ((frames l.length l 0).map (·.2)) true W (by rw [List.length_map]; exact hC) (by rw [List.length_map]; exact hc) (by rw [List.length_map]; exact hC1) (by rw [List.length_map]; exact hc1) (scans l hb hl _ (by omega)).2.2.2
  rw [List.length_map] at h
  refine h.mono ?_
  rintro e w' ⟨rfl, h⟩
  obtain ⟨n, rfl⟩ := h.out
  exact ⟨rfl, pw_below_drewN (Below.refl _ _) n⟩
end Go.Proofs.YtlblleideihhmaaDoor.Each
namespace Go.Proofs.YtlblleideihhmaaDoor.Rd
open Go Go.RowKit Go.Proofs.YtlblleideihhmaaDoor.Each Go.Proofs.YtlblleideihhmaaDoor.UnLaw Go.Proofs.YtlblleideihhmaaDoor.Num Go.Proofs.YtlblleideihhmaaDoor.FrMore Go.Proofs.YtlblleideihhmaaDoor.Crc Go.Proofs.YtlblleideihhmaaDoor.CrcLaw Go.Proofs.YtlblleideihhmaaDoor.SealLaw Go.Proofs.YtlblleideihhmaaDoor.PB Go.Proofs.YtlblleideihhmaaDoor.Mine Go.Proofs.YtlblleideihhmaaDoorW.PrintWords Go.Proofs.YtlblleideihhmaaDoorW.PrintLast Go.Proofs.YtlblleideihhmaaDoorW.PrintMore
set_option linter.unusedVariables false
set_option linter.unusedSimpArgs false
set_option maxHeartbeats 4000000
set_option maxRecDepth 100000
/-- The loads of some bytes; what ends them. -/
def FR (b : List Int) : List (List Int) := (frames b.length b 0).map (·.2)
def EN (b : List Int) : Int × Int := ends b.length b 0
theorem FR_len (b : List Int) : (FR b).length = (frames b.length b 0).length := by simp [FR]
theorem FR_le (b : List Int) : (FR b).length ≤ b.length := by
  have := frames_len b b.length 0 (by omega) (by omega)
  rw [FR_len]; omega
/-- A Reader tells what Scan tells. -/
theorem tells (b : List Int) (hb : IsBytes b) : (run fresh b).loads = FR b ∧ (run fresh b).err = (if (EN b).1 = 3 then 0 else (EN b).1) ∧ (run fresh b).place = (if (EN b).1 = 3 then 0 else (EN b).2) ∧
    (if (run fresh b).err = 0 ∧ (run fresh b).frm < (run fresh b).all then (3 : Int) else (run fresh b).err) = (EN b).1 ∧ (if (run fresh b).err = 0 ∧ (run fresh b).frm < (run fresh b).all then ((run fresh b).all : Int) else (run fresh b).place) = (EN b).2 := by
  have h := told b hb b.length fresh 0 (by omega) (by omega) ⟨rfl, rfl, rfl, rfl, rfl, rfl, rfl, rfl⟩ rfl
  rw [List.drop_zero] at h
  refine ⟨by rw [h.1]; rfl, ?_⟩
  have h2 := h.2
  have e0 : ((0 : Nat) : Int) = 0 := rfl
  rw [e0] at h2
  rcases h2 with ⟨h1, h2, h3, h4, h5, h6⟩ | ⟨h1, h2, h3, h4, h5, h6⟩ | ⟨h1, h2, h3, h4⟩
  · have p1 : (EN b).1 = 0 := h1
    have p2 : (EN b).2 = 0 := h6
    rw [p1, p2, h2, h3, h4, h5]
    simp [fresh]
  · have p1 : (EN b).1 = 3 := h1
    have p2 : (EN b).2 = b.length := h6
    have p5 : (run fresh b).err = 0 ∧ (run fresh b).frm < (run fresh b).all := ⟨h2, by omega⟩
    rw [if_pos p5, if_pos p5, p1, p2, h2, h3, h4]
    exact ⟨rfl, rfl, rfl, rfl⟩
  · have p1 : (EN b).1 ≠ 0 := h1
    have p2 : (EN b).1 ≠ 3 := h2
    have p3 : (run fresh b).err = (EN b).1 := h3
    have p4 : (run fresh b).place = (EN b).2 := h4
    have p5 : ¬ ((EN b).1 = 0 ∧ (run fresh b).frm < (run fresh b).all) := fun h => p1 h.1
    rw [p3, p4, if_neg p2, if_neg p2, if_neg p5, if_neg p5]
    exact ⟨rfl, rfl, rfl, rfl⟩
/-- Fed in two pieces. -/
theorem run_piece (b : List Int) (i j : Nat) (hij : i ≤ j) : run fresh (b.take j) = (run { run fresh (b.take i) with loads := [] } ((b.take j).drop i)).on (run fresh (b.take i)).loads := by
  have e1 : b.take j = b.take i ++ (b.take j).drop i := by
    conv => lhs; rw [← List.take_append_drop i (b.take j)]
    rw [List.take_take, Nat.min_eq_left hij]
  have e2 : run fresh (b.take i) = ({ run fresh (b.take i) with loads := [] } : St).on (run fresh (b.take i)).loads := by simp [St.on]
  conv => lhs; rw [e1, run_append, e2]
  rw [run_on]
theorem same_any (xs : List (List Int)) (hx : xs.length < 4398046511104) (A : Option Addr) (c : Nat) (A1 : Option Addr) (c1 : Nat) (W : World) (hC : Kd.C (Kd.slice 5 (Kd.int .u8)) W A xs.length xs) (hc : xs.length ≤ c) (hC1 : Kd.C (Kd.slice 5 (Kd.int .u8)) W A1 xs.length xs) (hc1 : xs.length ≤ c1) :
    Calls Tryd.prog 44 #[.slice A xs.length c, .slice A1 xs.length c1] W fun e w' => e = .returned (.bool true) ∧ Below W.heap.size W w' := by
  have h := larderlaw01_same.calls (xs.length + 2) A c xs A1 c1 xs true W hC hc hC1 hc1 (by
    unfold larderlaw01_same.f
    rw [if_pos rfl]
    exact same_l0 xs hx xs.length _ 0 (by omega) (by omega) (by omega))
  refine h.mono ?_
  rintro e w' ⟨rfl, h⟩
  obtain ⟨n, rfl⟩ := h.out
  exact ⟨rfl, pw_below_drewN (Below.refl _ _) n⟩
theorem within_at (a M : Int) (h0 : -9223372036854775808 ≤ a) (h1 : a ≤ 9223372036854775807) (hM : 0 < M) (hM2 : M < 4611686018427387904) (W : World) :
    Calls Tryd.prog 30 #[.int .i64 a, .int .i64 M] W fun e w' => ∃ t : Nat, (t : Int) < M ∧ e = .returned (.int .i64 (t : Int)) ∧ Drawn0 W w' := by
  have hx : ∃ t : Nat, (t : Int) < M ∧ larderlaw01_within.f a M = some (t : Int) := by
    unfold larderlaw01_within.f
    rw [if_neg (by omega)]
    have h2 := Int.tmod_lt_of_pos a hM
    have h3 : -M < Int.tmod a M := by
      have := Int.tmod_lt_of_pos (-a) hM
      rw [Int.neg_tmod] at this
      omega
    by_cases h4 : Int.tmod a M < 0
    · rw [if_pos h4, w64 (by omega) (by omega)]
      exact ⟨(Int.tmod a M + M).toNat, by omega, by congr 1; omega⟩
    · rw [if_neg h4]
      exact ⟨(Int.tmod a M).toNat, by omega, by congr 1; omega⟩
  obtain ⟨t, ht, hf⟩ := hx
  refine (larderlaw01_within.calls a M t W hf).mono ?_
  rintro e w' h
  exact ⟨t, ht, h⟩
theorem scan_any (b : List Int) (hb : IsBytes b) (hl : b.length < 4398046511104) (A : Option Addr) (c : Nat) (W : World) (hC : Kd.C (Kd.int .u8) W A b.length b) (hc : b.length ≤ c) (hT : Kd.C (Kd.int .u32) W (some ⟨0, 0, none⟩) 16 crcTab) :
    Calls Tryd.prog 42 #[.slice A b.length c] W fun e w' => ∃ A' c', e = .returned (.tuple #[.slice A' (FR b).length c', .int .i64 (EN b).1, .int .i64 (EN b).2]) ∧ (FR b).length ≤ c' ∧ Kd.C (Kd.slice 5 (Kd.int .u8)) w' A' (FR b).length (FR b) ∧ Below W.heap.size W w' := by
  have h := scan_at b hb hl A c W hC hc hT
  rw [← FR_len] at h
  exact h
theorem pieces_walk (A : Option Addr) (c : Nat) (b : List Int) (M : Option Addr) (cm : Nat) (cuts : List Int) (w : World) (hC : Kd.C (Kd.int .u8) w A b.length b) (hc : b.length ≤ c) (hb : IsBytes b) (hbl : b.length ≤ 1048576)
    (hM : Kd.C (Kd.int .i64) w M cuts.length cuts) (hcm : cuts.length ≤ cm) (hrl : cuts.length ≤ 1048576) (hcuts : ∀ x ∈ cuts, -9223372036854775808 ≤ x ∧ x ≤ 9223372036854775807) (hT : Kd.C (Kd.int .u32) w (some ⟨0, 0, none⟩) 16 crcTab) (h0 : 0 < w.heap.size) :
    Calls Tryd.prog 19 #[.slice A b.length c, .slice M cuts.length cm] w fun e w' => e = .returned (.bool true) ∧ Below w.heap.size w w' := by
  have HT := Aside0.mk hT
  have HC := Aside0.mk hC
  have HL := Aside0.mk hc
  have HBY := Aside0.mk hb
  have HM := Aside0.mk hM
  have HCM := Aside0.mk hcm
  have HR := Aside0.mk hcuts
  have HBL := Aside0.mk hbl
  have HRL := Aside0.mk hrl
  have H0 := Aside0.mk h0
  clear hT hC hc hb hM hcm hcuts hbl hrl h0
  go_enter Tryd.func19, Tryd.ntmps19
  go_wp2_with fail
  go_at_call 42
  refine (scan_any b HBY.out (by have := HBL.out; omega) A c w HC.out HL.out HT.out).mono ?_
  rintro e W1 ⟨A5, c5, rfl, hc5, hC5, hB1⟩
  have HC5 := Aside0.mk hC5
  have HL5 := Aside0.mk hc5
  have HT1 := Aside0.mk (Kd.C_below HT.out hB1)
  have HC1 := Aside0.mk (Kd.C_below HC.out hB1)
  have HM1 := Aside0.mk (Kd.C_below HM.out hB1)
  have HB1 := Aside0.mk hB1
  have H1 := Aside0.mk (Nat.lt_of_lt_of_le H0.out hB1.size)
  clear hc5 hC5 hB1 HC HM HT H0
  go_wp2_with fail
  go_at_call 47
  refine (new_at W1).mono ?_
  rintro e W2 ⟨rfl, hR, hB⟩
  have HR2 := Aside0.mk hR
  have HB2 := Aside0.mk hB
  clear hR hB
  have htd := tells (b.take 0) (by rw [List.take_zero]; intro x hx; simp at hx)
  go_wp2_with fail
  go_loopw [9, 10, 11] (fun v9 v10 v11 wr => ∃ (i fr : Nat) (vp : Value), v11 = .int .i64 (i : Int) ∧ v10 = .int .i64 (fr : Int) ∧ Aside0 (i ≤ cuts.length + 1) ∧ Aside0 (fr ≤ b.length) ∧ Aside0 (i = cuts.length + 1 → fr = b.length) ∧
      Aside0 (RdAt W1.heap.size W1.heap.size { run fresh (b.take fr) with loads := [] } vp (.slice none 0 0) wr) ∧ Aside0 ((Kd.slice 5 (Kd.int .u8)).R 22 wr W1.heap.size (fun k => k ≠ W1.heap.size ∧ some k ≠ vp.ownBlock) v9 (FR (b.take fr))) ∧ Aside0 (Below W1.heap.size W1 wr))
    (fun _ _ v11 _ => cuts.length + 1 - (intOf v11).toNat)
  · refine ⟨0, 0, .slice none 0 0, rfl, rfl, ⟨by omega⟩, ⟨Nat.zero_le _⟩, ⟨fun h => by omega⟩, ⟨?_⟩, ⟨?_⟩, HB2⟩
    · rw [List.take_zero, run_nil]; exact HR2.out
    · rw [← htd.1, List.take_zero, run_nil]; exact Kd.R_nil _ _ _ _ _
  · obtain ⟨i, fr, vp, rfl, rfl, HI, HF, HEND, HRd, HG, HB⟩ := hrel
    clear HR2 HB2 htd
    obtain ⟨Ag, cg, eg⟩ := Kd.R_slice HG.out
    subst eg
    have hli : (i : Int) ≤ 2097152 := by have := HI.out; have := HRL.out; omega
    have hwi : wrap64 ((i : Int) + 1) = (i : Int) + 1 := w64 (by omega) (by omega)
    clear hli
    by_cases ci : i ≤ cuts.length
    · have ci1 : ((i : Int) ≤ (cuts.length : Int)) = True := eq_true (by omega)
      have ci2 : decide ((i : Int) ≤ (cuts.length : Int)) = true := decide_eq_true (by omega)
      have ci3 : decide (i ≤ cuts.length) = true := decide_eq_true ci
      have HCI := Aside0.mk ci
      by_cases cj : i < cuts.length
      · have cj1 : ((i : Int) < (cuts.length : Int)) = True := eq_true (by omega)
        have cj2 : decide ((i : Int) < (cuts.length : Int)) = true := decide_eq_true (by omega)
        have cj3 : (i < cuts.length) = True := eq_true cj
        have cj4 : decide (i < cuts.length) = true := decide_eq_true cj
        have hMr : Kd.C (Kd.int .i64) wr M cuts.length cuts := Kd.C_below HM1.out HB.out
        obtain ⟨ad, hMe, hcell⟩ := Kd.at_int hMr (i : Int) (by omega) (by omega)
        subst hMe
        rw [Int.toNat_natCast] at hcell
        have hx := HR.out (rd cuts (i : Int)) (by
          have hq : rd cuts (i : Int) = cuts[i] := by simp [rd, List.getD_eq_getElem?_getD, List.getElem?_eq_getElem cj]
          rw [hq]; exact List.getElem_mem cj)
        have hfb := HF.out
        have hbl := HBL.out
        have hw1 : wrap64 ((b.length : Int) - (fr : Int)) = (b.length : Int) - (fr : Int) := w64 (by omega) (by omega)
        have hw2 : wrap64 ((b.length : Int) - (fr : Int) + 1) = (b.length : Int) - (fr : Int) + 1 := w64 (by omega) (by omega)
        have HX := Aside0.mk hx
        have HCJ := Aside0.mk cj
        clear hx hMr ci cj
        go_wp2_with fail
        go_at_call 30
        refine (within_at (rd cuts (i : Int)) ((b.length : Int) - (fr : Int) + 1) HX.out.1 HX.out.2 (by omega) (by omega) wr).mono ?_
        rintro e wr1 ⟨t, ht, rfl, hdr⟩
        obtain ⟨nd, rfl⟩ := hdr.out
        have hBd : Below wr.heap.size wr (wr.drewN nd) := pw_below_drewN (Below.refl _ _) nd
        have hst := HRd.out.stay hBd
        have HRd := Aside0.mk hst.1
        have HG := Aside0.mk (Kd.R_below HG.out hBd)
        have HB := Aside0.mk (HB.out.trans (hBd.mono HB.out.size))
        have hw3 : wrap64 ((fr : Int) + (t : Int)) = ((fr + t : Nat) : Int) := by rw [w64 (by omega) (by omega)]; omega
        have HTT := Aside0.mk (show fr ≤ fr + t ∧ fr + t ≤ b.length ∧ (i = cuts.length → fr + t = b.length) by have := HCJ.out; omega)
        clear hcell hw1 hw2 hst hdr ht hBd hfb hbl
        generalize wr.drewN nd = wr at *
        generalize fr + t = tt at *
        have hfr := HTT.out
        obtain ⟨i0, hi0, _, hsz0, _⟩ := info_parts info5
        obtain ⟨A8, hcut, hA8, hC8⟩ := print_mid_of (P := Tryd.prog) (Value.int .u8) 0 22 5 .i64 .i64 Tryd.underlying22 hi0 hsz0 A c b (fr : Int) (tt : Int) (by omega) (by omega) (by omega) HL.out
        obtain ⟨hcut2, hA9, hC9⟩ := print_take_of (P := Tryd.prog) (Value.int .u8) 0 22 5 .i64 Tryd.underlying22 hi0 hsz0 A c b (tt : Int) (by omega) (by omega) HL.out
        simp only [Int.toNat_natCast] at hcut hA8 hC8 hcut2 hA9 hC9
        have hP := run_piece b fr tt hfr.1
        have hall := (run_all fresh (b.take fr)).1
        have hall2 : (b.take fr).length = fr := by rw [List.length_take]; omega
        have hpl : ((b.take tt).drop fr).length ≤ b.length := by rw [List.length_drop, List.length_take]; omega
        have hlt : (b.take tt).length = tt := by rw [List.length_take]; omega
        have hBP := (HBY.out.take tt).drop fr
        have hBT := HBY.out.take tt
        obtain ⟨bt, hbt⟩ : ∃ bt, b.take tt = bt := ⟨_, rfl⟩
        rw [hbt] at hcut hA8 hC8 hcut2 hA9 hC9 hP hpl hlt hBP hBT
        have HBT0 := Aside0.mk hbt
        clear hbt
        generalize hpp : bt.drop fr = ps at *
        clear hpp
        rw [hlt] at hcut2 hC9
        have HD8 := Aside0.mk (Kd.C_of_reads (h1 := fun _ => rfl) (hA8 _ (Kd.reads_of_C HC1.out)))
        have HD9 := Aside0.mk (show ∀ W, Kd.C (Kd.int .u8) W A b.length b → Kd.C (Kd.int .u8) W A bt.length bt from fun W h => Kd.C_of_reads (h1 := fun _ => rfl) (hA9 W (Kd.reads_of_C h)))
        have HL8 := Aside0.mk hC8
        have HL9 := Aside0.mk hC9
        have HA := Aside0.mk (show (run fresh (b.take fr)).all + ps.length < 4398046511000 by have h3 : (run fresh (b.take fr)).all ≤ 0 + (b.take fr).length := hall; have := HBL.out; omega)
        have HO := Aside0.mk (ok_fresh.run (b.take fr) (HBY.out.take fr))
        have HDN := Aside0.mk (run_all fresh (b.take fr)).2
        have HBP := Aside0.mk hBP
        have HBT := Aside0.mk hBT
        have HT2 := Aside0.mk (tells bt hBT)
        have HT1b := Aside0.mk (tells (b.take fr) (HBY.out.take fr))
        have HLT := Aside0.mk hlt
        have HP := Aside0.mk hP
        have HFR := Aside0.mk (show fr ≤ tt ∧ tt ≤ b.length ∧ (i = cuts.length → tt = b.length) from hfr)
        clear hall hall2 hpl hA8 hC8 hA9 hC9 hi0 hsz0 hlt hfr hBP hBT hP
        go_wp2_with fail
        go_at_call 51
        refine (feed_at HRd.out HB.out HT1.out H1.out A8 (c - fr) ps HD8.out HL8.out HBP.out (show Ok { run fresh (b.take fr) with loads := [] } from ⟨HO.out.1, Nat.zero_le _, HO.out.2.2⟩) HDN.out HA.out).mono ?_
        rintro e W3 ⟨vp3, vl3, rfl, hR3, hL3, hK3⟩
        have t2 := HT2.out
        rw [HP.out] at t2
        have e1 : FR (b.take fr) ++ (run { run fresh (b.take fr) with loads := [] } ps).loads = FR bt := by rw [← HT1b.out.1]; exact t2.1
        have e2 : (run { run fresh (b.take fr) with loads := [] } ps).err = (if (EN bt).1 = 3 then 0 else (EN bt).1) := t2.2.1
        have e3 : (run { run fresh (b.take fr) with loads := [] } ps).place = (if (EN bt).1 = 3 then 0 else (EN bt).2) := t2.2.2.1
        have e4 : ({ run { run fresh (b.take fr) with loads := [] } ps with loads := [] } : St) = { run fresh bt with loads := [] } := by rw [HP.out]; rfl
        rw [e2, e3]
        rw [e4] at hR3
        clear t2 e2 e3 e4
        generalize (run { run fresh (b.take fr) with loads := [] } ps).loads = ys at *
        obtain ⟨Al, cl, el, _, hrows⟩ := OwnRow.reads hL3.2
        have hlo := hL3
        subst el
        have hg0 := hR3.row.lt
        have hp0 := Kd.R_lt hR3.p
        have hG3 : (Kd.slice 5 (Kd.int .u8)).R 22 W3 W1.heap.size (fun k => k ≠ W1.heap.size ∧ some k ≠ vp3.ownBlock) (.slice Ag (FR (b.take fr)).length cg) (FR (b.take fr)) := by
          refine Kd.R_mono (Kd.R_kept (Kd.R_bound HG.out) hK3.kept (fun k hk hS => ?_)) (fun k hk => ⟨hk.1.1, fun e => ?_⟩)
          · rcases hS with h | h | h
            · exact hk.1.1 h
            · exact hk.1.2 h
            · simp [Value.ownBlock] at h
          · rcases hK3.p k e.symm with h | h
            · exact hk.1.2 h.symm
            · have := hk.2.2.1; omega
        have HG3 := Aside0.mk hG3
        have HR3 := Aside0.mk hR3
        have HB3 := Aside0.mk (HB.out.trans hK3.below)
        have HROWS := Aside0.mk hrows
        have HKM := Aside0.mk (show ∀ (x : List Int) (cs : List Value), (Kd.slice 5 (Kd.int .u8)).M W3 W1.heap.size (fun k => (True ∧ some k ≠ vp3.ownBlock) ∧ some k ≠ (Value.slice Al ys.length cl).ownBlock) x cs → (Kd.slice 5 (Kd.int .u8)).M W3 W1.heap.size (fun k => (k ≠ W1.heap.size ∧ some k ≠ vp3.ownBlock) ∧ some k ≠ (Value.slice Ag (FR (b.take fr)).length cg).ownBlock) x cs from fun x cs hm => by
          refine (Kd.slice 5 (Kd.int .u8)).M_mono (fun k hk => ?_) ((Kd.slice 5 (Kd.int .u8)).M_bound hm)
          obtain ⟨⟨⟨_, h1⟩, _⟩, _, _, q, hq, cells, hce⟩ := hk
          have hq5 : q = 5 := by simpa [Kd.slice, Kd.int, Kd.scalar] using hq
          subst hq5
          refine ⟨⟨fun e => ?_, h1⟩, fun e => ?_⟩
          · subst e
            have := HR3.out.row
            rw [Rw, hce] at this
            injection this with this
            injection this with _ this
            exact absurd this (by decide)
          · obtain ⟨_, hh⟩ := Kd.R_typed HG3.out k e.symm
            rw [hce] at hh
            injection hh with hh
            injection hh with _ hh
            exact absurd hh (by decide))
        have HFS := Aside0.mk (show ∀ k, W3.heap.size ≤ k → k ≠ W1.heap.size ∧ some k ≠ vp3.ownBlock from fun k hk => ⟨by omega, fun e => by have := hp0 k e.symm; omega⟩)
        have HLEN := Aside0.mk (show ((FR (b.take fr)).length + ys.length) * 24 ≤ 140737488355328 by
          have h1 : ((FR (b.take fr)) ++ ys).length = (FR bt).length := by rw [e1]
          rw [List.length_append] at h1
          have h2 := FR_le bt
          have h3 := HLT.out
          have h4 := HFR.out
          have h5 := HBL.out
          omega)
        have HSZ := Aside0.mk (show W1.heap.size ≤ W3.heap.size from HR3.out.size)
        have HE1 := Aside0.mk e1
        clear hL3 hlo hrows hK3 hR3 hG3 hg0 hp0 e1
        by_cases h3 : (EN bt).1 = 3
        · rw [if_pos h3, if_pos h3]
          have h3b : ((EN bt).1 == 3) = true := beq_iff_eq.2 h3
          have h3c : decide ((EN bt).1 = 3) = true := decide_eq_true h3
          clear h3
          go_wp2_with (first | (
            (with_reducible refine gate_builtin (b := .append) (xs := #[.tmp 64, .tmp 65]) rfl ?_)
            at_builtin
            refine Kd.R_append_rows (Kd.slice 5 (Kd.int .u8)) (w0 := W3) W1.heap.size rfl (.tmp 64) (.tmp 65) 55 22 (.slice none 0 0) 24 rfl Tryd.underlying55 info22 rfl (by decide) (by decide) (.slice Ag (FR (b.take fr)).length cg) (FR (b.take fr)) ys Al ys.length cl (fun k => k ≠ W1.heap.size ∧ some k ≠ vp3.ownBlock) (fun k => (k ≠ W1.heap.size ∧ some k ≠ vp3.ownBlock) ∧ some k ≠ (Value.slice Ag (FR (b.take fr)).length cg).ownBlock) rfl rfl HG3.out HROWS.out HKM.out (fun _ hk => hk) HFS.out (Below.refl _ _) HSZ.out HLEN.out ?_
            intro v1 w4 ho hb4 hg4 hat
            rw [HE1.out] at ho
            have hne : some W1.heap.size ≠ (Value.slice Ag (FR (b.take fr)).length cg).ownBlock := Kd.R_ne HG3.out HR3.out.row (by decide)
            have HR4 := Aside0.mk (show RdAt W1.heap.size W1.heap.size { run fresh bt with loads := [] } vp3 (.slice none 0 0) w4 from ⟨(hg4.block _ HR3.out.row.lt hne).trans HR3.out.row, Kd.R_over HR3.out.p HG3.out (by intro q hq; simp [Kd.int, Kd.scalar] at hq; omega) hg4, Kd.R_nil _ _ _ _ _, Nat.le_refl _⟩)
            have HG4 := Aside0.mk ho
            have HB4 := Aside0.mk (HB3.out.trans hb4)
            obtain ⟨Ag4, cg4, eg4⟩ := Kd.R_slice ho
            subst eg4
            clear ho hb4 hg4 hat hne))
          go_at_call 42
          refine (show Calls Tryd.prog 42 #[.slice A tt c] w4 _ from HLT.out ▸ scan_any bt HBT.out (by have := HLT.out; have := HFR.out; have := HBL.out; omega) A c w4 (HD9.out w4 (Kd.C_below HC1.out HB4.out)) (by have := HLT.out; have := HL9.out; omega) (Kd.C_below HT1.out HB4.out)).mono ?_
          rintro e W5 ⟨A6, c6, rfl, hl6, hC6, hB5⟩
          have HC6 := Aside0.mk hC6
          have HL6 := Aside0.mk hl6
          have HR5 := Aside0.mk (HR4.out.stay hB5).1
          have HG5 := Aside0.mk (Kd.R_below HG4.out hB5)
          have HB5 := Aside0.mk (HB4.out.trans (hB5.mono HB4.out.size))
          clear hl6 hC6 hB5
          go_wp2_with fail
          go_at_call 44
          refine (same_any (FR bt) (by have := FR_le bt; have := HLT.out; have := HFR.out; have := HBL.out; omega) Ag4 cg4 A6 c6 W5 (Kd.R_reads' HG5.out).2.2 (Kd.R_reads' HG5.out).2.1 HC6.out HL6.out).mono ?_
          rintro e W6 ⟨rfl, hB6⟩
          have HR6 := Aside0.mk (HR5.out.stay hB6).1
          have HG6 := Aside0.mk (Kd.R_below HG5.out hB6)
          have HB6 := Aside0.mk (HB5.out.trans (hB6.mono HB5.out.size))
          clear hB6
          go_wp2_with fail
          go_roundw
          case rel => exact ⟨i + 1, tt, vp3, by rw [hwi]; rfl, by first | rfl | rw [hw3], ⟨by have := HCI.out; omega⟩, ⟨HFR.out.2.1⟩, ⟨fun h => by first | rfl | exact HFR.out.2.2 (by omega)⟩, by rw [HBT0.out]; exact HR6, by rw [HBT0.out]; exact HG6, HB6⟩
          case measure => rw [hwi]; simp [intOf]; have := HCI.out; omega
        · rw [if_neg h3, if_neg h3]
          have h3b : ((EN bt).1 == 3) = false := beq_eq_false_iff_ne.2 h3
          have h3c : decide ((EN bt).1 = 3) = false := decide_eq_false h3
          clear h3
          go_wp2_with (first | (
            (with_reducible refine gate_builtin (b := .append) (xs := #[.tmp 64, .tmp 65]) rfl ?_)
            at_builtin
            refine Kd.R_append_rows (Kd.slice 5 (Kd.int .u8)) (w0 := W3) W1.heap.size rfl (.tmp 64) (.tmp 65) 55 22 (.slice none 0 0) 24 rfl Tryd.underlying55 info22 rfl (by decide) (by decide) (.slice Ag (FR (b.take fr)).length cg) (FR (b.take fr)) ys Al ys.length cl (fun k => k ≠ W1.heap.size ∧ some k ≠ vp3.ownBlock) (fun k => (k ≠ W1.heap.size ∧ some k ≠ vp3.ownBlock) ∧ some k ≠ (Value.slice Ag (FR (b.take fr)).length cg).ownBlock) rfl rfl HG3.out HROWS.out HKM.out (fun _ hk => hk) HFS.out (Below.refl _ _) HSZ.out HLEN.out ?_
            intro v1 w4 ho hb4 hg4 hat
            rw [HE1.out] at ho
            have hne : some W1.heap.size ≠ (Value.slice Ag (FR (b.take fr)).length cg).ownBlock := Kd.R_ne HG3.out HR3.out.row (by decide)
            have HR4 := Aside0.mk (show RdAt W1.heap.size W1.heap.size { run fresh bt with loads := [] } vp3 (.slice none 0 0) w4 from ⟨(hg4.block _ HR3.out.row.lt hne).trans HR3.out.row, Kd.R_over HR3.out.p HG3.out (by intro q hq; simp [Kd.int, Kd.scalar] at hq; omega) hg4, Kd.R_nil _ _ _ _ _, Nat.le_refl _⟩)
            have HG4 := Aside0.mk ho
            have HB4 := Aside0.mk (HB3.out.trans hb4)
            obtain ⟨Ag4, cg4, eg4⟩ := Kd.R_slice ho
            subst eg4
            clear ho hb4 hg4 hat hne))
          go_at_call 42
          refine (show Calls Tryd.prog 42 #[.slice A tt c] w4 _ from HLT.out ▸ scan_any bt HBT.out (by have := HLT.out; have := HFR.out; have := HBL.out; omega) A c w4 (HD9.out w4 (Kd.C_below HC1.out HB4.out)) (by have := HLT.out; have := HL9.out; omega) (Kd.C_below HT1.out HB4.out)).mono ?_
          rintro e W5 ⟨A6, c6, rfl, hl6, hC6, hB5⟩
          have HC6 := Aside0.mk hC6
          have HL6 := Aside0.mk hl6
          have HR5 := Aside0.mk (HR4.out.stay hB5).1
          have HG5 := Aside0.mk (Kd.R_below HG4.out hB5)
          have HB5 := Aside0.mk (HB4.out.trans (hB5.mono HB4.out.size))
          clear hl6 hC6 hB5
          go_wp2_with fail
          go_at_call 44
          refine (same_any (FR bt) (by have := FR_le bt; have := HLT.out; have := HFR.out; have := HBL.out; omega) Ag4 cg4 A6 c6 W5 (Kd.R_reads' HG5.out).2.2 (Kd.R_reads' HG5.out).2.1 HC6.out HL6.out).mono ?_
          rintro e W6 ⟨rfl, hB6⟩
          have HR6 := Aside0.mk (HR5.out.stay hB6).1
          have HG6 := Aside0.mk (Kd.R_below HG5.out hB6)
          have HB6 := Aside0.mk (HB5.out.trans (hB6.mono HB5.out.size))
          clear hB6
          go_wp2_with fail
          go_roundw
          case rel => exact ⟨i + 1, tt, vp3, by rw [hwi]; rfl, by first | rfl | rw [hw3], ⟨by have := HCI.out; omega⟩, ⟨HFR.out.2.1⟩, ⟨fun h => by first | rfl | exact HFR.out.2.2 (by omega)⟩, by rw [HBT0.out]; exact HR6, by rw [HBT0.out]; exact HG6, HB6⟩
          case measure => rw [hwi]; simp [intOf]; have := HCI.out; omega
      · have cj1 : ((i : Int) < (cuts.length : Int)) = False := eq_false (by omega)
        have cj2 : decide ((i : Int) < (cuts.length : Int)) = false := decide_eq_false (by omega)
        have cj3 : (i < cuts.length) = False := eq_false cj
        have cj4 : decide (i < cuts.length) = false := decide_eq_false cj
        have HTT := Aside0.mk (show fr ≤ b.length ∧ b.length ≤ b.length ∧ (i = cuts.length → b.length = b.length) by have := HF.out; omega)
        clear ci cj
        have hfr := HTT.out
        obtain ⟨i0, hi0, _, hsz0, _⟩ := info_parts info5
        obtain ⟨A8, hcut, hA8, hC8⟩ := print_mid_of (P := Tryd.prog) (Value.int .u8) 0 22 5 .i64 .i64 Tryd.underlying22 hi0 hsz0 A c b (fr : Int) (b.length : Int) (by omega) (by omega) (by omega) HL.out
        obtain ⟨hcut2, hA9, hC9⟩ := print_take_of (P := Tryd.prog) (Value.int .u8) 0 22 5 .i64 Tryd.underlying22 hi0 hsz0 A c b (b.length : Int) (by omega) (by omega) HL.out
        simp only [Int.toNat_natCast] at hcut hA8 hC8 hcut2 hA9 hC9
        have hP := run_piece b fr b.length hfr.1
        have hall := (run_all fresh (b.take fr)).1
        have hall2 : (b.take fr).length = fr := by rw [List.length_take]; omega
        have hpl : ((b.take b.length).drop fr).length ≤ b.length := by rw [List.length_drop, List.length_take]; omega
        have hlt : (b.take b.length).length = b.length := by rw [List.length_take]; omega
        have hBP := (HBY.out.take b.length).drop fr
        have hBT := HBY.out.take b.length
        obtain ⟨bt, hbt⟩ : ∃ bt, b.take b.length = bt := ⟨_, rfl⟩
        rw [hbt] at hcut hA8 hC8 hcut2 hA9 hC9 hP hpl hlt hBP hBT
        have HBT0 := Aside0.mk hbt
        clear hbt
        generalize hpp : bt.drop fr = ps at *
        clear hpp
        rw [hlt] at hcut2 hC9
        have HD8 := Aside0.mk (Kd.C_of_reads (h1 := fun _ => rfl) (hA8 _ (Kd.reads_of_C HC1.out)))
        have HD9 := Aside0.mk (show ∀ W, Kd.C (Kd.int .u8) W A b.length b → Kd.C (Kd.int .u8) W A bt.length bt from fun W h => Kd.C_of_reads (h1 := fun _ => rfl) (hA9 W (Kd.reads_of_C h)))
        have HL8 := Aside0.mk hC8
        have HL9 := Aside0.mk hC9
        have HA := Aside0.mk (show (run fresh (b.take fr)).all + ps.length < 4398046511000 by have h3 : (run fresh (b.take fr)).all ≤ 0 + (b.take fr).length := hall; have := HBL.out; omega)
        have HO := Aside0.mk (ok_fresh.run (b.take fr) (HBY.out.take fr))
        have HDN := Aside0.mk (run_all fresh (b.take fr)).2
        have HBP := Aside0.mk hBP
        have HBT := Aside0.mk hBT
        have HT2 := Aside0.mk (tells bt hBT)
        have HT1b := Aside0.mk (tells (b.take fr) (HBY.out.take fr))
        have HLT := Aside0.mk hlt
        have HP := Aside0.mk hP
        have HFR := Aside0.mk (show fr ≤ b.length ∧ b.length ≤ b.length ∧ (i = cuts.length → b.length = b.length) from hfr)
        clear hall hall2 hpl hA8 hC8 hA9 hC9 hi0 hsz0 hlt hfr hBP hBT hP
        go_wp2_with fail
        go_at_call 51
        refine (feed_at HRd.out HB.out HT1.out H1.out A8 (c - fr) ps HD8.out HL8.out HBP.out (show Ok { run fresh (b.take fr) with loads := [] } from ⟨HO.out.1, Nat.zero_le _, HO.out.2.2⟩) HDN.out HA.out).mono ?_
        rintro e W3 ⟨vp3, vl3, rfl, hR3, hL3, hK3⟩
        have t2 := HT2.out
        rw [HP.out] at t2
        have e1 : FR (b.take fr) ++ (run { run fresh (b.take fr) with loads := [] } ps).loads = FR bt := by rw [← HT1b.out.1]; exact t2.1
        have e2 : (run { run fresh (b.take fr) with loads := [] } ps).err = (if (EN bt).1 = 3 then 0 else (EN bt).1) := t2.2.1
        have e3 : (run { run fresh (b.take fr) with loads := [] } ps).place = (if (EN bt).1 = 3 then 0 else (EN bt).2) := t2.2.2.1
        have e4 : ({ run { run fresh (b.take fr) with loads := [] } ps with loads := [] } : St) = { run fresh bt with loads := [] } := by rw [HP.out]; rfl
        rw [e2, e3]
        rw [e4] at hR3
        clear t2 e2 e3 e4
        generalize (run { run fresh (b.take fr) with loads := [] } ps).loads = ys at *
        obtain ⟨Al, cl, el, _, hrows⟩ := OwnRow.reads hL3.2
        have hlo := hL3
        subst el
        have hg0 := hR3.row.lt
        have hp0 := Kd.R_lt hR3.p
        have hG3 : (Kd.slice 5 (Kd.int .u8)).R 22 W3 W1.heap.size (fun k => k ≠ W1.heap.size ∧ some k ≠ vp3.ownBlock) (.slice Ag (FR (b.take fr)).length cg) (FR (b.take fr)) := by
          refine Kd.R_mono (Kd.R_kept (Kd.R_bound HG.out) hK3.kept (fun k hk hS => ?_)) (fun k hk => ⟨hk.1.1, fun e => ?_⟩)
          · rcases hS with h | h | h
            · exact hk.1.1 h
            · exact hk.1.2 h
            · simp [Value.ownBlock] at h
          · rcases hK3.p k e.symm with h | h
            · exact hk.1.2 h.symm
            · have := hk.2.2.1; omega
        have HG3 := Aside0.mk hG3
        have HR3 := Aside0.mk hR3
        have HB3 := Aside0.mk (HB.out.trans hK3.below)
        have HROWS := Aside0.mk hrows
        have HKM := Aside0.mk (show ∀ (x : List Int) (cs : List Value), (Kd.slice 5 (Kd.int .u8)).M W3 W1.heap.size (fun k => (True ∧ some k ≠ vp3.ownBlock) ∧ some k ≠ (Value.slice Al ys.length cl).ownBlock) x cs → (Kd.slice 5 (Kd.int .u8)).M W3 W1.heap.size (fun k => (k ≠ W1.heap.size ∧ some k ≠ vp3.ownBlock) ∧ some k ≠ (Value.slice Ag (FR (b.take fr)).length cg).ownBlock) x cs from fun x cs hm => by
          refine (Kd.slice 5 (Kd.int .u8)).M_mono (fun k hk => ?_) ((Kd.slice 5 (Kd.int .u8)).M_bound hm)
          obtain ⟨⟨⟨_, h1⟩, _⟩, _, _, q, hq, cells, hce⟩ := hk
          have hq5 : q = 5 := by simpa [Kd.slice, Kd.int, Kd.scalar] using hq
          subst hq5
          refine ⟨⟨fun e => ?_, h1⟩, fun e => ?_⟩
          · subst e
            have := HR3.out.row
            rw [Rw, hce] at this
            injection this with this
            injection this with _ this
            exact absurd this (by decide)
          · obtain ⟨_, hh⟩ := Kd.R_typed HG3.out k e.symm
            rw [hce] at hh
            injection hh with hh
            injection hh with _ hh
            exact absurd hh (by decide))
        have HFS := Aside0.mk (show ∀ k, W3.heap.size ≤ k → k ≠ W1.heap.size ∧ some k ≠ vp3.ownBlock from fun k hk => ⟨by omega, fun e => by have := hp0 k e.symm; omega⟩)
        have HLEN := Aside0.mk (show ((FR (b.take fr)).length + ys.length) * 24 ≤ 140737488355328 by
          have h1 : ((FR (b.take fr)) ++ ys).length = (FR bt).length := by rw [e1]
          rw [List.length_append] at h1
          have h2 := FR_le bt
          have h3 := HLT.out
          have h4 := HFR.out
          have h5 := HBL.out
          omega)
        have HSZ := Aside0.mk (show W1.heap.size ≤ W3.heap.size from HR3.out.size)
        have HE1 := Aside0.mk e1
        clear hL3 hlo hrows hK3 hR3 hG3 hg0 hp0 e1
        by_cases h3 : (EN bt).1 = 3
        · rw [if_pos h3, if_pos h3]
          have h3b : ((EN bt).1 == 3) = true := beq_iff_eq.2 h3
          have h3c : decide ((EN bt).1 = 3) = true := decide_eq_true h3
          clear h3
          go_wp2_with (first | (
            (with_reducible refine gate_builtin (b := .append) (xs := #[.tmp 64, .tmp 65]) rfl ?_)
            at_builtin
            refine Kd.R_append_rows (Kd.slice 5 (Kd.int .u8)) (w0 := W3) W1.heap.size rfl (.tmp 64) (.tmp 65) 55 22 (.slice none 0 0) 24 rfl Tryd.underlying55 info22 rfl (by decide) (by decide) (.slice Ag (FR (b.take fr)).length cg) (FR (b.take fr)) ys Al ys.length cl (fun k => k ≠ W1.heap.size ∧ some k ≠ vp3.ownBlock) (fun k => (k ≠ W1.heap.size ∧ some k ≠ vp3.ownBlock) ∧ some k ≠ (Value.slice Ag (FR (b.take fr)).length cg).ownBlock) rfl rfl HG3.out HROWS.out HKM.out (fun _ hk => hk) HFS.out (Below.refl _ _) HSZ.out HLEN.out ?_
            intro v1 w4 ho hb4 hg4 hat
            rw [HE1.out] at ho
            have hne : some W1.heap.size ≠ (Value.slice Ag (FR (b.take fr)).length cg).ownBlock := Kd.R_ne HG3.out HR3.out.row (by decide)
            have HR4 := Aside0.mk (show RdAt W1.heap.size W1.heap.size { run fresh bt with loads := [] } vp3 (.slice none 0 0) w4 from ⟨(hg4.block _ HR3.out.row.lt hne).trans HR3.out.row, Kd.R_over HR3.out.p HG3.out (by intro q hq; simp [Kd.int, Kd.scalar] at hq; omega) hg4, Kd.R_nil _ _ _ _ _, Nat.le_refl _⟩)
            have HG4 := Aside0.mk ho
            have HB4 := Aside0.mk (HB3.out.trans hb4)
            obtain ⟨Ag4, cg4, eg4⟩ := Kd.R_slice ho
            subst eg4
            clear ho hb4 hg4 hat hne))
          go_at_call 42
          refine (show Calls Tryd.prog 42 #[.slice A b.length c] w4 _ from HLT.out ▸ scan_any bt HBT.out (by have := HLT.out; have := HFR.out; have := HBL.out; omega) A c w4 (HD9.out w4 (Kd.C_below HC1.out HB4.out)) (by have := HLT.out; have := HL9.out; omega) (Kd.C_below HT1.out HB4.out)).mono ?_
          rintro e W5 ⟨A6, c6, rfl, hl6, hC6, hB5⟩
          have HC6 := Aside0.mk hC6
          have HL6 := Aside0.mk hl6
          have HR5 := Aside0.mk (HR4.out.stay hB5).1
          have HG5 := Aside0.mk (Kd.R_below HG4.out hB5)
          have HB5 := Aside0.mk (HB4.out.trans (hB5.mono HB4.out.size))
          clear hl6 hC6 hB5
          go_wp2_with fail
          go_at_call 44
          refine (same_any (FR bt) (by have := FR_le bt; have := HLT.out; have := HFR.out; have := HBL.out; omega) Ag4 cg4 A6 c6 W5 (Kd.R_reads' HG5.out).2.2 (Kd.R_reads' HG5.out).2.1 HC6.out HL6.out).mono ?_
          rintro e W6 ⟨rfl, hB6⟩
          have HR6 := Aside0.mk (HR5.out.stay hB6).1
          have HG6 := Aside0.mk (Kd.R_below HG5.out hB6)
          have HB6 := Aside0.mk (HB5.out.trans (hB6.mono HB5.out.size))
          clear hB6
          go_wp2_with fail
          go_roundw
          case rel => exact ⟨i + 1, b.length, vp3, by rw [hwi]; rfl, by first | rfl | rw [hw3], ⟨by have := HCI.out; omega⟩, ⟨HFR.out.2.1⟩, ⟨fun h => by first | rfl | exact HFR.out.2.2 (by omega)⟩, by rw [HBT0.out]; exact HR6, by rw [HBT0.out]; exact HG6, HB6⟩
          case measure => rw [hwi]; simp [intOf]; have := HCI.out; omega
        · rw [if_neg h3, if_neg h3]
          have h3b : ((EN bt).1 == 3) = false := beq_eq_false_iff_ne.2 h3
          have h3c : decide ((EN bt).1 = 3) = false := decide_eq_false h3
          clear h3
          go_wp2_with (first | (
            (with_reducible refine gate_builtin (b := .append) (xs := #[.tmp 64, .tmp 65]) rfl ?_)
            at_builtin
            refine Kd.R_append_rows (Kd.slice 5 (Kd.int .u8)) (w0 := W3) W1.heap.size rfl (.tmp 64) (.tmp 65) 55 22 (.slice none 0 0) 24 rfl Tryd.underlying55 info22 rfl (by decide) (by decide) (.slice Ag (FR (b.take fr)).length cg) (FR (b.take fr)) ys Al ys.length cl (fun k => k ≠ W1.heap.size ∧ some k ≠ vp3.ownBlock) (fun k => (k ≠ W1.heap.size ∧ some k ≠ vp3.ownBlock) ∧ some k ≠ (Value.slice Ag (FR (b.take fr)).length cg).ownBlock) rfl rfl HG3.out HROWS.out HKM.out (fun _ hk => hk) HFS.out (Below.refl _ _) HSZ.out HLEN.out ?_
            intro v1 w4 ho hb4 hg4 hat
            rw [HE1.out] at ho
            have hne : some W1.heap.size ≠ (Value.slice Ag (FR (b.take fr)).length cg).ownBlock := Kd.R_ne HG3.out HR3.out.row (by decide)
            have HR4 := Aside0.mk (show RdAt W1.heap.size W1.heap.size { run fresh bt with loads := [] } vp3 (.slice none 0 0) w4 from ⟨(hg4.block _ HR3.out.row.lt hne).trans HR3.out.row, Kd.R_over HR3.out.p HG3.out (by intro q hq; simp [Kd.int, Kd.scalar] at hq; omega) hg4, Kd.R_nil _ _ _ _ _, Nat.le_refl _⟩)
            have HG4 := Aside0.mk ho
            have HB4 := Aside0.mk (HB3.out.trans hb4)
            obtain ⟨Ag4, cg4, eg4⟩ := Kd.R_slice ho
            subst eg4
            clear ho hb4 hg4 hat hne))
          go_at_call 42
          refine (show Calls Tryd.prog 42 #[.slice A b.length c] w4 _ from HLT.out ▸ scan_any bt HBT.out (by have := HLT.out; have := HFR.out; have := HBL.out; omega) A c w4 (HD9.out w4 (Kd.C_below HC1.out HB4.out)) (by have := HLT.out; have := HL9.out; omega) (Kd.C_below HT1.out HB4.out)).mono ?_
          rintro e W5 ⟨A6, c6, rfl, hl6, hC6, hB5⟩
          have HC6 := Aside0.mk hC6
          have HL6 := Aside0.mk hl6
          have HR5 := Aside0.mk (HR4.out.stay hB5).1
          have HG5 := Aside0.mk (Kd.R_below HG4.out hB5)
          have HB5 := Aside0.mk (HB4.out.trans (hB5.mono HB4.out.size))
          clear hl6 hC6 hB5
          go_wp2_with fail
          go_at_call 44
          refine (same_any (FR bt) (by have := FR_le bt; have := HLT.out; have := HFR.out; have := HBL.out; omega) Ag4 cg4 A6 c6 W5 (Kd.R_reads' HG5.out).2.2 (Kd.R_reads' HG5.out).2.1 HC6.out HL6.out).mono ?_
          rintro e W6 ⟨rfl, hB6⟩
          have HR6 := Aside0.mk (HR5.out.stay hB6).1
          have HG6 := Aside0.mk (Kd.R_below HG5.out hB6)
          have HB6 := Aside0.mk (HB5.out.trans (hB6.mono HB5.out.size))
          clear hB6
          go_wp2_with fail
          go_roundw
          case rel => exact ⟨i + 1, b.length, vp3, by rw [hwi]; rfl, by first | rfl | rw [hw3], ⟨by have := HCI.out; omega⟩, ⟨HFR.out.2.1⟩, ⟨fun h => by first | rfl | exact HFR.out.2.2 (by omega)⟩, by rw [HBT0.out]; exact HR6, by rw [HBT0.out]; exact HG6, HB6⟩
          case measure => rw [hwi]; simp [intOf]; have := HCI.out; omega
    · have ci1 : ((i : Int) ≤ (cuts.length : Int)) = False := eq_false (by omega)
      have ci2 : decide ((i : Int) ≤ (cuts.length : Int)) = false := decide_eq_false (by omega)
      have ci3 : decide (i ≤ cuts.length) = false := decide_eq_false ci
      have hend : fr = b.length := HEND.out (by have := HI.out; omega)
      have hbt : b.take fr = b := by rw [hend, List.take_length]
      rw [hbt] at HRd HG ⊢
      have ht := tells b HBY.out
      have hdn := (run_all fresh b).2
      have hl2 := FR_le b
      have HT2 := Aside0.mk ht
      have HDN := Aside0.mk hdn
      have HFL := Aside0.mk hl2
      clear ht hdn hl2 hend hbt ci
      go_wp2_with fail
      go_at_call 49
      refine (close_at HRd.out HDN.out).mono ?_
      rintro e W4 ⟨he, hR4, hK4⟩
      have he2 : e = .returned (.tuple #[.int .i64 (EN b).1, .int .i64 (EN b).2]) := by
        rw [he, ← HT2.out.2.2.2.1, ← HT2.out.2.2.2.2]
      subst he2
      have HG4 := Aside0.mk (Kd.R_kept HG.out hK4.kept (fun k hk hS => by
        rcases hS with h | h | h
        · exact hk.1 h
        · exact hk.2 h
        · simp [Value.ownBlock] at h))
      have HB4 := Aside0.mk (HB.out.trans hK4.below)
      clear he hR4 hK4
      go_wp2_with fail
      go_at_call 44
      refine (same_any (FR b) (by have := HFL.out; have := HBL.out; omega) Ag cg A5 c5 W4 (Kd.R_reads' HG4.out).2.2 (Kd.R_reads' HG4.out).2.1 (Kd.C_below HC5.out HB4.out) HL5.out).mono ?_
      rintro e W6 ⟨rfl, hB6⟩
      have HB6 := Aside0.mk (HB4.out.trans (hB6.mono HB4.out.size))
      clear hB6
      go_wp2_with fail
      go_ret
      exact ⟨rfl, HB1.out.trans (HB6.out.mono HB1.out.size)⟩
theorem framePieces (a0 : Option Addr) (len0 cap0 : Nat) (z0 : List Int) (a1 : Option Addr) (len1 cap1 : Nat) (z1 : List Int) (w : World) (w0 : (a0 = none ∧ len0 = 0 ∧ cap0 = 0 ∧ z0 = []) ∨ ∃ x, a0 = some x ∧ len0 ≤ cap0 ∧ cap0 ≤ maxLen ∧ z0.length = cap0 ∧ (∀ i, i < z0.length → w.cell? (x.add i) = some (.int .u8 (z0.getD i 0))) ∧ ∀ n ∈ z0, (Lit.int .u8 n).wf = true) (y0 : len0 * 1 ≤ 1048576)
    (w1 : (a1 = none ∧ len1 = 0 ∧ cap1 = 0 ∧ z1 = []) ∨ ∃ x, a1 = some x ∧ len1 ≤ cap1 ∧ cap1 ≤ maxLen ∧ z1.length = cap1 ∧ (∀ i, i < z1.length → w.cell? (x.add i) = some (.int .i64 (z1.getD i 0))) ∧ ∀ n ∈ z1, (Lit.int .i64 n).wf = true) (y1 : len1 * 1 ≤ 1048576) (hT : Kd.C (Kd.int .u32) w (some ⟨0, 0, none⟩) 16 crcTab) :
    Calls Tryd.prog 19 #[.slice a0 len0 cap0, .slice a1 len1 cap1] w fun e w' => e = .returned (.bool true) ∧ Below w.heap.size w w' := by
  obtain ⟨l0, rfl, hr0, hm0, hw0, hc0⟩ := ReadsInt.ofRowC w0
  obtain ⟨l1, rfl, hr1, hm1, hw1, hc1⟩ := ReadsInt.ofRowC w1
  have h0 : 0 < w.heap.size := by
    obtain ⟨ad, e, hc⟩ := (Kd.reads_of_C (d := (0 : Int)) (h1 := fun _ => rfl) hT).2.2 (by decide)
    have := World.block_lt_of_cell? _ _ (hc 0 (by decide))
    omega
  exact pieces_walk _ _ l0 _ _ l1 w (Kd.C_of_reads (d := (0 : Int)) (h1 := fun _ => rfl) hr0) hc0 (bytes_of_wf hw0) (by omega) (Kd.C_of_reads (d := (0 : Int)) (h1 := fun _ => rfl) hr1) hc1 (by omega) (fun x hx => i64_bd (hw1 x hx)) hT h0
end Go.Proofs.YtlblleideihhmaaDoor.Rd
