import Derived.Test.YtlblleideihhmaaDoorEachB
import Derived.Test.YtlblleideihhmaaDoorScans
namespace Go.Proofs.YtlblleideihhmaaDoor.Each
open Go Go.RowKit Go.Proofs.SeqWith Go.Proofs.YtlblleideihhmaaDoor.UnLaw Go.Proofs.YtlblleideihhmaaDoor.Num Go.Proofs.YtlblleideihhmaaDoor.FrMore Go.Proofs.YtlblleideihhmaaDoor.Crc Go.Proofs.YtlblleideihhmaaDoor.CrcLaw Go.Proofs.YtlblleideihhmaaDoor.SealLaw Go.Proofs.YtlblleideihhmaaDoor.PB Go.Proofs.YtlblleideihhmaaDoor.Mine Go.Proofs.YtlblleideihhmaaDoorW.PrintWords Go.Proofs.YtlblleideihhmaaDoorW.PrintLast Go.Proofs.YtlblleideihhmaaDoorW.PrintMore
set_option linter.unusedVariables false
set_option linter.unusedSimpArgs false
set_option maxHeartbeats 4000000
set_option maxRecDepth 100000
section
variable (l : List Int) (hb : IsBytes l) (hl : l.length < 4398046511104) (A : Option Addr) (c : Nat) (W : World) (hC : Kd.C (Kd.int .u8) W A l.length l) (hc : l.length ≤ c)
include hl hC hc
theorem lent_at : Calls Tryd.prog 22 #[.slice A l.length c] W fun e w' => ∃ A' c', e = .returned (.slice A' l.length c') ∧ l.length ≤ c' ∧ Kd.R (Kd.int .u8) 5 w' W.heap.size (fun _ => True) (.slice A' l.length c') l ∧
    Kd.C (Kd.int .u8) w' A' (l ++ marks9).length (l ++ marks9) ∧ (l ++ marks9).length ≤ c' ∧ Below W.heap.size W w' := by
  refine (larderref01_Lent.calls A c l l W hC hc (by rw [larderref01_Lent.f, if_pos (by omega)])).mono ?_
  rintro e w' ⟨v, rfl, hR, ⟨hC2, hc2⟩, hB⟩
  obtain ⟨A', c', rfl, hc', _⟩ := Kd.R_reads hR
  exact ⟨A', c', rfl, hc', hR, hC2, hc2, hB⟩
include hb
theorem scan_at (hT : Kd.C (Kd.int .u32) W (some ⟨0, 0, none⟩) 16 crcTab) : Calls Tryd.prog 42 #[.slice A l.length c] W fun e w' => ∃ A' c', e = .returned (.tuple #[.slice A' (frames l.length l 0).length c', .int .i64 (ends l.length l 0).1, .int .i64 (ends l.length l 0).2]) ∧
    (frames l.length l 0).length ≤ c' ∧ Kd.C (Kd.slice 5 (Kd.int .u8)) w' A' (frames l.length l 0).length ((frames l.length l 0).map (·.2)) ∧ Below W.heap.size W w' := by
  refine (frame_Scan.calls (11 * l.length + 61) A c l _ _ _ W hC hc hT (scans l hb hl _ (by omega)).1).mono ?_
  rintro e w' ⟨v, rfl, hR, hB⟩
  obtain ⟨A', c', rfl, hc', hC'⟩ := Kd.S_reads hR
  rw [List.length_map] at hc' hC' ⊢
  exact ⟨A', c', rfl, hc', hC', hB⟩
theorem refScan_at : Calls Tryd.prog 43 #[.slice A l.length c] W fun e w' => ∃ A' c', e = .returned (.tuple #[.slice A' (frames l.length l 0).length c', .int .i64 (ends l.length l 0).1, .int .i64 (ends l.length l 0).2]) ∧
    (frames l.length l 0).length ≤ c' ∧ Kd.C (Kd.slice 5 (Kd.int .u8)) w' A' (frames l.length l 0).length ((frames l.length l 0).map (·.2)) ∧ Below W.heap.size W w' := by
  refine (larderref01_Scan.calls (11 * l.length + 61) A c l _ _ _ W hC hc (scans l hb hl _ (by omega)).2.2.1).mono ?_
  rintro e w' ⟨v, rfl, hR, hB⟩
  obtain ⟨A', c', rfl, hc', hC'⟩ := Kd.N_reads hR
  rw [List.length_map] at hc' hC' ⊢
  exact ⟨A', c', rfl, hc', hC', hB⟩
theorem row_at : Calls Tryd.prog 45 #[.slice A l.length c] W fun e w' => ∃ A' c', e = .returned (.tuple #[.slice A' (frames l.length l 0).length c', .int .i64 (ends l.length l 0).1, .int .i64 (ends l.length l 0).2]) ∧
    (frames l.length l 0).length ≤ c' ∧ Kd.C k66 w' A' (frames l.length l 0).length ((frames l.length l 0).map (fun x => (⟨x.1, x.2⟩ : S66))) ∧
    Kd.S k66 66 w' W.heap.size (fun _ => True) (.slice A' (frames l.length l 0).length c') ((frames l.length l 0).map (fun x => (⟨x.1, x.2⟩ : S66))) ∧ Below W.heap.size W w' := by
  refine (larderref01_Row.calls (11 * l.length + 61) A c l _ _ _ W hC hc (scans l hb hl _ (by omega)).2.1).mono ?_
  rintro e w' ⟨v, rfl, hR, hB⟩
  obtain ⟨A', c', rfl, hc', hC'⟩ := Kd.S_reads hR
  rw [List.length_map] at hc' hC' hR ⊢
  exact ⟨A', c', rfl, hc', hC', hR, hB⟩
end
theorem kept_at (l : List Int) (A : Option Addr) (c : Nat) (A1 : Option Addr) (c1 : Nat) (W : World) (hC : Kd.C (Kd.int .u8) W A l.length l) (hc : l.length ≤ c) (hC1 : Kd.C (Kd.int .u8) W A1 l.length l) (hc1 : l.length ≤ c1)
    (hs : Kd.C (Kd.int .u8) W A (l ++ marks9).length (l ++ marks9)) (hs2 : (l ++ marks9).length ≤ c) : Calls Tryd.prog 27 #[.slice A l.length c, .slice A1 l.length c1] W fun e w' => e = .returned (.bool true) ∧ Below W.heap.size W w' := by
  refine (larderref01_Kept.calls A c l A1 c1 l true W hC hc hC1 hc1 hs hs2 (by rw [larderref01_Kept.f, if_pos rfl])).mono ?_
  rintro e w' ⟨rfl, h⟩
  obtain ⟨n, rfl⟩ := h.out
  exact ⟨rfl, pw_below_drewN (Below.refl _ _) n⟩
theorem same_at (l : List Int) (hb : IsBytes l) (hl : l.length < 4398046511104) (A : Option Addr) (c : Nat) (A1 : Option Addr) (c1 : Nat) (W : World) (hC : Kd.C (Kd.slice 5 (Kd.int .u8)) W A (frames l.length l 0).length ((frames l.length l 0).map (·.2))) (hc : (frames l.length l 0).length ≤ c)
    (hC1 : Kd.C (Kd.slice 5 (Kd.int .u8)) W A1 (frames l.length l 0).length ((frames l.length l 0).map (·.2))) (hc1 : (frames l.length l 0).length ≤ c1) :
    Calls Tryd.prog 44 #[.slice A (frames l.length l 0).length c, .slice A1 (frames l.length l 0).length c1] W fun e w' => e = .returned (.bool true) ∧ Below W.heap.size W w' := by
  have h := larderlaw01_same.calls (11 * l.length + 61) A c ((frames l.length l 0).map (·.2)) A1 c1 ((frames l.length l 0).map (·.2)) true W (by rw [List.length_map]; exact hC) (by rw [List.length_map]; exact hc) (by rw [List.length_map]; exact hC1) (by rw [List.length_map]; exact hc1) (scans l hb hl _ (by omega)).2.2.2
  rw [List.length_map] at h
  refine h.mono ?_
  rintro e w' ⟨rfl, h⟩
  obtain ⟨n, rfl⟩ := h.out
  exact ⟨rfl, pw_below_drewN (Below.refl _ _) n⟩
end Go.Proofs.YtlblleideihhmaaDoor.Each
