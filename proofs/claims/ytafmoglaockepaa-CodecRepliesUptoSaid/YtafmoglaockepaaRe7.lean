/- The document's Reply, walked. A codec's writer: text, int, walked. A codec's writer: lists of levels, a reply, walked. A codec's put, and PutReply, walked. -/
import Derived.Test.YtafmoglaockepaaRe6
import Derived.Deep.RegionHeld3
import Derived.Deep.RegionLaw
import Derived.Test.YtafmoglaockepaaRe1
import Derived.Test.YtafmoglaockepaaPGx3
import Derived.Test.YtafmoglaockepaaPGx9
namespace Go.Proofs.Ytafmoglaockepaa.Cd
open Go Go.RowKit Go.Proofs.Ytafmoglaockepaa.Num Go.Proofs.Ytafmoglaockepaa.PG Go.Proofs.YtafmoglaockepaaW.PrintWords Go.Proofs.YtafmoglaockepaaW.PrintLast Go.Proofs.YtafmoglaockepaaW.PrintMore
set_option linter.unusedVariables false
set_option linter.unusedSimpArgs false
set_option maxHeartbeats 4000000
set_option maxRecDepth 100000
variable {g B : Nat} {A : Option Addr} {n c : Nat} {xs : List Int} {most : Nat}
theorem reply_is {s0 : Res Unit} {t : ByteArray} {a z y : Int} {l : List S28} {w : World}
    (k : QSt g B A n c xs most (((((s0.bind fun _ m => pT xs most m).bind fun _ m => pI xs m).bind fun _ m => pI xs m).bind fun _ m => pList xs most (pLevel xs most) m).bind fun _ m => pI xs m) w)
    (h0 : ∀ x m, (s0.bind fun _ m => pT xs most m) = .ok x m → x = t)
    (h1 : ∀ x m, ((s0.bind fun _ m => pT xs most m).bind fun _ m => pI xs m) = .ok x m → x = a)
    (h2 : ∀ x m, (((s0.bind fun _ m => pT xs most m).bind fun _ m => pI xs m).bind fun _ m => pI xs m) = .ok x m → x = z)
    (h3 : ∀ x m, ((((s0.bind fun _ m => pT xs most m).bind fun _ m => pI xs m).bind fun _ m => pI xs m).bind fun _ m => pList xs most (pLevel xs most) m) = .ok x m → x = l)
    (h4 : ∀ x m, (((((s0.bind fun _ m => pT xs most m).bind fun _ m => pI xs m).bind fun _ m => pI xs m).bind fun _ m => pList xs most (pLevel xs most) m).bind fun _ m => pI xs m) = .ok x m → x = y) :
    endOf (tailOf xs (((((s0.bind fun _ m => pT xs most m).bind fun _ m => pI xs m).bind fun _ m => pI xs m).bind fun _ m => pList xs most (pLevel xs most) m).bind fun _ m => pI xs m)) = endOf (s0.bind fun _ m => tailOf xs (pReply xs most m)) ∧
    ((∃ m, (s0.bind fun _ m => tailOf xs (pReply xs most m)) = .ok ⟨t, a, z, l, y⟩ m) ∨ (∃ e p, (s0.bind fun _ m => tailOf xs (pReply xs most m)) = .fail e p ∧ e ≠ 0)) := by
  revert k h0 h1 h2 h3 h4
  unfold pReply tailOf
  cases s0 with
  | fail e p => exact fun k _ _ _ _ _ => ⟨rfl, .inr ⟨e, p, rfl, k.1⟩⟩
  | ok u m0 =>
    simp only [Res.bind]
    cases pT xs most m0 with
    | fail e p => exact fun k _ _ _ _ _ => ⟨rfl, .inr ⟨e, p, rfl, k.1⟩⟩
    | ok x0 m1 =>
      simp only
      cases pI xs m1 with
      | fail e p => exact fun k _ _ _ _ _ => ⟨rfl, .inr ⟨e, p, rfl, k.1⟩⟩
      | ok x1 m2 =>
        simp only
        cases pI xs m2 with
        | fail e p => exact fun k _ _ _ _ _ => ⟨rfl, .inr ⟨e, p, rfl, k.1⟩⟩
        | ok x2 m3 =>
          simp only
          cases pList xs most (pLevel xs most) m3 with
          | fail e p => exact fun k _ _ _ _ _ => ⟨rfl, .inr ⟨e, p, rfl, k.1⟩⟩
          | ok x3 m4 =>
            simp only
            cases pI xs m4 with
            | fail e p => exact fun k _ _ _ _ _ => ⟨rfl, .inr ⟨e, p, rfl, k.1⟩⟩
            | ok x4 m5 =>
              intro k h0 h1 h2 h3 h4
              simp only
              rw [h0 _ _ rfl, h1 _ _ rfl, h2 _ _ rfl, h3 _ _ rfl, h4 _ _ rfl]
              split
              · exact ⟨rfl, .inr ⟨4, _, rfl, by decide⟩⟩
              · exact ⟨rfl, .inl ⟨_, rfl⟩⟩
theorem refReply_at (A : Option Addr) (n c : Nat) (xs : List Int) (W : World) (hC : Kd.C (Kd.int .u8) W A n xs) (hnc : n ≤ c) (hb : IsBytes xs) (hbig : n < 1000000000) :
    Calls Try.prog 16 #[.slice A n c] W fun e w' => Below W.heap.size W w' ∧ ∃ v, e = .returned (.tuple #[v, .int .i64 (endOf (whole 82 4096 xs (pReply xs 4096))).1, .int .i64 (endOf (whole 82 4096 xs (pReply xs 4096))).2]) ∧ encRep W.heap.size (outD (whole 82 4096 xs (pReply xs 4096))) v w' := by
  obtain ⟨wh, hwh⟩ : ∃ wh, whole 82 4096 xs (pReply xs 4096) = wh := ⟨_, rfl⟩
  have HWH := Aside0.mk (show ((hdr 82 4096 xs).bind fun _ m => tailOf xs (pReply xs 4096 m)) = wh by rw [← hwh, whole_hdr]; rfl)
  rw [hwh]
  clear hwh
  have hb1 : Below W.heap.size W (W.alloc (.cells #[.string ⟨#[]⟩, .int .i64 0, .int .i64 0, .slice none 0 0, .int .i64 0] 25)) := below_alloc (Below.refl _ _) _
  have o1 : Rt 25 W.heap.size zeroRep (W.alloc (.cells #[.string ⟨#[]⟩, .int .i64 0, .int .i64 0, .slice none 0 0, .int .i64 0] 25)) := heap_alloc_new W _
  have hC1 := Kd.C_below hC hb1
  have HBG := Aside0.mk (q_begin A n c xs 4096 82 (W.alloc (.cells #[.string ⟨#[]⟩, .int .i64 0, .int .i64 0, .slice none 0 0, .int .i64 0] 25)) hC1 hnc hb hbig (by decide))
  obtain ⟨bo, hbo⟩ : ∃ bo, W.heap.size = bo := ⟨_, rfl⟩
  have HBO := Aside0.mk hbo
  rw [hbo] at o1
  have B1 := Aside0.mk (show Below bo W (W.alloc (.cells #[.string ⟨#[]⟩, .int .i64 0, .int .i64 0, .slice none 0 0, .int .i64 0] 25)) by rw [← hbo]; exact hb1)
  have O1 := Aside0.mk o1
  clear hC hC1 hnc hb hbig hb1 o1 hbo
  go_enter Try.func16, Try.ntmps16
  go_upto_region 1 with fail
  have hbo := HBO.out
  rw [hbo]
  clear hbo
  generalize W.alloc (.cells #[.string ⟨#[]⟩, .int .i64 0, .int .i64 0, .slice none 0 0, .int .i64 0] 25) = wa at *
  go_wp2_with fail
  go_at_call 64
  refine HBG.out.mono ?_
  rintro e wb ⟨rfl, hb, hq⟩
  obtain ⟨g, hg⟩ : ∃ g, wa.heap.size = g := ⟨_, rfl⟩
  rw [hg] at hb hq ⊢
  obtain ⟨s0, hs0⟩ : ∃ s0, hdr 82 4096 xs = s0 := ⟨_, rfl⟩
  have HS := HWH.out
  rw [hs0] at hq HS
  have HGO := Aside0.mk (show bo < g by have := O1.out.lt; omega)
  have K0 := Aside0.mk hq
  have B0 := Aside0.mk (show Below bo W wb from B1.out.trans (hb.mono (Nat.le_of_lt HGO.out)))
  have O0 := Aside0.mk (show Rt 25 bo zeroRep wb from (hb.block bo HGO.out).trans O1.out)
  have HSS := Aside0.mk HS
  clear hb hq HS hs0 HBG HWH B1 O1 hg
  go_upto_region 3 with fail
  have hb2 : Below wb.heap.size wb (wb.alloc (.cells #[.string ⟨#[]⟩, .int .i64 0, .int .i64 0, .slice none 0 0, .int .i64 0] 25)) := below_alloc (Below.refl _ _) _
  have r2 : Rt 25 wb.heap.size zeroRep (wb.alloc (.cells #[.string ⟨#[]⟩, .int .i64 0, .int .i64 0, .slice none 0 0, .int .i64 0] 25)) := heap_alloc_new wb _
  obtain ⟨b, hbe⟩ : ∃ b, wb.heap.size = b := ⟨_, rfl⟩
  have HLT := Aside0.mk (show bo < g ∧ g < b by have := K0.out.lt; have := HGO.out; omega)
  have K1 := Aside0.mk (K0.out.below hb2)
  have B1 := Aside0.mk (B0.out.trans (hb2.mono (by have := HLT.out; omega)))
  have O1 := Aside0.mk (O0.out.below hb2)
  rw [hbe] at r2 ⊢
  have R1 := Aside0.mk r2
  clear hb2 r2 hbe
  generalize wb.alloc (.cells #[.string ⟨#[]⟩, .int .i64 0, .int .i64 0, .slice none 0 0, .int .i64 0] 25) = w1 at *
  have cr := R1.out.cell 0 _ rfl
  have fr := R1.out.free 0
  go_wp2_with fail
  go_at_call 65
  refine (q_text K1.out).mono ?_
  rintro e w2 ⟨hb, hp, t, v, rfl, rfl, hx, hq⟩
  have X0 := Aside0.mk hx
  have K2 := Aside0.mk hq
  have B2 := Aside0.mk (show Below bo W w2 from B1.out.trans (hb.mono (by have := HLT.out; omega)))
  have O2 := Aside0.mk (show Rt 25 bo zeroRep w2 from (hp.2 bo O1.out.lt (by have := HLT.out; show bo ≠ g; omega)).trans O1.out)
  have R2 := Aside0.mk (show Rt 25 b [Value.string ⟨#[]⟩, .int .i64 0, .int .i64 0, .slice none 0 0, .int .i64 0] w2 from (hp.2 b R1.out.lt (by have := HLT.out; show b ≠ g; omega)).trans R1.out)
  clear hb hp hx hq cr fr
  have cr := R2.out.cell 0 _ rfl
  have fr := R2.out.free 0
  go_upto_region 4 with fail
  have e1 := R2.out.set 0 (.string t)
  rw [e1]
  clear e1 cr fr
  have hl : [Value.string ⟨#[]⟩, .int .i64 0, .int .i64 0, .slice none 0 0, .int .i64 0].set 0 (.string t) = [Value.string t, .int .i64 0, .int .i64 0, .slice none 0 0, .int .i64 0] := rfl
  rw [hl]
  clear hl
  have K3 := Aside0.mk (K2.out.aside (W' := w2.setRow b [Value.string t, .int .i64 0, .int .i64 0, .slice none 0 0, .int .i64 0].toArray) (below_setRow' (Below.refl _ _) (by have := HLT.out; omega) _) (setRow_other _ _ _ _ (by have := HLT.out; omega)))
  have B3 := Aside0.mk (show Below bo W (w2.setRow b [Value.string t, .int .i64 0, .int .i64 0, .slice none 0 0, .int .i64 0].toArray) from below_setRow' B2.out (by have := HLT.out; omega) _)
  have O3 := Aside0.mk (show Rt 25 bo zeroRep (w2.setRow b [Value.string t, .int .i64 0, .int .i64 0, .slice none 0 0, .int .i64 0].toArray) from (setRow_other _ _ _ _ (by have := HLT.out; omega)).trans O2.out)
  have R3 := Aside0.mk (show Rt 25 b [Value.string t, .int .i64 0, .int .i64 0, .slice none 0 0, .int .i64 0] (w2.setRow b [Value.string t, .int .i64 0, .int .i64 0, .slice none 0 0, .int .i64 0].toArray) from R2.out.row _)
  generalize w2.setRow b [Value.string t, .int .i64 0, .int .i64 0, .slice none 0 0, .int .i64 0].toArray = w3 at *
  have cr := R3.out.cell 1 _ rfl
  have fr := R3.out.free 1
  go_wp2_with fail
  go_at_call 66
  refine (q_int K3.out).mono ?_
  rintro e w4 ⟨hb, hp, a, v, rfl, rfl, hx, hq⟩
  have X1 := Aside0.mk hx
  have K4 := Aside0.mk hq
  have B4 := Aside0.mk (show Below bo W w4 from B3.out.trans (hb.mono (by have := HLT.out; omega)))
  have O4 := Aside0.mk (show Rt 25 bo zeroRep w4 from (hp.2 bo O3.out.lt (by have := HLT.out; show bo ≠ g; omega)).trans O3.out)
  have R4 := Aside0.mk (show Rt 25 b [Value.string t, .int .i64 0, .int .i64 0, .slice none 0 0, .int .i64 0] w4 from (hp.2 b R3.out.lt (by have := HLT.out; show b ≠ g; omega)).trans R3.out)
  clear hb hp hx hq cr fr
  have cr := R4.out.cell 1 _ rfl
  have fr := R4.out.free 1
  go_upto_region 5 with fail
  have e1 := R4.out.set 1 (.int .i64 a)
  rw [e1]
  clear e1 cr fr
  have hl : [Value.string t, .int .i64 0, .int .i64 0, .slice none 0 0, .int .i64 0].set 1 (.int .i64 a) = [Value.string t, .int .i64 a, .int .i64 0, .slice none 0 0, .int .i64 0] := rfl
  rw [hl]
  clear hl
  have K5 := Aside0.mk (K4.out.aside (W' := w4.setRow b [Value.string t, .int .i64 a, .int .i64 0, .slice none 0 0, .int .i64 0].toArray) (below_setRow' (Below.refl _ _) (by have := HLT.out; omega) _) (setRow_other _ _ _ _ (by have := HLT.out; omega)))
  have B5 := Aside0.mk (show Below bo W (w4.setRow b [Value.string t, .int .i64 a, .int .i64 0, .slice none 0 0, .int .i64 0].toArray) from below_setRow' B4.out (by have := HLT.out; omega) _)
  have O5 := Aside0.mk (show Rt 25 bo zeroRep (w4.setRow b [Value.string t, .int .i64 a, .int .i64 0, .slice none 0 0, .int .i64 0].toArray) from (setRow_other _ _ _ _ (by have := HLT.out; omega)).trans O4.out)
  have R5 := Aside0.mk (show Rt 25 b [Value.string t, .int .i64 a, .int .i64 0, .slice none 0 0, .int .i64 0] (w4.setRow b [Value.string t, .int .i64 a, .int .i64 0, .slice none 0 0, .int .i64 0].toArray) from R4.out.row _)
  generalize w4.setRow b [Value.string t, .int .i64 a, .int .i64 0, .slice none 0 0, .int .i64 0].toArray = w5 at *
  have cr := R5.out.cell 2 _ rfl
  have fr := R5.out.free 2
  go_wp2_with fail
  go_at_call 66
  refine (q_int K5.out).mono ?_
  rintro e w6 ⟨hb, hp, z, v, rfl, rfl, hx, hq⟩
  have X2 := Aside0.mk hx
  have K6 := Aside0.mk hq
  have B6 := Aside0.mk (show Below bo W w6 from B5.out.trans (hb.mono (by have := HLT.out; omega)))
  have O6 := Aside0.mk (show Rt 25 bo zeroRep w6 from (hp.2 bo O5.out.lt (by have := HLT.out; show bo ≠ g; omega)).trans O5.out)
  have R6 := Aside0.mk (show Rt 25 b [Value.string t, .int .i64 a, .int .i64 0, .slice none 0 0, .int .i64 0] w6 from (hp.2 b R5.out.lt (by have := HLT.out; show b ≠ g; omega)).trans R5.out)
  clear hb hp hx hq cr fr
  have cr := R6.out.cell 2 _ rfl
  have fr := R6.out.free 2
  go_upto_region 6 with fail
  have e1 := R6.out.set 2 (.int .i64 z)
  rw [e1]
  clear e1 cr fr
  have hl : [Value.string t, .int .i64 a, .int .i64 0, .slice none 0 0, .int .i64 0].set 2 (.int .i64 z) = [Value.string t, .int .i64 a, .int .i64 z, .slice none 0 0, .int .i64 0] := rfl
  rw [hl]
  clear hl
  have K7 := Aside0.mk (K6.out.aside (W' := w6.setRow b [Value.string t, .int .i64 a, .int .i64 z, .slice none 0 0, .int .i64 0].toArray) (below_setRow' (Below.refl _ _) (by have := HLT.out; omega) _) (setRow_other _ _ _ _ (by have := HLT.out; omega)))
  have B7 := Aside0.mk (show Below bo W (w6.setRow b [Value.string t, .int .i64 a, .int .i64 z, .slice none 0 0, .int .i64 0].toArray) from below_setRow' B6.out (by have := HLT.out; omega) _)
  have O7 := Aside0.mk (show Rt 25 bo zeroRep (w6.setRow b [Value.string t, .int .i64 a, .int .i64 z, .slice none 0 0, .int .i64 0].toArray) from (setRow_other _ _ _ _ (by have := HLT.out; omega)).trans O6.out)
  have R7 := Aside0.mk (show Rt 25 b [Value.string t, .int .i64 a, .int .i64 z, .slice none 0 0, .int .i64 0] (w6.setRow b [Value.string t, .int .i64 a, .int .i64 z, .slice none 0 0, .int .i64 0].toArray) from R6.out.row _)
  generalize w6.setRow b [Value.string t, .int .i64 a, .int .i64 z, .slice none 0 0, .int .i64 0].toArray = w7 at *
  have cr := R7.out.cell 3 _ rfl
  have fr := R7.out.free 3
  go_wp2_with fail
  go_at_call 67
  refine (q_levels K7.out (by decide)).mono ?_
  rintro e w8 ⟨hb, hp, l, v, rfl, hRl, hx, hq⟩
  obtain ⟨Al, cl, ev⟩ := Kd.R_slice hRl
  obtain ⟨nl, hnl⟩ : ∃ nl, l.length = nl := ⟨_, rfl⟩
  rw [hnl] at ev
  subst ev
  have L8 := Aside0.mk (show k28.R 28 w8 (b + 1) (fun _ => True) (.slice Al nl cl) l from Kd.R_lower hRl R7.out.lt)
  clear hRl hnl
  have X3 := Aside0.mk hx
  have K8 := Aside0.mk hq
  have B8 := Aside0.mk (show Below bo W w8 from B7.out.trans (hb.mono (by have := HLT.out; omega)))
  have O8 := Aside0.mk (show Rt 25 bo zeroRep w8 from (hp.2 bo O7.out.lt (by have := HLT.out; show bo ≠ g; omega)).trans O7.out)
  have R8 := Aside0.mk (show Rt 25 b [Value.string t, .int .i64 a, .int .i64 z, .slice none 0 0, .int .i64 0] w8 from (hp.2 b R7.out.lt (by have := HLT.out; show b ≠ g; omega)).trans R7.out)
  clear hb hp hx hq cr fr
  have cr := R8.out.cell 3 _ rfl
  have fr := R8.out.free 3
  go_upto_region 7 with fail
  have e1 := R8.out.set 3 (.slice Al nl cl)
  rw [e1]
  clear e1 cr fr
  have hl : [Value.string t, .int .i64 a, .int .i64 z, .slice none 0 0, .int .i64 0].set 3 (.slice Al nl cl) = [Value.string t, .int .i64 a, .int .i64 z, .slice Al nl cl, .int .i64 0] := rfl
  rw [hl]
  clear hl
  have K9 := Aside0.mk (K8.out.aside (W' := w8.setRow b [Value.string t, .int .i64 a, .int .i64 z, .slice Al nl cl, .int .i64 0].toArray) (below_setRow' (Below.refl _ _) (by have := HLT.out; omega) _) (setRow_other _ _ _ _ (by have := HLT.out; omega)))
  have B9 := Aside0.mk (show Below bo W (w8.setRow b [Value.string t, .int .i64 a, .int .i64 z, .slice Al nl cl, .int .i64 0].toArray) from below_setRow' B8.out (by have := HLT.out; omega) _)
  have O9 := Aside0.mk (show Rt 25 bo zeroRep (w8.setRow b [Value.string t, .int .i64 a, .int .i64 z, .slice Al nl cl, .int .i64 0].toArray) from (setRow_other _ _ _ _ (by have := HLT.out; omega)).trans O8.out)
  have R9 := Aside0.mk (show Rt 25 b [Value.string t, .int .i64 a, .int .i64 z, .slice Al nl cl, .int .i64 0] (w8.setRow b [Value.string t, .int .i64 a, .int .i64 z, .slice Al nl cl, .int .i64 0].toArray) from R8.out.row _)
  have L9 := Aside0.mk (show k28.R 28 (w8.setRow b [Value.string t, .int .i64 a, .int .i64 z, .slice Al nl cl, .int .i64 0].toArray) (b + 1) (fun _ => True) (.slice Al nl cl) l from Kd.R_mono (Kd.R_step (Kd.R_bound L8.out) (fun j hj _ => setRow_other _ _ _ _ (by have := hj.2.1; omega))) (fun _ _ => trivial))
  generalize w8.setRow b [Value.string t, .int .i64 a, .int .i64 z, .slice Al nl cl, .int .i64 0].toArray = w9 at *
  have cr := R9.out.cell 4 _ rfl
  have fr := R9.out.free 4
  go_wp2_with fail
  go_at_call 66
  refine (q_int K9.out).mono ?_
  rintro e w10 ⟨hb, hp, y, v, rfl, rfl, hx, hq⟩
  have X4 := Aside0.mk hx
  have K10 := Aside0.mk hq
  have B10 := Aside0.mk (show Below bo W w10 from B9.out.trans (hb.mono (by have := HLT.out; omega)))
  have O10 := Aside0.mk (show Rt 25 bo zeroRep w10 from (hp.2 bo O9.out.lt (by have := HLT.out; show bo ≠ g; omega)).trans O9.out)
  have R10 := Aside0.mk (show Rt 25 b [Value.string t, .int .i64 a, .int .i64 z, .slice Al nl cl, .int .i64 0] w10 from (hp.2 b R9.out.lt (by have := HLT.out; show b ≠ g; omega)).trans R9.out)
  have L10 := Aside0.mk (show k28.R 28 w10 (b + 1) (fun _ => True) (.slice Al nl cl) l from Kd.R_mono (Kd.R_kept (Kd.R_bound L9.out) hp (fun j hj e => by have := hj.2.1; have := HLT.out; omega)) (fun _ _ => trivial))
  clear hb hp hx hq cr fr
  have cr := R10.out.cell 4 _ rfl
  have fr := R10.out.free 4
  go_upto_region 8 with fail
  have e1 := R10.out.set 4 (.int .i64 y)
  rw [e1]
  clear e1 cr fr
  have hl : [Value.string t, .int .i64 a, .int .i64 z, .slice Al nl cl, .int .i64 0].set 4 (.int .i64 y) = [Value.string t, .int .i64 a, .int .i64 z, .slice Al nl cl, .int .i64 y] := rfl
  rw [hl]
  clear hl
  have K11 := Aside0.mk (K10.out.aside (W' := w10.setRow b [Value.string t, .int .i64 a, .int .i64 z, .slice Al nl cl, .int .i64 y].toArray) (below_setRow' (Below.refl _ _) (by have := HLT.out; omega) _) (setRow_other _ _ _ _ (by have := HLT.out; omega)))
  have B11 := Aside0.mk (show Below bo W (w10.setRow b [Value.string t, .int .i64 a, .int .i64 z, .slice Al nl cl, .int .i64 y].toArray) from below_setRow' B10.out (by have := HLT.out; omega) _)
  have O11 := Aside0.mk (show Rt 25 bo zeroRep (w10.setRow b [Value.string t, .int .i64 a, .int .i64 z, .slice Al nl cl, .int .i64 y].toArray) from (setRow_other _ _ _ _ (by have := HLT.out; omega)).trans O10.out)
  have R11 := Aside0.mk (show Rt 25 b [Value.string t, .int .i64 a, .int .i64 z, .slice Al nl cl, .int .i64 y] (w10.setRow b [Value.string t, .int .i64 a, .int .i64 z, .slice Al nl cl, .int .i64 y].toArray) from R10.out.row _)
  have L11 := Aside0.mk (show k28.R 28 (w10.setRow b [Value.string t, .int .i64 a, .int .i64 z, .slice Al nl cl, .int .i64 y].toArray) (b + 1) (fun _ => True) (.slice Al nl cl) l from Kd.R_mono (Kd.R_step (Kd.R_bound L10.out) (fun j hj _ => setRow_other _ _ _ _ (by have := hj.2.1; omega))) (fun _ _ => trivial))
  generalize w10.setRow b [Value.string t, .int .i64 a, .int .i64 z, .slice Al nl cl, .int .i64 y].toArray = w11 at *
  have HI := Aside0.mk (reply_is K11.out X0.out X1.out X2.out X3.out X4.out)
  have hQE := q_end K11.out
  rw [HI.out.1, HSS.out] at hQE
  have HQE := Aside0.mk hQE
  have HI2 := HI.out.2
  rw [HSS.out] at HI2
  clear hQE HI
  go_wp2_with fail
  go_at_call 68
  refine HQE.out.mono ?_
  rintro e w12 ⟨hb, hp, rfl⟩
  have B12 := Aside0.mk (show Below bo W w12 from B11.out.trans (hb.mono (by have := HLT.out; omega)))
  have O12 := Aside0.mk (show Rt 25 bo zeroRep w12 from (hp.2 bo O11.out.lt (by have := HLT.out; show bo ≠ g; omega)).trans O11.out)
  have R12 := Aside0.mk (show Rt 25 b [Value.string t, .int .i64 a, .int .i64 z, .slice Al nl cl, .int .i64 y] w12 from (hp.2 b R11.out.lt (by have := HLT.out; show b ≠ g; omega)).trans R11.out)
  have L12 := Aside0.mk (show k28.R 28 w12 (b + 1) (fun _ => True) (.slice Al nl cl) l from Kd.R_mono (Kd.R_kept (Kd.R_bound L11.out) hp (fun j hj e => by have := hj.2.1; have := HLT.out; omega)) (fun _ _ => trivial))
  clear hb hp HQE
  have z0 := O12.out.cell 0 _ rfl
  have z1 := O12.out.cell 1 _ rfl
  have z2 := O12.out.cell 2 _ rfl
  have z3 := O12.out.cell 3 _ rfl
  have z4 := O12.out.cell 4 _ rfl
  have f0 := O12.out.free 0
  have f1 := O12.out.free 1
  have f2 := O12.out.free 2
  have f3 := O12.out.free 3
  have f4 := O12.out.free 4
  rcases HI2 with ⟨m, rfl⟩ | ⟨e, p, rfl, he⟩
  · have x0 := R12.out.cell 0 _ rfl
    have x1 := R12.out.cell 1 _ rfl
    have x2 := R12.out.cell 2 _ rfl
    have x3 := R12.out.cell 3 _ rfl
    have x4 := R12.out.cell 4 _ rfl
    simp only [endOf]
    go_wp2_with fail
    rw [O12.out.fill5]
    have R3 : Rt 25 bo [.string t, .int .i64 a, .int .i64 z, .slice Al nl cl, .int .i64 y] (w12.setRow bo [Value.string t, .int .i64 a, .int .i64 z, .slice Al nl cl, .int .i64 y].toArray) := O12.out.row _
    have L3 : k28.R 28 (w12.setRow bo [Value.string t, .int .i64 a, .int .i64 z, .slice Al nl cl, .int .i64 y].toArray) (b + 1) (fun _ => True) (.slice Al nl cl) l := Kd.R_mono (Kd.R_step (Kd.R_bound L12.out) (fun j hj _ => setRow_other _ _ _ _ (by have := hj.2.1; have := HLT.out; omega))) (fun _ _ => trivial)
    have B3 : Below bo W (w12.setRow bo [Value.string t, .int .i64 a, .int .i64 z, .slice Al nl cl, .int .i64 y].toArray) := below_setRow' B12.out (Nat.le_refl _) _
    clear z0 z1 z2 z3 z4 f0 f1 f2 f3 f4 x0 x1 x2 x3 x4
    generalize w12.setRow bo [Value.string t, .int .i64 a, .int .i64 z, .slice Al nl cl, .int .i64 y].toArray = w13 at *
    have x0 := R3.cell 0 _ rfl
    have x1 := R3.cell 1 _ rfl
    have x2 := R3.cell 2 _ rfl
    have x3 := R3.cell 3 _ rfl
    have x4 := R3.cell 4 _ rfl
    refine ⟨rfl, ?_⟩
    simp [results, Try.results16, go_sem, x0, x1, x2, x3, x4]
    rw [HBO.out]
    exact ⟨B3, _, ⟨rfl, rfl, rfl⟩, Al, nl, cl, rfl, Kd.R_lower L3 (by have := HLT.out; omega)⟩
  · have h1 : (e == 0) = false := by simpa using he
    have h2 : decide (e = 0) = false := decide_eq_false he
    have h3 : (e != 0) = true := by simpa using he
    simp only [endOf]
    go_wp2_with fail
    rw [O12.out.same 0 _ rfl, O12.out.same 1 _ rfl, O12.out.same 2 _ rfl, O12.out.same 3 _ rfl, O12.out.same 4 _ rfl]
    refine ⟨rfl, ?_⟩
    simp [results, Try.results16, go_sem, z0, z1, z2, z3, z4]
    rw [HBO.out]
    exact ⟨B12.out, _, ⟨rfl, rfl, rfl⟩, none, 0, 0, rfl, Kd.R_nil _ _ _ _ _⟩
end Go.Proofs.Ytafmoglaockepaa.Cd
namespace Go.Proofs.Ytafmoglaockepaa.Cd
open Go Go.RowKit Go.Proofs.Ytafmoglaockepaa.Num Go.Proofs.Ytafmoglaockepaa.PG Go.Proofs.YtafmoglaockepaaW.PrintWords Go.Proofs.YtafmoglaockepaaW.PrintLast Go.Proofs.YtafmoglaockepaaW.PrintMore
set_option linter.unusedVariables false
set_option linter.unusedSimpArgs false
set_option maxHeartbeats 4000000
set_option maxRecDepth 100000
theorem w_text {g B : Nat} {xs : List Int} {W : World} (k : WrAt g B xs W) (s : ByteArray) (hl : xs.length + s.size + 20 < 140737488355328) :
    Calls Try.prog 52 #[ptr g, .string s] W fun e w' => e = .returned (.tuple #[]) ∧ WrAt g B (xs ++ encT s) w' ∧ Below B W w' ∧ Others W w' := by
  have HSZ := Aside0.mk k.size
  have HBG := Aside0.mk k.b
  obtain ⟨v, hr, hR⟩ := k.ex
  have HR := Aside0.mk hr
  have HX := Aside0.mk hR
  have HLEN := Aside0.mk (show (xs.length + (encT s).length) * 1 ≤ 140737488355328 by have := encT_len s; omega)
  have HLEN2 := Aside0.mk hl
  have c0 := hr.cell 0 _ rfl
  clear k hr hR hl
  go_enter Try.func52, Try.ntmps52
  go_upto_region 0 with fail
  go_region_law (first
    | (go_simp
       go_at_call 106
       refine (frame_PutText.calls 11 none 0 [] s (encT s) _ (Kd.C_nil _ _) (Nat.le_refl _) (by have := putText_ok 11 (by decide) [] s (by have := HLEN2.out; simp only [List.length_nil]; omega); rwa [List.nil_append] at this)).mono ?_
       rintro e wa ⟨v0, rfl, hR, hb⟩
       obtain ⟨Av, cv, rfl, hcv, hC⟩ := Kd.R_reads hR
       have hb0 : Below W.heap.size W wa := (below_drew (Below.refl _ _)).trans hb
       have HRa := Aside0.mk (HR.out.below hb0)
       have HXa := Aside0.mk (Kd.R_below HX.out hb0)
       have HBa := Aside0.mk (hb0.mono HSZ.out)
       have HSB := Aside0.mk (Nat.le_trans HSZ.out hb0.size)
       have HCa := Aside0.mk hC
       have HOa := Aside0.mk (Others.of_below hb0)
       have ca := HRa.out.cell 0 _ rfl
       clear hR hb hcv hC hb0)
    | (refine Kd.R_append_rows_step (Kd.int .u8) (Rr := (Kd.int .u8).K wa) (w0 := W) B (by rfl) (.tmp 8) (.tmp 10) 26 5 (.int .u8 0) 1 rfl Try.underlying26 info5' rfl (by decide) (by decide) v xs (encT s) Av (encT s).length cv (fun _ => True) (fun _ => False) rfl rfl HXa.out HCa.out (fun _ _ h => h) (fun _ h => h.elim) (fun _ _ => trivial) HBa.out HSB.out HLEN.out ?_
       intro v1 w1 ho hb hg hat
       obtain ⟨Al, cl, el⟩ := Kd.R_slice ho
       obtain ⟨n1, hn1⟩ : ∃ n1, (xs ++ encT s).length = n1 := ⟨_, rfl⟩
       rw [hn1] at el
       subst el
       clear hn1
       have hfin := WrAt.appended HRa.out HXa.out HBG.out ho ((Below.refl _ _).grown hg HSB.out (Kd.R_base HXa.out)) hg
       have HFIN := Aside0.mk (show WrAt g B (xs ++ encT s) (w1.setRow g [Value.slice Al n1 cl].toArray) ∧ Below B W (w1.setRow g [Value.slice Al n1 cl].toArray) ∧ Others W (w1.setRow g [Value.slice Al n1 cl].toArray) from ⟨hfin.2.1, HBa.out.trans hfin.2.2.1, HOa.out.trans hfin.2.2.2⟩)
       have HR1 := Aside0.mk hfin.1
       have c1 := hfin.1.cell 0 _ rfl
       have f1 := hfin.1.free 0
       clear ho hb hg hat hfin))
  all_goals
    have e1 := HR1.out.set 0 (.slice Al n1 cl)
    rw [show [v].set 0 (.slice Al n1 cl) = [Value.slice Al n1 cl] from rfl] at e1
    go_wp2_with fail
    go_end0
    rw [e1]
    exact ⟨rfl, HFIN.out⟩
theorem w_int {g B : Nat} {xs : List Int} {W : World} (k : WrAt g B xs W) (a : Int) (ha : -9223372036854775808 ≤ a ∧ a ≤ 9223372036854775807) (hl : xs.length + 20 < 140737488355328) :
    Calls Try.prog 53 #[ptr g, .int .i64 a] W fun e w' => e = .returned (.tuple #[]) ∧ WrAt g B (xs ++ encI a) w' ∧ Below B W w' ∧ Others W w' := by
  have HSZ := Aside0.mk k.size
  have HBG := Aside0.mk k.b
  obtain ⟨v, hr, hR⟩ := k.ex
  have HR := Aside0.mk hr
  have HX := Aside0.mk hR
  have HLEN := Aside0.mk (show (xs.length + (encI a).length) * 1 ≤ 140737488355328 by have := encI_len a; omega)
  have HLEN2 := Aside0.mk ha
  have c0 := hr.cell 0 _ rfl
  clear k hr hR ha hl
  go_enter Try.func53, Try.ntmps53
  go_upto_region 0 with fail
  go_region_law (first
    | (go_simp
       go_at_call 107
       refine (frame_PutInt.calls 11 none 0 [] a (encI a) _ (Kd.C_nil _ _) (Nat.le_refl _) (by have := putInt_ok 11 (by decide) [] a HLEN2.out.1 HLEN2.out.2 (by decide); rwa [List.nil_append] at this)).mono ?_
       rintro e wa ⟨v0, rfl, hR, hb⟩
       obtain ⟨Av, cv, rfl, hcv, hC⟩ := Kd.R_reads hR
       have hb0 : Below W.heap.size W wa := (below_drew (Below.refl _ _)).trans hb
       have HRa := Aside0.mk (HR.out.below hb0)
       have HXa := Aside0.mk (Kd.R_below HX.out hb0)
       have HBa := Aside0.mk (hb0.mono HSZ.out)
       have HSB := Aside0.mk (Nat.le_trans HSZ.out hb0.size)
       have HCa := Aside0.mk hC
       have HOa := Aside0.mk (Others.of_below hb0)
       have ca := HRa.out.cell 0 _ rfl
       clear hR hb hcv hC hb0)
    | (refine Kd.R_append_rows_step (Kd.int .u8) (Rr := (Kd.int .u8).K wa) (w0 := W) B (by rfl) (.tmp 8) (.tmp 10) 26 5 (.int .u8 0) 1 rfl Try.underlying26 info5' rfl (by decide) (by decide) v xs (encI a) Av (encI a).length cv (fun _ => True) (fun _ => False) rfl rfl HXa.out HCa.out (fun _ _ h => h) (fun _ h => h.elim) (fun _ _ => trivial) HBa.out HSB.out HLEN.out ?_
       intro v1 w1 ho hb hg hat
       obtain ⟨Al, cl, el⟩ := Kd.R_slice ho
       obtain ⟨n1, hn1⟩ : ∃ n1, (xs ++ encI a).length = n1 := ⟨_, rfl⟩
       rw [hn1] at el
       subst el
       clear hn1
       have hfin := WrAt.appended HRa.out HXa.out HBG.out ho ((Below.refl _ _).grown hg HSB.out (Kd.R_base HXa.out)) hg
       have HFIN := Aside0.mk (show WrAt g B (xs ++ encI a) (w1.setRow g [Value.slice Al n1 cl].toArray) ∧ Below B W (w1.setRow g [Value.slice Al n1 cl].toArray) ∧ Others W (w1.setRow g [Value.slice Al n1 cl].toArray) from ⟨hfin.2.1, HBa.out.trans hfin.2.2.1, HOa.out.trans hfin.2.2.2⟩)
       have HR1 := Aside0.mk hfin.1
       have c1 := hfin.1.cell 0 _ rfl
       have f1 := hfin.1.free 0
       clear ho hb hg hat hfin))
  all_goals
    have e1 := HR1.out.set 0 (.slice Al n1 cl)
    rw [show [v].set 0 (.slice Al n1 cl) = [Value.slice Al n1 cl] from rfl] at e1
    go_wp2_with fail
    go_end0
    rw [e1]
    exact ⟨rfl, HFIN.out⟩
end Go.Proofs.Ytafmoglaockepaa.Cd
namespace Go.Proofs.Ytafmoglaockepaa.Cd
open Go Go.RowKit Go.Proofs.Ytafmoglaockepaa.Num Go.Proofs.Ytafmoglaockepaa.PG Go.Proofs.YtafmoglaockepaaW.PrintWords Go.Proofs.YtafmoglaockepaaW.PrintLast Go.Proofs.YtafmoglaockepaaW.PrintMore
set_option linter.unusedVariables false
set_option linter.unusedSimpArgs false
set_option maxHeartbeats 4000000
set_option maxRecDepth 100000
/-- A level's bytes. -/
def encL (x : S28) : List Int := encT x.f0 ++ (encI x.f1 ++ encI x.f2)
theorem encL_len (x : S28) : (encL x).length ≤ 30 + x.f0.size := by
  have h0 := encT_len x.f0
  have h1 := encI_len x.f1
  have h2 := encI_len x.f2
  unfold encL
  rw [List.length_append, List.length_append]
  omega
def Int64 (a : Int) : Prop := -9223372036854775808 ≤ a ∧ a ≤ 9223372036854775807
theorem w_level {g B gb : Nat} {xs : List Int} {W : World} (k : WrAt g B xs W) (hbx : Rt 92 gb [ptr g] W) (x : S28) (h1 : Int64 x.f1) (h2 : Int64 x.f2) (hl : xs.length + x.f0.size + 100 < 140737488355328) :
    Calls Try.prog 109 #[.agg #[.string x.f0, .int .i64 x.f1, .int .i64 x.f2], ptr gb] W fun e w' => e = .returned (.tuple #[]) ∧ WrAt g B (xs ++ encL x) w' ∧ Below B W w' ∧ Others W w' := by
  have HK := Aside0.mk k
  have HBX := Aside0.mk hbx
  have H1 := Aside0.mk h1
  have H2 := Aside0.mk h2
  have HL := Aside0.mk hl
  have HS := Aside0.mk k.size
  clear k hbx h1 h2 hl
  go_enter Try.func109, Try.ntmps109
  go_upto_region 1 with fail
  have hr2 : Rt 28 W.heap.size [.string x.f0, .int .i64 x.f1, .int .i64 x.f2] (W.alloc (.cells #[.string x.f0, .int .i64 x.f1, .int .i64 x.f2] 28)) := heap_alloc_new W _
  have hb1 : Below W.heap.size W (W.alloc (.cells #[.string x.f0, .int .i64 x.f1, .int .i64 x.f2] 28)) := below_alloc (Below.refl _ _) _
  obtain ⟨b2, hb2⟩ : ∃ b2, W.heap.size = b2 := ⟨_, rfl⟩
  have K1 := Aside0.mk (HK.out.below hb1)
  have B1 := Aside0.mk (hb1.mono HS.out)
  have O1 := Aside0.mk (Others.of_below hb1)
  have X1 := Aside0.mk (HBX.out.below hb1)
  rw [hb2] at hr2 ⊢
  have R1 := Aside0.mk hr2
  clear hr2 hb1 hb2
  generalize W.alloc (.cells #[.string x.f0, .int .i64 x.f1, .int .i64 x.f2] 28) = w1 at *
  have c0 := R1.out.cell 0 _ rfl
  have cx := X1.out.cell 0 _ rfl
  go_wp2_with fail
  go_at_call 52
  refine (w_text K1.out x.f0 (by have := HL.out; omega)).mono ?_
  rintro e w2 ⟨rfl, hk, hb, ho⟩
  have K2 := Aside0.mk hk
  have B2 := Aside0.mk (B1.out.trans hb)
  have O2 := Aside0.mk (O1.out.trans ho)
  have R2 := Aside0.mk (ho.row R1.out (by decide) (by decide))
  have X2 := Aside0.mk (ho.row X1.out (by decide) (by decide))
  clear hk hb ho c0 cx
  have c1 := R2.out.cell 1 _ rfl
  have cx := X2.out.cell 0 _ rfl
  go_wp2_with fail
  go_at_call 53
  refine (w_int K2.out x.f1 H1.out (by have := HL.out; have := encT_len x.f0; rw [List.length_append]; omega)).mono ?_
  rintro e w3 ⟨rfl, hk, hb, ho⟩
  have K3 := Aside0.mk hk
  have B3 := Aside0.mk (B2.out.trans hb)
  have O3 := Aside0.mk (O2.out.trans ho)
  have R3 := Aside0.mk (ho.row R2.out (by decide) (by decide))
  have X3 := Aside0.mk (ho.row X2.out (by decide) (by decide))
  clear hk hb ho c1 cx
  have c2 := R3.out.cell 2 _ rfl
  have cx := X3.out.cell 0 _ rfl
  go_wp2_with fail
  go_at_call 53
  refine (w_int K3.out x.f2 H2.out (by have := HL.out; have := encT_len x.f0; have := encI_len x.f1; rw [List.length_append, List.length_append]; omega)).mono ?_
  rintro e w4 ⟨rfl, hk, hb, ho⟩
  have K4 := Aside0.mk hk
  have B4 := Aside0.mk (B3.out.trans hb)
  have O4 := Aside0.mk (O3.out.trans ho)
  clear hk hb ho c2 cx
  go_wp2_with fail
  go_end0
  have e : xs ++ encL x = xs ++ encT x.f0 ++ encI x.f1 ++ encI x.f2 := by unfold encL; simp only [List.append_assoc]
  rw [e]
  exact ⟨rfl, K4.out, B4.out, O4.out⟩
/-- The bytes of levels, and how many they are at most. -/
def encLs (l : List S28) : List Int := l.flatMap encL
def bulkL (l : List S28) : Nat := (l.map fun x => 30 + x.f0.size).sum
theorem encLs_len : ∀ l : List S28, (encLs l).length ≤ bulkL l
  | [] => by simp [encLs, bulkL]
  | x :: l => by
    have h1 := encLs_len l
    have h2 := encL_len x
    simp only [encLs, bulkL, List.flatMap_cons, List.length_append, List.map_cons, List.sum_cons] at h1 ⊢
    omega
theorem bulkL_take : ∀ (l : List S28) (i : Nat), bulkL (l.take i) ≤ bulkL l
  | [], i => by simp [bulkL]
  | x :: l, 0 => by simp [bulkL]
  | x :: l, i + 1 => by
    have h1 := bulkL_take l i
    simp only [bulkL, List.take_succ_cons, List.map_cons, List.sum_cons] at h1 ⊢
    omega
theorem bulkL_mem : ∀ (l : List S28) (x : S28), x ∈ l → 30 + x.f0.size ≤ bulkL l
  | y :: l, x, h => by
    simp only [bulkL, List.map_cons, List.sum_cons]
    rcases List.mem_cons.1 h with rfl | h
    · omega
    · have := bulkL_mem l x h
      simp only [bulkL] at this
      omega
theorem take_snoc {α : Type} {l : List α} {j : Nat} {x : α} (h : l[j]? = some x) : l.take (j + 1) = l.take j ++ [x] := by rw [List.take_add_one, h]; rfl
def LevOk (l : List S28) : Prop := ∀ x ∈ l, Int64 x.f1 ∧ Int64 x.f2
theorem w_putLevels {g B gb : Nat} {xs : List Int} {W : World} (k : WrAt g B xs W) (hbx : Rt 92 gb [ptr g] W) (A : Option Addr) (n c : Nat) (l : List S28) (hC : ∀ W', Below B W W' → Kd.C k28 W' A n l) (hlo : LevOk l) (hl : xs.length + bulkL l + 200 < 140737488355328) :
    Calls Try.prog 108 #[ptr g, .slice A n c, .func (.func 109) #[] #[ptr gb]] W fun e w' => e = .returned (.tuple #[]) ∧ WrAt g B (xs ++ (encU n ++ encLs l)) w' ∧ Below B W w' ∧ Others W w' := by
  have hln : l.length = n := Kd.C_len (hC W (Below.refl _ _))
  have hn63 := (Kd.C_len (hC W (Below.refl _ _)))
  have hbl : 30 * l.length ≤ bulkL l := by
    clear hC hl hlo hln hn63
    induction l with
    | nil => simp [bulkL]
    | cons x l ih => simp only [bulkL, List.map_cons, List.sum_cons, List.length_cons] at ih ⊢; omega
  have HN := Aside0.mk (show n < 140737488355328 by omega)
  have HLN := Aside0.mk hln
  have HCC := Aside0.mk hC
  have HLO := Aside0.mk hlo
  have HLL := Aside0.mk hl
  have HBX := Aside0.mk hbx
  have HSZ := Aside0.mk k.size
  have HBG := Aside0.mk k.b
  obtain ⟨v, hr, hR⟩ := k.ex
  have HR := Aside0.mk hr
  have HX := Aside0.mk hR
  have HLEN := Aside0.mk (show (xs.length + (encU n).length) * 1 ≤ 140737488355328 by have := encU_len n; omega)
  have c0 := hr.cell 0 _ rfl
  have hw64 : IntKind.u64.wrap (n : Int) = (n : Int) := by rw [IntKind.wrap_u64]; omega
  clear k hr hR hln hn63 hbl hC hlo hl hbx
  go_enter Try.func108, Try.ntmps108
  go_upto_region 0 with fail
  go_region_law (first
    | (go_simp
       go_at_call 125
       refine (frame_PutUint.calls 11 none 0 [] (n : Int) (encU n) _ (Kd.C_nil _ _) (Nat.le_refl _) (by have := putUint_ok 11 (by decide) [] n (by have := HN.out; omega) (by decide); rwa [List.nil_append] at this)).mono ?_
       rintro e wa ⟨v0, rfl, hR, hb⟩
       obtain ⟨Av, cv, rfl, hcv, hC⟩ := Kd.R_reads hR
       have hb0 : Below W.heap.size W wa := (below_drew (Below.refl _ _)).trans hb
       have HRa := Aside0.mk (HR.out.below hb0)
       have HXa := Aside0.mk (Kd.R_below HX.out hb0)
       have HBa := Aside0.mk (hb0.mono HSZ.out)
       have HSB := Aside0.mk (Nat.le_trans HSZ.out hb0.size)
       have HCa := Aside0.mk hC
       have HOa := Aside0.mk (Others.of_below hb0)
       have ca := HRa.out.cell 0 _ rfl
       clear hR hb hcv hC hb0)
    | (refine Kd.R_append_rows_step (Kd.int .u8) (Rr := (Kd.int .u8).K wa) (w0 := W) B (by rfl) (.tmp 12) (.tmp 16) 26 5 (.int .u8 0) 1 rfl Try.underlying26 info5' rfl (by decide) (by decide) v xs (encU n) Av (encU n).length cv (fun _ => True) (fun _ => False) rfl rfl HXa.out HCa.out (fun _ _ h => h) (fun _ h => h.elim) (fun _ _ => trivial) HBa.out HSB.out HLEN.out ?_
       intro v1 w1 ho hb hg hat
       obtain ⟨Al, cl, el⟩ := Kd.R_slice ho
       obtain ⟨n1, hn1⟩ : ∃ n1, (xs ++ encU n).length = n1 := ⟨_, rfl⟩
       rw [hn1] at el
       subst el
       clear hn1
       have hfin := WrAt.appended HRa.out HXa.out HBG.out ho ((Below.refl _ _).grown hg HSB.out (Kd.R_base HXa.out)) hg
       have HFIN := Aside0.mk (show WrAt g B (xs ++ encU n) (w1.setRow g [Value.slice Al n1 cl].toArray) ∧ Below B W (w1.setRow g [Value.slice Al n1 cl].toArray) ∧ Others W (w1.setRow g [Value.slice Al n1 cl].toArray) from ⟨hfin.2.1, HBa.out.trans hfin.2.2.1, HOa.out.trans hfin.2.2.2⟩)
       have HR1 := Aside0.mk hfin.1
       have c1 := hfin.1.cell 0 _ rfl
       have f1 := hfin.1.free 0
       clear ho hb hg hat hfin))
  all_goals
    have e1 := HR1.out.set 0 (.slice Al n1 cl)
    rw [show [v].set 0 (.slice Al n1 cl) = [Value.slice Al n1 cl] from rfl] at e1
    rw [e1]
    clear e1 c0 ca c1 f1 hw64
    have X1 := Aside0.mk (HFIN.out.2.2.row HBX.out (by decide) (by decide))
    generalize w1.setRow g [Value.slice Al n1 cl].toArray = w2 at *
    go_wp2_with fail
    go_loopw [22] (fun p wr => ∃ i : Nat, p = .int .i64 (i : Int) ∧ Aside0 (i ≤ n) ∧ Aside0 (WrAt g B (xs ++ encU n ++ encLs (l.take i)) wr) ∧ Aside0 (Below B W wr) ∧ Aside0 (Others W wr) ∧ Aside0 (Rt 92 gb [ptr g] wr)) (fun p _ => n - (intOf p).toNat)
    · exact ⟨0, rfl, ⟨Nat.zero_le _⟩, ⟨by rw [List.take_zero]; show WrAt g B (xs ++ encU n ++ []) w2; rw [List.append_nil]; exact HFIN.out.1⟩, ⟨HFIN.out.2.1⟩, ⟨HFIN.out.2.2⟩, X1⟩
    · obtain ⟨i, rfl, HI, HK, HB, HO, HXr⟩ := hrel
      by_cases ci : i < n
      · have ci1 : decide ((i : Int) < (n : Int)) = true := decide_eq_true (by omega)
        have ci2 : (i : Int) < (n : Int) := by omega
        have ci3 : (0 : Int) ≤ (i : Int) := by omega
        have hw1 : IntKind.i64.wrap ((i : Int) + 1) = ((i + 1 : Nat) : Int) := by rw [IntWalk.i64_in _ (by have := HN.out; omega)]; omega
        obtain ⟨x, hx⟩ : ∃ x, l[i]? = some x := ⟨_, List.getElem?_eq_getElem (by have := HLN.out; omega)⟩
        obtain ⟨ad, rfl, d0, d1, d2⟩ := at_T28 (HCC.out wr HB.out) (i : Int) ci3 ci2
        have hrd : rd_T28 l (i : Int) = x := by unfold rd_T28; rw [Int.toNat_natCast, List.getD_eq_getElem?_getD, hx]; rfl
        rw [hrd, Int.toNat_natCast] at d0 d1 d2
        have HX2 := Aside0.mk hx
        clear hrd hx
        have hsz : B ≤ wr.heap.size := HK.out.size
        have hba : Below wr.heap.size wr (wr.alloc (.cells #[.string x.f0, .int .i64 x.f1, .int .i64 x.f2] 28)) := below_alloc (Below.refl _ _) _
        have HK2 := Aside0.mk (HK.out.below hba)
        have HB2 := Aside0.mk (HB.out.trans (hba.mono hsz))
        have HO2 := Aside0.mk (HO.out.trans (Others.of_below hba))
        have HXr2 := Aside0.mk (HXr.out.below hba)
        have hr7 : Rt 28 wr.heap.size [.string x.f0, .int .i64 x.f1, .int .i64 x.f2] (wr.alloc (.cells #[.string x.f0, .int .i64 x.f1, .int .i64 x.f2] 28)) := heap_alloc_new wr _
        have s0 := hr7.cell 0 _ rfl
        have s1 := hr7.cell 1 _ rfl
        have s2 := hr7.cell 2 _ rfl
        have hmem : x ∈ l := List.mem_of_getElem? HX2.out
        have HLV := Aside0.mk (HLO.out x hmem)
        have HSM := Aside0.mk (show (xs ++ encU n ++ encLs (l.take i)).length + x.f0.size + 100 < 140737488355328 by
          have h1 := encU_len n
          have h2 := encLs_len (l.take (i + 1))
          have h3 := bulkL_take l (i + 1)
          have h4 := HLL.out
          have h5 := bulkL_mem _ x (show x ∈ l.take (i + 1) by rw [take_snoc HX2.out]; simp)
          have h6 := encLs_len (l.take i)
          have h7 : bulkL (l.take (i + 1)) = bulkL (l.take i) + (30 + x.f0.size) := by rw [take_snoc HX2.out]; simp [bulkL]
          rw [List.length_append, List.length_append]
          omega)
        clear hba hsz hr7 hmem HK
        go_upto_region 4 with fail
        generalize wr.alloc (.cells #[.string x.f0, .int .i64 x.f1, .int .i64 x.f2] 28) = w5 at *
        go_wp2_with fail
        go_at_call 109
        refine (w_level HK2.out HXr2.out x HLV.out.1 HLV.out.2 HSM.out).mono ?_
        rintro e w6 ⟨rfl, hk, hb, ho⟩
        have HK3 := Aside0.mk (show WrAt g B (xs ++ encU n ++ encLs (l.take (i + 1))) w6 from by
          have e : xs ++ encU n ++ encLs (l.take (i + 1)) = xs ++ encU n ++ encLs (l.take i) ++ encL x := by
            rw [take_snoc HX2.out]
            simp [encLs]
          rw [e]
          exact hk)
        have HB3 := Aside0.mk (HB2.out.trans hb)
        have HO3 := Aside0.mk (HO2.out.trans ho)
        have HX3 := Aside0.mk (ho.row HXr2.out (by decide) (by decide))
        clear hk hb ho s0 s1 s2 d0 d1 d2
        go_wp2_with fail
        refine ⟨⟨i + 1, rfl, ⟨ci⟩, HK3, HB3, HO3, HX3⟩, ?_⟩
        simp only [intOf]
        omega
      · have ci1 : decide ((i : Int) < (n : Int)) = false := decide_eq_false (by omega)
        go_wp2_with fail
        go_end0
        obtain rfl : i = n := by have := HI.out; omega
        have hk := HK.out
        rw [List.take_of_length_le (Nat.le_of_eq HLN.out), List.append_assoc] at hk
        exact ⟨rfl, hk, HB.out, HO.out⟩
theorem w_levels {g B : Nat} {xs : List Int} {W : World} (k : WrAt g B xs W) (A : Option Addr) (n c : Nat) (l : List S28) (hC : ∀ W', Below B W W' → Kd.C k28 W' A n l) (hlo : LevOk l) (hl : xs.length + bulkL l + 200 < 140737488355328) :
    Calls Try.prog 54 #[ptr g, .slice A n c] W fun e w' => e = .returned (.tuple #[]) ∧ WrAt g B (xs ++ (encU n ++ encLs l)) w' ∧ Below B W w' ∧ Others W w' := by
  have HK := Aside0.mk k
  have HC := Aside0.mk hC
  have HLO := Aside0.mk hlo
  have HLL := Aside0.mk hl
  have hr2 : Rt 92 W.heap.size [ptr g] (W.alloc (.cells #[ptr g] 92)) := heap_alloc_new W _
  have hb1 : Below W.heap.size W (W.alloc (.cells #[ptr g] 92)) := below_alloc (Below.refl _ _) _
  have hmf : ∀ (fn : Fn) (first cap : Array Value) (w : World), (Instr.makeFunc fn first cap).run Try.prog w = .ok (.func fn first cap) w := fun _ _ _ _ => rfl
  clear k hC hlo hl
  go_enter Try.func54, Try.ntmps54
  go_upto_region 1 with fail
  obtain ⟨b2, hb2⟩ : ∃ b2, W.heap.size = b2 := ⟨_, rfl⟩
  have K1 := Aside0.mk (HK.out.below hb1)
  have B1 := Aside0.mk (hb1.mono HK.out.size)
  have O1 := Aside0.mk (Others.of_below hb1)
  rw [hb2] at hr2 ⊢
  have R1 := Aside0.mk hr2
  clear hr2 hb1 hb2
  generalize W.alloc (.cells #[ptr g] 92) = w1 at *
  have c0 := R1.out.cell 0 _ rfl
  go_wp2_with fail
  go_at_call 108
  refine (w_putLevels K1.out R1.out A n c l (fun W' hb => HC.out W' (B1.out.trans hb)) HLO.out HLL.out).mono ?_
  rintro e w2 ⟨rfl, hk, hb, ho⟩
  have K2 := Aside0.mk hk
  have B2 := Aside0.mk (B1.out.trans hb)
  have O2 := Aside0.mk (O1.out.trans ho)
  clear hk hb ho c0 hmf
  go_wp2_with fail
  go_end0
  exact ⟨rfl, K2.out, B2.out, O2.out⟩
/-- A reply's fields, as bytes. -/
def encReply (id : ByteArray) (er line : Int) (l : List S28) (now : Int) : List Int := encT id ++ (encI er ++ (encI line ++ ((encU l.length ++ encLs l) ++ encI now)))
theorem w_reply {g B br : Nat} {xs : List Int} {W : World} (k : WrAt g B xs W) (id : ByteArray) (er line now : Int) (A : Option Addr) (n c : Nat) (l : List S28) (hbr : Rt 25 br [.string id, .int .i64 er, .int .i64 line, .slice A n c, .int .i64 now] W) (hC : ∀ W', Below B W W' → Kd.C k28 W' A n l) (hlo : LevOk l)
    (h1 : Int64 er) (h2 : Int64 line) (h3 : Int64 now) (hl : xs.length + id.size + bulkL l + 400 < 140737488355328) :
    Calls Try.prog 51 #[ptr g, ptr br] W fun e w' => e = .returned (.tuple #[]) ∧ WrAt g B (xs ++ encReply id er line l now) w' ∧ Below B W w' ∧ Others W w' := by
  have HK := Aside0.mk k
  have HC := Aside0.mk hC
  have HLO := Aside0.mk hlo
  have HLL := Aside0.mk hl
  have H1 := Aside0.mk h1
  have H2 := Aside0.mk h2
  have H3 := Aside0.mk h3
  have HR := Aside0.mk hbr
  have HN := Aside0.mk (show l.length = n from Kd.C_len (hC W (Below.refl _ _)))
  have HT := Aside0.mk (encT_len id)
  have HI := Aside0.mk (fun a => encI_len a)
  have HU := Aside0.mk (encU_len n)
  have HE := Aside0.mk (encLs_len l)
  clear k hC hlo hl h1 h2 h3 hbr
  have c0 := HR.out.cell 0 _ rfl
  go_enter Try.func51, Try.ntmps51
  go_wp2_with fail
  go_at_call 52
  refine (w_text HK.out id (by have := HLL.out; omega)).mono ?_
  rintro e w1 ⟨rfl, hk, hb, ho⟩
  have K1 := Aside0.mk hk
  have B1 := Aside0.mk hb
  have O1 := Aside0.mk ho
  have R1 := Aside0.mk (ho.row HR.out (by decide) (by decide))
  clear hk hb ho c0
  have c1 := R1.out.cell 1 _ rfl
  go_wp2_with fail
  go_at_call 53
  refine (w_int K1.out er H1.out (by have := HLL.out; have := HT.out; rw [List.length_append]; omega)).mono ?_
  rintro e w2 ⟨rfl, hk, hb, ho⟩
  have K2 := Aside0.mk hk
  have B2 := Aside0.mk (B1.out.trans hb)
  have O2 := Aside0.mk (O1.out.trans ho)
  have R2 := Aside0.mk (ho.row R1.out (by decide) (by decide))
  clear hk hb ho c1
  have c2 := R2.out.cell 2 _ rfl
  go_wp2_with fail
  go_at_call 53
  refine (w_int K2.out line H2.out (by have := HLL.out; have := HT.out; have := HI.out er; rw [List.length_append, List.length_append]; omega)).mono ?_
  rintro e w3 ⟨rfl, hk, hb, ho⟩
  have K3 := Aside0.mk hk
  have B3 := Aside0.mk (B2.out.trans hb)
  have O3 := Aside0.mk (O2.out.trans ho)
  have R3 := Aside0.mk (ho.row R2.out (by decide) (by decide))
  clear hk hb ho c2
  have c3 := R3.out.cell 3 _ rfl
  go_wp2_with fail
  go_at_call 54
  refine (w_levels K3.out A n c l (fun W' hb => HC.out W' (B3.out.trans hb)) HLO.out (by have := HLL.out; have := HT.out; have := HI.out er; have := HI.out line; rw [List.length_append, List.length_append, List.length_append]; omega)).mono ?_
  rintro e w4 ⟨rfl, hk, hb, ho⟩
  have K4 := Aside0.mk hk
  have B4 := Aside0.mk (B3.out.trans hb)
  have O4 := Aside0.mk (O3.out.trans ho)
  have R4 := Aside0.mk (ho.row R3.out (by decide) (by decide))
  clear hk hb ho c3
  have c4 := R4.out.cell 4 _ rfl
  go_wp2_with fail
  go_at_call 53
  refine (w_int K4.out now H3.out (by have := HLL.out; have := HT.out; have := HI.out er; have := HI.out line; have := HU.out; have := HE.out; rw [List.length_append, List.length_append, List.length_append, List.length_append, List.length_append]; omega)).mono ?_
  rintro e w5 ⟨rfl, hk, hb, ho⟩
  have K5 := Aside0.mk hk
  have B5 := Aside0.mk (B4.out.trans hb)
  have O5 := Aside0.mk (O4.out.trans ho)
  clear hk hb ho c4
  go_wp2_with fail
  go_end0
  have e : xs ++ encReply id er line l now = xs ++ encT id ++ encI er ++ encI line ++ (encU n ++ encLs l) ++ encI now := by
    unfold encReply
    rw [HN.out]
    simp only [List.append_assoc]
  rw [e]
  exact ⟨rfl, K5.out, B5.out, O5.out⟩
end Go.Proofs.Ytafmoglaockepaa.Cd
namespace Go.Proofs.Ytafmoglaockepaa.Cd
open Go Go.RowKit Go.Proofs.Ytafmoglaockepaa.Num Go.Proofs.Ytafmoglaockepaa.PG Go.Proofs.YtafmoglaockepaaW.PrintWords Go.Proofs.YtafmoglaockepaaW.PrintLast Go.Proofs.YtafmoglaockepaaW.PrintMore
set_option linter.unusedVariables false
set_option linter.unusedSimpArgs false
set_option maxHeartbeats 4000000
set_option maxRecDepth 100000
theorem key_row {W : World} {g B : Nat} {x : Int} (h : W.heap[g]? = some (.cells #[.int .u8 x] 5 (0, 0))) (hB : B ≤ g) : (Kd.int .u8).R 5 W B (fun _ => True) (.slice (some ⟨g, 0, none⟩) 1 1) [x] := by
  refine Kd.R_of_own ?_ (fun _ _ => trivial)
  exact ⟨rfl, .inr ⟨g, 1, #[.int .u8 x], rfl, hB, h, Nat.le_refl _, by decide, rfl, rfl⟩⟩
def putCode (most : Nat) (bs : List Int) : Int := if most < bs.length then 1 else 0
def putOut (most : Nat) (bs : List Int) : List Int := if most < bs.length then [] else bs
theorem put_reply (key : Int) (most br : Nat) (ys : List Int) (W : World) (hm : most ≤ 1000000000)
    (hF : ∀ g W', WrAt g W.heap.size [key] W' → Below W.heap.size W W' → Calls Try.prog 51 #[ptr g, ptr br] W' fun e w' => e = .returned (.tuple #[]) ∧ WrAt g W.heap.size ([key] ++ ys) w' ∧ Below W.heap.size W' w' ∧ Others W' w') :
    Calls Try.prog 50 #[.int .u8 key, .int .i64 (most : Int), .func (.func 51) #[] #[ptr br]] W fun e w' => ∃ v, e = .returned (.tuple #[v, .int .i64 (putCode most (key :: ys))]) ∧ (Kd.int .u8).R 5 w' W.heap.size (fun _ => True) v (putOut most (key :: ys)) ∧ Below W.heap.size W w' := by
  have HF := Aside0.mk hF
  have HM := Aside0.mk hm
  clear hF hm
  go_enter Try.func50, Try.ntmps50
  go_upto_region 2 with fail
  have ha1 : (W.alloc (.cells #[.int .u8 key] 5)).heap[W.heap.size]? = some (.cells #[.int .u8 key] 5 (0, 0)) := heap_alloc_new W _
  have hs1 : (W.alloc (.cells #[.int .u8 key] 5)).heap.size = W.heap.size + 1 := by simp
  have hb1 : Below W.heap.size W (W.alloc (.cells #[.int .u8 key] 5)) := below_alloc (Below.refl _ _) _
  obtain ⟨B, hB⟩ : ∃ B, W.heap.size = B := ⟨_, rfl⟩
  have HB := Aside0.mk hB
  rw [hB] at ha1 hs1 hb1 ⊢
  generalize W.alloc (.cells #[.int .u8 key] 5) = wx at *
  have hr2 : Rt 146 wx.heap.size [.slice (some ⟨B, 0, none⟩) 1 1] (wx.alloc (.cells #[.slice (some ⟨B, 0, none⟩) 1 1] 146)) := heap_alloc_new wx _
  have hb2 : Below wx.heap.size wx (wx.alloc (.cells #[.slice (some ⟨B, 0, none⟩) 1 1] 146)) := below_alloc (Below.refl _ _) _
  have hk := key_row (B := B) ((hb2.block B (by omega)).trans ha1) (Nat.le_refl _)
  have K1 := Aside0.mk (show WrAt (B + 1) B [key] (wx.alloc (.cells #[.slice (some ⟨B, 0, none⟩) 1 1] 146)) from ⟨⟨_, by rw [hs1] at hr2; exact hr2, hk⟩, Nat.le_succ _⟩)
  have B1 := Aside0.mk (show Below B W (wx.alloc (.cells #[.slice (some ⟨B, 0, none⟩) 1 1] 146)) from hb1.trans (hb2.mono (by omega)))
  clear ha1 hs1 hb1 hr2 hb2 hk hB
  generalize wx.alloc (.cells #[.slice (some ⟨B, 0, none⟩) 1 1] 146) = w1 at *
  obtain ⟨g, hg⟩ : ∃ g, B + 1 = g := ⟨_, rfl⟩
  have k1 := K1.out
  rw [hg] at k1 ⊢
  have K1 := Aside0.mk k1
  have HFN := HF.out g w1 (by rw [HB.out]; exact K1.out) (by rw [HB.out]; exact B1.out)
  rw [HB.out] at HFN
  have HFN := Aside0.mk HFN
  clear k1 hg HF
  go_wp2_with fail
  go_at_call 51
  refine HFN.out.mono ?_
  rintro e w2 ⟨rfl, hk, hb, ho⟩
  obtain ⟨ys2, hys⟩ : ∃ ys2, [key] ++ ys = ys2 := ⟨_, rfl⟩
  rw [hys] at hk
  have HYS := Aside0.mk (show key :: ys = ys2 from hys)
  obtain ⟨v, hr, hR⟩ := hk.ex
  have B2 := Aside0.mk (B1.out.trans hb)
  obtain ⟨Av, cv, rfl⟩ := Kd.R_slice hR
  obtain ⟨m, hm2⟩ : ∃ m, ys2.length = m := ⟨_, rfl⟩
  have HRR := Aside0.mk hR
  have HM2 := Aside0.mk hm2
  rw [hm2] at hr
  have c0 := hr.cell 0 _ rfl
  clear hk hb ho hr hR hm2 hys HFN K1 B1
  by_cases hmo : most < m
  · have d1 : decide ((most : Int) < (m : Int)) = true := decide_eq_true (by omega)
    have d2 : decide (most < m) = true := decide_eq_true hmo
    have HMO := Aside0.mk hmo
    clear hmo
    go_wp2_with fail
    go_ret2
    rw [HYS.out, HB.out]
    refine ⟨.slice none 0 0, ?_, ?_, B2.out⟩
    · unfold putCode
      rw [HM2.out, if_pos HMO.out]
      rfl
    · unfold putOut
      rw [HM2.out, if_pos HMO.out]
      exact Kd.R_nil _ _ _ _ _
  · have d1 : decide ((most : Int) < (m : Int)) = false := decide_eq_false (by omega)
    have d2 : decide (most < m) = false := decide_eq_false hmo
    have HMO := Aside0.mk hmo
    clear hmo
    go_wp2_with fail
    go_ret2
    rw [HYS.out, HB.out]
    refine ⟨.slice Av m cv, ?_, ?_, B2.out⟩
    · unfold putCode
      rw [HM2.out, if_neg HMO.out]
      rfl
    · unfold putOut
      rw [HM2.out, if_neg HMO.out, ← HM2.out]
      exact HRR.out
/-- PutReply. -/
theorem PutReply_at (id : ByteArray) (er line now : Int) (A : Option Addr) (n c : Nat) (l : List S28) (W : World) (hC : Kd.C k28 W A n l) (hlo : LevOk l) (h1 : Int64 er) (h2 : Int64 line) (h3 : Int64 now) (hl : id.size + bulkL l + 500 < 140737488355328) :
    Calls Try.prog 11 #[.agg #[.string id, .int .i64 er, .int .i64 line, .slice A n c, .int .i64 now]] W fun e w' => ∃ v, e = .returned (.tuple #[v, .int .i64 (putCode 4096 (82 :: encReply id er line l now))]) ∧ (Kd.int .u8).R 5 w' W.heap.size (fun _ => True) v (putOut 4096 (82 :: encReply id er line l now)) ∧ Below W.heap.size W w' := by
  have HC := Aside0.mk hC
  have HLO := Aside0.mk hlo
  have H1 := Aside0.mk h1
  have H2 := Aside0.mk h2
  have H3 := Aside0.mk h3
  have HL := Aside0.mk hl
  have hr1 : Rt 25 W.heap.size [.string id, .int .i64 er, .int .i64 line, .slice A n c, .int .i64 now] (W.alloc (.cells #[.string id, .int .i64 er, .int .i64 line, .slice A n c, .int .i64 now] 25)) := heap_alloc_new W _
  have hb1 : Below W.heap.size W (W.alloc (.cells #[.string id, .int .i64 er, .int .i64 line, .slice A n c, .int .i64 now] 25)) := below_alloc (Below.refl _ _) _
  have hmf : ∀ (fn : Fn) (first cap : Array Value) (w : World), (Instr.makeFunc fn first cap).run Try.prog w = .ok (.func fn first cap) w := fun _ _ _ _ => rfl
  clear hC hlo h1 h2 h3 hl
  go_enter Try.func11, Try.ntmps11
  go_upto_region 1 with fail
  obtain ⟨b, hb⟩ : ∃ b, W.heap.size = b := ⟨_, rfl⟩
  have HB := Aside0.mk hb1
  have HBE := Aside0.mk hb
  rw [hb] at hr1 ⊢
  have HR := Aside0.mk hr1
  clear hr1 hb1 hb
  generalize W.alloc (.cells #[.string id, .int .i64 er, .int .i64 line, .slice A n c, .int .i64 now] 25) = w1 at *
  have HPUT := Aside0.mk (put_reply 82 4096 b (encReply id er line l now) w1 (by decide) (fun g W' hk hb => w_reply hk id er line now A n c l (HR.out.below hb) (fun W2 hb2 => Kd.C_below HC.out ((HB.out.trans (hb.mono HB.out.size)).trans (hb2.mono HB.out.size))) HLO.out H1.out H2.out H3.out (by have := HL.out; simp only [List.length_singleton]; omega)))
  go_wp2_with fail
  go_at_call 50
  refine HPUT.out.mono ?_
  rintro e w2 ⟨v, rfl, hR, hb⟩
  have HRR := Aside0.mk (show (Kd.int .u8).R 5 w2 W.heap.size (fun _ => True) v (putOut 4096 (82 :: encReply id er line l now)) from Kd.R_lower hR HB.out.size)
  have HBB := Aside0.mk (HB.out.trans (hb.mono HB.out.size))
  obtain ⟨Av, cv, ev⟩ := Kd.R_slice hR
  obtain ⟨m, hm⟩ : ∃ m, (putOut 4096 (82 :: encReply id er line l now)).length = m := ⟨_, rfl⟩
  rw [hm] at ev
  subst ev
  clear hR hb hm hmf HPUT
  go_wp2_with fail
  go_ret2
  rw [HBE.out] at *
  exact ⟨_, rfl, HRR.out, HBB.out⟩
end Go.Proofs.Ytafmoglaockepaa.Cd
