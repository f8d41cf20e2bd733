/- What the codec writes and reads: texts of this session joined, with what is not needed left out. -/
import Derived.Test.YtafmoglaockepaaBa2
import Derived.Test.YtafmoglaockepaaBa6
import Derived.Test.YtafmoglaockepaaBa5
import Derived.Deep.RegionHeld3
import Derived.Deep.RegionLaw
import Derived.Test.YtafmoglaockepaaRows
import Derived.WalkKit
import Derived.ProofKit
import Derived.OpenShut
import Derived.SizedLaws
import Derived.Deep.Slices
import Derived.Deep.Strs
import Derived.ChangeSame
import Derived.Lib.SmallJoins
import Derived.Test.YtafmoglaockepaaBa3
import Derived.Test.YtafmoglaockepaaBa4
section
namespace Go.Proofs.Ytafmoglaockepaa.Cd
open Go Go.RowKit Go.Proofs.Ytafmoglaockepaa.Num Go.Proofs.Ytafmoglaockepaa.PG Go.Proofs.YtafmoglaockepaaW.PrintWords Go.Proofs.YtafmoglaockepaaW.PrintLast Go.Proofs.YtafmoglaockepaaW.PrintMore
set_option linter.unusedVariables false
set_option linter.unusedSimpArgs false
set_option maxHeartbeats 4000000
set_option maxRecDepth 100000
theorem sameState_at (x : StD) (Aal : Option Addr) (cal : Nat) (Aah : Option Addr) (cah : Nat) (Aad : Option Addr) (cad : Nat) (Abl : Option Addr) (cbl : Nat) (Abh : Option Addr) (cbh : Nat) (Abd : Option Addr) (cbd : Nat) (W : World) (hCal : Kd.C k28 W Aal x.f3.length x.f3) (hcal : x.f3.length ≤ cal) (hCah : Kd.C k121 W Aah x.f4.length x.f4) (hcah : x.f4.length ≤ cah) (hCad : Kd.C k123 W Aad x.f5.length x.f5) (hcad : x.f5.length ≤ cad) (hCbl : Kd.C k28 W Abl x.f3.length x.f3) (hcbl : x.f3.length ≤ cbl) (hCbh : Kd.C k121 W Abh x.f4.length x.f4) (hcbh : x.f4.length ≤ cbh) (hCbd : Kd.C k123 W Abd x.f5.length x.f5) (hcbd : x.f5.length ≤ cbd) :
    Calls Try.prog 36 #[.agg #[.int .i64 x.f0, .int .i64 x.f1, .int .i64 x.f2, .slice Aal x.f3.length cal, .slice Aah x.f4.length cah, .slice Aad x.f5.length cad], .agg #[.int .i64 x.f0, .int .i64 x.f1, .int .i64 x.f2, .slice Abl x.f3.length cbl, .slice Abh x.f4.length cbh, .slice Abd x.f5.length cbd]] W fun e w' => e = .returned (.bool true) ∧ Below W.heap.size W w' := by
  have HCal := Aside0.mk (fun W' (hb : Below W.heap.size W W') => Kd.C_below hCal hb)
  have Hcal := Aside0.mk hcal
  have HCah := Aside0.mk (fun W' (hb : Below W.heap.size W W') => Kd.C_below hCah hb)
  have Hcah := Aside0.mk hcah
  have HCad := Aside0.mk (fun W' (hb : Below W.heap.size W W') => Kd.C_below hCad hb)
  have Hcad := Aside0.mk hcad
  have HCbl := Aside0.mk (fun W' (hb : Below W.heap.size W W') => Kd.C_below hCbl hb)
  have Hcbl := Aside0.mk hcbl
  have HCbh := Aside0.mk (fun W' (hb : Below W.heap.size W W') => Kd.C_below hCbh hb)
  have Hcbh := Aside0.mk hcbh
  have HCbd := Aside0.mk (fun W' (hb : Below W.heap.size W W') => Kd.C_below hCbd hb)
  have Hcbd := Aside0.mk hcbd
  have hb1 : Below W.heap.size W (W.alloc (.cells #[.int .i64 x.f0, .int .i64 x.f1, .int .i64 x.f2, .slice Aal x.f3.length cal, .slice Aah x.f4.length cah, .slice Aad x.f5.length cad] 58)) := below_alloc (Below.refl _ _) _
  have r1 : Rt 58 W.heap.size [.int .i64 x.f0, .int .i64 x.f1, .int .i64 x.f2, .slice Aal x.f3.length cal, .slice Aah x.f4.length cah, .slice Aad x.f5.length cad] (W.alloc (.cells #[.int .i64 x.f0, .int .i64 x.f1, .int .i64 x.f2, .slice Aal x.f3.length cal, .slice Aah x.f4.length cah, .slice Aad x.f5.length cad] 58)) := heap_alloc_new W _
  have s1 : (W.alloc (.cells #[.int .i64 x.f0, .int .i64 x.f1, .int .i64 x.f2, .slice Aal x.f3.length cal, .slice Aah x.f4.length cah, .slice Aad x.f5.length cad] 58)).heap.size = W.heap.size + 1 := by simp
  obtain ⟨b, hbe⟩ : ∃ b, W.heap.size = b := ⟨_, rfl⟩
  have HBE := Aside0.mk hbe
  have BA := Aside0.mk (show Below b W (W.alloc (.cells #[.int .i64 x.f0, .int .i64 x.f1, .int .i64 x.f2, .slice Aal x.f3.length cal, .slice Aah x.f4.length cah, .slice Aad x.f5.length cad] 58)) by rw [← hbe]; exact hb1)
  rw [hbe] at r1 s1
  have RA := Aside0.mk r1
  have SA := Aside0.mk s1
  clear hb1 r1 s1 hbe hCal hcal hCah hcah hCad hcad hCbl hcbl hCbh hcbh hCbd hcbd
  go_enter Try.func36, Try.ntmps36
  go_upto_region 1 with fail
  have hbe := HBE.out
  have hab : (W.alloc (.cells #[.int .i64 x.f0, .int .i64 x.f1, .int .i64 x.f2, .slice Aal x.f3.length cal, .slice Aah x.f4.length cah, .slice Aad x.f5.length cad] 58)).heap.size = b + 1 := SA.out
  try rw [hab]
  try rw [hbe]
  clear hbe hab
  generalize W.alloc (.cells #[.int .i64 x.f0, .int .i64 x.f1, .int .i64 x.f2, .slice Aal x.f3.length cal, .slice Aah x.f4.length cah, .slice Aad x.f5.length cad] 58) = wa at *
  have hb2 : Below wa.heap.size wa (wa.alloc (.cells #[.int .i64 x.f0, .int .i64 x.f1, .int .i64 x.f2, .slice Abl x.f3.length cbl, .slice Abh x.f4.length cbh, .slice Abd x.f5.length cbd] 58)) := below_alloc (Below.refl _ _) _
  have r2 : Rt 58 wa.heap.size [.int .i64 x.f0, .int .i64 x.f1, .int .i64 x.f2, .slice Abl x.f3.length cbl, .slice Abh x.f4.length cbh, .slice Abd x.f5.length cbd] (wa.alloc (.cells #[.int .i64 x.f0, .int .i64 x.f1, .int .i64 x.f2, .slice Abl x.f3.length cbl, .slice Abh x.f4.length cbh, .slice Abd x.f5.length cbd] 58)) := heap_alloc_new wa _
  have R1 := Aside0.mk (RA.out.below hb2)
  have B1 := Aside0.mk (BA.out.trans (hb2.mono (by have := SA.out; omega)))
  have S1 := Aside0.mk (show b + 2 ≤ (wa.alloc (.cells #[.int .i64 x.f0, .int .i64 x.f1, .int .i64 x.f2, .slice Abl x.f3.length cbl, .slice Abh x.f4.length cbh, .slice Abd x.f5.length cbd] 58)).heap.size by have := SA.out; simp; omega)
  rw [SA.out] at r2
  have O1 := Aside0.mk r2
  clear hb2 r2
  try rw [SA.out]
  generalize wa.alloc (.cells #[.int .i64 x.f0, .int .i64 x.f1, .int .i64 x.f2, .slice Abl x.f3.length cbl, .slice Abh x.f4.length cbh, .slice Abd x.f5.length cbd] 58) = w1 at *
  have HSL := Aside0.mk (larderref09_SameLevels.calls _ Aal cal x.f3 Abl cbl x.f3 true w1 (HCal.out w1 (by rw [HBE.out]; exact B1.out)) Hcal.out (HCbl.out w1 (by rw [HBE.out]; exact B1.out)) Hcbl.out (sameLevels_ok x.f3 (HCal.out W (Below.refl _ _)).2.1))
  have HLN := Aside0.mk (And.intro (HCah.out W (Below.refl _ _)).2.1 (HCad.out W (Below.refl _ _)).2.1)
  have c0 := R1.out.cell 0 _ rfl
  have d0 := O1.out.cell 0 _ rfl
  have c1 := R1.out.cell 1 _ rfl
  have d1 := O1.out.cell 1 _ rfl
  have c2 := R1.out.cell 2 _ rfl
  have d2 := O1.out.cell 2 _ rfl
  have c3 := R1.out.cell 3 _ rfl
  have d3 := O1.out.cell 3 _ rfl
  have c4 := R1.out.cell 4 _ rfl
  have d4 := O1.out.cell 4 _ rfl
  have c5 := R1.out.cell 5 _ rfl
  have d5 := O1.out.cell 5 _ rfl
  have u0 : (x.f0 != x.f0) = false := by simp
  have u1 : (x.f1 != x.f1) = false := by simp
  have u2 : (x.f2 != x.f2) = false := by simp
  have u3 : ((x.f4.length : Int) != (x.f4.length : Int)) = false := by simp
  have u4 : ((x.f5.length : Int) != (x.f5.length : Int)) = false := by simp
  go_wp2_with fail
  go_at_call 13
  refine HSL.out.mono ?_
  rintro e w2 ⟨rfl, hd⟩
  have hb : Below w1.heap.size w1 w2 := by
    obtain ⟨md, rfl⟩ := hd
    exact pw_below_drewN (Below.refl _ _) md
  have R2 := Aside0.mk (R1.out.below hb)
  have O2 := Aside0.mk (O1.out.below hb)
  have B2 := Aside0.mk (B1.out.trans (hb.mono (by have := S1.out; omega)))
  clear hd hb HSL c0 d0 c1 d1 c2 d2 c3 d3 c4 d4 c5 d5
  have c3 := R2.out.cell 3 _ rfl
  have d3 := O2.out.cell 3 _ rfl
  have c4 := R2.out.cell 4 _ rfl
  have d4 := O2.out.cell 4 _ rfl
  have c5 := R2.out.cell 5 _ rfl
  have d5 := O2.out.cell 5 _ rfl
  go_wp2_with fail
  clear c3 d3 c4 d4 c5 d5
  go_loopw [5] (fun p wr => ∃ i : Nat, p = .int .i64 (i : Int) ∧ Aside0 (i ≤ x.f4.length) ∧ Aside0 (Below b W wr) ∧ Aside0 (Rt 58 b [.int .i64 x.f0, .int .i64 x.f1, .int .i64 x.f2, .slice Aal x.f3.length cal, .slice Aah x.f4.length cah, .slice Aad x.f5.length cad] wr) ∧ Aside0 (Rt 58 (b + 1) [.int .i64 x.f0, .int .i64 x.f1, .int .i64 x.f2, .slice Abl x.f3.length cbl, .slice Abh x.f4.length cbh, .slice Abd x.f5.length cbd] wr)) (fun p _ => x.f4.length - (intOf p).toNat)
  · exact ⟨0, rfl, ⟨Nat.zero_le _⟩, B2, R2, O2⟩
  · obtain ⟨i, rfl, HI, HBr, HRr, HOr⟩ := hrel
    by_cases ci : i < x.f4.length
    rotate_left
    · have ci1 : decide ((i : Int) < (x.f4.length : Int)) = false := decide_eq_false (by omega)
      have ci3 : decide (i < x.f4.length) = false := decide_eq_false ci
      have c4 := HRr.out.cell 4 _ rfl
      obtain ⟨wq, hwq⟩ : ∃ wq, wq = wr := ⟨_, rfl⟩
      subst hwq
      have R3 := Aside0.mk HRr.out
      have O3 := Aside0.mk HOr.out
      have B3 := Aside0.mk HBr.out
      clear ci HI HRr HOr HBr
      go_wp2_with fail
      clear c4
      go_loopw [6] (fun p wr => ∃ i : Nat, p = .int .i64 (i : Int) ∧ Aside0 (i ≤ x.f5.length) ∧ Aside0 (Below b W wr) ∧ Aside0 (Rt 58 b [.int .i64 x.f0, .int .i64 x.f1, .int .i64 x.f2, .slice Aal x.f3.length cal, .slice Aah x.f4.length cah, .slice Aad x.f5.length cad] wr) ∧ Aside0 (Rt 58 (b + 1) [.int .i64 x.f0, .int .i64 x.f1, .int .i64 x.f2, .slice Abl x.f3.length cbl, .slice Abh x.f4.length cbh, .slice Abd x.f5.length cbd] wr)) (fun p _ => x.f5.length - (intOf p).toNat)
      · exact ⟨0, rfl, ⟨Nat.zero_le _⟩, B3, R3, O3⟩
      · obtain ⟨i, rfl, HI, HBr, HRr, HOr⟩ := hrel
        by_cases ci : i < x.f5.length
        rotate_left
        · have ci1 : decide ((i : Int) < (x.f5.length : Int)) = false := decide_eq_false (by omega)
          have ci3 : decide (i < x.f5.length) = false := decide_eq_false ci
          have c5 := HRr.out.cell 5 _ rfl
          obtain ⟨wq, hwq⟩ : ∃ wq, wq = wr := ⟨_, rfl⟩
          subst hwq
          have R3 := Aside0.mk HRr.out
          have O3 := Aside0.mk HOr.out
          have B3 := Aside0.mk HBr.out
          clear ci HI HRr HOr HBr
          go_wp2_with fail
          go_ret
          rw [HBE.out]
          exact ⟨rfl, B3.out⟩
        have ci1 : decide ((i : Int) < (x.f5.length : Int)) = true := decide_eq_true (by omega)
        have ci2 : (i : Int) < (x.f5.length : Int) := by omega
        have ci3 : (0 : Int) ≤ (i : Int) := by omega
        have hw1 : wrap64 ((i : Int) + 1) = ((i + 1 : Nat) : Int) := by have := HLN.out; unfold wrap64; omega
        obtain ⟨y, hy⟩ : ∃ y, x.f5[i]? = some y := ⟨_, List.getElem?_eq_getElem ci⟩
        have hrd : rd_T123 x.f5 (i : Int) = y := by unfold rd_T123; rw [Int.toNat_natCast, List.getD_eq_getElem?_getD, hy]; rfl
        have hCA := HCad.out wr (by rw [HBE.out]; exact HBr.out)
        have hCB := HCbd.out wr (by rw [HBE.out]; exact HBr.out)
        obtain ⟨ad, A1, c1, e1, d0, d1, d2, d3, d4, d5, d6, hle, hcx⟩ := at_T123 hCA (i : Int) ci3 ci2
        obtain ⟨ad', A1', c1', e1', d0', d1', d2', d3', d4', d5', d6', hle', hcx'⟩ := at_T123 hCB (i : Int) ci3 ci2
        subst e1 e1'
        rw [hrd] at d0 d1 d2 d3 d4 d5 d6 hle hcx d0' d1' d2' d3' d4' d5' d6' hle' hcx'
        rw [Int.toNat_natCast] at d0 d1 d2 d3 d4 d5 d6 d0' d1' d2' d3' d4' d5' d6'
        have HX := Aside0.mk (And.intro hle (And.intro hcx (And.intro hle' hcx')))
        have q5 := HRr.out.cell 5 _ rfl
        have p5 := HOr.out.cell 5 _ rfl
        have HSZ := Aside0.mk (show b + 2 ≤ wr.heap.size by have := HOr.out.lt; omega)
        have MKS := Aside0.mk (show ∀ w', Below wr.heap.size wr w' → (fun w' : World => w'.cell? ⟨b, 5, none⟩ = some (.slice (some ad) x.f5.length cad) ∧ w'.cell? ⟨b + 1, 5, none⟩ = some (.slice (some ad') x.f5.length cbd) ∧ w'.cell? (ad.add (i * 7)) = some (.string y.f0.f0) ∧ w'.cell? ⟨(ad.add (i * 7)).block, (ad.add (i * 7)).off + 1, none⟩ = some (.int .i64 y.f0.f1) ∧ w'.cell? ⟨(ad.add (i * 7)).block, (ad.add (i * 7)).off + 2, none⟩ = some (.slice A1 y.f0.f2.length c1) ∧ w'.cell? ⟨(ad.add (i * 7)).block, (ad.add (i * 7)).off + 3, none⟩ = some (.string y.f0.f3) ∧ w'.cell? ⟨(ad.add (i * 7)).block, (ad.add (i * 7)).off + 4, none⟩ = some (.int .i64 y.f0.f4) ∧ w'.cell? ⟨(ad.add (i * 7)).block, (ad.add (i * 7)).off + 5, none⟩ = some (.int .i64 y.f0.f5) ∧ w'.cell? ⟨(ad.add (i * 7)).block, (ad.add (i * 7)).off + 6, none⟩ = some (.int .i64 y.f1) ∧ w'.cell? (ad'.add (i * 7)) = some (.string y.f0.f0) ∧ w'.cell? ⟨(ad'.add (i * 7)).block, (ad'.add (i * 7)).off + 1, none⟩ = some (.int .i64 y.f0.f1) ∧ w'.cell? ⟨(ad'.add (i * 7)).block, (ad'.add (i * 7)).off + 2, none⟩ = some (.slice A1' y.f0.f2.length c1') ∧ w'.cell? ⟨(ad'.add (i * 7)).block, (ad'.add (i * 7)).off + 3, none⟩ = some (.string y.f0.f3) ∧ w'.cell? ⟨(ad'.add (i * 7)).block, (ad'.add (i * 7)).off + 4, none⟩ = some (.int .i64 y.f0.f4) ∧ w'.cell? ⟨(ad'.add (i * 7)).block, (ad'.add (i * 7)).off + 5, none⟩ = some (.int .i64 y.f0.f5) ∧ w'.cell? ⟨(ad'.add (i * 7)).block, (ad'.add (i * 7)).off + 6, none⟩ = some (.int .i64 y.f1)) w' from fun w' hb => ⟨cell_up hb q5, cell_up hb p5, cell_up hb d0, cell_up hb d1, cell_up hb d2, cell_up hb d3, cell_up hb d4, cell_up hb d5, cell_up hb d6, cell_up hb d0', cell_up hb d1', cell_up hb d2', cell_up hb d3', cell_up hb d4', cell_up hb d5', cell_up hb d6'⟩)
        have HF := Aside0.mk (show ∀ w', Below wr.heap.size wr w' → Calls Try.prog 26 #[.agg #[.string y.f0.f0, .int .i64 y.f0.f1, .slice A1 y.f0.f2.length c1, .string y.f0.f3, .int .i64 y.f0.f4, .int .i64 y.f0.f5], .agg #[.string y.f0.f0, .int .i64 y.f0.f1, .slice A1' y.f0.f2.length c1', .string y.f0.f3, .int .i64 y.f0.f4, .int .i64 y.f0.f5]] w' fun e w2 => e = .returned (.bool true) ∧ Below w'.heap.size w' w2 from fun w' hb => larderref09_SameRequest.calls (y.f0.f2.length + 1) y.f0.f0 y.f0.f1 A1 c1 y.f0.f2 y.f0.f3 y.f0.f4 y.f0.f5 y.f0.f0 y.f0.f1 A1' c1' y.f0.f2 y.f0.f3 y.f0.f4 y.f0.f5 true w' (Kd.C_below HX.out.2.1 hb) HX.out.1 (Kd.C_below HX.out.2.2.2 hb) HX.out.2.2.1 (sameRequest_ok y.f0 HX.out.2.1.2.1 _ (Nat.le_refl _)))
        clear hrd hy hCA hCB hle hcx hle' hcx' q5 p5 d0 d1 d2 d3 d4 d5 d6 d0' d1' d2' d3' d4' d5' d6'
        have q5 := HRr.out.cell 5 _ rfl
        go_upto_region 11 with fail
        clear q5
        refine wp_region_held_drew (S := fun w' : World => w'.cell? ⟨b, 5, none⟩ = some (.slice (some ad) x.f5.length cad) ∧ w'.cell? ⟨b + 1, 5, none⟩ = some (.slice (some ad') x.f5.length cbd) ∧ w'.cell? (ad.add (i * 7)) = some (.string y.f0.f0) ∧ w'.cell? ⟨(ad.add (i * 7)).block, (ad.add (i * 7)).off + 1, none⟩ = some (.int .i64 y.f0.f1) ∧ w'.cell? ⟨(ad.add (i * 7)).block, (ad.add (i * 7)).off + 2, none⟩ = some (.slice A1 y.f0.f2.length c1) ∧ w'.cell? ⟨(ad.add (i * 7)).block, (ad.add (i * 7)).off + 3, none⟩ = some (.string y.f0.f3) ∧ w'.cell? ⟨(ad.add (i * 7)).block, (ad.add (i * 7)).off + 4, none⟩ = some (.int .i64 y.f0.f4) ∧ w'.cell? ⟨(ad.add (i * 7)).block, (ad.add (i * 7)).off + 5, none⟩ = some (.int .i64 y.f0.f5) ∧ w'.cell? ⟨(ad.add (i * 7)).block, (ad.add (i * 7)).off + 6, none⟩ = some (.int .i64 y.f1) ∧ w'.cell? (ad'.add (i * 7)) = some (.string y.f0.f0) ∧ w'.cell? ⟨(ad'.add (i * 7)).block, (ad'.add (i * 7)).off + 1, none⟩ = some (.int .i64 y.f0.f1) ∧ w'.cell? ⟨(ad'.add (i * 7)).block, (ad'.add (i * 7)).off + 2, none⟩ = some (.slice A1' y.f0.f2.length c1') ∧ w'.cell? ⟨(ad'.add (i * 7)).block, (ad'.add (i * 7)).off + 3, none⟩ = some (.string y.f0.f3) ∧ w'.cell? ⟨(ad'.add (i * 7)).block, (ad'.add (i * 7)).off + 4, none⟩ = some (.int .i64 y.f0.f4) ∧ w'.cell? ⟨(ad'.add (i * 7)).block, (ad'.add (i * 7)).off + 5, none⟩ = some (.int .i64 y.f0.f5) ∧ w'.cell? ⟨(ad'.add (i * 7)).block, (ad'.add (i * 7)).off + 6, none⟩ = some (.int .i64 y.f1)) (by kernel_rfl) (MKS.out _ (below_drew (Below.refl _ _))) (fun hHeld => ?_)
        refine wpAnyH_take (i := 0) (oi := { dst := some 110, op := Op.fieldAddr 58 (Operand.tmp 2) 5, type := 0, pos := "same.go:59", after := #[], guard := none }) (v := ?_) rfl (by kernel_rfl) (by kernel_rfl) (by kernel_rfl) (fun _ _ _ h => h) (Or.inl ⟨by rfl, ?_⟩) hHeld ?_
        rotate_left
        · intro w' hS; obtain ⟨hS0, hS1, hS2, hS3, hS4, hS5, hS6, hS7, hS8, hS9, hS10, hS11, hS12, hS13, hS14, hS15⟩ := hS; go_simp; all_goals (with_reducible rfl)
        (try simp only [Act.put, List.setIfInBounds_toArray, List.set_cons_zero, List.set_cons_succ])
        refine wpAnyH_take (i := 1) (oi := { dst := some 111, op := Op.load 56 (Operand.tmp 110), type := 56, pos := "same.go:59", after := #[{ on := 0, ground := Ground.data }], guard := none }) (v := ?_) rfl (by kernel_rfl) (by kernel_rfl) (by kernel_rfl) (fun _ _ _ h => h) (Or.inl ⟨by rfl, ?_⟩) hHeld ?_
        rotate_left
        · intro w' hS; obtain ⟨hS0, hS1, hS2, hS3, hS4, hS5, hS6, hS7, hS8, hS9, hS10, hS11, hS12, hS13, hS14, hS15⟩ := hS; go_simp; all_goals (with_reducible rfl)
        (try simp only [Act.put, List.setIfInBounds_toArray, List.set_cons_zero, List.set_cons_succ])
        refine wpAnyH_take (i := 2) (oi := { dst := some 112, op := Op.move (Operand.tmp 6), type := 3, pos := "same.go:59", after := #[], guard := none }) (v := ?_) rfl (by kernel_rfl) (by kernel_rfl) (by kernel_rfl) (fun _ _ _ h => h) (Or.inl ⟨by rfl, ?_⟩) hHeld ?_
        rotate_left
        · intro w' hS; obtain ⟨hS0, hS1, hS2, hS3, hS4, hS5, hS6, hS7, hS8, hS9, hS10, hS11, hS12, hS13, hS14, hS15⟩ := hS; go_simp; all_goals (with_reducible rfl)
        (try simp only [Act.put, List.setIfInBounds_toArray, List.set_cons_zero, List.set_cons_succ])
        refine wpAnyH_take (i := 3) (oi := { dst := some 113, op := Op.indexAddr 56 (Operand.tmp 111) (Operand.tmp 112), type := 0, pos := "same.go:59", after := #[{ on := 1, ground := Ground.data }, { on := 2, ground := Ground.data }], guard := none }) (v := ?_) rfl (by kernel_rfl) (by kernel_rfl) (by kernel_rfl) (fun _ _ _ h => h) (Or.inl ⟨by rfl, ?_⟩) hHeld ?_
        rotate_left
        · intro w' hS; obtain ⟨hS0, hS1, hS2, hS3, hS4, hS5, hS6, hS7, hS8, hS9, hS10, hS11, hS12, hS13, hS14, hS15⟩ := hS; go_simp; all_goals (with_reducible rfl)
        (try simp only [Act.put, List.setIfInBounds_toArray, List.set_cons_zero, List.set_cons_succ])
        refine wpAnyH_take (i := 4) (oi := { dst := some 114, op := Op.fieldAddr 123 (Operand.tmp 113) 1, type := 0, pos := "same.go:59", after := #[{ on := 3, ground := Ground.data }], guard := none }) (v := ?_) rfl (by kernel_rfl) (by kernel_rfl) (by kernel_rfl) (fun _ _ _ h => h) (Or.inl ⟨by rfl, ?_⟩) hHeld ?_
        rotate_left
        · intro w' hS; obtain ⟨hS0, hS1, hS2, hS3, hS4, hS5, hS6, hS7, hS8, hS9, hS10, hS11, hS12, hS13, hS14, hS15⟩ := hS; go_simp; all_goals (with_reducible rfl)
        (try simp only [Act.put, List.setIfInBounds_toArray, List.set_cons_zero, List.set_cons_succ])
        refine wpAnyH_take (i := 5) (oi := { dst := some 115, op := Op.load 3 (Operand.tmp 114), type := 3, pos := "same.go:59", after := #[{ on := 4, ground := Ground.data }], guard := none }) (v := ?_) rfl (by kernel_rfl) (by kernel_rfl) (by kernel_rfl) (fun _ _ _ h => h) (Or.inl ⟨by rfl, ?_⟩) hHeld ?_
        rotate_left
        · intro w' hS; obtain ⟨hS0, hS1, hS2, hS3, hS4, hS5, hS6, hS7, hS8, hS9, hS10, hS11, hS12, hS13, hS14, hS15⟩ := hS; go_simp; all_goals (with_reducible rfl)
        (try simp only [Act.put, List.setIfInBounds_toArray, List.set_cons_zero, List.set_cons_succ])
        refine wpAnyH_take (i := 6) (oi := { dst := some 116, op := Op.fieldAddr 58 (Operand.tmp 3) 5, type := 0, pos := "same.go:59", after := #[], guard := none }) (v := ?_) rfl (by kernel_rfl) (by kernel_rfl) (by kernel_rfl) (fun _ _ _ h => h) (Or.inl ⟨by rfl, ?_⟩) hHeld ?_
        rotate_left
        · intro w' hS; obtain ⟨hS0, hS1, hS2, hS3, hS4, hS5, hS6, hS7, hS8, hS9, hS10, hS11, hS12, hS13, hS14, hS15⟩ := hS; go_simp; all_goals (with_reducible rfl)
        (try simp only [Act.put, List.setIfInBounds_toArray, List.set_cons_zero, List.set_cons_succ])
        refine wpAnyH_take (i := 7) (oi := { dst := some 117, op := Op.load 56 (Operand.tmp 116), type := 56, pos := "same.go:59", after := #[{ on := 6, ground := Ground.data }], guard := none }) (v := ?_) rfl (by kernel_rfl) (by kernel_rfl) (by kernel_rfl) (fun _ _ _ h => h) (Or.inl ⟨by rfl, ?_⟩) hHeld ?_
        rotate_left
        · intro w' hS; obtain ⟨hS0, hS1, hS2, hS3, hS4, hS5, hS6, hS7, hS8, hS9, hS10, hS11, hS12, hS13, hS14, hS15⟩ := hS; go_simp; all_goals (with_reducible rfl)
        (try simp only [Act.put, List.setIfInBounds_toArray, List.set_cons_zero, List.set_cons_succ])
        refine wpAnyH_take (i := 8) (oi := { dst := some 118, op := Op.move (Operand.tmp 6), type := 3, pos := "same.go:59", after := #[], guard := none }) (v := ?_) rfl (by kernel_rfl) (by kernel_rfl) (by kernel_rfl) (fun _ _ _ h => h) (Or.inl ⟨by rfl, ?_⟩) hHeld ?_
        rotate_left
        · intro w' hS; obtain ⟨hS0, hS1, hS2, hS3, hS4, hS5, hS6, hS7, hS8, hS9, hS10, hS11, hS12, hS13, hS14, hS15⟩ := hS; go_simp; all_goals (with_reducible rfl)
        (try simp only [Act.put, List.setIfInBounds_toArray, List.set_cons_zero, List.set_cons_succ])
        refine wpAnyH_take (i := 9) (oi := { dst := some 119, op := Op.indexAddr 56 (Operand.tmp 117) (Operand.tmp 118), type := 0, pos := "same.go:59", after := #[{ on := 7, ground := Ground.data }, { on := 8, ground := Ground.data }], guard := none }) (v := ?_) rfl (by kernel_rfl) (by kernel_rfl) (by kernel_rfl) (fun _ _ _ h => h) (Or.inl ⟨by rfl, ?_⟩) hHeld ?_
        rotate_left
        · intro w' hS; obtain ⟨hS0, hS1, hS2, hS3, hS4, hS5, hS6, hS7, hS8, hS9, hS10, hS11, hS12, hS13, hS14, hS15⟩ := hS; go_simp; all_goals (with_reducible rfl)
        (try simp only [Act.put, List.setIfInBounds_toArray, List.set_cons_zero, List.set_cons_succ])
        refine wpAnyH_take (i := 10) (oi := { dst := some 120, op := Op.fieldAddr 123 (Operand.tmp 119) 1, type := 0, pos := "same.go:59", after := #[{ on := 9, ground := Ground.data }], guard := none }) (v := ?_) rfl (by kernel_rfl) (by kernel_rfl) (by kernel_rfl) (fun _ _ _ h => h) (Or.inl ⟨by rfl, ?_⟩) hHeld ?_
        rotate_left
        · intro w' hS; obtain ⟨hS0, hS1, hS2, hS3, hS4, hS5, hS6, hS7, hS8, hS9, hS10, hS11, hS12, hS13, hS14, hS15⟩ := hS; go_simp; all_goals (with_reducible rfl)
        (try simp only [Act.put, List.setIfInBounds_toArray, List.set_cons_zero, List.set_cons_succ])
        refine wpAnyH_take (i := 11) (oi := { dst := some 121, op := Op.load 3 (Operand.tmp 120), type := 3, pos := "same.go:59", after := #[{ on := 10, ground := Ground.data }], guard := none }) (v := ?_) rfl (by kernel_rfl) (by kernel_rfl) (by kernel_rfl) (fun _ _ _ h => h) (Or.inl ⟨by rfl, ?_⟩) hHeld ?_
        rotate_left
        · intro w' hS; obtain ⟨hS0, hS1, hS2, hS3, hS4, hS5, hS6, hS7, hS8, hS9, hS10, hS11, hS12, hS13, hS14, hS15⟩ := hS; go_simp; all_goals (with_reducible rfl)
        (try simp only [Act.put, List.setIfInBounds_toArray, List.set_cons_zero, List.set_cons_succ])
        refine wpAnyH_take (i := 12) (oi := { dst := some 122, op := Op.binOp BinOp.neq 3 (Operand.tmp 115) (Operand.tmp 121) 3, type := 4, pos := "same.go:59", after := #[{ on := 5, ground := Ground.data }, { on := 11, ground := Ground.data }], guard := none }) (v := ?_) rfl (by kernel_rfl) (by kernel_rfl) (by kernel_rfl) (fun _ _ _ h => h) (Or.inl ⟨by rfl, ?_⟩) hHeld ?_
        rotate_left
        · intro w' hS; obtain ⟨hS0, hS1, hS2, hS3, hS4, hS5, hS6, hS7, hS8, hS9, hS10, hS11, hS12, hS13, hS14, hS15⟩ := hS; go_simp; all_goals (with_reducible rfl)
        (try simp only [Act.put, List.setIfInBounds_toArray, List.set_cons_zero, List.set_cons_succ])
        refine wpAnyH_take (i := 13) (oi := { dst := some 123, op := Op.move (Operand.tmp 122), type := 4, pos := "same.go:59", after := #[{ on := 12, ground := Ground.data }], guard := none }) (v := ?_) rfl (by kernel_rfl) (by kernel_rfl) (by kernel_rfl) (fun _ _ _ h => h) (Or.inl ⟨by rfl, ?_⟩) hHeld ?_
        rotate_left
        · intro w' hS; obtain ⟨hS0, hS1, hS2, hS3, hS4, hS5, hS6, hS7, hS8, hS9, hS10, hS11, hS12, hS13, hS14, hS15⟩ := hS; go_simp; all_goals (with_reducible rfl)
        (try simp only [Act.put, List.setIfInBounds_toArray, List.set_cons_zero, List.set_cons_succ])
        refine wpAnyH_take (i := 14) (oi := { dst := some 124, op := Op.fieldAddr 58 (Operand.tmp 2) 5, type := 0, pos := "same.go:59", after := #[{ on := 13, ground := Ground.guard }], guard := some (13, false) }) (v := ?_) rfl (by kernel_rfl) (by kernel_rfl) (by kernel_rfl) (fun _ _ _ h => h) (Or.inl ⟨by rfl, ?_⟩) hHeld ?_
        rotate_left
        · intro w' hS; obtain ⟨hS0, hS1, hS2, hS3, hS4, hS5, hS6, hS7, hS8, hS9, hS10, hS11, hS12, hS13, hS14, hS15⟩ := hS; go_simp; all_goals (with_reducible rfl)
        (try simp only [Act.put, List.setIfInBounds_toArray, List.set_cons_zero, List.set_cons_succ])
        refine wpAnyH_take (i := 15) (oi := { dst := some 125, op := Op.load 56 (Operand.tmp 124), type := 56, pos := "same.go:59", after := #[{ on := 14, ground := Ground.data }, { on := 13, ground := Ground.guard }], guard := some (13, false) }) (v := ?_) rfl (by kernel_rfl) (by kernel_rfl) (by kernel_rfl) (fun _ _ _ h => h) (Or.inl ⟨by rfl, ?_⟩) hHeld ?_
        rotate_left
        · intro w' hS; obtain ⟨hS0, hS1, hS2, hS3, hS4, hS5, hS6, hS7, hS8, hS9, hS10, hS11, hS12, hS13, hS14, hS15⟩ := hS; go_simp; all_goals (with_reducible rfl)
        (try simp only [Act.put, List.setIfInBounds_toArray, List.set_cons_zero, List.set_cons_succ])
        refine wpAnyH_take (i := 16) (oi := { dst := some 126, op := Op.move (Operand.tmp 6), type := 3, pos := "same.go:59", after := #[{ on := 13, ground := Ground.guard }], guard := some (13, false) }) (v := ?_) rfl (by kernel_rfl) (by kernel_rfl) (by kernel_rfl) (fun _ _ _ h => h) (Or.inl ⟨by rfl, ?_⟩) hHeld ?_
        rotate_left
        · intro w' hS; obtain ⟨hS0, hS1, hS2, hS3, hS4, hS5, hS6, hS7, hS8, hS9, hS10, hS11, hS12, hS13, hS14, hS15⟩ := hS; go_simp; all_goals (with_reducible rfl)
        (try simp only [Act.put, List.setIfInBounds_toArray, List.set_cons_zero, List.set_cons_succ])
        refine wpAnyH_take (i := 17) (oi := { dst := some 127, op := Op.indexAddr 56 (Operand.tmp 125) (Operand.tmp 126), type := 0, pos := "same.go:59", after := #[{ on := 15, ground := Ground.data }, { on := 16, ground := Ground.data }, { on := 13, ground := Ground.guard }], guard := some (13, false) }) (v := ?_) rfl (by kernel_rfl) (by kernel_rfl) (by kernel_rfl) (fun _ _ _ h => h) (Or.inl ⟨by rfl, ?_⟩) hHeld ?_
        rotate_left
        · intro w' hS; obtain ⟨hS0, hS1, hS2, hS3, hS4, hS5, hS6, hS7, hS8, hS9, hS10, hS11, hS12, hS13, hS14, hS15⟩ := hS; go_simp; all_goals (with_reducible rfl)
        (try simp only [Act.put, List.setIfInBounds_toArray, List.set_cons_zero, List.set_cons_succ])
        refine wpAnyH_take (i := 18) (oi := { dst := some 128, op := Op.fieldAddr 123 (Operand.tmp 127) 0, type := 0, pos := "same.go:59", after := #[{ on := 17, ground := Ground.data }, { on := 13, ground := Ground.guard }], guard := some (13, false) }) (v := ?_) rfl (by kernel_rfl) (by kernel_rfl) (by kernel_rfl) (fun _ _ _ h => h) (Or.inl ⟨by rfl, ?_⟩) hHeld ?_
        rotate_left
        · intro w' hS; obtain ⟨hS0, hS1, hS2, hS3, hS4, hS5, hS6, hS7, hS8, hS9, hS10, hS11, hS12, hS13, hS14, hS15⟩ := hS; go_simp; all_goals (with_reducible rfl)
        (try simp only [Act.put, List.setIfInBounds_toArray, List.set_cons_zero, List.set_cons_succ])
        refine wpAnyH_take (i := 19) (oi := { dst := some 129, op := Op.load 40 (Operand.tmp 128), type := 40, pos := "same.go:59", after := #[{ on := 18, ground := Ground.data }, { on := 13, ground := Ground.guard }], guard := some (13, false) }) (v := ?_) rfl (by kernel_rfl) (by kernel_rfl) (by kernel_rfl) (fun _ _ _ h => h) (Or.inl ⟨by rfl, ?_⟩) hHeld ?_
        rotate_left
        · intro w' hS; obtain ⟨hS0, hS1, hS2, hS3, hS4, hS5, hS6, hS7, hS8, hS9, hS10, hS11, hS12, hS13, hS14, hS15⟩ := hS; go_simp; all_goals (with_reducible rfl)
        (try simp only [Act.put, List.setIfInBounds_toArray, List.set_cons_zero, List.set_cons_succ])
        refine wpAnyH_take (i := 20) (oi := { dst := some 130, op := Op.fieldAddr 58 (Operand.tmp 3) 5, type := 0, pos := "same.go:59", after := #[{ on := 13, ground := Ground.guard }], guard := some (13, false) }) (v := ?_) rfl (by kernel_rfl) (by kernel_rfl) (by kernel_rfl) (fun _ _ _ h => h) (Or.inl ⟨by rfl, ?_⟩) hHeld ?_
        rotate_left
        · intro w' hS; obtain ⟨hS0, hS1, hS2, hS3, hS4, hS5, hS6, hS7, hS8, hS9, hS10, hS11, hS12, hS13, hS14, hS15⟩ := hS; go_simp; all_goals (with_reducible rfl)
        (try simp only [Act.put, List.setIfInBounds_toArray, List.set_cons_zero, List.set_cons_succ])
        refine wpAnyH_take (i := 21) (oi := { dst := some 131, op := Op.load 56 (Operand.tmp 130), type := 56, pos := "same.go:59", after := #[{ on := 20, ground := Ground.data }, { on := 13, ground := Ground.guard }], guard := some (13, false) }) (v := ?_) rfl (by kernel_rfl) (by kernel_rfl) (by kernel_rfl) (fun _ _ _ h => h) (Or.inl ⟨by rfl, ?_⟩) hHeld ?_
        rotate_left
        · intro w' hS; obtain ⟨hS0, hS1, hS2, hS3, hS4, hS5, hS6, hS7, hS8, hS9, hS10, hS11, hS12, hS13, hS14, hS15⟩ := hS; go_simp; all_goals (with_reducible rfl)
        (try simp only [Act.put, List.setIfInBounds_toArray, List.set_cons_zero, List.set_cons_succ])
        refine wpAnyH_take (i := 22) (oi := { dst := some 132, op := Op.move (Operand.tmp 6), type := 3, pos := "same.go:59", after := #[{ on := 13, ground := Ground.guard }], guard := some (13, false) }) (v := ?_) rfl (by kernel_rfl) (by kernel_rfl) (by kernel_rfl) (fun _ _ _ h => h) (Or.inl ⟨by rfl, ?_⟩) hHeld ?_
        rotate_left
        · intro w' hS; obtain ⟨hS0, hS1, hS2, hS3, hS4, hS5, hS6, hS7, hS8, hS9, hS10, hS11, hS12, hS13, hS14, hS15⟩ := hS; go_simp; all_goals (with_reducible rfl)
        (try simp only [Act.put, List.setIfInBounds_toArray, List.set_cons_zero, List.set_cons_succ])
        refine wpAnyH_take (i := 23) (oi := { dst := some 133, op := Op.indexAddr 56 (Operand.tmp 131) (Operand.tmp 132), type := 0, pos := "same.go:59", after := #[{ on := 21, ground := Ground.data }, { on := 22, ground := Ground.data }, { on := 13, ground := Ground.guard }], guard := some (13, false) }) (v := ?_) rfl (by kernel_rfl) (by kernel_rfl) (by kernel_rfl) (fun _ _ _ h => h) (Or.inl ⟨by rfl, ?_⟩) hHeld ?_
        rotate_left
        · intro w' hS; obtain ⟨hS0, hS1, hS2, hS3, hS4, hS5, hS6, hS7, hS8, hS9, hS10, hS11, hS12, hS13, hS14, hS15⟩ := hS; go_simp; all_goals (with_reducible rfl)
        (try simp only [Act.put, List.setIfInBounds_toArray, List.set_cons_zero, List.set_cons_succ])
        refine wpAnyH_take (i := 24) (oi := { dst := some 134, op := Op.fieldAddr 123 (Operand.tmp 133) 0, type := 0, pos := "same.go:59", after := #[{ on := 23, ground := Ground.data }, { on := 13, ground := Ground.guard }], guard := some (13, false) }) (v := ?_) rfl (by kernel_rfl) (by kernel_rfl) (by kernel_rfl) (fun _ _ _ h => h) (Or.inl ⟨by rfl, ?_⟩) hHeld ?_
        rotate_left
        · intro w' hS; obtain ⟨hS0, hS1, hS2, hS3, hS4, hS5, hS6, hS7, hS8, hS9, hS10, hS11, hS12, hS13, hS14, hS15⟩ := hS; go_simp; all_goals (with_reducible rfl)
        (try simp only [Act.put, List.setIfInBounds_toArray, List.set_cons_zero, List.set_cons_succ])
        refine wpAnyH_take (i := 25) (oi := { dst := some 135, op := Op.load 40 (Operand.tmp 134), type := 40, pos := "same.go:59", after := #[{ on := 24, ground := Ground.data }, { on := 13, ground := Ground.guard }], guard := some (13, false) }) (v := ?_) rfl (by kernel_rfl) (by kernel_rfl) (by kernel_rfl) (fun _ _ _ h => h) (Or.inl ⟨by rfl, ?_⟩) hHeld ?_
        rotate_left
        · intro w' hS; obtain ⟨hS0, hS1, hS2, hS3, hS4, hS5, hS6, hS7, hS8, hS9, hS10, hS11, hS12, hS13, hS14, hS15⟩ := hS; go_simp; all_goals (with_reducible rfl)
        (try simp only [Act.put, List.setIfInBounds_toArray, List.set_cons_zero, List.set_cons_succ])
        refine wpAnyH_ready (rs := [26]) (by kernel_rfl) (by simp) ?_
        refine AllReadyH.cons (o := { dst := some 136, op := Op.call { callee := Callee.value (Operand.func 26), args := #[Operand.tmp 129, Operand.tmp 135], argTypes := #[40, 40] }, type := 4, pos := "same.go:59", after := #[{ on := 19, ground := Ground.data }, { on := 25, ground := Ground.data }, { on := 13, ground := Ground.chain }, { on := 13, ground := Ground.guard }], guard := some (13, false) }) rfl (fun K hK => ?_) AllReadyH.nil
        go_simp
        go_at_call 26
        refine (HF.out _ (below_drew (Below.refl _ _))).mono ?_
        rintro e wz ⟨rfl, hd⟩
        have HBZ := Aside0.mk (show Below wr.heap.size wr wz from (below_drew (Below.refl _ _)).trans (hd.mono (Nat.le_refl _)))
        clear hd
        refine hK.out _ _ (MKS.out _ HBZ.out) (fun hHeld => ?_)
        clear hK K
        (try simp only [Act.put, List.setIfInBounds_toArray, List.set_cons_zero, List.set_cons_succ])
        refine wpAnyH_take (i := 27) (oi := { dst := some 137, op := Op.unOp UnOp.not 4 (Operand.tmp 136), type := 4, pos := "same.go:59", after := #[{ on := 26, ground := Ground.data }, { on := 13, ground := Ground.guard }], guard := some (13, false) }) (v := ?_) rfl (by kernel_rfl) (by kernel_rfl) (by kernel_rfl) (fun _ _ _ h => h) (Or.inl ⟨by rfl, ?_⟩) hHeld ?_
        rotate_left
        · intro w' hS; obtain ⟨hS0, hS1, hS2, hS3, hS4, hS5, hS6, hS7, hS8, hS9, hS10, hS11, hS12, hS13, hS14, hS15⟩ := hS; go_simp; all_goals (with_reducible rfl)
        (try simp only [Act.put, List.setIfInBounds_toArray, List.set_cons_zero, List.set_cons_succ])
        refine wpAnyH_take (i := 28) (oi := { dst := some 138, op := Op.pick (Operand.tmp 123) (Operand.const (Value.bool true)) (Operand.tmp 137), type := 4, pos := "same.go:59", after := #[{ on := 13, ground := Ground.data }, { on := 27, ground := Ground.data }], guard := none }) (v := ?_) rfl (by kernel_rfl) (by kernel_rfl) (by kernel_rfl) (fun _ _ _ h => h) (Or.inl ⟨by rfl, ?_⟩) hHeld ?_
        rotate_left
        · intro w' hS; obtain ⟨hS0, hS1, hS2, hS3, hS4, hS5, hS6, hS7, hS8, hS9, hS10, hS11, hS12, hS13, hS14, hS15⟩ := hS; go_simp; all_goals (with_reducible rfl)
        (try simp only [Act.put, List.setIfInBounds_toArray, List.set_cons_zero, List.set_cons_succ])
        refine wpAnyH_done (by kernel_rfl) ?_ _
        (try simp only [Act.put, List.setIfInBounds_toArray, List.set_cons_zero, List.set_cons_succ])
        have HB9 := Aside0.mk (show Below b W wz from HBr.out.trans (HBZ.out.mono (by have := HSZ.out; omega)))
        have R9 := Aside0.mk (HRr.out.below HBZ.out)
        have O9 := Aside0.mk (HOr.out.below HBZ.out)
        clear HF MKS HBZ HRr HOr HBr
        go_wp2_with fail
        refine ⟨⟨i + 1, congrArg (Value.int .i64) (by omega), ⟨ci⟩, HB9, R9, O9⟩, ?_⟩
        rw [hw1]
        show x.f5.length - (((i + 1 : Nat) : Int)).toNat < x.f5.length - ((i : Nat) : Int).toNat
        omega
    have ci1 : decide ((i : Int) < (x.f4.length : Int)) = true := decide_eq_true (by omega)
    have ci2 : (i : Int) < (x.f4.length : Int) := by omega
    have ci3 : (0 : Int) ≤ (i : Int) := by omega
    have hw1 : wrap64 ((i : Int) + 1) = ((i + 1 : Nat) : Int) := by have := HLN.out; unfold wrap64; omega
    obtain ⟨y, hy⟩ : ∃ y, x.f4[i]? = some y := ⟨_, List.getElem?_eq_getElem ci⟩
    have hrd : rd_T121 x.f4 (i : Int) = y := by unfold rd_T121; rw [Int.toNat_natCast, List.getD_eq_getElem?_getD, hy]; rfl
    have hCA := HCah.out wr (by rw [HBE.out]; exact HBr.out)
    have hCB := HCbh.out wr (by rw [HBE.out]; exact HBr.out)
    obtain ⟨ad, A1, c1, e1, d0, d1, d2, hle, hcx⟩ := at_T121 hCA (i : Int) ci3 ci2
    obtain ⟨ad', A1', c1', e1', d0', d1', d2', hle', hcx'⟩ := at_T121 hCB (i : Int) ci3 ci2
    subst e1 e1'
    rw [hrd] at d0 d1 d2 hle hcx d0' d1' d2' hle' hcx'
    rw [Int.toNat_natCast] at d0 d1 d2 d0' d1' d2'
    have HX := Aside0.mk (And.intro hle (And.intro hcx (And.intro hle' hcx')))
    have q4 := HRr.out.cell 4 _ rfl
    have p4 := HOr.out.cell 4 _ rfl
    have HSZ := Aside0.mk (show b + 2 ≤ wr.heap.size by have := HOr.out.lt; omega)
    have MKS := Aside0.mk (show ∀ w', Below wr.heap.size wr w' → (fun w' : World => w'.cell? ⟨b, 4, none⟩ = some (.slice (some ad) x.f4.length cah) ∧ w'.cell? ⟨b + 1, 4, none⟩ = some (.slice (some ad') x.f4.length cbh) ∧ w'.cell? (ad.add (i * 3)) = some (.string y.f0) ∧ w'.cell? ⟨(ad.add (i * 3)).block, (ad.add (i * 3)).off + 1, none⟩ = some (.slice A1 y.f1.length c1) ∧ w'.cell? ⟨(ad.add (i * 3)).block, (ad.add (i * 3)).off + 2, none⟩ = some (.int .i64 y.f2) ∧ w'.cell? (ad'.add (i * 3)) = some (.string y.f0) ∧ w'.cell? ⟨(ad'.add (i * 3)).block, (ad'.add (i * 3)).off + 1, none⟩ = some (.slice A1' y.f1.length c1') ∧ w'.cell? ⟨(ad'.add (i * 3)).block, (ad'.add (i * 3)).off + 2, none⟩ = some (.int .i64 y.f2)) w' from fun w' hb => ⟨cell_up hb q4, cell_up hb p4, cell_up hb d0, cell_up hb d1, cell_up hb d2, cell_up hb d0', cell_up hb d1', cell_up hb d2'⟩)
    have HF := Aside0.mk (show ∀ w', Below wr.heap.size wr w' → Calls Try.prog 77 #[.slice A1 y.f1.length c1, .slice A1' y.f1.length c1'] w' fun e w2 => e = .returned (.bool true) ∧ Below w'.heap.size w' w2 from fun w' hb => (larderref09_SameLines.calls (y.f1.length + 1) A1 c1 y.f1 A1' c1' y.f1 true w' (Kd.C_below HX.out.2.1 hb) HX.out.1 (Kd.C_below HX.out.2.2.2 hb) HX.out.2.2.1 (sameLines_ok y.f1 HX.out.2.1.2.1 _ (Nat.le_refl _))).mono (by
      rintro e w2 ⟨rfl, md, rfl⟩
      exact ⟨rfl, pw_below_drewN (Below.refl _ _) md⟩))
    clear hrd hy hCA hCB hle hcx hle' hcx' q4 p4 d0 d1 d2 d0' d1' d2'
    have q4 := HRr.out.cell 4 _ rfl
    go_upto_region 6 with fail
    clear q4
    refine wp_region_held_drew (S := fun w' : World => w'.cell? ⟨b, 4, none⟩ = some (.slice (some ad) x.f4.length cah) ∧ w'.cell? ⟨b + 1, 4, none⟩ = some (.slice (some ad') x.f4.length cbh) ∧ w'.cell? (ad.add (i * 3)) = some (.string y.f0) ∧ w'.cell? ⟨(ad.add (i * 3)).block, (ad.add (i * 3)).off + 1, none⟩ = some (.slice A1 y.f1.length c1) ∧ w'.cell? ⟨(ad.add (i * 3)).block, (ad.add (i * 3)).off + 2, none⟩ = some (.int .i64 y.f2) ∧ w'.cell? (ad'.add (i * 3)) = some (.string y.f0) ∧ w'.cell? ⟨(ad'.add (i * 3)).block, (ad'.add (i * 3)).off + 1, none⟩ = some (.slice A1' y.f1.length c1') ∧ w'.cell? ⟨(ad'.add (i * 3)).block, (ad'.add (i * 3)).off + 2, none⟩ = some (.int .i64 y.f2)) (by kernel_rfl) (MKS.out _ (below_drew (Below.refl _ _))) (fun hHeld => ?_)
    refine wpAnyH_take (i := 0) (oi := { dst := some 59, op := Op.fieldAddr 58 (Operand.tmp 2) 4, type := 0, pos := "same.go:54", after := #[], guard := none }) (v := ?_) rfl (by kernel_rfl) (by kernel_rfl) (by kernel_rfl) (fun _ _ _ h => h) (Or.inl ⟨by rfl, ?_⟩) hHeld ?_
    rotate_left
    · intro w' hS; obtain ⟨hS0, hS1, hS2, hS3, hS4, hS5, hS6, hS7⟩ := hS; go_simp; all_goals (with_reducible rfl)
    (try simp only [Act.put, List.setIfInBounds_toArray, List.set_cons_zero, List.set_cons_succ])
    refine wpAnyH_take (i := 1) (oi := { dst := some 60, op := Op.load 55 (Operand.tmp 59), type := 55, pos := "same.go:54", after := #[{ on := 0, ground := Ground.data }], guard := none }) (v := ?_) rfl (by kernel_rfl) (by kernel_rfl) (by kernel_rfl) (fun _ _ _ h => h) (Or.inl ⟨by rfl, ?_⟩) hHeld ?_
    rotate_left
    · intro w' hS; obtain ⟨hS0, hS1, hS2, hS3, hS4, hS5, hS6, hS7⟩ := hS; go_simp; all_goals (with_reducible rfl)
    (try simp only [Act.put, List.setIfInBounds_toArray, List.set_cons_zero, List.set_cons_succ])
    refine wpAnyH_take (i := 2) (oi := { dst := some 61, op := Op.move (Operand.tmp 5), type := 3, pos := "same.go:54", after := #[], guard := none }) (v := ?_) rfl (by kernel_rfl) (by kernel_rfl) (by kernel_rfl) (fun _ _ _ h => h) (Or.inl ⟨by rfl, ?_⟩) hHeld ?_
    rotate_left
    · intro w' hS; obtain ⟨hS0, hS1, hS2, hS3, hS4, hS5, hS6, hS7⟩ := hS; go_simp; all_goals (with_reducible rfl)
    (try simp only [Act.put, List.setIfInBounds_toArray, List.set_cons_zero, List.set_cons_succ])
    refine wpAnyH_take (i := 3) (oi := { dst := some 62, op := Op.indexAddr 55 (Operand.tmp 60) (Operand.tmp 61), type := 0, pos := "same.go:54", after := #[{ on := 1, ground := Ground.data }, { on := 2, ground := Ground.data }], guard := none }) (v := ?_) rfl (by kernel_rfl) (by kernel_rfl) (by kernel_rfl) (fun _ _ _ h => h) (Or.inl ⟨by rfl, ?_⟩) hHeld ?_
    rotate_left
    · intro w' hS; obtain ⟨hS0, hS1, hS2, hS3, hS4, hS5, hS6, hS7⟩ := hS; go_simp; all_goals (with_reducible rfl)
    (try simp only [Act.put, List.setIfInBounds_toArray, List.set_cons_zero, List.set_cons_succ])
    refine wpAnyH_take (i := 4) (oi := { dst := some 63, op := Op.fieldAddr 121 (Operand.tmp 62) 0, type := 0, pos := "same.go:54", after := #[{ on := 3, ground := Ground.data }], guard := none }) (v := ?_) rfl (by kernel_rfl) (by kernel_rfl) (by kernel_rfl) (fun _ _ _ h => h) (Or.inl ⟨by rfl, ?_⟩) hHeld ?_
    rotate_left
    · intro w' hS; obtain ⟨hS0, hS1, hS2, hS3, hS4, hS5, hS6, hS7⟩ := hS; go_simp; all_goals (with_reducible rfl)
    (try simp only [Act.put, List.setIfInBounds_toArray, List.set_cons_zero, List.set_cons_succ])
    refine wpAnyH_take (i := 5) (oi := { dst := some 64, op := Op.load 9 (Operand.tmp 63), type := 9, pos := "same.go:54", after := #[{ on := 4, ground := Ground.data }], guard := none }) (v := ?_) rfl (by kernel_rfl) (by kernel_rfl) (by kernel_rfl) (fun _ _ _ h => h) (Or.inl ⟨by rfl, ?_⟩) hHeld ?_
    rotate_left
    · intro w' hS; obtain ⟨hS0, hS1, hS2, hS3, hS4, hS5, hS6, hS7⟩ := hS; go_simp; all_goals (with_reducible rfl)
    (try simp only [Act.put, List.setIfInBounds_toArray, List.set_cons_zero, List.set_cons_succ])
    refine wpAnyH_take (i := 6) (oi := { dst := some 65, op := Op.fieldAddr 58 (Operand.tmp 3) 4, type := 0, pos := "same.go:54", after := #[], guard := none }) (v := ?_) rfl (by kernel_rfl) (by kernel_rfl) (by kernel_rfl) (fun _ _ _ h => h) (Or.inl ⟨by rfl, ?_⟩) hHeld ?_
    rotate_left
    · intro w' hS; obtain ⟨hS0, hS1, hS2, hS3, hS4, hS5, hS6, hS7⟩ := hS; go_simp; all_goals (with_reducible rfl)
    (try simp only [Act.put, List.setIfInBounds_toArray, List.set_cons_zero, List.set_cons_succ])
    refine wpAnyH_take (i := 7) (oi := { dst := some 66, op := Op.load 55 (Operand.tmp 65), type := 55, pos := "same.go:54", after := #[{ on := 6, ground := Ground.data }], guard := none }) (v := ?_) rfl (by kernel_rfl) (by kernel_rfl) (by kernel_rfl) (fun _ _ _ h => h) (Or.inl ⟨by rfl, ?_⟩) hHeld ?_
    rotate_left
    · intro w' hS; obtain ⟨hS0, hS1, hS2, hS3, hS4, hS5, hS6, hS7⟩ := hS; go_simp; all_goals (with_reducible rfl)
    (try simp only [Act.put, List.setIfInBounds_toArray, List.set_cons_zero, List.set_cons_succ])
    refine wpAnyH_take (i := 8) (oi := { dst := some 67, op := Op.move (Operand.tmp 5), type := 3, pos := "same.go:54", after := #[], guard := none }) (v := ?_) rfl (by kernel_rfl) (by kernel_rfl) (by kernel_rfl) (fun _ _ _ h => h) (Or.inl ⟨by rfl, ?_⟩) hHeld ?_
    rotate_left
    · intro w' hS; obtain ⟨hS0, hS1, hS2, hS3, hS4, hS5, hS6, hS7⟩ := hS; go_simp; all_goals (with_reducible rfl)
    (try simp only [Act.put, List.setIfInBounds_toArray, List.set_cons_zero, List.set_cons_succ])
    refine wpAnyH_take (i := 9) (oi := { dst := some 68, op := Op.indexAddr 55 (Operand.tmp 66) (Operand.tmp 67), type := 0, pos := "same.go:54", after := #[{ on := 7, ground := Ground.data }, { on := 8, ground := Ground.data }], guard := none }) (v := ?_) rfl (by kernel_rfl) (by kernel_rfl) (by kernel_rfl) (fun _ _ _ h => h) (Or.inl ⟨by rfl, ?_⟩) hHeld ?_
    rotate_left
    · intro w' hS; obtain ⟨hS0, hS1, hS2, hS3, hS4, hS5, hS6, hS7⟩ := hS; go_simp; all_goals (with_reducible rfl)
    (try simp only [Act.put, List.setIfInBounds_toArray, List.set_cons_zero, List.set_cons_succ])
    refine wpAnyH_take (i := 10) (oi := { dst := some 69, op := Op.fieldAddr 121 (Operand.tmp 68) 0, type := 0, pos := "same.go:54", after := #[{ on := 9, ground := Ground.data }], guard := none }) (v := ?_) rfl (by kernel_rfl) (by kernel_rfl) (by kernel_rfl) (fun _ _ _ h => h) (Or.inl ⟨by rfl, ?_⟩) hHeld ?_
    rotate_left
    · intro w' hS; obtain ⟨hS0, hS1, hS2, hS3, hS4, hS5, hS6, hS7⟩ := hS; go_simp; all_goals (with_reducible rfl)
    (try simp only [Act.put, List.setIfInBounds_toArray, List.set_cons_zero, List.set_cons_succ])
    refine wpAnyH_take (i := 11) (oi := { dst := some 70, op := Op.load 9 (Operand.tmp 69), type := 9, pos := "same.go:54", after := #[{ on := 10, ground := Ground.data }], guard := none }) (v := ?_) rfl (by kernel_rfl) (by kernel_rfl) (by kernel_rfl) (fun _ _ _ h => h) (Or.inl ⟨by rfl, ?_⟩) hHeld ?_
    rotate_left
    · intro w' hS; obtain ⟨hS0, hS1, hS2, hS3, hS4, hS5, hS6, hS7⟩ := hS; go_simp; all_goals (with_reducible rfl)
    (try simp only [Act.put, List.setIfInBounds_toArray, List.set_cons_zero, List.set_cons_succ])
    refine wpAnyH_take (i := 12) (oi := { dst := some 71, op := Op.binOp BinOp.neq 9 (Operand.tmp 64) (Operand.tmp 70) 9, type := 4, pos := "same.go:54", after := #[{ on := 5, ground := Ground.data }, { on := 11, ground := Ground.data }], guard := none }) (v := ?_) rfl (by kernel_rfl) (by kernel_rfl) (by kernel_rfl) (fun _ _ _ h => h) (Or.inl ⟨by rfl, ?_⟩) hHeld ?_
    rotate_left
    · intro w' hS; obtain ⟨hS0, hS1, hS2, hS3, hS4, hS5, hS6, hS7⟩ := hS; go_simp; all_goals (with_reducible rfl)
    (try simp only [Act.put, List.setIfInBounds_toArray, List.set_cons_zero, List.set_cons_succ])
    refine wpAnyH_take (i := 13) (oi := { dst := some 72, op := Op.move (Operand.tmp 71), type := 4, pos := "same.go:54", after := #[{ on := 12, ground := Ground.data }], guard := none }) (v := ?_) rfl (by kernel_rfl) (by kernel_rfl) (by kernel_rfl) (fun _ _ _ h => h) (Or.inl ⟨by rfl, ?_⟩) hHeld ?_
    rotate_left
    · intro w' hS; obtain ⟨hS0, hS1, hS2, hS3, hS4, hS5, hS6, hS7⟩ := hS; go_simp; all_goals (with_reducible rfl)
    (try simp only [Act.put, List.setIfInBounds_toArray, List.set_cons_zero, List.set_cons_succ])
    refine wpAnyH_take (i := 14) (oi := { dst := some 73, op := Op.fieldAddr 58 (Operand.tmp 2) 4, type := 0, pos := "same.go:54", after := #[{ on := 13, ground := Ground.guard }], guard := some (13, false) }) (v := ?_) rfl (by kernel_rfl) (by kernel_rfl) (by kernel_rfl) (fun _ _ _ h => h) (Or.inl ⟨by rfl, ?_⟩) hHeld ?_
    rotate_left
    · intro w' hS; obtain ⟨hS0, hS1, hS2, hS3, hS4, hS5, hS6, hS7⟩ := hS; go_simp; all_goals (with_reducible rfl)
    (try simp only [Act.put, List.setIfInBounds_toArray, List.set_cons_zero, List.set_cons_succ])
    refine wpAnyH_take (i := 15) (oi := { dst := some 74, op := Op.load 55 (Operand.tmp 73), type := 55, pos := "same.go:54", after := #[{ on := 14, ground := Ground.data }, { on := 13, ground := Ground.guard }], guard := some (13, false) }) (v := ?_) rfl (by kernel_rfl) (by kernel_rfl) (by kernel_rfl) (fun _ _ _ h => h) (Or.inl ⟨by rfl, ?_⟩) hHeld ?_
    rotate_left
    · intro w' hS; obtain ⟨hS0, hS1, hS2, hS3, hS4, hS5, hS6, hS7⟩ := hS; go_simp; all_goals (with_reducible rfl)
    (try simp only [Act.put, List.setIfInBounds_toArray, List.set_cons_zero, List.set_cons_succ])
    refine wpAnyH_take (i := 16) (oi := { dst := some 75, op := Op.move (Operand.tmp 5), type := 3, pos := "same.go:54", after := #[{ on := 13, ground := Ground.guard }], guard := some (13, false) }) (v := ?_) rfl (by kernel_rfl) (by kernel_rfl) (by kernel_rfl) (fun _ _ _ h => h) (Or.inl ⟨by rfl, ?_⟩) hHeld ?_
    rotate_left
    · intro w' hS; obtain ⟨hS0, hS1, hS2, hS3, hS4, hS5, hS6, hS7⟩ := hS; go_simp; all_goals (with_reducible rfl)
    (try simp only [Act.put, List.setIfInBounds_toArray, List.set_cons_zero, List.set_cons_succ])
    refine wpAnyH_take (i := 17) (oi := { dst := some 76, op := Op.indexAddr 55 (Operand.tmp 74) (Operand.tmp 75), type := 0, pos := "same.go:54", after := #[{ on := 15, ground := Ground.data }, { on := 16, ground := Ground.data }, { on := 13, ground := Ground.guard }], guard := some (13, false) }) (v := ?_) rfl (by kernel_rfl) (by kernel_rfl) (by kernel_rfl) (fun _ _ _ h => h) (Or.inl ⟨by rfl, ?_⟩) hHeld ?_
    rotate_left
    · intro w' hS; obtain ⟨hS0, hS1, hS2, hS3, hS4, hS5, hS6, hS7⟩ := hS; go_simp; all_goals (with_reducible rfl)
    (try simp only [Act.put, List.setIfInBounds_toArray, List.set_cons_zero, List.set_cons_succ])
    refine wpAnyH_take (i := 18) (oi := { dst := some 77, op := Op.fieldAddr 121 (Operand.tmp 76) 2, type := 0, pos := "same.go:54", after := #[{ on := 17, ground := Ground.data }, { on := 13, ground := Ground.guard }], guard := some (13, false) }) (v := ?_) rfl (by kernel_rfl) (by kernel_rfl) (by kernel_rfl) (fun _ _ _ h => h) (Or.inl ⟨by rfl, ?_⟩) hHeld ?_
    rotate_left
    · intro w' hS; obtain ⟨hS0, hS1, hS2, hS3, hS4, hS5, hS6, hS7⟩ := hS; go_simp; all_goals (with_reducible rfl)
    (try simp only [Act.put, List.setIfInBounds_toArray, List.set_cons_zero, List.set_cons_succ])
    refine wpAnyH_take (i := 19) (oi := { dst := some 78, op := Op.load 3 (Operand.tmp 77), type := 3, pos := "same.go:54", after := #[{ on := 18, ground := Ground.data }, { on := 13, ground := Ground.guard }], guard := some (13, false) }) (v := ?_) rfl (by kernel_rfl) (by kernel_rfl) (by kernel_rfl) (fun _ _ _ h => h) (Or.inl ⟨by rfl, ?_⟩) hHeld ?_
    rotate_left
    · intro w' hS; obtain ⟨hS0, hS1, hS2, hS3, hS4, hS5, hS6, hS7⟩ := hS; go_simp; all_goals (with_reducible rfl)
    (try simp only [Act.put, List.setIfInBounds_toArray, List.set_cons_zero, List.set_cons_succ])
    refine wpAnyH_take (i := 20) (oi := { dst := some 79, op := Op.fieldAddr 58 (Operand.tmp 3) 4, type := 0, pos := "same.go:54", after := #[{ on := 13, ground := Ground.guard }], guard := some (13, false) }) (v := ?_) rfl (by kernel_rfl) (by kernel_rfl) (by kernel_rfl) (fun _ _ _ h => h) (Or.inl ⟨by rfl, ?_⟩) hHeld ?_
    rotate_left
    · intro w' hS; obtain ⟨hS0, hS1, hS2, hS3, hS4, hS5, hS6, hS7⟩ := hS; go_simp; all_goals (with_reducible rfl)
    (try simp only [Act.put, List.setIfInBounds_toArray, List.set_cons_zero, List.set_cons_succ])
    refine wpAnyH_take (i := 21) (oi := { dst := some 80, op := Op.load 55 (Operand.tmp 79), type := 55, pos := "same.go:54", after := #[{ on := 20, ground := Ground.data }, { on := 13, ground := Ground.guard }], guard := some (13, false) }) (v := ?_) rfl (by kernel_rfl) (by kernel_rfl) (by kernel_rfl) (fun _ _ _ h => h) (Or.inl ⟨by rfl, ?_⟩) hHeld ?_
    rotate_left
    · intro w' hS; obtain ⟨hS0, hS1, hS2, hS3, hS4, hS5, hS6, hS7⟩ := hS; go_simp; all_goals (with_reducible rfl)
    (try simp only [Act.put, List.setIfInBounds_toArray, List.set_cons_zero, List.set_cons_succ])
    refine wpAnyH_take (i := 22) (oi := { dst := some 81, op := Op.move (Operand.tmp 5), type := 3, pos := "same.go:54", after := #[{ on := 13, ground := Ground.guard }], guard := some (13, false) }) (v := ?_) rfl (by kernel_rfl) (by kernel_rfl) (by kernel_rfl) (fun _ _ _ h => h) (Or.inl ⟨by rfl, ?_⟩) hHeld ?_
    rotate_left
    · intro w' hS; obtain ⟨hS0, hS1, hS2, hS3, hS4, hS5, hS6, hS7⟩ := hS; go_simp; all_goals (with_reducible rfl)
    (try simp only [Act.put, List.setIfInBounds_toArray, List.set_cons_zero, List.set_cons_succ])
    refine wpAnyH_take (i := 23) (oi := { dst := some 82, op := Op.indexAddr 55 (Operand.tmp 80) (Operand.tmp 81), type := 0, pos := "same.go:54", after := #[{ on := 21, ground := Ground.data }, { on := 22, ground := Ground.data }, { on := 13, ground := Ground.guard }], guard := some (13, false) }) (v := ?_) rfl (by kernel_rfl) (by kernel_rfl) (by kernel_rfl) (fun _ _ _ h => h) (Or.inl ⟨by rfl, ?_⟩) hHeld ?_
    rotate_left
    · intro w' hS; obtain ⟨hS0, hS1, hS2, hS3, hS4, hS5, hS6, hS7⟩ := hS; go_simp; all_goals (with_reducible rfl)
    (try simp only [Act.put, List.setIfInBounds_toArray, List.set_cons_zero, List.set_cons_succ])
    refine wpAnyH_take (i := 24) (oi := { dst := some 83, op := Op.fieldAddr 121 (Operand.tmp 82) 2, type := 0, pos := "same.go:54", after := #[{ on := 23, ground := Ground.data }, { on := 13, ground := Ground.guard }], guard := some (13, false) }) (v := ?_) rfl (by kernel_rfl) (by kernel_rfl) (by kernel_rfl) (fun _ _ _ h => h) (Or.inl ⟨by rfl, ?_⟩) hHeld ?_
    rotate_left
    · intro w' hS; obtain ⟨hS0, hS1, hS2, hS3, hS4, hS5, hS6, hS7⟩ := hS; go_simp; all_goals (with_reducible rfl)
    (try simp only [Act.put, List.setIfInBounds_toArray, List.set_cons_zero, List.set_cons_succ])
    refine wpAnyH_take (i := 25) (oi := { dst := some 84, op := Op.load 3 (Operand.tmp 83), type := 3, pos := "same.go:54", after := #[{ on := 24, ground := Ground.data }, { on := 13, ground := Ground.guard }], guard := some (13, false) }) (v := ?_) rfl (by kernel_rfl) (by kernel_rfl) (by kernel_rfl) (fun _ _ _ h => h) (Or.inl ⟨by rfl, ?_⟩) hHeld ?_
    rotate_left
    · intro w' hS; obtain ⟨hS0, hS1, hS2, hS3, hS4, hS5, hS6, hS7⟩ := hS; go_simp; all_goals (with_reducible rfl)
    (try simp only [Act.put, List.setIfInBounds_toArray, List.set_cons_zero, List.set_cons_succ])
    refine wpAnyH_take (i := 26) (oi := { dst := some 85, op := Op.binOp BinOp.neq 3 (Operand.tmp 78) (Operand.tmp 84) 3, type := 4, pos := "same.go:54", after := #[{ on := 19, ground := Ground.data }, { on := 25, ground := Ground.data }, { on := 13, ground := Ground.guard }], guard := some (13, false) }) (v := ?_) rfl (by kernel_rfl) (by kernel_rfl) (by kernel_rfl) (fun _ _ _ h => h) (Or.inl ⟨by rfl, ?_⟩) hHeld ?_
    rotate_left
    · intro w' hS; obtain ⟨hS0, hS1, hS2, hS3, hS4, hS5, hS6, hS7⟩ := hS; go_simp; all_goals (with_reducible rfl)
    (try simp only [Act.put, List.setIfInBounds_toArray, List.set_cons_zero, List.set_cons_succ])
    refine wpAnyH_take (i := 27) (oi := { dst := some 86, op := Op.pick (Operand.tmp 72) (Operand.const (Value.bool true)) (Operand.tmp 85), type := 4, pos := "same.go:54", after := #[{ on := 13, ground := Ground.data }, { on := 26, ground := Ground.data }], guard := none }) (v := ?_) rfl (by kernel_rfl) (by kernel_rfl) (by kernel_rfl) (fun _ _ _ h => h) (Or.inl ⟨by rfl, ?_⟩) hHeld ?_
    rotate_left
    · intro w' hS; obtain ⟨hS0, hS1, hS2, hS3, hS4, hS5, hS6, hS7⟩ := hS; go_simp; all_goals (with_reducible rfl)
    (try simp only [Act.put, List.setIfInBounds_toArray, List.set_cons_zero, List.set_cons_succ])
    refine wpAnyH_take (i := 28) (oi := { dst := some 87, op := Op.move (Operand.tmp 86), type := 4, pos := "same.go:54", after := #[{ on := 27, ground := Ground.data }, { on := 13, ground := Ground.chain }], guard := none }) (v := ?_) rfl (by kernel_rfl) (by kernel_rfl) (by kernel_rfl) (fun _ _ _ h => h) (Or.inl ⟨by rfl, ?_⟩) hHeld ?_
    rotate_left
    · intro w' hS; obtain ⟨hS0, hS1, hS2, hS3, hS4, hS5, hS6, hS7⟩ := hS; go_simp; all_goals (with_reducible rfl)
    (try simp only [Act.put, List.setIfInBounds_toArray, List.set_cons_zero, List.set_cons_succ])
    refine wpAnyH_take (i := 29) (oi := { dst := some 88, op := Op.fieldAddr 58 (Operand.tmp 2) 4, type := 0, pos := "same.go:54", after := #[{ on := 28, ground := Ground.guard }], guard := some (28, false) }) (v := ?_) rfl (by kernel_rfl) (by kernel_rfl) (by kernel_rfl) (fun _ _ _ h => h) (Or.inl ⟨by rfl, ?_⟩) hHeld ?_
    rotate_left
    · intro w' hS; obtain ⟨hS0, hS1, hS2, hS3, hS4, hS5, hS6, hS7⟩ := hS; go_simp; all_goals (with_reducible rfl)
    (try simp only [Act.put, List.setIfInBounds_toArray, List.set_cons_zero, List.set_cons_succ])
    refine wpAnyH_take (i := 30) (oi := { dst := some 89, op := Op.load 55 (Operand.tmp 88), type := 55, pos := "same.go:54", after := #[{ on := 29, ground := Ground.data }, { on := 28, ground := Ground.guard }], guard := some (28, false) }) (v := ?_) rfl (by kernel_rfl) (by kernel_rfl) (by kernel_rfl) (fun _ _ _ h => h) (Or.inl ⟨by rfl, ?_⟩) hHeld ?_
    rotate_left
    · intro w' hS; obtain ⟨hS0, hS1, hS2, hS3, hS4, hS5, hS6, hS7⟩ := hS; go_simp; all_goals (with_reducible rfl)
    (try simp only [Act.put, List.setIfInBounds_toArray, List.set_cons_zero, List.set_cons_succ])
    refine wpAnyH_take (i := 31) (oi := { dst := some 90, op := Op.move (Operand.tmp 5), type := 3, pos := "same.go:54", after := #[{ on := 28, ground := Ground.guard }], guard := some (28, false) }) (v := ?_) rfl (by kernel_rfl) (by kernel_rfl) (by kernel_rfl) (fun _ _ _ h => h) (Or.inl ⟨by rfl, ?_⟩) hHeld ?_
    rotate_left
    · intro w' hS; obtain ⟨hS0, hS1, hS2, hS3, hS4, hS5, hS6, hS7⟩ := hS; go_simp; all_goals (with_reducible rfl)
    (try simp only [Act.put, List.setIfInBounds_toArray, List.set_cons_zero, List.set_cons_succ])
    refine wpAnyH_take (i := 32) (oi := { dst := some 91, op := Op.indexAddr 55 (Operand.tmp 89) (Operand.tmp 90), type := 0, pos := "same.go:54", after := #[{ on := 30, ground := Ground.data }, { on := 31, ground := Ground.data }, { on := 28, ground := Ground.guard }], guard := some (28, false) }) (v := ?_) rfl (by kernel_rfl) (by kernel_rfl) (by kernel_rfl) (fun _ _ _ h => h) (Or.inl ⟨by rfl, ?_⟩) hHeld ?_
    rotate_left
    · intro w' hS; obtain ⟨hS0, hS1, hS2, hS3, hS4, hS5, hS6, hS7⟩ := hS; go_simp; all_goals (with_reducible rfl)
    (try simp only [Act.put, List.setIfInBounds_toArray, List.set_cons_zero, List.set_cons_succ])
    refine wpAnyH_take (i := 33) (oi := { dst := some 92, op := Op.fieldAddr 121 (Operand.tmp 91) 1, type := 0, pos := "same.go:54", after := #[{ on := 32, ground := Ground.data }, { on := 28, ground := Ground.guard }], guard := some (28, false) }) (v := ?_) rfl (by kernel_rfl) (by kernel_rfl) (by kernel_rfl) (fun _ _ _ h => h) (Or.inl ⟨by rfl, ?_⟩) hHeld ?_
    rotate_left
    · intro w' hS; obtain ⟨hS0, hS1, hS2, hS3, hS4, hS5, hS6, hS7⟩ := hS; go_simp; all_goals (with_reducible rfl)
    (try simp only [Act.put, List.setIfInBounds_toArray, List.set_cons_zero, List.set_cons_succ])
    refine wpAnyH_take (i := 34) (oi := { dst := some 93, op := Op.load 38 (Operand.tmp 92), type := 38, pos := "same.go:54", after := #[{ on := 33, ground := Ground.data }, { on := 28, ground := Ground.guard }], guard := some (28, false) }) (v := ?_) rfl (by kernel_rfl) (by kernel_rfl) (by kernel_rfl) (fun _ _ _ h => h) (Or.inl ⟨by rfl, ?_⟩) hHeld ?_
    rotate_left
    · intro w' hS; obtain ⟨hS0, hS1, hS2, hS3, hS4, hS5, hS6, hS7⟩ := hS; go_simp; all_goals (with_reducible rfl)
    (try simp only [Act.put, List.setIfInBounds_toArray, List.set_cons_zero, List.set_cons_succ])
    refine wpAnyH_take (i := 35) (oi := { dst := some 94, op := Op.fieldAddr 58 (Operand.tmp 3) 4, type := 0, pos := "same.go:54", after := #[{ on := 28, ground := Ground.guard }], guard := some (28, false) }) (v := ?_) rfl (by kernel_rfl) (by kernel_rfl) (by kernel_rfl) (fun _ _ _ h => h) (Or.inl ⟨by rfl, ?_⟩) hHeld ?_
    rotate_left
    · intro w' hS; obtain ⟨hS0, hS1, hS2, hS3, hS4, hS5, hS6, hS7⟩ := hS; go_simp; all_goals (with_reducible rfl)
    (try simp only [Act.put, List.setIfInBounds_toArray, List.set_cons_zero, List.set_cons_succ])
    refine wpAnyH_take (i := 36) (oi := { dst := some 95, op := Op.load 55 (Operand.tmp 94), type := 55, pos := "same.go:54", after := #[{ on := 35, ground := Ground.data }, { on := 28, ground := Ground.guard }], guard := some (28, false) }) (v := ?_) rfl (by kernel_rfl) (by kernel_rfl) (by kernel_rfl) (fun _ _ _ h => h) (Or.inl ⟨by rfl, ?_⟩) hHeld ?_
    rotate_left
    · intro w' hS; obtain ⟨hS0, hS1, hS2, hS3, hS4, hS5, hS6, hS7⟩ := hS; go_simp; all_goals (with_reducible rfl)
    (try simp only [Act.put, List.setIfInBounds_toArray, List.set_cons_zero, List.set_cons_succ])
    refine wpAnyH_take (i := 37) (oi := { dst := some 96, op := Op.move (Operand.tmp 5), type := 3, pos := "same.go:54", after := #[{ on := 28, ground := Ground.guard }], guard := some (28, false) }) (v := ?_) rfl (by kernel_rfl) (by kernel_rfl) (by kernel_rfl) (fun _ _ _ h => h) (Or.inl ⟨by rfl, ?_⟩) hHeld ?_
    rotate_left
    · intro w' hS; obtain ⟨hS0, hS1, hS2, hS3, hS4, hS5, hS6, hS7⟩ := hS; go_simp; all_goals (with_reducible rfl)
    (try simp only [Act.put, List.setIfInBounds_toArray, List.set_cons_zero, List.set_cons_succ])
    refine wpAnyH_take (i := 38) (oi := { dst := some 97, op := Op.indexAddr 55 (Operand.tmp 95) (Operand.tmp 96), type := 0, pos := "same.go:54", after := #[{ on := 36, ground := Ground.data }, { on := 37, ground := Ground.data }, { on := 28, ground := Ground.guard }], guard := some (28, false) }) (v := ?_) rfl (by kernel_rfl) (by kernel_rfl) (by kernel_rfl) (fun _ _ _ h => h) (Or.inl ⟨by rfl, ?_⟩) hHeld ?_
    rotate_left
    · intro w' hS; obtain ⟨hS0, hS1, hS2, hS3, hS4, hS5, hS6, hS7⟩ := hS; go_simp; all_goals (with_reducible rfl)
    (try simp only [Act.put, List.setIfInBounds_toArray, List.set_cons_zero, List.set_cons_succ])
    refine wpAnyH_take (i := 39) (oi := { dst := some 98, op := Op.fieldAddr 121 (Operand.tmp 97) 1, type := 0, pos := "same.go:54", after := #[{ on := 38, ground := Ground.data }, { on := 28, ground := Ground.guard }], guard := some (28, false) }) (v := ?_) rfl (by kernel_rfl) (by kernel_rfl) (by kernel_rfl) (fun _ _ _ h => h) (Or.inl ⟨by rfl, ?_⟩) hHeld ?_
    rotate_left
    · intro w' hS; obtain ⟨hS0, hS1, hS2, hS3, hS4, hS5, hS6, hS7⟩ := hS; go_simp; all_goals (with_reducible rfl)
    (try simp only [Act.put, List.setIfInBounds_toArray, List.set_cons_zero, List.set_cons_succ])
    refine wpAnyH_take (i := 40) (oi := { dst := some 99, op := Op.load 38 (Operand.tmp 98), type := 38, pos := "same.go:54", after := #[{ on := 39, ground := Ground.data }, { on := 28, ground := Ground.guard }], guard := some (28, false) }) (v := ?_) rfl (by kernel_rfl) (by kernel_rfl) (by kernel_rfl) (fun _ _ _ h => h) (Or.inl ⟨by rfl, ?_⟩) hHeld ?_
    rotate_left
    · intro w' hS; obtain ⟨hS0, hS1, hS2, hS3, hS4, hS5, hS6, hS7⟩ := hS; go_simp; all_goals (with_reducible rfl)
    (try simp only [Act.put, List.setIfInBounds_toArray, List.set_cons_zero, List.set_cons_succ])
    refine wpAnyH_ready (rs := [41]) (by kernel_rfl) (by simp) ?_
    refine AllReadyH.cons (o := { dst := some 100, op := Op.call { callee := Callee.value (Operand.func 77), args := #[Operand.tmp 93, Operand.tmp 99], argTypes := #[38, 38] }, type := 4, pos := "same.go:54", after := #[{ on := 34, ground := Ground.data }, { on := 40, ground := Ground.data }, { on := 28, ground := Ground.chain }, { on := 28, ground := Ground.guard }], guard := some (28, false) }) rfl (fun K hK => ?_) AllReadyH.nil
    go_simp
    go_at_call 77
    refine (HF.out _ (below_drew (Below.refl _ _))).mono ?_
    rintro e wz ⟨rfl, hd⟩
    have HBZ := Aside0.mk (show Below wr.heap.size wr wz from (below_drew (Below.refl _ _)).trans (hd.mono (Nat.le_refl _)))
    clear hd
    refine hK.out _ _ (MKS.out _ HBZ.out) (fun hHeld => ?_)
    clear hK K
    (try simp only [Act.put, List.setIfInBounds_toArray, List.set_cons_zero, List.set_cons_succ])
    refine wpAnyH_take (i := 42) (oi := { dst := some 101, op := Op.unOp UnOp.not 4 (Operand.tmp 100), type := 4, pos := "same.go:54", after := #[{ on := 41, ground := Ground.data }, { on := 28, ground := Ground.guard }], guard := some (28, false) }) (v := ?_) rfl (by kernel_rfl) (by kernel_rfl) (by kernel_rfl) (fun _ _ _ h => h) (Or.inl ⟨by rfl, ?_⟩) hHeld ?_
    rotate_left
    · intro w' hS; obtain ⟨hS0, hS1, hS2, hS3, hS4, hS5, hS6, hS7⟩ := hS; go_simp; all_goals (with_reducible rfl)
    (try simp only [Act.put, List.setIfInBounds_toArray, List.set_cons_zero, List.set_cons_succ])
    refine wpAnyH_take (i := 43) (oi := { dst := some 102, op := Op.pick (Operand.tmp 87) (Operand.const (Value.bool true)) (Operand.tmp 101), type := 4, pos := "same.go:54", after := #[{ on := 28, ground := Ground.data }, { on := 42, ground := Ground.data }], guard := none }) (v := ?_) rfl (by kernel_rfl) (by kernel_rfl) (by kernel_rfl) (fun _ _ _ h => h) (Or.inl ⟨by rfl, ?_⟩) hHeld ?_
    rotate_left
    · intro w' hS; obtain ⟨hS0, hS1, hS2, hS3, hS4, hS5, hS6, hS7⟩ := hS; go_simp; all_goals (with_reducible rfl)
    (try simp only [Act.put, List.setIfInBounds_toArray, List.set_cons_zero, List.set_cons_succ])
    refine wpAnyH_done (by kernel_rfl) ?_ _
    (try simp only [Act.put, List.setIfInBounds_toArray, List.set_cons_zero, List.set_cons_succ])
    have HB9 := Aside0.mk (show Below b W wz from HBr.out.trans (HBZ.out.mono (by have := HSZ.out; omega)))
    have R9 := Aside0.mk (HRr.out.below HBZ.out)
    have O9 := Aside0.mk (HOr.out.below HBZ.out)
    clear HF MKS HBZ HRr HOr HBr
    go_wp2_with fail
    refine ⟨⟨i + 1, congrArg (Value.int .i64) (by omega), ⟨ci⟩, HB9, R9, O9⟩, ?_⟩
    rw [hw1]
    show x.f4.length - (((i + 1 : Nat) : Int)).toNat < x.f4.length - ((i : Nat) : Int).toNat
    omega
end Go.Proofs.Ytafmoglaockepaa.Cd
end
section
namespace Go.Proofs.Ytafmoglaockepaa.Bulk
open Go Go.ChangeShapes Go.WideShapes Go.ChangeAt Go.RowKit
theorem bound {H : Type} {l : List (DataW H)} (hk : Rows.uptoSmall H l = true) : Rows.uptoBulkAll l ≤ 1048576 := of_decide_eq_true hk
end Go.Proofs.Ytafmoglaockepaa.Bulk
end
section
namespace Go.Proofs.Ytafmoglaockepaa.Cd
open Go Go.Deep Go.ChangeShapes Go.WideShapes Go.RowKit Go.Proofs.Ytafmoglaockepaa.Num Go.Proofs.Ytafmoglaockepaa.PG Go.Proofs.YtafmoglaockepaaW.PrintWords Go.Proofs.YtafmoglaockepaaW.PrintLast Go.Proofs.YtafmoglaockepaaW.PrintMore
set_option linter.unusedVariables false
set_option maxRecDepth 100000
theorem trod_struct5 {H : Type} {enc : TypeId × Value → H} {P : Program} {w : World} {base : Nat} {spare : Nat → Bool} {held : Bool} {t : TypeId} {f0 f1 f2 f3 f4 : Field} {fuel : Nat} {cs : List Value} {x : DataW H × List MemPlace} (ht : P.underlying t = some (.struct #[f0, f1, f2, f3, f4])) (h : DataW.trod enc P w base spare held fuel t cs = some x) :
    ∃ y0 y1 y2 y3 y4 n, x.1 = .agg [y0.1, y1.1, y2.1, y3.1, y4.1] ∧ cs.length = P.cellsOf t ∧ DataW.trod enc P w base spare held n f0.type ((cs.drop f0.offset).take (P.cellsOf f0.type)) = some y0 ∧
      DataW.trod enc P w base spare held n f1.type ((cs.drop f1.offset).take (P.cellsOf f1.type)) = some y1 ∧ DataW.trod enc P w base spare held n f2.type ((cs.drop f2.offset).take (P.cellsOf f2.type)) = some y2 ∧
      DataW.trod enc P w base spare held n f3.type ((cs.drop f3.offset).take (P.cellsOf f3.type)) = some y3 ∧ DataW.trod enc P w base spare held n f4.type ((cs.drop f4.offset).take (P.cellsOf f4.type)) = some y4 := by
  obtain ⟨xs, n, _, rfl, hl, hlen, hf⟩ := DataW.trod_struct ht h
  match xs, hlen with
  | [y0, y1, y2, y3, y4], _ => exact ⟨y0, y1, y2, y3, y4, n, by simp, hl, by simpa using hf 0 f0 rfl, by simpa using hf 1 f1 rfl, by simpa using hf 2 f2 rfl, by simpa using hf 3 f3 rfl, by simpa using hf 4 f4 rfl⟩
theorem list3 {α : Type} {cs : List α} (h : cs.length = 3) : ∃ c0 c1 c2, cs = [c0, c1, c2] := by
  match cs, h with
  | [c0, c1, c2], _ => exact ⟨c0, c1, c2, rfl⟩
theorem list5 {α : Type} {cs : List α} (h : cs.length = 5) : ∃ c0 c1 c2 c3 c4, cs = [c0, c1, c2, c3, c4] := by
  match cs, h with
  | [c0, c1, c2, c3, c4], _ => exact ⟨c0, c1, c2, c3, c4, rfl⟩
theorem array5 {α : Type} {cs : Array α} (h : cs.size = 5) : ∃ c0 c1 c2 c3 c4, cs = #[c0, c1, c2, c3, c4] := by
  obtain ⟨l⟩ := cs
  obtain ⟨c0, c1, c2, c3, c4, rfl⟩ := list5 (show l.length = 5 by simpa using h)
  exact ⟨c0, c1, c2, c3, c4, rfl⟩
theorem int64_of {a : Int} (h : (Lit.int .i64 a).wf = true) : Int64 a := by
  have := bounds_i64 h
  unfold Int64
  omega
theorem sum_bulk {H : Type} (f : Nat → S28) (D : Nat → DataW H) : ∀ L : List Nat, (∀ i ∈ L, 3 + (f i).f0.size ≤ Rows.uptoBulk (D i)) → sumL (L.map f) ≤ Rows.uptoBulkAll (L.map D)
  | [], _ => by simp [sumL]
  | i :: L, h => by
    have h1 := sum_bulk f D L (fun j hj => h j (List.mem_cons_of_mem _ hj))
    have h2 := h i (List.mem_cons_self ..)
    simp only [sumL, Rows.uptoBulkAll, List.map_cons, List.sum_cons] at h1 ⊢
    omega
theorem levelsArg {H : Type} {enc : TypeId × Value → H} {W : World} {base : Nat} {held : Bool} {a : Option Addr} {len cap : Nat} {d : DataW H} {ps : List MemPlace}
    (h : DataW.Trod enc Try.prog W base (fun _ => true) held 23 (.slice a len cap) d ps) : ∃ l : List S28, Kd.C k28 W a len l ∧ len ≤ cap ∧ LevOk l ∧ sumL l ≤ Rows.uptoBulk d := by
  obtain ⟨fuel, hf⟩ := h
  have c3 : Try.prog.cellsOf 3 = 1 := by kernel_rfl
  have c9 : Try.prog.cellsOf 9 = 1 := by kernel_rfl
  have c28 : Try.prog.cellsOf 28 = 3 := by kernel_rfl
  rcases open_slice Try.underlying23 hf with ⟨hcs, _⟩ | ⟨ad, l, c, m, n, D, Pl, hcs, _, hl, hm, hmm, hx, hr⟩
  · simp [Value.cells] at hcs
    obtain ⟨rfl, rfl, rfl⟩ := hcs
    exact ⟨[], Kd.C_nil _ _, Nat.le_refl _, fun _ hp => (by cases hp), by simp [sumL]⟩
  · simp [Value.cells] at hcs
    obtain ⟨rfl, rfl, rfl⟩ := hcs
    rw [if_pos rfl] at hmm
    have hcell : ∀ i, i < len → ∃ p : S28, W.cell? (ad.add (i * 3)) = some (.string p.f0) ∧ W.cell? (ad.add (i * 3 + 1)) = some (.int .i64 p.f1) ∧ W.cell? (ad.add (i * 3 + 2)) = some (.int .i64 p.f2) ∧ (Int64 p.f1 ∧ Int64 p.f2) ∧ 3 + p.f0.size ≤ Rows.uptoBulk (D i) := fun i hi => by
      obtain ⟨cs, hc, ht⟩ := hr i (by omega)
      rw [c28] at hc
      obtain ⟨y0, y1, y2, n', hy, hlen, h0, h1, h2⟩ := trod_struct3 Try.underlying28 ht
      rw [c28] at hlen
      obtain ⟨_, _, hat⟩ := World.cells?_some hc
      obtain ⟨v0, v1, v2, rfl⟩ := list3 hlen
      simp only [c3, c9] at h0 h1 h2
      obtain ⟨k0, e0, x0, w0⟩ := DataW.trod_string Try.underlying9 h0
      obtain ⟨k1, e1, x1, w1⟩ := DataW.trod_int Try.underlying3 h1
      obtain ⟨k2, e2, x2, w2⟩ := DataW.trod_int Try.underlying3 h2
      simp at e0 e1 e2
      subst e0
      subst e1
      subst e2
      have g0 := hat (i := 0) (by decide)
      have g1 := hat (i := 1) (by decide)
      have g2 := hat (i := 2) (by decide)
      rw [Go.Deep.add_add, Nat.add_zero] at g0
      rw [Go.Deep.add_add] at g1 g2
      refine ⟨⟨k0, k1, k2⟩, by simpa using g0, by simpa using g1, by simpa using g2, ⟨int64_of w1, int64_of w2⟩, ?_⟩
      have hD : D i = .agg [y0.1, y1.1, y2.1] := congrArg Prod.fst hy
      rw [hD, x0, x1, x2]
      simp only [Rows.uptoBulk, Rows.uptoBulkAll]
      have : k0.data.toList.length = k0.size := by rw [Array.length_toList]; rfl
      omega
    obtain ⟨f, hfun⟩ : ∃ f : Nat → S28, ∀ i, i < len → W.cell? (ad.add (i * 3)) = some (.string (f i).f0) ∧ W.cell? (ad.add (i * 3 + 1)) = some (.int .i64 (f i).f1) ∧ W.cell? (ad.add (i * 3 + 2)) = some (.int .i64 (f i).f2) ∧ (Int64 (f i).f1 ∧ Int64 (f i).f2) ∧ 3 + (f i).f0.size ≤ Rows.uptoBulk (D i) :=
      ⟨fun i => if h : i < len then (hcell i h).choose else z28, fun i hi => by simp only [dif_pos hi]; exact (hcell i hi).choose_spec⟩
    refine ⟨(List.range len).map f, ⟨by simp, by simp only [maxLen] at hm; omega, fun _ => ⟨ad, rfl, fun j p hj => ?_⟩⟩, hl, fun p hp => ?_, ?_⟩
    · obtain ⟨hj1, hj2⟩ := List.getElem?_eq_some_iff.1 hj
      have hjl : j < len := by simpa using hj1
      simp only [List.getElem_map, List.getElem_range] at hj2
      subst hj2
      obtain ⟨e0, e1, e2, _⟩ := hfun j hjl
      refine ⟨[.string (f j).f0, .int .i64 (f j).f1, .int .i64 (f j).f2], by rfl, k28_mk W (f j), fun i u hu => ?_⟩
      show W.cell? (ad.add (j * 3 + i)) = _
      match i, hu with
      | 0, hu => simp at hu; subst hu; rw [Nat.add_zero]; exact e0
      | 1, hu => simp at hu; subst hu; exact e1
      | 2, hu => simp at hu; subst hu; exact e2
      | i + 3, hu => simp at hu
    · obtain ⟨i, hi, rfl⟩ := List.mem_map.1 hp
      exact (hfun i (List.mem_range.1 hi)).2.2.2.1
    · have hd : d = .slice ((List.range len).map D) ((List.range (m - len)).map fun j => D (len + j)) := congrArg Prod.fst hx
      rw [hd]
      simp only [Rows.uptoBulk]
      have := sum_bulk f D (List.range len) (fun i hi => (hfun i (List.mem_range.1 hi)).2.2.2.2)
      omega
open Go.Joins in
theorem replyArg {H : Type} {enc : TypeId × Value → H} {W : World} {base b0 : Nat} {r : Reach} {held : Bool} {v : Value} {d : DataW H} {ps : List MemPlace} (hv : Value.okWide Try.prog W r b0 25 v)
    (h : DataW.Trod enc Try.prog W base (fun _ => true) held 25 v d ps) : ∃ (id : ByteArray) (er line : Int) (a : Option Addr) (len cap : Nat) (now : Int) (l : List S28), v = .agg #[.string id, .int .i64 er, .int .i64 line, .slice a len cap, .int .i64 now] ∧
      Kd.C k28 W a len l ∧ len ≤ cap ∧ LevOk l ∧ Int64 er ∧ Int64 line ∧ Int64 now ∧ id.size + sumL l + 1 ≤ Rows.uptoBulk d := by
  have c3 : Try.prog.cellsOf 3 = 1 := by kernel_rfl
  have c9 : Try.prog.cellsOf 9 = 1 := by kernel_rfl
  have c22 : Try.prog.cellsOf 22 = 1 := by kernel_rfl
  have c23 : Try.prog.cellsOf 23 = 1 := by kernel_rfl
  have c25 : Try.prog.cellsOf 25 = 5 := by kernel_rfl
  obtain ⟨cs, rfl, hsz⟩ := okWide_struct Try.underlying25 hv
  obtain ⟨v0, v1, v2, v3, v4, rfl⟩ := array5 (hsz.trans c25)
  obtain ⟨fuel, hf⟩ := h
  obtain ⟨y0, y1, y2, y3, y4, n, hx, _, h0, h1, h2, h3, h4⟩ := trod_struct5 Try.underlying25 hf
  simp only [c3, c9, c22, c23] at h0 h1 h2 h3 h4
  have h0' : DataW.trod enc Try.prog W base (fun _ => true) held n 9 [v0] = some y0 := h0
  have h1' : DataW.trod enc Try.prog W base (fun _ => true) held n 22 [v1] = some y1 := h1
  have h2' : DataW.trod enc Try.prog W base (fun _ => true) held n 3 [v2] = some y2 := h2
  have h3' : DataW.trod enc Try.prog W base (fun _ => true) held n 23 [v3] = some y3 := h3
  have h4' : DataW.trod enc Try.prog W base (fun _ => true) held n 3 [v4] = some y4 := h4
  clear h0 h1 h2 h3 h4
  obtain ⟨k0, e0, x0, _⟩ := DataW.trod_string Try.underlying9 h0'
  obtain ⟨k1, e1, x1, w1⟩ := DataW.trod_int Try.underlying22 h1'
  obtain ⟨k2, e2, x2, w2⟩ := DataW.trod_int Try.underlying3 h2'
  obtain ⟨k4, e4, x4, w4⟩ := DataW.trod_int Try.underlying3 h4'
  simp at e0 e1 e2 e4
  subst e0 e1 e2 e4
  obtain ⟨a, len, cap, rfl⟩ : ∃ a len cap, v3 = .slice a len cap := by
    rcases open_slice Try.underlying23 h3' with ⟨hcs, _⟩ | ⟨ad, l, c, _, _, _, _, hcs, _⟩
    · simp at hcs; exact ⟨_, _, _, hcs⟩
    · simp at hcs; exact ⟨_, _, _, hcs⟩
  obtain ⟨l, hC, hl, hlo, hb⟩ := levelsArg (len := len) (cap := cap) (a := a) (d := y3.1) (ps := y3.2) ⟨n, h3'⟩
  refine ⟨k0, k1, k2, a, len, cap, k4, l, rfl, hC, hl, hlo, int64_of w1, int64_of w2, int64_of w4, ?_⟩
  have hd : d = .agg [y0.1, y1.1, y2.1, y3.1, y4.1] := hx
  rw [hd, x0]
  simp only [Rows.uptoBulk, Rows.uptoBulkAll]
  have : k0.data.toList.length = k0.size := by rw [Array.length_toList]; rfl
  omega
end Go.Proofs.Ytafmoglaockepaa.Cd
end
section
namespace Go.Proofs.Ytafmoglaockepaa.Cd
open Go Go.Deep Go.ChangeShapes Go.WideShapes Go.RowKit Go.Proofs.Ytafmoglaockepaa.Num Go.Proofs.Ytafmoglaockepaa.PG Go.Proofs.YtafmoglaockepaaW.PrintWords Go.Proofs.YtafmoglaockepaaW.PrintLast Go.Proofs.YtafmoglaockepaaW.PrintMore
set_option linter.unusedVariables false
set_option maxRecDepth 100000
theorem trod_struct6 {H : Type} {enc : TypeId × Value → H} {P : Program} {w : World} {base : Nat} {spare : Nat → Bool} {held : Bool} {t : TypeId} {f0 f1 f2 f3 f4 f5 : Field} {fuel : Nat} {cs : List Value} {x : DataW H × List MemPlace} (ht : P.underlying t = some (.struct #[f0, f1, f2, f3, f4, f5])) (h : DataW.trod enc P w base spare held fuel t cs = some x) :
    ∃ y0 y1 y2 y3 y4 y5 n, x.1 = .agg [y0.1, y1.1, y2.1, y3.1, y4.1, y5.1] ∧ cs.length = P.cellsOf t ∧ DataW.trod enc P w base spare held n f0.type ((cs.drop f0.offset).take (P.cellsOf f0.type)) = some y0 ∧
      DataW.trod enc P w base spare held n f1.type ((cs.drop f1.offset).take (P.cellsOf f1.type)) = some y1 ∧ DataW.trod enc P w base spare held n f2.type ((cs.drop f2.offset).take (P.cellsOf f2.type)) = some y2 ∧
      DataW.trod enc P w base spare held n f3.type ((cs.drop f3.offset).take (P.cellsOf f3.type)) = some y3 ∧ DataW.trod enc P w base spare held n f4.type ((cs.drop f4.offset).take (P.cellsOf f4.type)) = some y4 ∧ DataW.trod enc P w base spare held n f5.type ((cs.drop f5.offset).take (P.cellsOf f5.type)) = some y5 := by
  obtain ⟨xs, n, _, rfl, hl, hlen, hf⟩ := DataW.trod_struct ht h
  match xs, hlen with
  | [y0, y1, y2, y3, y4, y5], _ => exact ⟨y0, y1, y2, y3, y4, y5, n, by simp, hl, by simpa using hf 0 f0 rfl, by simpa using hf 1 f1 rfl, by simpa using hf 2 f2 rfl, by simpa using hf 3 f3 rfl, by simpa using hf 4 f4 rfl, by simpa using hf 5 f5 rfl⟩
theorem sum_bulkP {H α : Type} (wt : α → Nat) (f : Nat → α) (D : Nat → DataW H) : ∀ L : List Nat, (∀ i ∈ L, wt (f i) ≤ Rows.uptoBulk (D i)) → ((L.map f).map wt).sum ≤ Rows.uptoBulkAll (L.map D)
  | [], _ => by simp
  | i :: L, h => by
    have h1 := sum_bulkP wt f D L (fun j hj => h j (List.mem_cons_of_mem _ hj))
    have h2 := h i (List.mem_cons_self ..)
    simp only [Rows.uptoBulkAll, List.map_cons, List.sum_cons] at h1 ⊢
    omega
theorem rowArg {H α : Type} {enc : TypeId × Value → H} {W : World} {base : Nat} {held : Bool} {a : Option Addr} {len cap : Nat} {d : DataW H} {ps : List MemPlace} {sl e : TypeId} (kd : Kd α) (z : α) (Ok : α → Prop) (wt : α → Nat) (hu : Try.prog.underlying sl = some (.slice e)) (hsz : Try.prog.cellsOf e = kd.sz)
    (hel : ∀ (fuel : Nat) (cs : List Value) (x : DataW H × List MemPlace), DataW.trod enc Try.prog W base (fun _ => true) held fuel e cs = some x → ∃ p, kd.K W p cs ∧ Ok p ∧ wt p ≤ Rows.uptoBulk x.1)
    (h : DataW.Trod enc Try.prog W base (fun _ => true) held sl (.slice a len cap) d ps) : ∃ l : List α, Kd.C kd W a len l ∧ len ≤ cap ∧ (∀ p ∈ l, Ok p) ∧ (l.map wt).sum + 1 ≤ Rows.uptoBulk d := by
  obtain ⟨fuel, hf⟩ := h
  rcases open_slice hu hf with ⟨hcs, hx⟩ | ⟨ad, l, c, m, n, D, Pl, hcs, _, hl, hm, hmm, hx, hr⟩
  · simp [Value.cells] at hcs
    obtain ⟨rfl, rfl, rfl⟩ := hcs
    obtain ⟨hx, _⟩ := Prod.mk.inj hx
    subst hx
    exact ⟨[], Kd.C_nil _ _, Nat.le_refl _, fun _ hp => (by cases hp), by simp [Rows.uptoBulk]⟩
  · simp [Value.cells] at hcs
    obtain ⟨rfl, rfl, rfl⟩ := hcs
    rw [if_pos rfl] at hmm
    have hcell : ∀ i, i < len → ∃ p : α, (∃ cs : List Value, cs.length = kd.sz ∧ kd.K W p cs ∧ ∀ j u, cs[j]? = some u → W.cell? (ad.add (i * kd.sz + j)) = some u) ∧ Ok p ∧ wt p ≤ Rows.uptoBulk (D i) := fun i hi => by
      obtain ⟨cs, hc, ht⟩ := hr i (by omega)
      obtain ⟨p, hk, hok, hw⟩ := hel _ _ _ ht
      rw [hsz] at hc
      obtain ⟨_, _, hat⟩ := World.cells?_some hc
      refine ⟨p, ⟨cs, kd.K_len hk, hk, fun j u hj => ?_⟩, hok, hw⟩
      have hjl : j < kd.sz := by
        rw [← kd.K_len hk]
        exact (List.getElem?_eq_some_iff.1 hj).1
      have g := hat (i := j) hjl
      rw [Go.Deep.add_add] at g
      rw [g, ← hj]
    obtain ⟨f, hfun⟩ : ∃ f : Nat → α, ∀ i, i < len → (∃ cs : List Value, cs.length = kd.sz ∧ kd.K W (f i) cs ∧ ∀ j u, cs[j]? = some u → W.cell? (ad.add (i * kd.sz + j)) = some u) ∧ Ok (f i) ∧ wt (f i) ≤ Rows.uptoBulk (D i) :=
      ⟨fun i => if h : i < len then (hcell i h).choose else z, fun i hi => by simp only [dif_pos hi]; exact (hcell i hi).choose_spec⟩
    refine ⟨(List.range len).map f, ⟨by simp, by simp only [maxLen] at hm; omega, fun _ => ⟨ad, rfl, fun j p hj => ?_⟩⟩, hl, fun p hp => ?_, ?_⟩
    · obtain ⟨hj1, hj2⟩ := List.getElem?_eq_some_iff.1 hj
      have hjl : j < len := by simpa using hj1
      simp only [List.getElem_map, List.getElem_range] at hj2
      subst hj2
      exact (hfun j hjl).1
    · obtain ⟨i, hi, rfl⟩ := List.mem_map.1 hp
      exact (hfun i (List.mem_range.1 hi)).2.1
    · have hd : d = .slice ((List.range len).map D) ((List.range (m - len)).map fun j => D (len + j)) := congrArg Prod.fst hx
      rw [hd]
      simp only [Rows.uptoBulk]
      have := sum_bulkP wt f D (List.range len) (fun i hi => (hfun i (List.mem_range.1 hi)).2.2)
      omega
theorem size_bytes (k : ByteArray) : k.data.toList.length = k.size := by rw [Array.length_toList]; rfl
theorem lineCells {H : Type} {enc : TypeId × Value → H} {W : World} {base : Nat} {held : Bool} (fuel : Nat) (cs : List Value) (x : DataW H × List MemPlace) (h : DataW.trod enc Try.prog W base (fun _ => true) held fuel 110 cs = some x) :
    ∃ p : S110, k110.K W p cs ∧ Int64 p.f1 ∧ 2 + p.f0.size ≤ Rows.uptoBulk x.1 := by
  have c3 : Try.prog.cellsOf 3 = 1 := by kernel_rfl
  have c9 : Try.prog.cellsOf 9 = 1 := by kernel_rfl
  have c110 : Try.prog.cellsOf 110 = 2 := by kernel_rfl
  obtain ⟨y0, y1, n', hy, hlen, h0, h1⟩ := trod_struct2 Try.underlying110 h
  rw [c110] at hlen
  obtain ⟨v0, v1, rfl⟩ : ∃ v0 v1, cs = [v0, v1] := by
    match cs, hlen with
    | [v0, v1], _ => exact ⟨v0, v1, rfl⟩
  simp only [c3, c9] at h0 h1
  obtain ⟨k0, e0, x0, w0⟩ := DataW.trod_string Try.underlying9 h0
  obtain ⟨k1, e1, x1, w1⟩ := DataW.trod_int Try.underlying3 h1
  simp at e0 e1
  subst e0
  subst e1
  refine ⟨⟨k0, k1⟩, k110_mk W ⟨k0, k1⟩, int64_of w1, ?_⟩
  rw [hy, x0, x1]
  simp only [Rows.uptoBulk, Rows.uptoBulkAll]
  have := size_bytes k0
  omega
theorem linesArg {H : Type} {enc : TypeId × Value → H} {W : World} {base : Nat} {held : Bool} {a : Option Addr} {len cap : Nat} {d : DataW H} {ps : List MemPlace}
    (h : DataW.Trod enc Try.prog W base (fun _ => true) held 38 (.slice a len cap) d ps) : ∃ l : List S110, Kd.C k110 W a len l ∧ len ≤ cap ∧ LinOk l ∧ sumN l + 1 ≤ Rows.uptoBulk d :=
  rowArg k110 ⟨⟨#[]⟩, 0⟩ (fun p => Int64 p.f1) (fun p => 2 + p.f0.size) Try.underlying38 (by kernel_rfl) lineCells h
theorem slice_of {H : Type} {enc : TypeId × Value → H} {W : World} {base : Nat} {held : Bool} {sl e : TypeId} {fuel : Nat} {v : Value} {x : DataW H × List MemPlace} (hu : Try.prog.underlying sl = some (.slice e)) (h : DataW.trod enc Try.prog W base (fun _ => true) held fuel sl [v] = some x) :
    ∃ a len cap, v = .slice a len cap ∧ DataW.Trod enc Try.prog W base (fun _ => true) held sl (.slice a len cap) x.1 x.2 := by
  obtain ⟨a, len, cap, rfl⟩ : ∃ a len cap, v = .slice a len cap := by
    rcases open_slice hu h with ⟨hcs, _⟩ | ⟨ad, l, c, _, _, _, _, hcs, _⟩
    · simp at hcs; exact ⟨_, _, _, hcs⟩
    · simp at hcs; exact ⟨_, _, _, hcs⟩
  exact ⟨a, len, cap, rfl, fuel, h⟩
theorem reqCells {H : Type} {enc : TypeId × Value → H} {W : World} {base : Nat} {held : Bool} (fuel : Nat) (cs : List Value) (x : DataW H × List MemPlace) (h : DataW.trod enc Try.prog W base (fun _ => true) held fuel 40 cs = some x) :
    ∃ (q : S40) (A : Option Addr) (c : Nat), cs = [.string q.f0, .int .i64 q.f1, .slice A q.f2.length c, .string q.f3, .int .i64 q.f4, .int .i64 q.f5] ∧ q.f2.length ≤ c ∧ Kd.C k110 W A q.f2.length q.f2 ∧ ReqOk q ∧ 7 + sumQ q ≤ Rows.uptoBulk x.1 := by
  have c3 : Try.prog.cellsOf 3 = 1 := by kernel_rfl
  have c9 : Try.prog.cellsOf 9 = 1 := by kernel_rfl
  have c38 : Try.prog.cellsOf 38 = 1 := by kernel_rfl
  have c40 : Try.prog.cellsOf 40 = 6 := by kernel_rfl
  obtain ⟨y0, y1, y2, y3, y4, y5, n, hx, hlen, h0, h1, h2, h3, h4, h5⟩ := trod_struct6 Try.underlying40 h
  rw [c40] at hlen
  obtain ⟨v0, v1, v2, v3, v4, v5, rfl⟩ : ∃ v0 v1 v2 v3 v4 v5, cs = [v0, v1, v2, v3, v4, v5] := by
    match cs, hlen with
    | [v0, v1, v2, v3, v4, v5], _ => exact ⟨v0, v1, v2, v3, v4, v5, rfl⟩
  simp only [c3, c9, c38] at h0 h1 h2 h3 h4 h5
  have h2' : DataW.trod enc Try.prog W base (fun _ => true) held n 38 [v2] = some y2 := h2
  obtain ⟨k0, e0, x0, _⟩ := DataW.trod_string Try.underlying9 h0
  obtain ⟨k1, e1, x1, w1⟩ := DataW.trod_int Try.underlying3 h1
  obtain ⟨k3, e3, x3, _⟩ := DataW.trod_string Try.underlying9 h3
  obtain ⟨k4, e4, x4, w4⟩ := DataW.trod_int Try.underlying3 h4
  obtain ⟨k5, e5, x5, w5⟩ := DataW.trod_int Try.underlying3 h5
  simp at e0 e1 e3 e4 e5
  subst e0 e1 e3 e4 e5
  obtain ⟨a, len, cap, rfl, hT⟩ := slice_of Try.underlying38 h2'
  obtain ⟨l, hC, hl, hlo, hb⟩ := linesArg hT
  obtain rfl : l.length = len := Kd.C_len hC
  refine ⟨⟨k0, k1, l, k3, k4, k5⟩, a, cap, rfl, hl, hC, ⟨int64_of w1, hlo, int64_of w4, int64_of w5⟩, ?_⟩
  rw [hx, x0, x1, x3, x4, x5]
  simp only [Rows.uptoBulk, Rows.uptoBulkAll, sumQ]
  have := size_bytes k0
  have := size_bytes k3
  omega
theorem heldCells {H : Type} {enc : TypeId × Value → H} {W : World} {base : Nat} {held : Bool} (fuel : Nat) (cs : List Value) (x : DataW H × List MemPlace) (h : DataW.trod enc Try.prog W base (fun _ => true) held fuel 121 cs = some x) :
    ∃ p : S121, k121.K W p cs ∧ HeldOk p ∧ 3 + p.f0.size + sumN p.f1 ≤ Rows.uptoBulk x.1 := by
  have c3 : Try.prog.cellsOf 3 = 1 := by kernel_rfl
  have c9 : Try.prog.cellsOf 9 = 1 := by kernel_rfl
  have c38 : Try.prog.cellsOf 38 = 1 := by kernel_rfl
  have c121 : Try.prog.cellsOf 121 = 3 := by kernel_rfl
  obtain ⟨y0, y1, y2, n, hx, hlen, h0, h1, h2⟩ := trod_struct3 Try.underlying121 h
  rw [c121] at hlen
  obtain ⟨v0, v1, v2, rfl⟩ := list3 hlen
  simp only [c3, c9, c38] at h0 h1 h2
  have h1' : DataW.trod enc Try.prog W base (fun _ => true) held n 38 [v1] = some y1 := h1
  obtain ⟨k0, e0, x0, _⟩ := DataW.trod_string Try.underlying9 h0
  obtain ⟨k2, e2, x2, w2⟩ := DataW.trod_int Try.underlying3 h2
  simp at e0 e2
  subst e0 e2
  obtain ⟨a, len, cap, rfl, hT⟩ := slice_of Try.underlying38 h1'
  obtain ⟨l, hC, hl, hlo, hb⟩ := linesArg hT
  obtain rfl : l.length = len := Kd.C_len hC
  refine ⟨⟨k0, l, k2⟩, k121_mk W ⟨k0, l, k2⟩ hl hC, ⟨hlo, int64_of w2⟩, ?_⟩
  rw [hx, x0, x2]
  simp only [Rows.uptoBulk, Rows.uptoBulkAll]
  have := size_bytes k0
  omega
theorem doneCells {H : Type} {enc : TypeId × Value → H} {W : World} {base : Nat} {held : Bool} (fuel : Nat) (cs : List Value) (x : DataW H × List MemPlace) (h : DataW.trod enc Try.prog W base (fun _ => true) held fuel 123 cs = some x) :
    ∃ p : S123, k123.K W p cs ∧ DoneOk p ∧ 7 + sumQ p.f0 ≤ Rows.uptoBulk x.1 := by
  have c3 : Try.prog.cellsOf 3 = 1 := by kernel_rfl
  have c40 : Try.prog.cellsOf 40 = 6 := by kernel_rfl
  have c123 : Try.prog.cellsOf 123 = 7 := by kernel_rfl
  obtain ⟨y0, y1, n, hx, hlen, h0, h1⟩ := trod_struct2 Try.underlying123 h
  rw [c123] at hlen
  obtain ⟨v0, v1, v2, v3, v4, v5, v6, rfl⟩ : ∃ v0 v1 v2 v3 v4 v5 v6, cs = [v0, v1, v2, v3, v4, v5, v6] := by
    match cs, hlen with
    | [v0, v1, v2, v3, v4, v5, v6], _ => exact ⟨v0, v1, v2, v3, v4, v5, v6, rfl⟩
  simp only [c3, c40] at h0 h1
  have h0' : DataW.trod enc Try.prog W base (fun _ => true) held n 40 [v0, v1, v2, v3, v4, v5] = some y0 := h0
  have h1' : DataW.trod enc Try.prog W base (fun _ => true) held n 3 [v6] = some y1 := h1
  obtain ⟨k1, e1, x1, w1⟩ := DataW.trod_int Try.underlying3 h1'
  obtain ⟨q, A, c, hcs, hc, hC, hok, hb⟩ := reqCells _ _ _ h0'
  simp at e1
  subst e1
  simp only [List.cons.injEq, and_true] at hcs
  obtain ⟨rfl, rfl, rfl, rfl, rfl, rfl⟩ := hcs
  refine ⟨⟨q, k1⟩, k123_mk W ⟨q, k1⟩ hc hC, ⟨hok, int64_of w1⟩, ?_⟩
  rw [hx, x1]
  simp only [Rows.uptoBulk, Rows.uptoBulkAll]
  omega
theorem levelCells {H : Type} {enc : TypeId × Value → H} {W : World} {base : Nat} {held : Bool} (fuel : Nat) (cs : List Value) (x : DataW H × List MemPlace) (h : DataW.trod enc Try.prog W base (fun _ => true) held fuel 28 cs = some x) :
    ∃ p : S28, k28.K W p cs ∧ (Int64 p.f1 ∧ Int64 p.f2) ∧ 3 + p.f0.size ≤ Rows.uptoBulk x.1 := by
  have c3 : Try.prog.cellsOf 3 = 1 := by kernel_rfl
  have c9 : Try.prog.cellsOf 9 = 1 := by kernel_rfl
  have c28 : Try.prog.cellsOf 28 = 3 := by kernel_rfl
  obtain ⟨y0, y1, y2, n, hx, hlen, h0, h1, h2⟩ := trod_struct3 Try.underlying28 h
  rw [c28] at hlen
  obtain ⟨v0, v1, v2, rfl⟩ := list3 hlen
  simp only [c3, c9] at h0 h1 h2
  obtain ⟨k0, e0, x0, _⟩ := DataW.trod_string Try.underlying9 h0
  obtain ⟨k1, e1, x1, w1⟩ := DataW.trod_int Try.underlying3 h1
  obtain ⟨k2, e2, x2, w2⟩ := DataW.trod_int Try.underlying3 h2
  simp at e0 e1 e2
  subst e0 e1 e2
  refine ⟨⟨k0, k1, k2⟩, k28_mk W ⟨k0, k1, k2⟩, ⟨int64_of w1, int64_of w2⟩, ?_⟩
  rw [hx, x0, x1, x2]
  simp only [Rows.uptoBulk, Rows.uptoBulkAll]
  have := size_bytes k0
  omega
def sumHs (l : List S121) : Nat := (l.map fun p => 3 + p.f0.size + sumN p.f1).sum
def sumDs (l : List S123) : Nat := (l.map fun p => 7 + sumQ p.f0).sum
def sumS (x : StD) : Nat := sumL x.f3 + sumHs x.f4 + sumDs x.f5
theorem requestArg {H : Type} {enc : TypeId × Value → H} {W : World} {base b0 : Nat} {r : Reach} {held : Bool} {v : Value} {d : DataW H} {ps : List MemPlace} (hv : Value.okWide Try.prog W r b0 40 v)
    (h : DataW.Trod enc Try.prog W base (fun _ => true) held 40 v d ps) : ∃ (q : S40) (A : Option Addr) (c : Nat), v = .agg #[.string q.f0, .int .i64 q.f1, .slice A q.f2.length c, .string q.f3, .int .i64 q.f4, .int .i64 q.f5] ∧ Kd.C k110 W A q.f2.length q.f2 ∧ q.f2.length ≤ c ∧ ReqOk q ∧ 7 + sumQ q ≤ Rows.uptoBulk d := by
  obtain ⟨cs, rfl, hsz⟩ := okWide_struct Try.underlying40 hv
  obtain ⟨fuel, hf⟩ := h
  obtain ⟨q, A, c, hcs, hc, hC, hok, hb⟩ := reqCells _ _ _ hf
  refine ⟨q, A, c, ?_, hC, hc, hok, hb⟩
  have hcs : cs.toList = _ := hcs
  rw [← hcs]
theorem stateArg {H : Type} {enc : TypeId × Value → H} {W : World} {base b0 : Nat} {r : Reach} {held : Bool} {v : Value} {d : DataW H} {ps : List MemPlace} (hv : Value.okWide Try.prog W r b0 58 v)
    (h : DataW.Trod enc Try.prog W base (fun _ => true) held 58 v d ps) : ∃ (x : StD) (Al : Option Addr) (cl : Nat) (Ah : Option Addr) (ch : Nat) (Ad : Option Addr) (cd : Nat), v = .agg #[.int .i64 x.f0, .int .i64 x.f1, .int .i64 x.f2, .slice Al x.f3.length cl, .slice Ah x.f4.length ch, .slice Ad x.f5.length cd] ∧
      (Kd.C k28 W Al x.f3.length x.f3 ∧ x.f3.length ≤ cl) ∧ (Kd.C k121 W Ah x.f4.length x.f4 ∧ x.f4.length ≤ ch) ∧ (Kd.C k123 W Ad x.f5.length x.f5 ∧ x.f5.length ≤ cd) ∧ (Int64 x.f0 ∧ Int64 x.f1 ∧ Int64 x.f2 ∧ LevOk x.f3 ∧ HeldsOk x.f4 ∧ DonesOk x.f5) ∧ 7 + sumS x ≤ Rows.uptoBulk d := by
  have c3 : Try.prog.cellsOf 3 = 1 := by kernel_rfl
  have c23 : Try.prog.cellsOf 23 = 1 := by kernel_rfl
  have c55 : Try.prog.cellsOf 55 = 1 := by kernel_rfl
  have c56 : Try.prog.cellsOf 56 = 1 := by kernel_rfl
  have c58 : Try.prog.cellsOf 58 = 6 := by kernel_rfl
  obtain ⟨cs, rfl, hsz⟩ := okWide_struct Try.underlying58 hv
  obtain ⟨fuel, hf⟩ := h
  obtain ⟨y0, y1, y2, y3, y4, y5, n, hx, hlen, h0, h1, h2, h3, h4, h5⟩ := trod_struct6 Try.underlying58 hf
  obtain ⟨cs⟩ := cs
  have hlen : cs.length = 6 := by rw [← c58]; exact hlen
  obtain ⟨v0, v1, v2, v3, v4, v5, rfl⟩ : ∃ v0 v1 v2 v3 v4 v5, cs = [v0, v1, v2, v3, v4, v5] := by
    match cs, hlen with
    | [v0, v1, v2, v3, v4, v5], _ => exact ⟨v0, v1, v2, v3, v4, v5, rfl⟩
  simp only [c3, c23, c55, c56] at h0 h1 h2 h3 h4 h5
  have h0' : DataW.trod enc Try.prog W base (fun _ => true) held n 3 [v0] = some y0 := h0
  have h1' : DataW.trod enc Try.prog W base (fun _ => true) held n 3 [v1] = some y1 := h1
  have h2' : DataW.trod enc Try.prog W base (fun _ => true) held n 3 [v2] = some y2 := h2
  have h3' : DataW.trod enc Try.prog W base (fun _ => true) held n 23 [v3] = some y3 := h3
  have h4' : DataW.trod enc Try.prog W base (fun _ => true) held n 55 [v4] = some y4 := h4
  have h5' : DataW.trod enc Try.prog W base (fun _ => true) held n 56 [v5] = some y5 := h5
  obtain ⟨k0, e0, x0, w0⟩ := DataW.trod_int Try.underlying3 h0'
  obtain ⟨k1, e1, x1, w1⟩ := DataW.trod_int Try.underlying3 h1'
  obtain ⟨k2, e2, x2, w2⟩ := DataW.trod_int Try.underlying3 h2'
  simp at e0 e1 e2
  subst e0 e1 e2
  obtain ⟨a3, n3, c3', rfl, hT3⟩ := slice_of Try.underlying23 h3'
  obtain ⟨a4, n4, c4', rfl, hT4⟩ := slice_of Try.underlying55 h4'
  obtain ⟨a5, n5, c5', rfl, hT5⟩ := slice_of Try.underlying56 h5'
  obtain ⟨l3, hC3, hl3, ho3, hb3⟩ := rowArg k28 ⟨⟨#[]⟩, 0, 0⟩ (fun p => Int64 p.f1 ∧ Int64 p.f2) (fun p => 3 + p.f0.size) Try.underlying23 (by kernel_rfl) levelCells hT3
  obtain ⟨l4, hC4, hl4, ho4, hb4⟩ := rowArg k121 ⟨⟨#[]⟩, [], 0⟩ HeldOk (fun p => 3 + p.f0.size + sumN p.f1) Try.underlying55 (by kernel_rfl) heldCells hT4
  obtain ⟨l5, hC5, hl5, ho5, hb5⟩ := rowArg k123 ⟨⟨⟨#[]⟩, 0, [], ⟨#[]⟩, 0, 0⟩, 0⟩ DoneOk (fun p => 7 + sumQ p.f0) Try.underlying56 (by kernel_rfl) doneCells hT5
  obtain rfl : l3.length = n3 := Kd.C_len hC3
  obtain rfl : l4.length = n4 := Kd.C_len hC4
  obtain rfl : l5.length = n5 := Kd.C_len hC5
  refine ⟨⟨k0, k1, k2, l3, l4, l5⟩, a3, c3', a4, c4', a5, c5', rfl, ⟨hC3, hl3⟩, ⟨hC4, hl4⟩, ⟨hC5, hl5⟩, ⟨int64_of w0, int64_of w1, int64_of w2, ho3, ho4, ho5⟩, ?_⟩
  have hd : d = .agg [y0.1, y1.1, y2.1, y3.1, y4.1, y5.1] := hx
  rw [hd, x0, x1, x2]
  simp only [Rows.uptoBulk, Rows.uptoBulkAll, sumS, sumL, sumHs, sumDs]
  omega
end Go.Proofs.Ytafmoglaockepaa.Cd
end
section
namespace Go.Proofs.Ytafmoglaockepaa.Cd
open Go Go.RowKit Go.Proofs.Ytafmoglaockepaa.Num Go.Proofs.Ytafmoglaockepaa.PG Go.Proofs.YtafmoglaockepaaW.PrintWords Go.Proofs.YtafmoglaockepaaW.PrintLast Go.Proofs.YtafmoglaockepaaW.PrintMore
set_option linter.unusedVariables false
set_option linter.unusedSimpArgs false
theorem big {a N : Nat} (h : a < N) (hN : N ≤ 1000000000) : a < 9223372036854775807 := by omega
theorem rd121 {l : List S121} {i : Nat} {x : S121} (h : l[i]? = some x) : rd_T121 l (i : Int) = x := by
  unfold rd_T121
  rw [Int.toNat_natCast, List.getD_eq_getElem?_getD, h]
  rfl
theorem rd123 {l : List S123} {i : Nat} {x : S123} (h : l[i]? = some x) : rd_T123 l (i : Int) = x := by
  unfold rd_T123
  rw [Int.toNat_natCast, List.getD_eq_getElem?_getD, h]
  rfl
theorem rd28 {l : List S28} {i : Nat} {x : S28} (h : l[i]? = some x) : rd_T28 l (i : Int) = x := by
  unfold rd_T28
  rw [Int.toNat_natCast, List.getD_eq_getElem?_getD, h]
  rfl
theorem wadd (a b : Nat) (h : a + b < 9223372036854775807) : wrap64 ((a : Int) + (b : Int)) = ((a + b : Nat) : Int) := by unfold wrap64; omega
theorem wadd7 (a : Nat) (h : a + 7 < 9223372036854775807) : wrap64 ((a : Int) + 7) = ((a + 7 : Nat) : Int) := by unfold wrap64; omega
theorem wadd3 (a : Nat) (h : a + 3 < 9223372036854775807) : wrap64 ((a : Int) + 3) = ((a + 3 : Nat) : Int) := by unfold wrap64; omega
theorem wadd2 (a : Nat) (h : a + 2 < 9223372036854775807) : wrap64 ((a : Int) + 2) = ((a + 2 : Nat) : Int) := by unfold wrap64; omega
theorem sumL_cons (x : S28) (l : List S28) : sumL (x :: l) = 3 + x.f0.size + sumL l := by simp [sumL]
theorem sumHs_cons (x : S121) (l : List S121) : sumHs (x :: l) = 3 + x.f0.size + sumN x.f1 + sumHs l := by simp [sumHs]
theorem sumDs_cons (x : S123) (l : List S123) : sumDs (x :: l) = 7 + sumQ x.f0 + sumDs l := by simp [sumDs]
theorem sumDs_mem : ∀ (l : List S123) (x : S123), x ∈ l → 7 + sumQ x.f0 ≤ sumDs l
  | y :: l, x, h => by
    rw [sumDs_cons]
    rcases List.mem_cons.1 h with rfl | h
    · omega
    · have := sumDs_mem l x h
      omega
theorem sumHs_count : ∀ l : List S121, 3 * l.length ≤ sumHs l
  | [] => by simp [sumHs]
  | x :: l => by
    have := sumHs_count l
    rw [sumHs_cons, List.length_cons]
    omega
theorem sumDs_count : ∀ l : List S123, 7 * l.length ≤ sumDs l
  | [] => by simp [sumDs]
  | x :: l => by
    have := sumDs_count l
    rw [sumDs_cons, List.length_cons]
    omega
theorem bulk_l3 (N : Nat) (HN : Aside0 (N ≤ 1000000000)) (l5 : List S123) (hl5 : l5.length < N) (z0 z1 z2 : Int) (z3 : List S28) (z4 : List S121) (M : Nat) (hM : ∀ x ∈ l5, x.f0.f2.length ≤ M) : ∀ d i k s : Nat, d + M + 2 ≤ k → i + d = l5.length → s + sumDs (l5.drop i) < N →
    larderlaw09_bulk.l3 k (s : Int) (i : Int) z0 z1 z2 z3 z4 l5 = some ((s + sumDs (l5.drop i) : Nat) : Int)
  | 0, i, k, s, hk, h, hb => by
    obtain ⟨k, rfl⟩ : ∃ q, k = q + 1 := ⟨k - 1, by omega⟩
    unfold larderlaw09_bulk.l3
    rw [if_neg (by omega), List.drop_of_length_le (by omega)]
    simp [sumDs]
  | d + 1, i, k, s, hk, h, hb => by
    obtain ⟨k, rfl⟩ : ∃ q, k = q + 1 := ⟨k - 1, by omega⟩
    obtain ⟨x, hx⟩ : ∃ x, l5[i]? = some x := ⟨_, List.getElem?_eq_getElem (by omega)⟩
    have hm := hM x (List.mem_of_getElem? hx)
    rw [drop_at hx, sumDs_cons] at hb
    have ih0 := fun h => bulk_l3 N HN l5 hl5 z0 z1 z2 z3 z4 M hM d (i + 1) k (s + 7 + sumQ x.f0) (by omega) (by omega) h
    have hw := fun h => weight_ok x.f0 h k (by omega)
    unfold larderlaw09_bulk.l3
    rw [if_pos (by omega), if_pos (by omega), rd123 hx, drop_at hx, sumDs_cons, w64n (big (by omega) HN.out)]
    generalize sumQ x.f0 = q at *
    generalize sumDs (l5.drop (i + 1)) = r at *
    rw [hw (big (by omega) HN.out), Option.bind_some]
    have b1 := big (N := N) (show s + 7 < N by omega) HN.out
    have b2 := big (N := N) (show s + 7 + q < N by omega) HN.out
    have h9 := ih0 (by omega)
    rw [wadd7 s b1, wadd (s + 7) q b2, h9]
    clear b1 b2 h9
    congr 2
    omega
theorem bulk_l12 (N : Nat) (HN : Aside0 (N ≤ 1000000000)) (l4 : List S121) (l5 : List S123) (z0 z1 z2 : Int) (z3 : List S28) (M : Nat) (hM : ∀ x ∈ l5, x.f0.f2.length ≤ M) (hl4 : l4.length < N) (hl5 : l5.length < N) : ∀ d i k s : Nat, sumHs (l4.drop i) + d + l5.length + M + 4 ≤ k → i + d = l4.length → s + sumHs (l4.drop i) + sumDs l5 < N →
    larderlaw09_bulk.l1 k (s : Int) (i : Int) z0 z1 z2 z3 l4 l5 = some ((s + sumHs (l4.drop i) + sumDs l5 : Nat) : Int)
  | 0, i, k, s, hk, h, hb => by
    obtain ⟨k, rfl⟩ : ∃ q, k = q + 1 := ⟨k - 1, by omega⟩
    have hd : l4.drop i = [] := List.drop_of_length_le (by omega)
    rw [hd] at hk hb
    have := bulk_l3 N HN l5 hl5 z0 z1 z2 z3 l4 M hM l5.length 0 k s (by omega) (by omega) (by rw [List.drop_zero]; simp [sumHs] at hb; omega)
    rw [List.drop_zero] at this
    unfold larderlaw09_bulk.l1
    rw [if_neg (by omega), hd]
    have e0 : ((0 : Nat) : Int) = 0 := rfl
    rw [e0] at this
    rw [this]
    simp [sumHs]
  | d + 1, i, k, s, hk, h, hb => by
    obtain ⟨k, rfl⟩ : ∃ q, k = q + 1 := ⟨k - 1, by omega⟩
    obtain ⟨x, hx⟩ : ∃ x, l4[i]? = some x := ⟨_, List.getElem?_eq_getElem (by omega)⟩
    rw [drop_at hx, sumHs_cons] at hb hk
    have hxl : x.f1.length < N := by
      have := sumN_count x.f1
      omega
    have hin : ∀ dj j k' t : Nat, dj + 1 + (sumHs (l4.drop (i + 1)) + d + l5.length + M + 4) ≤ k' → j + dj = x.f1.length → t + sumN (x.f1.drop j) + sumHs (l4.drop (i + 1)) + sumDs l5 < N →
        larderlaw09_bulk.l2 k' (t : Int) (i : Int) (j : Int) z0 z1 z2 z3 l4 l5 = some ((t + sumN (x.f1.drop j) + sumHs (l4.drop (i + 1)) + sumDs l5 : Nat) : Int) := by
      intro dj
      induction dj with
      | zero =>
        intro j k' t hk' hj hb'
        obtain ⟨k', rfl⟩ : ∃ q, k' = q + 1 := ⟨k' - 1, by omega⟩
        have hd : x.f1.drop j = [] := List.drop_of_length_le (by omega)
        rw [hd] at hb'
        have hs0 : sumN ([] : List S110) = 0 := by simp [sumN]
        have ih := bulk_l12 N HN l4 l5 z0 z1 z2 z3 M hM hl4 hl5 d (i + 1) k' t (by omega) (by omega) (by omega)
        unfold larderlaw09_bulk.l2
        rw [if_pos (by omega), if_pos (by omega), rd121 hx, if_neg (by omega), w64n (big (by omega) HN.out), ih, hd, hs0]
        rfl
      | succ dj ihj =>
        intro j k' t hk' hj hb'
        obtain ⟨k', rfl⟩ : ∃ q, k' = q + 1 := ⟨k' - 1, by omega⟩
        obtain ⟨y, hy⟩ : ∃ y, x.f1[j]? = some y := ⟨_, List.getElem?_eq_getElem (by omega)⟩
        rw [drop_at hy, sumN_cons] at hb'
        have ih0 := fun h => ihj (j + 1) k' (t + 2 + y.f0.size) (by omega) (by omega) h
        have hjlt : j < 9223372036854775807 := big (N := N) (by omega) HN.out
        unfold larderlaw09_bulk.l2
        rw [if_pos (by omega), if_pos (by omega), rd121 hx, if_pos (by omega), if_pos (by omega), rd110 hy, w64n hjlt, drop_at hy, sumN_cons]
        generalize y.f0.size = q at *
        generalize sumN (x.f1.drop (j + 1)) = r at *
        generalize sumHs (l4.drop (i + 1)) = S at *
        generalize sumDs l5 = D at *
        have b1 := big (N := N) (show t + 2 < N by omega) HN.out
        have b2 := big (N := N) (show t + 2 + q < N by omega) HN.out
        have h9 := ih0 (by omega)
        rw [wadd2 t b1, wadd (t + 2) q b2, h9]
        clear b1 b2 h9
        congr 2
        omega
    have hcN := sumN_count x.f1
    have h0 := fun h1 h2 => hin x.f1.length 0 k (s + 3 + x.f0.size) h1 (by omega) h2
    clear hin
    rw [List.drop_zero] at h0
    have e0 : ((0 : Nat) : Int) = 0 := rfl
    rw [e0] at h0
    unfold larderlaw09_bulk.l1
    rw [if_pos (by omega), if_pos (by omega), rd121 hx, drop_at hx, sumHs_cons]
    generalize x.f0.size = q at *
    generalize sumN x.f1 = r at *
    generalize sumHs (l4.drop (i + 1)) = S at *
    generalize sumDs l5 = D at *
    have b1 := big (N := N) (show s + 3 < N by omega) HN.out
    have b2 := big (N := N) (show s + 3 + q < N by omega) HN.out
    have h9 := h0 (by omega) (by omega)
    rw [wadd3 s b1, wadd (s + 3) q b2, h9]
    clear b1 b2 h9
    congr 2
    omega
theorem bulk_l0 (N : Nat) (HN : Aside0 (N ≤ 1000000000)) (l3 : List S28) (l4 : List S121) (l5 : List S123) (z0 z1 z2 : Int) (M : Nat) (hM : ∀ x ∈ l5, x.f0.f2.length ≤ M) (hl3 : l3.length < N) (hl4 : l4.length < N) (hl5 : l5.length < N) : ∀ d i k s : Nat, d + 1 + (sumHs l4 + l4.length + l5.length + M + 4) ≤ k → i + d = l3.length → s + sumL (l3.drop i) + sumHs l4 + sumDs l5 < N →
    larderlaw09_bulk.l0 k (s : Int) (i : Int) z0 z1 z2 l3 l4 l5 = some ((s + sumL (l3.drop i) + sumHs l4 + sumDs l5 : Nat) : Int)
  | 0, i, k, s, hk, h, hb => by
    obtain ⟨k, rfl⟩ : ∃ q, k = q + 1 := ⟨k - 1, by omega⟩
    have hd : l3.drop i = [] := List.drop_of_length_le (by omega)
    have hs0 : sumL ([] : List S28) = 0 := by simp [sumL]
    rw [hd, hs0] at hb
    have := bulk_l12 N HN l4 l5 z0 z1 z2 l3 M hM hl4 hl5 l4.length 0 k s (by rw [List.drop_zero]; omega) (by omega) (by rw [List.drop_zero]; omega)
    rw [List.drop_zero] at this
    have e0 : ((0 : Nat) : Int) = 0 := rfl
    rw [e0] at this
    unfold larderlaw09_bulk.l0
    rw [if_neg (by omega), this, hd, hs0, Nat.add_zero]
  | d + 1, i, k, s, hk, h, hb => by
    obtain ⟨k, rfl⟩ : ∃ q, k = q + 1 := ⟨k - 1, by omega⟩
    obtain ⟨x, hx⟩ : ∃ x, l3[i]? = some x := ⟨_, List.getElem?_eq_getElem (by omega)⟩
    rw [drop_at hx, sumL_cons] at hb
    have ih0 := fun h => bulk_l0 N HN l3 l4 l5 z0 z1 z2 M hM hl3 hl4 hl5 d (i + 1) k (s + 3 + x.f0.size) (by omega) (by omega) h
    unfold larderlaw09_bulk.l0
    rw [if_pos (by omega), if_pos (by omega), rd28 hx, w64n (big (by omega) HN.out), drop_at hx, sumL_cons]
    generalize x.f0.size = q at *
    generalize sumL (l3.drop (i + 1)) = r at *
    generalize sumHs l4 = S at *
    generalize sumDs l5 = D at *
    have b1 := big (N := N) (show s + 3 < N by omega) HN.out
    have b2 := big (N := N) (show s + 3 + q < N by omega) HN.out
    have h9 := ih0 (by omega)
    rw [wadd3 s b1, wadd (s + 3) q b2, h9]
    clear b1 b2 h9
    congr 2
    omega
theorem bulk_ok (x : StD) (hs : sumS x < 1000000000) : ∃ k, larderlaw09_bulk.f k x.f0 x.f1 x.f2 x.f3 x.f4 x.f5 = some (sumS x : Int) := by
  have HS := Aside0.mk (show sumS x + 1 ≤ 1000000000 from hs)
  clear hs
  have h3 := sumL_count x.f3
  have h4 := sumHs_count x.f4
  have h5 := sumDs_count x.f5
  have hq : sumS x = sumL x.f3 + sumHs x.f4 + sumDs x.f5 := rfl
  have hM : ∀ y ∈ x.f5, y.f0.f2.length ≤ sumDs x.f5 := fun y hy => by
    have h1 := sumDs_mem _ y hy
    have h2 := sumN_count y.f0.f2
    unfold sumQ at h1
    omega
  have := bulk_l0 (sumS x + 1) HS x.f3 x.f4 x.f5 x.f0 x.f1 x.f2 (sumDs x.f5) hM (by omega) (by omega) (by omega) x.f3.length 0 _ 0 (Nat.le_refl _) (by omega) (by rw [List.drop_zero]; omega)
  rw [List.drop_zero] at this
  have e0 : ((0 : Nat) : Int) = 0 := rfl
  rw [e0] at this
  refine ⟨x.f3.length + 1 + (sumHs x.f4 + x.f4.length + x.f5.length + sumDs x.f5 + 4), ?_⟩
  unfold larderlaw09_bulk.f
  rw [this, hq, Nat.zero_add]
theorem bulkHs_sum : ∀ l : List S121, bulkHs l ≤ 15 * sumHs l
  | [] => by simp [bulkHs, sumHs]
  | x :: l => by
    have := bulkHs_sum l
    have := bulkN_sum x.f1
    rw [bulkHs_cons, sumHs_cons]
    unfold bulkH
    omega
theorem bulkDs_sum : ∀ l : List S123, bulkDs l ≤ 15 * sumDs l
  | [] => by simp [bulkDs, sumDs]
  | x :: l => by
    have := bulkDs_sum l
    have := bulkQ_sum x.f0
    rw [bulkDs_cons, sumDs_cons]
    unfold bulkD
    omega
theorem bulkS_sum (x : StD) : bulkS x ≤ 90 + 15 * sumS x := by
  have := bulkL_sum x.f3
  have := bulkHs_sum x.f4
  have := bulkDs_sum x.f5
  unfold bulkS sumS
  omega
end Go.Proofs.Ytafmoglaockepaa.Cd
end
section
namespace Go.Proofs.Ytafmoglaockepaa.Cd
open Go Go.RowKit Go.Proofs.Ytafmoglaockepaa.Mine Go.Proofs.Ytafmoglaockepaa.Num Go.Proofs.Ytafmoglaockepaa.PG Go.Proofs.YtafmoglaockepaaW.PrintWords Go.Proofs.YtafmoglaockepaaW.PrintLast Go.Proofs.YtafmoglaockepaaW.PrintMore
set_option linter.unusedVariables false
set_option linter.unusedSimpArgs false
set_option maxHeartbeats 4000000
set_option maxRecDepth 100000
structure Args3 (bo : Nat) (q : S40) (Aq : Option Addr) (cq : Nat) (p : RepD) (Ap : Option Addr) (cp : Nat) (s : StD) (Asl : Option Addr) (csl : Nat) (Ash : Option Addr) (csh : Nat) (Asd : Option Addr) (csd : Nat) (W w : World) : Prop where
  rq : Rt 40 bo [.string q.f0, .int .i64 q.f1, .slice Aq q.f2.length cq, .string q.f3, .int .i64 q.f4, .int .i64 q.f5] w
  rp : Rt 25 (bo + 1) [.string p.id, .int .i64 p.er, .int .i64 p.line, .slice Ap p.levs.length cp, .int .i64 p.now] w
  rs : Rt 58 (bo + 1 + 1) [.int .i64 s.f0, .int .i64 s.f1, .int .i64 s.f2, .slice Asl s.f3.length csl, .slice Ash s.f4.length csh, .slice Asd s.f5.length csd] w
  b : Below bo W w
  h0 : bo = W.heap.size
theorem Args3.below {bo : Nat} {q : S40} {Aq : Option Addr} {cq : Nat} {p : RepD} {Ap : Option Addr} {cp : Nat} {s : StD} {Asl : Option Addr} {csl : Nat} {Ash : Option Addr} {csh : Nat} {Asd : Option Addr} {csd : Nat} {W w w' : World} (h : Args3 bo q Aq cq p Ap cp s Asl csl Ash csh Asd csd W w) (hb : Below w.heap.size w w') : Args3 bo q Aq cq p Ap cp s Asl csl Ash csh Asd csd W w' :=
  ⟨h.rq.below hb, h.rp.below hb, h.rs.below hb, h.b.trans (hb.mono (Nat.le_of_lt h.rq.lt)), h.h0⟩
theorem Args3.size {bo : Nat} {q : S40} {Aq : Option Addr} {cq : Nat} {p : RepD} {Ap : Option Addr} {cp : Nat} {s : StD} {Asl : Option Addr} {csl : Nat} {Ash : Option Addr} {csh : Nat} {Asd : Option Addr} {csd : Nat} {W w : World} (h : Args3 bo q Aq cq p Ap cp s Asl csl Ash csh Asd csd W w) : bo + 1 + 1 < w.heap.size := h.rs.lt
structure Given3 (q : S40) (Aq : Option Addr) (cq : Nat) (p : RepD) (Ap : Option Addr) (cp : Nat) (s : StD) (Asl : Option Addr) (csl : Nat) (Ash : Option Addr) (csh : Nat) (Asd : Option Addr) (csd : Nat) (W : World) : Prop where
  cq : Kd.C k110 W Aq q.f2.length q.f2 ∧ q.f2.length ≤ cq
  cp : Kd.C k28 W Ap p.levs.length p.levs ∧ p.levs.length ≤ cp
  cl : Kd.C k28 W Asl s.f3.length s.f3 ∧ s.f3.length ≤ csl
  ch : Kd.C k121 W Ash s.f4.length s.f4 ∧ s.f4.length ≤ csh
  cd : Kd.C k123 W Asd s.f5.length s.f5 ∧ s.f5.length ≤ csd
  okq : ReqOk q
  okp : Int64 p.er ∧ Int64 p.line ∧ Int64 p.now ∧ LevOk p.levs
  oks : Int64 s.f0 ∧ Int64 s.f1 ∧ Int64 s.f2 ∧ LevOk s.f3 ∧ HeldsOk s.f4 ∧ DonesOk s.f5
  sz : sumQ q ≤ 1048576 ∧ p.id.size + sumL p.levs ≤ 1048576 ∧ sumS s ≤ 1048576
theorem Given3.below {q : S40} {Aq : Option Addr} {cq : Nat} {p : RepD} {Ap : Option Addr} {cp : Nat} {s : StD} {Asl : Option Addr} {csl : Nat} {Ash : Option Addr} {csh : Nat} {Asd : Option Addr} {csd : Nat} {W W' : World} (h : Given3 q Aq cq p Ap cp s Asl csl Ash csh Asd csd W) (hb : Below W.heap.size W W') : Given3 q Aq cq p Ap cp s Asl csl Ash csh Asd csd W' :=
  { h with cq := ⟨Kd.C_below h.cq.1 hb, h.cq.2⟩, cp := ⟨Kd.C_below h.cp.1 hb, h.cp.2⟩, cl := ⟨Kd.C_below h.cl.1 hb, h.cl.2⟩, ch := ⟨Kd.C_below h.ch.1 hb, h.ch.2⟩, cd := ⟨Kd.C_below h.cd.1 hb, h.cd.2⟩ }
theorem Given3.lens {q : S40} {Aq : Option Addr} {cq : Nat} {p : RepD} {Ap : Option Addr} {cp : Nat} {s : StD} {Asl : Option Addr} {csl : Nat} {Ash : Option Addr} {csh : Nat} {Asd : Option Addr} {csd : Nat} {W : World} (h : Given3 q Aq cq p Ap cp s Asl csl Ash csh Asd csd W) : q.f2.length ≤ 1048576 ∧ p.levs.length ≤ 1048576 ∧ s.f3.length ≤ 1048576 ∧ s.f4.length ≤ 1048576 ∧ s.f5.length ≤ 1048576 := by
  obtain ⟨h1, h2, h3⟩ := h.sz
  have g0 := sumN_count q.f2
  have g1 := sumL_count p.levs
  have g3 := sumL_count s.f3
  have g4 := sumHs_count s.f4
  have g5 := sumDs_count s.f5
  have hq : sumS s = sumL s.f3 + sumHs s.f4 + sumDs s.f5 := rfl
  have hq2 : sumQ q = q.f0.size + q.f3.size + sumN q.f2 := rfl
  refine ⟨by omega, by omega, by omega, by omega, by omega⟩
theorem boxed3 (q : S40) (Aq : Option Addr) (cq : Nat) (p : RepD) (Ap : Option Addr) (cp : Nat) (s : StD) (Asl : Option Addr) (csl : Nat) (Ash : Option Addr) (csh : Nat) (Asd : Option Addr) (csd : Nat) (W : World) : Args3 W.heap.size q Aq cq p Ap cp s Asl csl Ash csh Asd csd W (((W.alloc (.cells #[.string q.f0, .int .i64 q.f1, .slice Aq q.f2.length cq, .string q.f3, .int .i64 q.f4, .int .i64 q.f5] 40)).alloc (.cells #[.string p.id, .int .i64 p.er, .int .i64 p.line, .slice Ap p.levs.length cp, .int .i64 p.now] 25)).alloc (.cells #[.int .i64 s.f0, .int .i64 s.f1, .int .i64 s.f2, .slice Asl s.f3.length csl, .slice Ash s.f4.length csh, .slice Asd s.f5.length csd] 58)) := by
  have s1 : (W.alloc (.cells #[.string q.f0, .int .i64 q.f1, .slice Aq q.f2.length cq, .string q.f3, .int .i64 q.f4, .int .i64 q.f5] 40)).heap.size = W.heap.size + 1 := Array.size_push ..
  have b1 : Below W.heap.size W (W.alloc (.cells #[.string q.f0, .int .i64 q.f1, .slice Aq q.f2.length cq, .string q.f3, .int .i64 q.f4, .int .i64 q.f5] 40)) := below_alloc (Below.refl _ _) _
  have r1 : Rt 40 W.heap.size [.string q.f0, .int .i64 q.f1, .slice Aq q.f2.length cq, .string q.f3, .int .i64 q.f4, .int .i64 q.f5] (W.alloc (.cells #[.string q.f0, .int .i64 q.f1, .slice Aq q.f2.length cq, .string q.f3, .int .i64 q.f4, .int .i64 q.f5] 40)) := heap_alloc_new W _
  generalize W.alloc (.cells #[.string q.f0, .int .i64 q.f1, .slice Aq q.f2.length cq, .string q.f3, .int .i64 q.f4, .int .i64 q.f5] 40) = w1 at *
  have s2 : (w1.alloc (.cells #[.string p.id, .int .i64 p.er, .int .i64 p.line, .slice Ap p.levs.length cp, .int .i64 p.now] 25)).heap.size = w1.heap.size + 1 := Array.size_push ..
  have b2 : Below w1.heap.size w1 (w1.alloc (.cells #[.string p.id, .int .i64 p.er, .int .i64 p.line, .slice Ap p.levs.length cp, .int .i64 p.now] 25)) := below_alloc (Below.refl _ _) _
  have r2 : Rt 25 w1.heap.size [.string p.id, .int .i64 p.er, .int .i64 p.line, .slice Ap p.levs.length cp, .int .i64 p.now] (w1.alloc (.cells #[.string p.id, .int .i64 p.er, .int .i64 p.line, .slice Ap p.levs.length cp, .int .i64 p.now] 25)) := heap_alloc_new w1 _
  have r12 := r1.below b2
  have b12 := b1.trans (b2.mono (by omega))
  rw [s1] at r2
  generalize w1.alloc (.cells #[.string p.id, .int .i64 p.er, .int .i64 p.line, .slice Ap p.levs.length cp, .int .i64 p.now] 25) = w2 at *
  have b3 : Below w2.heap.size w2 (w2.alloc (.cells #[.int .i64 s.f0, .int .i64 s.f1, .int .i64 s.f2, .slice Asl s.f3.length csl, .slice Ash s.f4.length csh, .slice Asd s.f5.length csd] 58)) := below_alloc (Below.refl _ _) _
  have r3 : Rt 58 w2.heap.size [.int .i64 s.f0, .int .i64 s.f1, .int .i64 s.f2, .slice Asl s.f3.length csl, .slice Ash s.f4.length csh, .slice Asd s.f5.length csd] (w2.alloc (.cells #[.int .i64 s.f0, .int .i64 s.f1, .int .i64 s.f2, .slice Asl s.f3.length csl, .slice Ash s.f4.length csh, .slice Asd s.f5.length csd] 58)) := heap_alloc_new w2 _
  rw [s2, s1] at r3
  exact ⟨r12.below b3, r2.below b3, r3, b12.trans (b3.mono (by omega)), rfl⟩
end Go.Proofs.Ytafmoglaockepaa.Cd
end
section
namespace Go.Proofs.Ytafmoglaockepaa.Cd
open Go Go.RowKit Go.Proofs.Ytafmoglaockepaa.Mine Go.Proofs.Ytafmoglaockepaa.Num Go.Proofs.Ytafmoglaockepaa.PG Go.Proofs.YtafmoglaockepaaW.PrintWords Go.Proofs.YtafmoglaockepaaW.PrintLast Go.Proofs.YtafmoglaockepaaW.PrintMore
set_option linter.unusedVariables false
set_option linter.unusedSimpArgs false
set_option maxHeartbeats 4000000
set_option maxRecDepth 100000
theorem sameRecord_ok (x : RecD) (hl : x.f1.f2.length ≤ 9223372036854775807) (k : Nat) (hk : x.f1.f2.length + 1 ≤ k) : larderref09_SameRecord.f k x.f0 x.f1.f0 x.f1.f1 x.f1.f2 x.f1.f3 x.f1.f4 x.f1.f5 x.f0 x.f1.f0 x.f1.f1 x.f1.f2 x.f1.f3 x.f1.f4 x.f1.f5 = some true := by
  unfold larderref09_SameRecord.f
  rw [if_pos rfl, sameRequest_ok x.f1 hl k hk]
  rfl
end Go.Proofs.Ytafmoglaockepaa.Cd
end
section
namespace Go.Proofs.Ytafmoglaockepaa.Cd
open Go Go.RowKit Go.Proofs.Ytafmoglaockepaa.Mine Go.Proofs.Ytafmoglaockepaa.Num Go.Proofs.Ytafmoglaockepaa.PG Go.Proofs.YtafmoglaockepaaW.PrintWords Go.Proofs.YtafmoglaockepaaW.PrintLast Go.Proofs.YtafmoglaockepaaW.PrintMore
set_option linter.unusedVariables false
set_option linter.unusedSimpArgs false
set_option maxHeartbeats 4000000
set_option maxRecDepth 100000
theorem back_walk (q : S40) (Aq : Option Addr) (cq : Nat) (p : RepD) (Ap : Option Addr) (cp : Nat) (s : StD) (Asl : Option Addr) (csl : Nat) (Ash : Option Addr) (csh : Nat) (Asd : Option Addr) (csd : Nat) (lsn : Int) (hlsn : Int64 lsn) (W : World) (hg : Given3 q Aq cq p Ap cp s Asl csl Ash csh Asd csd W) :
    Calls Try.prog 8 #[.agg #[.string q.f0, .int .i64 q.f1, .slice Aq q.f2.length cq, .string q.f3, .int .i64 q.f4, .int .i64 q.f5], .agg #[.string p.id, .int .i64 p.er, .int .i64 p.line, .slice Ap p.levs.length cp, .int .i64 p.now], .int .i64 lsn, .agg #[.int .i64 s.f0, .int .i64 s.f1, .int .i64 s.f2, .slice Asl s.f3.length csl, .slice Ash s.f4.length csh, .slice Asd s.f5.length csd]] W fun e w' => e = .returned (.bool true) ∧ Below W.heap.size W w' := by
  have HG := Aside0.mk hg
  have HLSN := Aside0.mk hlsn
  have hbox := boxed3 q Aq cq p Ap cp s Asl csl Ash csh Asd csd W
  clear hg hlsn
  go_enter Try.func8, Try.ntmps8
  go_upto_region 1 with fail
  obtain ⟨bo, hbo⟩ : ∃ b, W.heap.size = b := ⟨_, rfl⟩
  have HBO := Aside0.mk hbo
  rw [hbo] at hbox ⊢
  have M1 := Aside0.mk hbox
  clear hbox hbo
  generalize ((W.alloc (.cells #[.string q.f0, .int .i64 q.f1, .slice Aq q.f2.length cq, .string q.f3, .int .i64 q.f4, .int .i64 q.f5] 40)).alloc (.cells #[.string p.id, .int .i64 p.er, .int .i64 p.line, .slice Ap p.levs.length cp, .int .i64 p.now] 25)).alloc (.cells #[.int .i64 s.f0, .int .i64 s.f1, .int .i64 s.f2, .slice Asl s.f3.length csl, .slice Ash s.f4.length csh, .slice Asd s.f5.length csd] 58) = w1 at *
  have HM := Aside0.mk (fun w (hb : Below w1.heap.size w1 w) => M1.out.below hb)
  have HF0 := Aside0.mk (fun w (_ : Below w1.heap.size w1 w) => works_at w)
  have HF4 := Aside0.mk (fun w (hb : Below w1.heap.size w1 w) => larderlaw09_weight.calls (q.f2.length + 1) q.f0 q.f1 Aq cq q.f2 q.f3 q.f4 q.f5 (sumQ q) w (HG.out.below (by have hm := M1.out.below hb; rw [← hm.h0]; exact hm.b)).cq.1 (HG.out.below (by have hm := M1.out.below hb; rw [← hm.h0]; exact hm.b)).cq.2 (weight_ok q (by have := HG.out.sz; omega) _ (Nat.le_refl _)))
  have hsz := HG.out.sz
  obtain ⟨kb, hkb⟩ := bulk_ok s (by omega)
  have HF9 := Aside0.mk (fun w (hb : Below w1.heap.size w1 w) => larderlaw09_bulk.calls kb s.f0 s.f1 s.f2 Asl csl s.f3 Ash csh s.f4 Asd csd s.f5 (sumS s) w (HG.out.below (by have hm := M1.out.below hb; rw [← hm.h0]; exact hm.b)).cl.1 (HG.out.below (by have hm := M1.out.below hb; rw [← hm.h0]; exact hm.b)).cl.2 (HG.out.below (by have hm := M1.out.below hb; rw [← hm.h0]; exact hm.b)).ch.1 (HG.out.below (by have hm := M1.out.below hb; rw [← hm.h0]; exact hm.b)).ch.2 (HG.out.below (by have hm := M1.out.below hb; rw [← hm.h0]; exact hm.b)).cd.1 (HG.out.below (by have hm := M1.out.below hb; rw [← hm.h0]; exact hm.b)).cd.2 hkb)
  clear hkb
  obtain ⟨kb2, hkb⟩ := bulk_ok ⟨0, 0, 0, p.levs, [], []⟩ (by show sumL p.levs + 0 + 0 < _; omega)
  have HF16 := Aside0.mk (fun w (hb : Below w1.heap.size w1 w) => larderlaw09_bulk.calls kb2 0 0 0 Ap cp p.levs none 0 [] none 0 [] (sumL p.levs) w (HG.out.below (by have hm := M1.out.below hb; rw [← hm.h0]; exact hm.b)).cp.1 (HG.out.below (by have hm := M1.out.below hb; rw [← hm.h0]; exact hm.b)).cp.2 ⟨rfl, by decide, fun h => absurd h (by decide)⟩ (Nat.le_refl _) ⟨rfl, by decide, fun h => absurd h (by decide)⟩ (Nat.le_refl _) hkb)
  obtain ⟨s1, hs1⟩ : ∃ s1, sumQ q = s1 := ⟨_, rfl⟩
  obtain ⟨s2, hs2⟩ : ∃ s2, sumS s = s2 := ⟨_, rfl⟩
  obtain ⟨s3, hs3⟩ : ∃ s3, sumL p.levs = s3 := ⟨_, rfl⟩
  rw [hs1] at HF4
  rw [hs2] at HF9
  rw [hs3] at HF16
  rw [hs1, hs2, hs3] at hsz
  obtain ⟨z1, z2, z3⟩ := hsz
  have g1 : decide ((1048576 : Int) < ((s1 : Nat) : Int)) = false := decide_eq_false (by omega)
  have g2 : decide (1048576 < s1) = false := decide_eq_false (by omega)
  have g3 : decide ((1048576 : Int) < ((s2 : Nat) : Int)) = false := decide_eq_false (by omega)
  have g4 : decide (1048576 < s2) = false := decide_eq_false (by omega)
  have g5 : IntKind.i64.wrap (((s3 : Nat) : Int) + (p.id.size : Int)) = ((s3 + p.id.size : Nat) : Int) := by rw [IntWalk.i64_in _ (by omega)]; omega
  have g6 : decide ((1048576 : Int) < ((s3 + p.id.size : Nat) : Int)) = false := decide_eq_false (by omega)
  have g7 : decide (1048576 < s3 + p.id.size) = false := decide_eq_false (by omega)
  have g8 : decide ((1048576 : Int) < ((s3 : Nat) : Int) + (p.id.size : Int)) = false := decide_eq_false (by omega)
  clear hs1 hs2 hs3 z1 z2 z3 hkb
  have MKS := Aside0.mk (show ∀ w', Below w1.heap.size w1 w' → (fun w' : World => w'.cell? ⟨bo, 0, none⟩ = some (.string q.f0) ∧ w'.cell? ⟨bo, 1, none⟩ = some (.int .i64 q.f1) ∧ w'.cell? ⟨bo, 2, none⟩ = some (.slice Aq q.f2.length cq) ∧ w'.cell? ⟨bo, 3, none⟩ = some (.string q.f3) ∧ w'.cell? ⟨bo, 4, none⟩ = some (.int .i64 q.f4) ∧ w'.cell? ⟨bo, 5, none⟩ = some (.int .i64 q.f5) ∧ w'.cell? ⟨bo + 1 + 1, 0, none⟩ = some (.int .i64 s.f0) ∧ w'.cell? ⟨bo + 1 + 1, 1, none⟩ = some (.int .i64 s.f1) ∧ w'.cell? ⟨bo + 1 + 1, 2, none⟩ = some (.int .i64 s.f2) ∧ w'.cell? ⟨bo + 1 + 1, 3, none⟩ = some (.slice Asl s.f3.length csl) ∧ w'.cell? ⟨bo + 1 + 1, 4, none⟩ = some (.slice Ash s.f4.length csh) ∧ w'.cell? ⟨bo + 1 + 1, 5, none⟩ = some (.slice Asd s.f5.length csd) ∧ w'.cell? ⟨bo + 1, 0, none⟩ = some (.string p.id) ∧ w'.cell? ⟨bo + 1, 3, none⟩ = some (.slice Ap p.levs.length cp)) w' from fun w' hb => ⟨(HM.out _ hb).rq.cell 0 _ rfl, (HM.out _ hb).rq.cell 1 _ rfl, (HM.out _ hb).rq.cell 2 _ rfl, (HM.out _ hb).rq.cell 3 _ rfl, (HM.out _ hb).rq.cell 4 _ rfl, (HM.out _ hb).rq.cell 5 _ rfl, (HM.out _ hb).rs.cell 0 _ rfl, (HM.out _ hb).rs.cell 1 _ rfl, (HM.out _ hb).rs.cell 2 _ rfl, (HM.out _ hb).rs.cell 3 _ rfl, (HM.out _ hb).rs.cell 4 _ rfl, (HM.out _ hb).rs.cell 5 _ rfl, (HM.out _ hb).rp.cell 0 _ rfl, (HM.out _ hb).rp.cell 3 _ rfl⟩)
  refine wp_region_held_drew (S := fun w' : World => w'.cell? ⟨bo, 0, none⟩ = some (.string q.f0) ∧ w'.cell? ⟨bo, 1, none⟩ = some (.int .i64 q.f1) ∧ w'.cell? ⟨bo, 2, none⟩ = some (.slice Aq q.f2.length cq) ∧ w'.cell? ⟨bo, 3, none⟩ = some (.string q.f3) ∧ w'.cell? ⟨bo, 4, none⟩ = some (.int .i64 q.f4) ∧ w'.cell? ⟨bo, 5, none⟩ = some (.int .i64 q.f5) ∧ w'.cell? ⟨bo + 1 + 1, 0, none⟩ = some (.int .i64 s.f0) ∧ w'.cell? ⟨bo + 1 + 1, 1, none⟩ = some (.int .i64 s.f1) ∧ w'.cell? ⟨bo + 1 + 1, 2, none⟩ = some (.int .i64 s.f2) ∧ w'.cell? ⟨bo + 1 + 1, 3, none⟩ = some (.slice Asl s.f3.length csl) ∧ w'.cell? ⟨bo + 1 + 1, 4, none⟩ = some (.slice Ash s.f4.length csh) ∧ w'.cell? ⟨bo + 1 + 1, 5, none⟩ = some (.slice Asd s.f5.length csd) ∧ w'.cell? ⟨bo + 1, 0, none⟩ = some (.string p.id) ∧ w'.cell? ⟨bo + 1, 3, none⟩ = some (.slice Ap p.levs.length cp)) (by kernel_rfl) (MKS.out _ (below_drew (Below.refl _ _))) (fun hHeld => ?_)
  refine wpAnyH_ready (rs := [0]) (by kernel_rfl) (by simp) ?_
  refine AllReadyH.cons (o := { dst := some 18, op := Op.call { callee := Callee.value (Operand.func 39), args := #[], argTypes := #[] }, type := 4, pos := "plain.go:22", after := #[], guard := none }) rfl (fun K hK => ?_) AllReadyH.nil
  go_simp
  go_at_call 39
  refine (HF0.out _ (below_drew (Below.refl _ _))).mono ?_
  rintro e wz0 ⟨rfl, hb⟩
  have HBZ0 := Aside0.mk (show Below w1.heap.size w1 wz0 from (below_drew (Below.refl _ _)).trans (hb.mono (Below.size (B := w1.heap.size) (below_drew (Below.refl _ _)))))
  clear hb
  refine hK.out _ _ (MKS.out _ HBZ0.out) (fun hHeld => ?_)
  clear hK K
  (try simp only [Act.put, List.setIfInBounds_toArray, List.set_cons_zero, List.set_cons_succ])
  refine wpAnyH_take (i := 1) (oi := { dst := some 19, op := Op.unOp UnOp.not 4 (Operand.tmp 18), type := 4, pos := "plain.go:22", after := #[{ on := 0, ground := Ground.data }], guard := none }) (v := ?_) rfl (by kernel_rfl) (by kernel_rfl) (by kernel_rfl) (fun _ _ _ h => h) (Or.inl ⟨by rfl, ?_⟩) hHeld ?_
  rotate_left
  · intro w' hS; obtain ⟨hS0, hS1, hS2, hS3, hS4, hS5, hS6, hS7, hS8, hS9, hS10, hS11, hS12, hS13⟩ := hS; go_simp; all_goals (with_reducible rfl)
  (try simp only [Act.put, List.setIfInBounds_toArray, List.set_cons_zero, List.set_cons_succ])
  refine wpAnyH_take (i := 2) (oi := { dst := some 20, op := Op.move (Operand.tmp 19), type := 4, pos := "plain.go:22", after := #[{ on := 1, ground := Ground.data }, { on := 0, ground := Ground.chain }], guard := none }) (v := ?_) rfl (by kernel_rfl) (by kernel_rfl) (by kernel_rfl) (fun _ _ _ h => h) (Or.inl ⟨by rfl, ?_⟩) hHeld ?_
  rotate_left
  · intro w' hS; obtain ⟨hS0, hS1, hS2, hS3, hS4, hS5, hS6, hS7, hS8, hS9, hS10, hS11, hS12, hS13⟩ := hS; go_simp; all_goals (with_reducible rfl)
  (try simp only [Act.put, List.setIfInBounds_toArray, List.set_cons_zero, List.set_cons_succ])
  refine wpAnyH_take (i := 3) (oi := { dst := some 21, op := Op.load 40 (Operand.tmp 4), type := 40, pos := "plain.go:22", after := #[{ on := 2, ground := Ground.guard }], guard := some (2, false) }) (v := ?_) rfl (by kernel_rfl) (by kernel_rfl) (by kernel_rfl) (fun _ _ _ h => h) (Or.inl ⟨by rfl, ?_⟩) hHeld ?_
  rotate_left
  · intro w' hS; obtain ⟨hS0, hS1, hS2, hS3, hS4, hS5, hS6, hS7, hS8, hS9, hS10, hS11, hS12, hS13⟩ := hS; go_simp; all_goals (with_reducible rfl)
  (try simp only [Act.put, List.setIfInBounds_toArray, List.set_cons_zero, List.set_cons_succ])
  refine wpAnyH_ready (rs := [4]) (by kernel_rfl) (by simp) ?_
  refine AllReadyH.cons (o := { dst := some 22, op := Op.call { callee := Callee.value (Operand.func 19), args := #[Operand.tmp 21], argTypes := #[40] }, type := 3, pos := "plain.go:22", after := #[{ on := 3, ground := Ground.data }, { on := 2, ground := Ground.chain }, { on := 2, ground := Ground.guard }], guard := some (2, false) }) rfl (fun K hK => ?_) AllReadyH.nil
  go_simp
  go_at_call 19
  refine (HF4.out _ HBZ0.out).mono ?_
  rintro e wz4 ⟨rfl, hb⟩
  have HBZ4 := Aside0.mk (show Below w1.heap.size w1 wz4 from HBZ0.out.trans (hb.mono (Below.size (B := w1.heap.size) HBZ0.out)))
  clear hb
  refine hK.out _ _ (MKS.out _ HBZ4.out) (fun hHeld => ?_)
  clear hK K
  (try simp only [Act.put, List.setIfInBounds_toArray, List.set_cons_zero, List.set_cons_succ])
  refine wpAnyH_take (i := 5) (oi := { dst := some 23, op := Op.binOp BinOp.gtr 3 (Operand.tmp 22) (Operand.const (Value.int IntKind.i64 1048576)) 3, type := 4, pos := "plain.go:22", after := #[{ on := 4, ground := Ground.data }, { on := 2, ground := Ground.guard }], guard := some (2, false) }) (v := ?_) rfl (by kernel_rfl) (by kernel_rfl) (by kernel_rfl) (fun _ _ _ h => h) (Or.inl ⟨by rfl, ?_⟩) hHeld ?_
  rotate_left
  · intro w' hS; obtain ⟨hS0, hS1, hS2, hS3, hS4, hS5, hS6, hS7, hS8, hS9, hS10, hS11, hS12, hS13⟩ := hS; go_simp; all_goals (with_reducible rfl)
  (try simp only [Act.put, List.setIfInBounds_toArray, List.set_cons_zero, List.set_cons_succ])
  refine wpAnyH_take (i := 6) (oi := { dst := some 24, op := Op.pick (Operand.tmp 20) (Operand.const (Value.bool true)) (Operand.tmp 23), type := 4, pos := "plain.go:22", after := #[{ on := 2, ground := Ground.data }, { on := 5, ground := Ground.data }], guard := none }) (v := ?_) rfl (by kernel_rfl) (by kernel_rfl) (by kernel_rfl) (fun _ _ _ h => h) (Or.inl ⟨by rfl, ?_⟩) hHeld ?_
  rotate_left
  · intro w' hS; obtain ⟨hS0, hS1, hS2, hS3, hS4, hS5, hS6, hS7, hS8, hS9, hS10, hS11, hS12, hS13⟩ := hS; go_simp; all_goals (with_reducible rfl)
  (try simp only [Act.put, List.setIfInBounds_toArray, List.set_cons_zero, List.set_cons_succ])
  refine wpAnyH_take (i := 7) (oi := { dst := some 25, op := Op.move (Operand.tmp 24), type := 4, pos := "plain.go:22", after := #[{ on := 6, ground := Ground.data }, { on := 4, ground := Ground.chain }], guard := none }) (v := ?_) rfl (by kernel_rfl) (by kernel_rfl) (by kernel_rfl) (fun _ _ _ h => h) (Or.inl ⟨by rfl, ?_⟩) hHeld ?_
  rotate_left
  · intro w' hS; obtain ⟨hS0, hS1, hS2, hS3, hS4, hS5, hS6, hS7, hS8, hS9, hS10, hS11, hS12, hS13⟩ := hS; go_simp; all_goals (with_reducible rfl)
  (try simp only [Act.put, List.setIfInBounds_toArray, List.set_cons_zero, List.set_cons_succ])
  refine wpAnyH_take (i := 8) (oi := { dst := some 26, op := Op.load 58 (Operand.tmp 7), type := 58, pos := "plain.go:22", after := #[{ on := 7, ground := Ground.guard }], guard := some (7, false) }) (v := ?_) rfl (by kernel_rfl) (by kernel_rfl) (by kernel_rfl) (fun _ _ _ h => h) (Or.inl ⟨by rfl, ?_⟩) hHeld ?_
  rotate_left
  · intro w' hS; obtain ⟨hS0, hS1, hS2, hS3, hS4, hS5, hS6, hS7, hS8, hS9, hS10, hS11, hS12, hS13⟩ := hS; go_simp; all_goals (with_reducible rfl)
  (try simp only [Act.put, List.setIfInBounds_toArray, List.set_cons_zero, List.set_cons_succ])
  refine wpAnyH_ready (rs := [9]) (by kernel_rfl) (by simp) ?_
  refine AllReadyH.cons (o := { dst := some 27, op := Op.call { callee := Callee.value (Operand.func 32), args := #[Operand.tmp 26], argTypes := #[58] }, type := 3, pos := "plain.go:22", after := #[{ on := 8, ground := Ground.data }, { on := 7, ground := Ground.chain }, { on := 7, ground := Ground.guard }], guard := some (7, false) }) rfl (fun K hK => ?_) AllReadyH.nil
  go_simp
  go_at_call 32
  refine (HF9.out _ HBZ4.out).mono ?_
  rintro e wz9 ⟨rfl, hb⟩
  have HBZ9 := Aside0.mk (show Below w1.heap.size w1 wz9 from HBZ4.out.trans (hb.mono (Below.size (B := w1.heap.size) HBZ4.out)))
  clear hb
  refine hK.out _ _ (MKS.out _ HBZ9.out) (fun hHeld => ?_)
  clear hK K
  (try simp only [Act.put, List.setIfInBounds_toArray, List.set_cons_zero, List.set_cons_succ])
  refine wpAnyH_take (i := 10) (oi := { dst := some 28, op := Op.binOp BinOp.gtr 3 (Operand.tmp 27) (Operand.const (Value.int IntKind.i64 1048576)) 3, type := 4, pos := "plain.go:22", after := #[{ on := 9, ground := Ground.data }, { on := 7, ground := Ground.guard }], guard := some (7, false) }) (v := ?_) rfl (by kernel_rfl) (by kernel_rfl) (by kernel_rfl) (fun _ _ _ h => h) (Or.inl ⟨by rfl, ?_⟩) hHeld ?_
  rotate_left
  · intro w' hS; obtain ⟨hS0, hS1, hS2, hS3, hS4, hS5, hS6, hS7, hS8, hS9, hS10, hS11, hS12, hS13⟩ := hS; go_simp; all_goals (with_reducible rfl)
  (try simp only [Act.put, List.setIfInBounds_toArray, List.set_cons_zero, List.set_cons_succ])
  refine wpAnyH_take (i := 11) (oi := { dst := some 29, op := Op.pick (Operand.tmp 25) (Operand.const (Value.bool true)) (Operand.tmp 28), type := 4, pos := "plain.go:22", after := #[{ on := 7, ground := Ground.data }, { on := 10, ground := Ground.data }], guard := none }) (v := ?_) rfl (by kernel_rfl) (by kernel_rfl) (by kernel_rfl) (fun _ _ _ h => h) (Or.inl ⟨by rfl, ?_⟩) hHeld ?_
  rotate_left
  · intro w' hS; obtain ⟨hS0, hS1, hS2, hS3, hS4, hS5, hS6, hS7, hS8, hS9, hS10, hS11, hS12, hS13⟩ := hS; go_simp; all_goals (with_reducible rfl)
  (try simp only [Act.put, List.setIfInBounds_toArray, List.set_cons_zero, List.set_cons_succ])
  refine wpAnyH_take (i := 12) (oi := { dst := some 30, op := Op.move (Operand.tmp 29), type := 4, pos := "plain.go:22", after := #[{ on := 11, ground := Ground.data }, { on := 9, ground := Ground.chain }], guard := none }) (v := ?_) rfl (by kernel_rfl) (by kernel_rfl) (by kernel_rfl) (fun _ _ _ h => h) (Or.inl ⟨by rfl, ?_⟩) hHeld ?_
  rotate_left
  · intro w' hS; obtain ⟨hS0, hS1, hS2, hS3, hS4, hS5, hS6, hS7, hS8, hS9, hS10, hS11, hS12, hS13⟩ := hS; go_simp; all_goals (with_reducible rfl)
  (try simp only [Act.put, List.setIfInBounds_toArray, List.set_cons_zero, List.set_cons_succ])
  refine wpAnyH_take (i := 13) (oi := { dst := some 31, op := Op.fieldAddr 25 (Operand.tmp 5) 3, type := 0, pos := "plain.go:22", after := #[{ on := 12, ground := Ground.guard }], guard := some (12, false) }) (v := ?_) rfl (by kernel_rfl) (by kernel_rfl) (by kernel_rfl) (fun _ _ _ h => h) (Or.inl ⟨by rfl, ?_⟩) hHeld ?_
  rotate_left
  · intro w' hS; obtain ⟨hS0, hS1, hS2, hS3, hS4, hS5, hS6, hS7, hS8, hS9, hS10, hS11, hS12, hS13⟩ := hS; go_simp; all_goals (with_reducible rfl)
  (try simp only [Act.put, List.setIfInBounds_toArray, List.set_cons_zero, List.set_cons_succ])
  refine wpAnyH_take (i := 14) (oi := { dst := some 32, op := Op.load 23 (Operand.tmp 31), type := 23, pos := "plain.go:22", after := #[{ on := 13, ground := Ground.data }, { on := 12, ground := Ground.guard }], guard := some (12, false) }) (v := ?_) rfl (by kernel_rfl) (by kernel_rfl) (by kernel_rfl) (fun _ _ _ h => h) (Or.inl ⟨by rfl, ?_⟩) hHeld ?_
  rotate_left
  · intro w' hS; obtain ⟨hS0, hS1, hS2, hS3, hS4, hS5, hS6, hS7, hS8, hS9, hS10, hS11, hS12, hS13⟩ := hS; go_simp; all_goals (with_reducible rfl)
  (try simp only [Act.put, List.setIfInBounds_toArray, List.set_cons_zero, List.set_cons_succ])
  refine wpAnyH_take (i := 15) (oi := { dst := some 33, op := Op.build 58 #[(3, Operand.tmp 32)], type := 58, pos := "plain.go:22", after := #[{ on := 14, ground := Ground.data }, { on := 12, ground := Ground.guard }], guard := some (12, false) }) (v := ?_) rfl (by kernel_rfl) (by kernel_rfl) (by kernel_rfl) (fun _ _ _ h => h) (Or.inl ⟨by rfl, ?_⟩) hHeld ?_
  rotate_left
  · intro w' hS; obtain ⟨hS0, hS1, hS2, hS3, hS4, hS5, hS6, hS7, hS8, hS9, hS10, hS11, hS12, hS13⟩ := hS; go_simp; all_goals (with_reducible rfl)
  (try simp only [Act.put, List.setIfInBounds_toArray, List.set_cons_zero, List.set_cons_succ])
  refine wpAnyH_take (i := 17) (oi := { dst := some 35, op := Op.fieldAddr 25 (Operand.tmp 5) 0, type := 0, pos := "plain.go:22", after := #[{ on := 12, ground := Ground.guard }], guard := some (12, false) }) (v := ?_) rfl (by kernel_rfl) (by kernel_rfl) (by kernel_rfl) (fun _ _ _ h => h) (Or.inl ⟨by rfl, ?_⟩) hHeld ?_
  rotate_left
  · intro w' hS; obtain ⟨hS0, hS1, hS2, hS3, hS4, hS5, hS6, hS7, hS8, hS9, hS10, hS11, hS12, hS13⟩ := hS; go_simp; all_goals (with_reducible rfl)
  (try simp only [Act.put, List.setIfInBounds_toArray, List.set_cons_zero, List.set_cons_succ])
  refine wpAnyH_take (i := 18) (oi := { dst := some 36, op := Op.load 9 (Operand.tmp 35), type := 9, pos := "plain.go:22", after := #[{ on := 17, ground := Ground.data }, { on := 12, ground := Ground.guard }], guard := some (12, false) }) (v := ?_) rfl (by kernel_rfl) (by kernel_rfl) (by kernel_rfl) (fun _ _ _ h => h) (Or.inl ⟨by rfl, ?_⟩) hHeld ?_
  rotate_left
  · intro w' hS; obtain ⟨hS0, hS1, hS2, hS3, hS4, hS5, hS6, hS7, hS8, hS9, hS10, hS11, hS12, hS13⟩ := hS; go_simp; all_goals (with_reducible rfl)
  (try simp only [Act.put, List.setIfInBounds_toArray, List.set_cons_zero, List.set_cons_succ])
  refine wpAnyH_take (i := 19) (oi := { dst := some 37, op := Op.call { callee := Callee.builtin Builtin.len, args := #[Operand.tmp 36], argTypes := #[9] }, type := 3, pos := "plain.go:22", after := #[{ on := 18, ground := Ground.data }, { on := 12, ground := Ground.guard }], guard := some (12, false) }) (v := ?_) rfl (by kernel_rfl) (by kernel_rfl) (by kernel_rfl) (fun _ _ _ h => h) (Or.inl ⟨by rfl, ?_⟩) hHeld ?_
  rotate_left
  · intro w' hS; obtain ⟨hS0, hS1, hS2, hS3, hS4, hS5, hS6, hS7, hS8, hS9, hS10, hS11, hS12, hS13⟩ := hS; go_simp; all_goals (with_reducible rfl)
  (try simp only [Act.put, List.setIfInBounds_toArray, List.set_cons_zero, List.set_cons_succ])
  refine wpAnyH_ready (rs := [16]) (by kernel_rfl) (by simp) ?_
  refine AllReadyH.cons (o := { dst := some 34, op := Op.call { callee := Callee.value (Operand.func 32), args := #[Operand.tmp 33], argTypes := #[58] }, type := 3, pos := "plain.go:22", after := #[{ on := 15, ground := Ground.data }, { on := 12, ground := Ground.chain }, { on := 12, ground := Ground.guard }], guard := some (12, false) }) rfl (fun K hK => ?_) AllReadyH.nil
  go_simp
  go_at_call 32
  refine (HF16.out _ HBZ9.out).mono ?_
  rintro e wz16 ⟨rfl, hb⟩
  have HBZ16 := Aside0.mk (show Below w1.heap.size w1 wz16 from HBZ9.out.trans (hb.mono (Below.size (B := w1.heap.size) HBZ9.out)))
  clear hb
  refine hK.out _ _ (MKS.out _ HBZ16.out) (fun hHeld => ?_)
  clear hK K
  (try simp only [Act.put, List.setIfInBounds_toArray, List.set_cons_zero, List.set_cons_succ])
  refine wpAnyH_take (i := 20) (oi := { dst := some 38, op := Op.binOp BinOp.add 3 (Operand.tmp 34) (Operand.tmp 37) 3, type := 3, pos := "plain.go:22", after := #[{ on := 16, ground := Ground.data }, { on := 19, ground := Ground.data }, { on := 12, ground := Ground.guard }], guard := some (12, false) }) (v := ?_) rfl (by kernel_rfl) (by kernel_rfl) (by kernel_rfl) (fun _ _ _ h => h) (Or.inl ⟨by rfl, ?_⟩) hHeld ?_
  rotate_left
  · intro w' hS; obtain ⟨hS0, hS1, hS2, hS3, hS4, hS5, hS6, hS7, hS8, hS9, hS10, hS11, hS12, hS13⟩ := hS; go_simp; all_goals (with_reducible rfl)
  (try simp only [Act.put, List.setIfInBounds_toArray, List.set_cons_zero, List.set_cons_succ])
  refine wpAnyH_take (i := 21) (oi := { dst := some 39, op := Op.binOp BinOp.gtr 3 (Operand.tmp 38) (Operand.const (Value.int IntKind.i64 1048576)) 3, type := 4, pos := "plain.go:22", after := #[{ on := 20, ground := Ground.data }, { on := 12, ground := Ground.guard }], guard := some (12, false) }) (v := ?_) rfl (by kernel_rfl) (by kernel_rfl) (by kernel_rfl) (fun _ _ _ h => h) (Or.inl ⟨by rfl, ?_⟩) hHeld ?_
  rotate_left
  · intro w' hS; obtain ⟨hS0, hS1, hS2, hS3, hS4, hS5, hS6, hS7, hS8, hS9, hS10, hS11, hS12, hS13⟩ := hS; go_simp; all_goals (with_reducible rfl)
  (try simp only [Act.put, List.setIfInBounds_toArray, List.set_cons_zero, List.set_cons_succ])
  refine wpAnyH_take (i := 22) (oi := { dst := some 40, op := Op.pick (Operand.tmp 30) (Operand.const (Value.bool true)) (Operand.tmp 39), type := 4, pos := "plain.go:22", after := #[{ on := 12, ground := Ground.data }, { on := 21, ground := Ground.data }], guard := none }) (v := ?_) rfl (by kernel_rfl) (by kernel_rfl) (by kernel_rfl) (fun _ _ _ h => h) (Or.inl ⟨by rfl, ?_⟩) hHeld ?_
  rotate_left
  · intro w' hS; obtain ⟨hS0, hS1, hS2, hS3, hS4, hS5, hS6, hS7, hS8, hS9, hS10, hS11, hS12, hS13⟩ := hS; go_simp; all_goals (with_reducible rfl)
  (try simp only [Act.put, List.setIfInBounds_toArray, List.set_cons_zero, List.set_cons_succ])
  refine wpAnyH_done (by kernel_rfl) ?_ _
  (try simp only [Act.put, List.setIfInBounds_toArray, List.set_cons_zero, List.set_cons_succ])
  have M5 := Aside0.mk (HM.out _ HBZ16.out)
  clear HM HF0 HF4 HF9 HF16 MKS HBZ0 HBZ4 HBZ9 HBZ16 M1
  go_upto_region 3 with fail
  clear g1 g2 g3 g4 g5 g6 g7 g8
  obtain ⟨w5, hw5⟩ : ∃ w5, w5 = wz16 := ⟨_, rfl⟩
  subst hw5
  have HPR := Aside0.mk (PutRequest_at q.f0 q.f1 Aq q.f2.length cq q.f2 q.f3 q.f4 q.f5 w5 (HG.out.below (by rw [← M5.out.h0]; exact M5.out.b)).cq.1 (HG.out.below (by rw [← M5.out.h0]; exact M5.out.b)).okq.2.1 (HG.out.below (by rw [← M5.out.h0]; exact M5.out.b)).okq.1 (HG.out.below (by rw [← M5.out.h0]; exact M5.out.b)).okq.2.2.1 (HG.out.below (by rw [← M5.out.h0]; exact M5.out.b)).okq.2.2.2 (by have := (HG.out.below (by rw [← M5.out.h0]; exact M5.out.b)).sz; have := bulkQ_sum q; unfold bulkQ at this; omega))
  rw [show encReq q.f0 q.f1 q.f2 q.f3 q.f4 q.f5 = encQ q from rfl] at HPR
  obtain ⟨P, ec, g1, g2, y, hP, hec, hby, hpl, hg1, hg2, hy, hbk⟩ := back_walk0 (key := 81) (most := 4096) (b := (encQ q)) (fun b => pReq b 4096) zeroD_req (by decide) (by decide) (isBytes_Q q) (back_req q (HG.out.below (by rw [← M5.out.h0]; exact M5.out.b)).okq)
  rw [hP, hec] at HPR
  have HBK := Aside0.mk hbk
  have HBY := Aside0.mk hby
  have HPL := Aside0.mk hpl
  have HGG := Aside0.mk (And.intro hg1 (And.intro hg2 hy))
  clear hP hec hby hpl hg1 hg2 hy hbk
  have o0 := M5.out.rq.cell 0 _ rfl
  have o1 := M5.out.rq.cell 1 _ rfl
  have o2 := M5.out.rq.cell 2 _ rfl
  have o3 := M5.out.rq.cell 3 _ rfl
  have o4 := M5.out.rq.cell 4 _ rfl
  have o5 := M5.out.rq.cell 5 _ rfl
  go_wp2_with fail
  go_at_call 21
  refine HPR.out.mono ?_
  rintro e w6 ⟨v, rfl, hR, hb⟩
  obtain ⟨Ab, cb, rfl, hcb, hBC⟩ := Kd.R_reads hR
  have M6 := Aside0.mk (M5.out.below hb)
  have HRD := Aside0.mk (Request_at Ab P.length cb P w6 hBC hcb HBY.out HPL.out)
  clear hR hb hBC hcb HPR o0 o1 o2 o3 o4 o5
  rw [HGG.out.1, HGG.out.2.1, HGG.out.2.2] at HRD
  go_wp2_with fail
  go_at_call 24
  refine HRD.out.mono ?_
  rintro e w7 ⟨hb, v, rfl, A5, n5, c5, rfl, hR5⟩
  obtain ⟨A5', c5', e5, hc5, hC5⟩ := Kd.R_reads hR5
  injection e5 with e1 e2 e3
  subst e1 e2 e3
  have M7 := Aside0.mk (M6.out.below hb)
  clear hb HRD
  go_upto_region 5 with fail
  have hb7 : Below w7.heap.size w7 (w7.alloc (.cells #[.string y.f0, .int .i64 y.f1, .slice A5 y.f2.length c5, .string y.f3, .int .i64 y.f4, .int .i64 y.f5] 40)) := below_alloc (Below.refl _ _) _
  have r7 : Rt 40 w7.heap.size [.string y.f0, .int .i64 y.f1, .slice A5 y.f2.length c5, .string y.f3, .int .i64 y.f4, .int .i64 y.f5] (w7.alloc (.cells #[.string y.f0, .int .i64 y.f1, .slice A5 y.f2.length c5, .string y.f3, .int .i64 y.f4, .int .i64 y.f5] 40)) := heap_alloc_new w7 _
  obtain ⟨bx8, hbx⟩ : ∃ b, w7.heap.size = b := ⟨_, rfl⟩
  have M8 := Aside0.mk (M7.out.below hb7)
  have KC5 := Aside0.mk (And.intro (Kd.C_below hC5 hb7) hc5)
  rw [hbx] at r7 ⊢
  have X8 := Aside0.mk r7
  clear hb7 r7 hbx hC5 hc5 hR5
  generalize w7.alloc (.cells #[.string y.f0, .int .i64 y.f1, .slice A5 y.f2.length c5, .string y.f3, .int .i64 y.f4, .int .i64 y.f5] 40) = w8 at *
  go_cut [86] from 9 (fun vc wc => vc = .bool false ∧ Aside0 (Args3 bo q Aq cq p Ap cp s Asl csl Ash csh Asd csd W wc))
  case first =>
    rcases HBK.out with ⟨e1, e2, e3, e4, e5, e6⟩ | ⟨e1, e2, e3, e4, e5⟩
    · subst e1 e2 e3 e4
      have HSR := Aside0.mk (larderref09_SameRequest.calls (q.f2.length + 1) q.f0 q.f1 A5 c5 q.f2 q.f3 q.f4 q.f5 q.f0 q.f1 Aq cq q.f2 q.f3 q.f4 q.f5 true w8 KC5.out.1 KC5.out.2 (HG.out.below (by rw [← M8.out.h0]; exact M8.out.b)).cq.1 (HG.out.below (by rw [← M8.out.h0]; exact M8.out.b)).cq.2 (sameRequest_ok q (by have := (HG.out.below (by rw [← M8.out.h0]; exact M8.out.b)).lens; omega) _ (Nat.le_refl _)))
      have HLE := Aside0.mk e6
      have u1 : decide ((4096 : Int) < (P.length : Int)) = false := decide_eq_false (by omega)
      have u2 : decide (4096 < P.length) = false := decide_eq_false (by omega)
      clear e5 e6
      have x0 := X8.out.cell 0 _ rfl
      have x1 := X8.out.cell 1 _ rfl
      have x2 := X8.out.cell 2 _ rfl
      have x3 := X8.out.cell 3 _ rfl
      have x4 := X8.out.cell 4 _ rfl
      have x5 := X8.out.cell 5 _ rfl
      have o0 := M8.out.rq.cell 0 _ rfl
      have o1 := M8.out.rq.cell 1 _ rfl
      have o2 := M8.out.rq.cell 2 _ rfl
      have o3 := M8.out.rq.cell 3 _ rfl
      have o4 := M8.out.rq.cell 4 _ rfl
      have o5 := M8.out.rq.cell 5 _ rfl
      go_wp2_with fail
      go_at_call 26
      refine HSR.out.mono ?_
      rintro e wq ⟨rfl, hb⟩
      have MQ := Aside0.mk (M8.out.below hb)
      clear hb
      go_wp2_with fail
      go_meet
      case rel => exact ⟨rfl, MQ⟩
    · subst e1 e2 e3 e5
      go_wp2_with fail
      go_meet
      case rel => exact ⟨rfl, M8⟩
  case rest =>
    obtain ⟨rfl, M9⟩ := hcut
    obtain ⟨w9, hw9⟩ : ∃ w, w = wc := ⟨_, rfl⟩
    subst hw9
    clear HBK HBY HPL HGG M8
    have HPR := Aside0.mk (PutReply_at p.id p.er p.line p.now Ap p.levs.length cp p.levs w9 (HG.out.below (by rw [← M9.out.h0]; exact M9.out.b)).cp.1 (HG.out.below (by rw [← M9.out.h0]; exact M9.out.b)).okp.2.2.2 (HG.out.below (by rw [← M9.out.h0]; exact M9.out.b)).okp.1 (HG.out.below (by rw [← M9.out.h0]; exact M9.out.b)).okp.2.1 (HG.out.below (by rw [← M9.out.h0]; exact M9.out.b)).okp.2.2.1 (by have := bulkL_sum p.levs; have := (HG.out.below (by rw [← M9.out.h0]; exact M9.out.b)).sz; omega))
    obtain ⟨P, ec, g1, g2, y, hP, hec, hby, hpl, hg1, hg2, hy, hbk⟩ := back_walk0 (key := 82) (most := 4096) (b := (encReply p.id p.er p.line p.levs p.now)) (fun b => pReply b 4096) zeroD (by decide) (by decide) (isBytes_P _ _ _ _ _) (back_reply p (HG.out.below (by rw [← M9.out.h0]; exact M9.out.b)).okp.1 (HG.out.below (by rw [← M9.out.h0]; exact M9.out.b)).okp.2.1 (HG.out.below (by rw [← M9.out.h0]; exact M9.out.b)).okp.2.2.1 (HG.out.below (by rw [← M9.out.h0]; exact M9.out.b)).okp.2.2.2)
    rw [hP, hec] at HPR
    have HBK := Aside0.mk hbk
    have HBY := Aside0.mk hby
    have HPL := Aside0.mk hpl
    have HGG := Aside0.mk (And.intro hg1 (And.intro hg2 hy))
    clear hP hec hby hpl hg1 hg2 hy hbk
    have o0 := M9.out.rp.cell 0 _ rfl
    have o1 := M9.out.rp.cell 1 _ rfl
    have o2 := M9.out.rp.cell 2 _ rfl
    have o3 := M9.out.rp.cell 3 _ rfl
    have o4 := M9.out.rp.cell 4 _ rfl
    go_wp2_with fail
    go_at_call 11
    refine HPR.out.mono ?_
    rintro e w10 ⟨v, rfl, hR, hb⟩
    obtain ⟨Ab, cb, rfl, hcb, hBC⟩ := Kd.R_reads hR
    have M10 := Aside0.mk (M9.out.below hb)
    have HRD := Aside0.mk (Reply_at Ab P.length cb P w10 hBC hcb HBY.out HPL.out)
    clear hR hb hBC hcb HPR o0 o1 o2 o3 o4
    rw [HGG.out.1, HGG.out.2.1, outD_eq, HGG.out.2.2] at HRD
    go_wp2_with fail
    go_at_call 15
    refine HRD.out.mono ?_
    rintro e w11 ⟨hb, v, rfl, A5, n5, c5, rfl, hR5⟩
    obtain ⟨A5', c5', e5, hc5, hC5⟩ := Kd.R_reads hR5
    injection e5 with e1 e2 e3
    subst e1 e2 e3
    have M11 := Aside0.mk (M10.out.below hb)
    clear hb HRD
    go_upto_region 9 with fail
    have hb7 : Below w11.heap.size w11 (w11.alloc (.cells #[.string y.id, .int .i64 y.er, .int .i64 y.line, .slice A5 y.levs.length c5, .int .i64 y.now] 25)) := below_alloc (Below.refl _ _) _
    have r7 : Rt 25 w11.heap.size [.string y.id, .int .i64 y.er, .int .i64 y.line, .slice A5 y.levs.length c5, .int .i64 y.now] (w11.alloc (.cells #[.string y.id, .int .i64 y.er, .int .i64 y.line, .slice A5 y.levs.length c5, .int .i64 y.now] 25)) := heap_alloc_new w11 _
    obtain ⟨bx12, hbx⟩ : ∃ b, w11.heap.size = b := ⟨_, rfl⟩
    have M12 := Aside0.mk (M11.out.below hb7)
    have KC5 := Aside0.mk (And.intro (Kd.C_below hC5 hb7) hc5)
    rw [hbx] at r7 ⊢
    have X12 := Aside0.mk r7
    clear hb7 r7 hbx hC5 hc5 hR5
    generalize w11.alloc (.cells #[.string y.id, .int .i64 y.er, .int .i64 y.line, .slice A5 y.levs.length c5, .int .i64 y.now] 25) = w12 at *
    go_cut [131] from 9 (fun vc wc => vc = .bool false ∧ Aside0 (Args3 bo q Aq cq p Ap cp s Asl csl Ash csh Asd csd W wc))
    case first =>
      rcases HBK.out with ⟨e1, e2, e3, e4, e5, e6⟩ | ⟨e1, e2, e3, e4, e5⟩
      · subst e1 e2 e3 e4
        have HSR := Aside0.mk (larderref09_SameReply.calls (p.levs.length + 1) p.id p.er p.line A5 c5 p.levs p.now p.id p.er p.line Ap cp p.levs p.now true w12 KC5.out.1 KC5.out.2 (HG.out.below (by rw [← M12.out.h0]; exact M12.out.b)).cp.1 (HG.out.below (by rw [← M12.out.h0]; exact M12.out.b)).cp.2 (sameReply_ok p.id p.er p.line p.levs p.now (by have := (HG.out.below (by rw [← M12.out.h0]; exact M12.out.b)).lens; omega)))
        have HLE := Aside0.mk e6
        have u1 : decide ((4096 : Int) < (P.length : Int)) = false := decide_eq_false (by omega)
        have u2 : decide (4096 < P.length) = false := decide_eq_false (by omega)
        clear e5 e6
        have x0 := X12.out.cell 0 _ rfl
        have x1 := X12.out.cell 1 _ rfl
        have x2 := X12.out.cell 2 _ rfl
        have x3 := X12.out.cell 3 _ rfl
        have x4 := X12.out.cell 4 _ rfl
        have o0 := M12.out.rp.cell 0 _ rfl
        have o1 := M12.out.rp.cell 1 _ rfl
        have o2 := M12.out.rp.cell 2 _ rfl
        have o3 := M12.out.rp.cell 3 _ rfl
        have o4 := M12.out.rp.cell 4 _ rfl
        go_wp2_with fail
        go_at_call 17
        refine HSR.out.mono ?_
        rintro e wq ⟨rfl, hb⟩
        have MQ := Aside0.mk (M12.out.below hb)
        clear hb
        go_wp2_with fail
        go_meet
        case rel => exact ⟨rfl, MQ⟩
      · subst e1 e2 e3 e5
        go_wp2_with fail
        go_meet
        case rel => exact ⟨rfl, M12⟩
    case rest =>
      obtain ⟨rfl, M13⟩ := hcut
      obtain ⟨w13, hw13⟩ : ∃ w, w = wc := ⟨_, rfl⟩
      subst hw13
      clear HBK HBY HPL HGG M12
      have o0 := M13.out.rq.cell 0 _ rfl
      have o1 := M13.out.rq.cell 1 _ rfl
      have o2 := M13.out.rq.cell 2 _ rfl
      have o3 := M13.out.rq.cell 3 _ rfl
      have o4 := M13.out.rq.cell 4 _ rfl
      have o5 := M13.out.rq.cell 5 _ rfl
      go_upto_region 12 with fail
      clear o0 o1 o2 o3 o4 o5
      have hb7 : Below w13.heap.size w13 (w13.alloc (.cells #[.int .i64 lsn, .string q.f0, .int .i64 q.f1, .slice Aq q.f2.length cq, .string q.f3, .int .i64 q.f4, .int .i64 q.f5] 49)) := below_alloc (Below.refl _ _) _
      have r7 : Rt 49 w13.heap.size [.int .i64 lsn, .string q.f0, .int .i64 q.f1, .slice Aq q.f2.length cq, .string q.f3, .int .i64 q.f4, .int .i64 q.f5] (w13.alloc (.cells #[.int .i64 lsn, .string q.f0, .int .i64 q.f1, .slice Aq q.f2.length cq, .string q.f3, .int .i64 q.f4, .int .i64 q.f5] 49)) := heap_alloc_new w13 _
      obtain ⟨bc, hbc⟩ : ∃ b, w13.heap.size = b := ⟨_, rfl⟩
      have M14 := Aside0.mk (M13.out.below hb7)
      rw [hbc] at r7 ⊢
      have XC14 := Aside0.mk r7
      clear hb7 r7 hbc
      generalize w13.alloc (.cells #[.int .i64 lsn, .string q.f0, .int .i64 q.f1, .slice Aq q.f2.length cq, .string q.f3, .int .i64 q.f4, .int .i64 q.f5] 49) = w14 at *
      have HPR := Aside0.mk (PutRecord_at ⟨lsn, q⟩ w14 Aq cq (HG.out.below (by rw [← M14.out.h0]; exact M14.out.b)).cq.1 HLSN.out (HG.out.below (by rw [← M14.out.h0]; exact M14.out.b)).okq (by have := bulkQ_sum q; have := (HG.out.below (by rw [← M14.out.h0]; exact M14.out.b)).sz; unfold bulkC; show 20 + bulkQ q + 3000 < _; omega))
      obtain ⟨P, ec, g1, g2, y, hP, hec, hby, hpl, hg1, hg2, hy, hbk⟩ := back_walk0 (key := 83) (most := 4096) (b := (encC ⟨lsn, q⟩)) (fun b => pRec b 4096) zeroD_rec (by decide) (by decide) (isBytes_C _) (back_rec ⟨lsn, q⟩ HLSN.out (HG.out.below (by rw [← M14.out.h0]; exact M14.out.b)).okq)
      rw [hP, hec] at HPR
      have HBK := Aside0.mk hbk
      have HBY := Aside0.mk hby
      have HPL := Aside0.mk hpl
      have HGG := Aside0.mk (And.intro hg1 (And.intro hg2 hy))
      clear hP hec hby hpl hg1 hg2 hy hbk
      have o0 := XC14.out.cell 0 _ rfl
      have o1 := XC14.out.cell 1 _ rfl
      have o2 := XC14.out.cell 2 _ rfl
      have o3 := XC14.out.cell 3 _ rfl
      have o4 := XC14.out.cell 4 _ rfl
      have o5 := XC14.out.cell 5 _ rfl
      have o6 := XC14.out.cell 6 _ rfl
      go_wp2_with fail
      go_at_call 27
      refine HPR.out.mono ?_
      rintro e w15 ⟨v, rfl, hR, hb⟩
      obtain ⟨Ab, cb, rfl, hcb, hBC⟩ := Kd.R_reads hR
      have M15 := Aside0.mk (M14.out.below hb)
      have HRD := Aside0.mk (Record_at Ab P.length cb P w15 hBC hcb HBY.out HPL.out)
      have XC15 := Aside0.mk (XC14.out.below hb)
      clear hR hb hBC hcb HPR o0 o1 o2 o3 o4 o5 o6
      rw [HGG.out.1, HGG.out.2.1, HGG.out.2.2] at HRD
      go_wp2_with fail
      go_at_call 29
      refine HRD.out.mono ?_
      rintro e w16 ⟨hb, v, rfl, A5, n5, c5, rfl, hR5⟩
      obtain ⟨A5', c5', e5, hc5, hC5⟩ := Kd.R_reads hR5
      injection e5 with e1 e2 e3
      subst e1 e2 e3
      have M16 := Aside0.mk (M15.out.below hb)
      have XC16 := Aside0.mk (XC15.out.below hb)
      clear hb HRD
      go_upto_region 14 with fail
      have hb7 : Below w16.heap.size w16 (w16.alloc (.cells #[.int .i64 y.f0, .string y.f1.f0, .int .i64 y.f1.f1, .slice A5 y.f1.f2.length c5, .string y.f1.f3, .int .i64 y.f1.f4, .int .i64 y.f1.f5] 49)) := below_alloc (Below.refl _ _) _
      have r7 : Rt 49 w16.heap.size [.int .i64 y.f0, .string y.f1.f0, .int .i64 y.f1.f1, .slice A5 y.f1.f2.length c5, .string y.f1.f3, .int .i64 y.f1.f4, .int .i64 y.f1.f5] (w16.alloc (.cells #[.int .i64 y.f0, .string y.f1.f0, .int .i64 y.f1.f1, .slice A5 y.f1.f2.length c5, .string y.f1.f3, .int .i64 y.f1.f4, .int .i64 y.f1.f5] 49)) := heap_alloc_new w16 _
      obtain ⟨bx17, hbx⟩ : ∃ b, w16.heap.size = b := ⟨_, rfl⟩
      have M17 := Aside0.mk (M16.out.below hb7)
      have KC5 := Aside0.mk (And.intro (Kd.C_below hC5 hb7) hc5)
      have XC17 := Aside0.mk (XC16.out.below hb7)
      rw [hbx] at r7 ⊢
      have X17 := Aside0.mk r7
      clear hb7 r7 hbx hC5 hc5 hR5
      generalize w16.alloc (.cells #[.int .i64 y.f0, .string y.f1.f0, .int .i64 y.f1.f1, .slice A5 y.f1.f2.length c5, .string y.f1.f3, .int .i64 y.f1.f4, .int .i64 y.f1.f5] 49) = w17 at *
      go_cut [179] from 9 (fun vc wc => vc = .bool false ∧ Aside0 (Args3 bo q Aq cq p Ap cp s Asl csl Ash csh Asd csd W wc))
      case first =>
        rcases HBK.out with ⟨e1, e2, e3, e4, e5, e6⟩ | ⟨e1, e2, e3, e4, e5⟩
        · subst e1 e2 e3 e4
          have HSR := Aside0.mk (larderref09_SameRecord.calls (q.f2.length + 1) lsn q.f0 q.f1 A5 c5 q.f2 q.f3 q.f4 q.f5 lsn q.f0 q.f1 Aq cq q.f2 q.f3 q.f4 q.f5 true w17 KC5.out.1 KC5.out.2 (HG.out.below (by rw [← M17.out.h0]; exact M17.out.b)).cq.1 (HG.out.below (by rw [← M17.out.h0]; exact M17.out.b)).cq.2 (sameRecord_ok ⟨lsn, q⟩ (by have := (HG.out.below (by rw [← M17.out.h0]; exact M17.out.b)).lens; show q.f2.length ≤ _; omega) _ (Nat.le_refl _)))
          have HLE := Aside0.mk e6
          have u1 : decide ((4096 : Int) < (P.length : Int)) = false := decide_eq_false (by omega)
          have u2 : decide (4096 < P.length) = false := decide_eq_false (by omega)
          clear e5 e6
          have x0 := X17.out.cell 0 _ rfl
          have x1 := X17.out.cell 1 _ rfl
          have x2 := X17.out.cell 2 _ rfl
          have x3 := X17.out.cell 3 _ rfl
          have x4 := X17.out.cell 4 _ rfl
          have x5 := X17.out.cell 5 _ rfl
          have x6 := X17.out.cell 6 _ rfl
          have o0 := XC17.out.cell 0 _ rfl
          have o1 := XC17.out.cell 1 _ rfl
          have o2 := XC17.out.cell 2 _ rfl
          have o3 := XC17.out.cell 3 _ rfl
          have o4 := XC17.out.cell 4 _ rfl
          have o5 := XC17.out.cell 5 _ rfl
          have o6 := XC17.out.cell 6 _ rfl
          go_wp2_with fail
          go_at_call 31
          refine HSR.out.mono ?_
          rintro e wq ⟨rfl, hb⟩
          have MQ := Aside0.mk (M17.out.below hb)
          clear hb
          go_wp2_with fail
          go_meet
          case rel => exact ⟨rfl, MQ⟩
        · subst e1 e2 e3 e5
          go_wp2_with fail
          go_meet
          case rel => exact ⟨rfl, M17⟩
      case rest =>
        obtain ⟨rfl, M18⟩ := hcut
        obtain ⟨w18, hw18⟩ : ∃ w, w = wc := ⟨_, rfl⟩
        subst hw18
        clear HBK HBY HPL HGG M17
        have HPR := Aside0.mk (PutState_at s w18 Asl csl (HG.out.below (by rw [← M18.out.h0]; exact M18.out.b)).cl.1 Ash csh (HG.out.below (by rw [← M18.out.h0]; exact M18.out.b)).ch.1 Asd csd (HG.out.below (by rw [← M18.out.h0]; exact M18.out.b)).cd.1 (HG.out.below (by rw [← M18.out.h0]; exact M18.out.b)).oks.1 (HG.out.below (by rw [← M18.out.h0]; exact M18.out.b)).oks.2.1 (HG.out.below (by rw [← M18.out.h0]; exact M18.out.b)).oks.2.2.1 (HG.out.below (by rw [← M18.out.h0]; exact M18.out.b)).oks.2.2.2.1 (HG.out.below (by rw [← M18.out.h0]; exact M18.out.b)).oks.2.2.2.2.1 (HG.out.below (by rw [← M18.out.h0]; exact M18.out.b)).oks.2.2.2.2.2 (by have := bulkS_sum s; have := (HG.out.below (by rw [← M18.out.h0]; exact M18.out.b)).sz; omega))
        obtain ⟨P, ec, g1, g2, y, hP, hec, hby, hpl, hg1, hg2, hy, hbk⟩ := back_walk0 (key := 84) (most := 131072) (b := (encS s)) (fun b => pSt b 131072) zeroD_st (by decide) (by decide) (isBytes_S _) (back_st s (HG.out.below (by rw [← M18.out.h0]; exact M18.out.b)).oks.1 (HG.out.below (by rw [← M18.out.h0]; exact M18.out.b)).oks.2.1 (HG.out.below (by rw [← M18.out.h0]; exact M18.out.b)).oks.2.2.1 (HG.out.below (by rw [← M18.out.h0]; exact M18.out.b)).oks.2.2.2.1 (HG.out.below (by rw [← M18.out.h0]; exact M18.out.b)).oks.2.2.2.2.1 (HG.out.below (by rw [← M18.out.h0]; exact M18.out.b)).oks.2.2.2.2.2)
        rw [hP, hec] at HPR
        have HBK := Aside0.mk hbk
        have HBY := Aside0.mk hby
        have HPL := Aside0.mk hpl
        have HGG := Aside0.mk (And.intro hg1 (And.intro hg2 hy))
        clear hP hec hby hpl hg1 hg2 hy hbk
        have o0 := M18.out.rs.cell 0 _ rfl
        have o1 := M18.out.rs.cell 1 _ rfl
        have o2 := M18.out.rs.cell 2 _ rfl
        have o3 := M18.out.rs.cell 3 _ rfl
        have o4 := M18.out.rs.cell 4 _ rfl
        have o5 := M18.out.rs.cell 5 _ rfl
        go_wp2_with fail
        go_at_call 34
        refine HPR.out.mono ?_
        rintro e w19 ⟨v, rfl, hR, hb⟩
        obtain ⟨Ab, cb, rfl, hcb, hBC⟩ := Kd.R_reads hR
        have M19 := Aside0.mk (M18.out.below hb)
        have HRD := Aside0.mk (State_at Ab P.length cb P w19 hBC hcb HBY.out HPL.out)
        clear hR hb hBC hcb HPR o0 o1 o2 o3 o4 o5
        rw [HGG.out.1, HGG.out.2.1, HGG.out.2.2] at HRD
        go_wp2_with fail
        go_at_call 37
        refine HRD.out.mono ?_
        rintro e w20 ⟨hb, v, rfl, A5l, n5l, c5l, A5h, n5h, c5h, A5d, n5d, c5d, rfl, hR5l, hR5h, hR5d⟩
        obtain ⟨A5l', c5l', e5l, hc5l, hC5l⟩ := Kd.R_reads hR5l
        injection e5l with e1 e2 e3
        subst e1 e2 e3
        obtain ⟨A5h', c5h', e5h, hc5h, hC5h⟩ := Kd.R_reads hR5h
        injection e5h with e1 e2 e3
        subst e1 e2 e3
        obtain ⟨A5d', c5d', e5d, hc5d, hC5d⟩ := Kd.R_reads hR5d
        injection e5d with e1 e2 e3
        subst e1 e2 e3
        have M20 := Aside0.mk (M19.out.below hb)
        clear hb HRD
        go_upto_region 18 with fail
        have hb7 : Below w20.heap.size w20 (w20.alloc (.cells #[.int .i64 y.f0, .int .i64 y.f1, .int .i64 y.f2, .slice A5l y.f3.length c5l, .slice A5h y.f4.length c5h, .slice A5d y.f5.length c5d] 58)) := below_alloc (Below.refl _ _) _
        have r7 : Rt 58 w20.heap.size [.int .i64 y.f0, .int .i64 y.f1, .int .i64 y.f2, .slice A5l y.f3.length c5l, .slice A5h y.f4.length c5h, .slice A5d y.f5.length c5d] (w20.alloc (.cells #[.int .i64 y.f0, .int .i64 y.f1, .int .i64 y.f2, .slice A5l y.f3.length c5l, .slice A5h y.f4.length c5h, .slice A5d y.f5.length c5d] 58)) := heap_alloc_new w20 _
        obtain ⟨bx21, hbx⟩ : ∃ b, w20.heap.size = b := ⟨_, rfl⟩
        have M21 := Aside0.mk (M20.out.below hb7)
        have KC5l := Aside0.mk (And.intro (Kd.C_below hC5l hb7) hc5l)
        have KC5h := Aside0.mk (And.intro (Kd.C_below hC5h hb7) hc5h)
        have KC5d := Aside0.mk (And.intro (Kd.C_below hC5d hb7) hc5d)
        rw [hbx] at r7 ⊢
        have X21 := Aside0.mk r7
        clear hb7 r7 hbx hC5l hc5l hC5h hc5h hC5d hc5d hR5l hR5h hR5d
        generalize w20.alloc (.cells #[.int .i64 y.f0, .int .i64 y.f1, .int .i64 y.f2, .slice A5l y.f3.length c5l, .slice A5h y.f4.length c5h, .slice A5d y.f5.length c5d] 58) = w21 at *
        rcases HBK.out with ⟨e1, e2, e3, e4, e5, e6⟩ | ⟨e1, e2, e3, e4, e5⟩
        · subst e1 e2 e3 e4
          have HSR := Aside0.mk (sameState_at s A5l c5l A5h c5h A5d c5d Asl csl Ash csh Asd csd w21 KC5l.out.1 KC5l.out.2 KC5h.out.1 KC5h.out.2 KC5d.out.1 KC5d.out.2 (HG.out.below (by rw [← M21.out.h0]; exact M21.out.b)).cl.1 (HG.out.below (by rw [← M21.out.h0]; exact M21.out.b)).cl.2 (HG.out.below (by rw [← M21.out.h0]; exact M21.out.b)).ch.1 (HG.out.below (by rw [← M21.out.h0]; exact M21.out.b)).ch.2 (HG.out.below (by rw [← M21.out.h0]; exact M21.out.b)).cd.1 (HG.out.below (by rw [← M21.out.h0]; exact M21.out.b)).cd.2)
          have u1 : decide ((P.length : Int) ≤ (131072 : Int)) = true := decide_eq_true (by omega)
          have u2 : decide (P.length ≤ 131072) = true := decide_eq_true (by omega)
          clear e5 e6
          have x0 := X21.out.cell 0 _ rfl
          have x1 := X21.out.cell 1 _ rfl
          have x2 := X21.out.cell 2 _ rfl
          have x3 := X21.out.cell 3 _ rfl
          have x4 := X21.out.cell 4 _ rfl
          have x5 := X21.out.cell 5 _ rfl
          have o0 := M21.out.rs.cell 0 _ rfl
          have o1 := M21.out.rs.cell 1 _ rfl
          have o2 := M21.out.rs.cell 2 _ rfl
          have o3 := M21.out.rs.cell 3 _ rfl
          have o4 := M21.out.rs.cell 4 _ rfl
          have o5 := M21.out.rs.cell 5 _ rfl
          go_wp2_with fail
          go_at_call 36
          refine HSR.out.mono ?_
          rintro e wq ⟨rfl, hb⟩
          have MQ := Aside0.mk (M21.out.below hb)
          clear hb
          go_wp2_with fail
          go_ret
          rw [HBO.out]
          exact ⟨rfl, MQ.out.b⟩
        · subst e1 e2 e3 e5
          go_wp2_with fail
          go_ret
          rw [HBO.out]
          exact ⟨rfl, M21.out.b⟩
end Go.Proofs.Ytafmoglaockepaa.Cd
end
