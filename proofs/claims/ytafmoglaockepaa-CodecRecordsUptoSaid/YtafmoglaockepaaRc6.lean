/- What the codec writes and reads: texts of this session joined, with what is not needed left out. -/
import Derived.Test.YtafmoglaockepaaRc4
import Derived.Deep.RegionHeld3
import Derived.Deep.RegionLaw
import Derived.Test.YtafmoglaockepaaRc2
import Derived.Test.YtafmoglaockepaaRc5
import Derived.Test.YtafmoglaockepaaRc3
import Derived.Test.YtafmoglaockepaaRows
import Derived.WalkKit
import Derived.ProofKit
import Derived.OpenShut
import Derived.SizedLaws
import Derived.Deep.Slices
import Derived.Deep.Strs
import Derived.ChangeSame
import Derived.Lib.SmallJoins
section
namespace Go.Proofs.Ytafmoglaockepaa.Cd
open Go Go.RowKit Go.Proofs.Ytafmoglaockepaa.Num Go.Proofs.Ytafmoglaockepaa.PG Go.Proofs.YtafmoglaockepaaW.PrintWords Go.Proofs.YtafmoglaockepaaW.PrintLast Go.Proofs.YtafmoglaockepaaW.PrintMore
set_option linter.unusedVariables false
set_option linter.unusedSimpArgs false
set_option maxHeartbeats 4000000
set_option maxRecDepth 100000
theorem read_record (A : Option Addr) (n c : Nat) (xs : List Int) (W : World) (hC : Kd.C (Kd.int .u8) W A n xs) (hnc : n ≤ c) (hb : IsBytes xs) (hbig : n < 1000000000) :
    Calls Try.prog 79 #[.slice A n c, .int .u8 83, .int .i64 4096, .func (.func 80) #[] #[]] W fun e w' => Below W.heap.size W w' ∧ ∃ v, e = .returned (.tuple #[v, .int .i64 (endOf (whole 83 4096 xs (pRec xs 4096))).1, .int .i64 (endOf (whole 83 4096 xs (pRec xs 4096))).2]) ∧ RdOut memRec zero_rec W.heap.size (whole 83 4096 xs (pRec xs 4096)) v w' := by
  have HC := Aside0.mk hC
  have HNC := Aside0.mk hnc
  have HBY := Aside0.mk hb
  have HBIG := Aside0.mk hbig
  have HLEN := Aside0.mk (show xs.length = n from Kd.C_len hC)
  have hmf : ∀ (fn : Fn) (first cap : Array Value) (w : World), (Instr.makeFunc fn first cap).run Try.prog w = .ok (.func fn first cap) w := fun _ _ _ _ => rfl
  clear hC hnc hb hbig
  obtain ⟨bo, hbo⟩ : ∃ bo, W.heap.size = bo := ⟨_, rfl⟩
  have HBO := Aside0.mk hbo
  clear hbo
  go_enter_defers Try.func79, Try.ntmps79
  go_upto_region 3 with fail
  have hb1 : Below W.heap.size W (W.alloc (.cells #[.int .i64 0, .string ⟨#[]⟩, .int .i64 0, .slice none 0 0, .string ⟨#[]⟩, .int .i64 0, .int .i64 0] 49)) := below_alloc (Below.refl _ _) _
  have o1 : Rt 49 W.heap.size zero_rec (W.alloc (.cells #[.int .i64 0, .string ⟨#[]⟩, .int .i64 0, .slice none 0 0, .string ⟨#[]⟩, .int .i64 0, .int .i64 0] 49)) := heap_alloc_new W _
  have s1 : (W.alloc (.cells #[.int .i64 0, .string ⟨#[]⟩, .int .i64 0, .slice none 0 0, .string ⟨#[]⟩, .int .i64 0, .int .i64 0] 49)).heap.size = W.heap.size + 1 := by simp
  generalize W.alloc (.cells #[.int .i64 0, .string ⟨#[]⟩, .int .i64 0, .slice none 0 0, .string ⟨#[]⟩, .int .i64 0, .int .i64 0] 49) = wa at *
  have hb2 : Below wa.heap.size wa (wa.alloc (.cells #[.int .i64 0] 22)) := below_alloc (Below.refl _ _) _
  have e2 : Rt 22 wa.heap.size [.int .i64 0] (wa.alloc (.cells #[.int .i64 0] 22)) := heap_alloc_new wa _
  have o2 := o1.below hb2
  have s2 : (wa.alloc (.cells #[.int .i64 0] 22)).heap.size = wa.heap.size + 1 := by simp
  have hc2 := hb1.trans (hb2.mono hb1.size)
  generalize wa.alloc (.cells #[.int .i64 0] 22) = wb at *
  have hb3 : Below wb.heap.size wb (wb.alloc (.cells #[.int .i64 0] 3)) := below_alloc (Below.refl _ _) _
  have a3 : Rt 3 wb.heap.size [.int .i64 0] (wb.alloc (.cells #[.int .i64 0] 3)) := heap_alloc_new wb _
  have o3 := o2.below hb3
  have e3 := e2.below hb3
  have s3 : (wb.alloc (.cells #[.int .i64 0] 3)).heap.size = wb.heap.size + 1 := by simp
  have hc3 := hc2.trans (hb3.mono hc2.size)
  generalize wb.alloc (.cells #[.int .i64 0] 3) = wc at *
  have hb4 : Below wc.heap.size wc (wc.alloc (.cells #[.slice A n c, .int .i64 0, .int .i64 4096] 158)) := below_alloc (Below.refl _ _) _
  have g4 : Rt 158 wc.heap.size [.slice A n c, .int .i64 0, .int .i64 4096] (wc.alloc (.cells #[.slice A n c, .int .i64 0, .int .i64 4096] 158)) := heap_alloc_new wc _
  have o4 := o3.below hb4
  have e4 := e3.below hb4
  have a4 := a3.below hb4
  have hc4 := hc3.trans (hb4.mono hc3.size)
  have s4 : (wc.alloc (.cells #[.slice A n c, .int .i64 0, .int .i64 4096] 158)).heap.size = wc.heap.size + 1 := by simp
  generalize wc.alloc (.cells #[.slice A n c, .int .i64 0, .int .i64 4096] 158) = w4 at *
  rw [s3, s2, s1] at g4 s4
  rw [s2, s1] at a4
  rw [s1] at e4
  obtain ⟨be, hbe⟩ : ∃ be, W.heap.size + 1 = be := ⟨_, rfl⟩
  rw [hbe] at e4 a4 g4 s4 ⊢
  obtain ⟨ba, hba⟩ : ∃ ba, be + 1 = ba := ⟨_, rfl⟩
  rw [hba] at a4 g4 s4 ⊢
  obtain ⟨g, hg⟩ : ∃ g, ba + 1 = g := ⟨_, rfl⟩
  rw [hg] at g4 s4 ⊢
  rw [HBO.out] at o4 hbe ⊢
  have O4 := Aside0.mk o4
  have E4 := Aside0.mk e4
  have A4 := Aside0.mk a4
  have G4 := Aside0.mk g4
  have B4 := Aside0.mk (show Below bo W w4 by rw [← HBO.out]; exact hc4)
  have HORD := Aside0.mk (show be = bo + 1 ∧ ba = bo + 2 ∧ g = bo + 3 ∧ w4.heap.size = bo + 4 by omega)
  clear hb1 o1 s1 hb2 e2 o2 s2 hc2 hb3 a3 o3 e3 s3 hc3 hb4 o4 e4 a4 hc4 s4 hbe hba hg g4 hmf
  have HFAULT := Aside0.mk (show ∀ (er p : Int) (w : World), Rt 49 bo zero_rec w → Rt 22 be [.int .i64 0] w → Rt 3 ba [.int .i64 0] w → Below bo W w → CallsD Try.prog 124 #[ptr bo, ptr be, ptr ba] (.panicking [{ v := fault er p, recovered := false }]) w fun e u' w' =>
      e = .returned (.tuple #[]) ∧ u' = .panicking [{ v := fault er p, recovered := true }] ∧ Rt 49 bo zero_rec w' ∧ Rt 22 be [.int .i64 er] w' ∧ Rt 3 ba [.int .i64 p] w' ∧ Below bo W w' from fun er p w ho he ha hb => by
    have := HORD.out
    refine (catch_rec er p [] w ho he ha (by omega) (by omega) (by omega)).mono ?_
    rintro e u' w' ⟨h1, h2, h3, h4, h5, _, h6⟩
    exact ⟨h1, h2, h3, h4, h5, hb.trans (h6 bo (by omega) (by omega) (by have := hb.size; have := HBO.out; omega))⟩)
  by_cases hl : 4096 < n
  · have d1 : decide ((4096 : Int) < (n : Int)) = true := decide_eq_true (by omega)
    have d2 : decide (4096 < n) = true := decide_eq_true hl
    have HR := Aside0.mk (show whole 83 4096 xs (pRec xs 4096) = Res.fail 1 0 by
      unfold whole
      rw [HLEN.out, if_pos hl])
    clear hl
    go_wp2_with fail
    refine leaves_cons (f := 124) (args := #[ptr bo, ptr be, ptr ba]) (by simp) (by simp [go_sem]) ?_
    refine (HFAULT.out 1 0 w4 O4.out E4.out A4.out B4.out).mono ?_
    rintro e u' w' ⟨rfl, rfl, ho, he, ha, hb⟩
    have x0 := ho.cell 0 _ rfl
    have x1 := ho.cell 1 _ rfl
    have x2 := ho.cell 2 _ rfl
    have x3 := ho.cell 3 _ rfl
    have x4 := ho.cell 4 _ rfl
    have x5 := ho.cell 5 _ rfl
    have x6 := ho.cell 6 _ rfl
    have y0 := he.cell 0 _ rfl
    have z0 := ha.cell 0 _ rfl
    rw [HR.out]
    simp [Leaves, settle, results, Try.results79, go_sem, x0, x1, x2, x3, x4, x5, x6, x5, x6, y0, z0]
    exact ⟨by rw [HBO.out]; exact hb, _, ⟨rfl, rfl, rfl⟩, rfl⟩
  have d1 : decide ((4096 : Int) < (n : Int)) = false := decide_eq_false (by omega)
  have d2 : decide (4096 < n) = false := decide_eq_false hl
  have HL := Aside0.mk hl
  clear hl
  rcases Nat.eq_zero_or_pos n with hz | hz
  · have HR := Aside0.mk (show whole 83 4096 xs (pRec xs 4096) = Res.fail 3 0 by
      unfold whole
      rw [HLEN.out, if_neg HL.out, if_pos hz])
    have d3 : ((n : Int) == 0) = true := by simpa using hz
    have d4 : decide (n = 0) = true := decide_eq_true hz
    have d5 : (n : Int) = 0 := by omega
    go_wp2_with fail
    refine leaves_cons (f := 124) (args := #[ptr bo, ptr be, ptr ba]) (by simp) (by simp [go_sem]) ?_
    refine (HFAULT.out 3 0 w4 O4.out E4.out A4.out B4.out).mono ?_
    rintro e u' w' ⟨rfl, rfl, ho, he, ha, hb⟩
    have x0 := ho.cell 0 _ rfl
    have x1 := ho.cell 1 _ rfl
    have x2 := ho.cell 2 _ rfl
    have x3 := ho.cell 3 _ rfl
    have x4 := ho.cell 4 _ rfl
    have x5 := ho.cell 5 _ rfl
    have x6 := ho.cell 6 _ rfl
    have y0 := he.cell 0 _ rfl
    have z0 := ha.cell 0 _ rfl
    rw [HR.out]
    simp [Leaves, settle, results, Try.results79, go_sem, x0, x1, x2, x3, x4, x5, x6, x5, x6, y0, z0]
    exact ⟨by rw [HBO.out]; exact hb, _, ⟨rfl, rfl, rfl⟩, rfl⟩
  have d3 : ((n : Int) == 0) = false := by simp; omega
  have d4 : decide (n = 0) = false := decide_eq_false (by omega)
  have HZ := Aside0.mk hz
  have i0 : (0 : Int) < (n : Int) := by omega
  have hCx := Kd.C_below HC.out (show Below W.heap.size W w4 by rw [HBO.out]; exact B4.out)
  obtain ⟨ad, rfl, hcell⟩ := (Kd.reads_of_C (d := (0 : Int)) (h1 := fun _ => rfl) hCx).2.2 hz
  have k0 := hcell 0 hz
  obtain ⟨x, hx⟩ : ∃ x, xs.getD 0 0 = x := ⟨_, rfl⟩
  rw [hx] at k0
  have HX := Aside0.mk (show xs.headD 0 = x by rw [← hx]; cases xs <;> rfl)
  have k1 : w4.cell? ad = some (.int .u8 x) := by
    have e : ad.add 0 = ad := by simp [Addr.add]
    rwa [e] at k0
  clear hz hCx hcell hx
  by_cases hk : x = 83
  rotate_left
  · have HR := Aside0.mk (show whole 83 4096 xs (pRec xs 4096) = Res.fail 90 0 by
      unfold whole
      rw [HLEN.out, if_neg HL.out, if_neg (by have := HZ.out; omega), HX.out, if_pos hk])
    have d5 : (x != 83) = true := by simpa using hk
    have d6 : (x == 83) = false := by simpa using hk
    have d7 : decide (x = 83) = false := decide_eq_false hk
    clear hk
    go_wp2_with fail
    refine leaves_cons (f := 124) (args := #[ptr bo, ptr be, ptr ba]) (by simp) (by simp [go_sem]) ?_
    refine (HFAULT.out 90 0 w4 O4.out E4.out A4.out B4.out).mono ?_
    rintro e u' w' ⟨rfl, rfl, ho, he, ha, hb⟩
    have x0 := ho.cell 0 _ rfl
    have x1 := ho.cell 1 _ rfl
    have x2 := ho.cell 2 _ rfl
    have x3 := ho.cell 3 _ rfl
    have x4 := ho.cell 4 _ rfl
    have x5 := ho.cell 5 _ rfl
    have x6 := ho.cell 6 _ rfl
    have y0 := he.cell 0 _ rfl
    have z0 := ha.cell 0 _ rfl
    rw [HR.out]
    simp [Leaves, settle, results, Try.results79, go_sem, x0, x1, x2, x3, x4, x5, x6, x5, x6, y0, z0]
    exact ⟨by rw [HBO.out]; exact hb, _, ⟨rfl, rfl, rfl⟩, rfl⟩
  subst hk
  have hg1 := G4.out.cell 1 _ rfl
  have fg1 := G4.out.free 1
  go_upto_region 10 with fail
  rw [G4.out.set 1 (.int .i64 1)]
  have hl1 : [Value.slice (some ad) n c, .int .i64 0, .int .i64 4096].set 1 (.int .i64 1) = [Value.slice (some ad) n c, .int .i64 1, .int .i64 4096] := rfl
  rw [hl1]
  have K4 : CrAt g bo (some ad) n c xs 0 4096 w4 := ⟨G4.out, fun W' hb => Kd.C_below HC.out (by rw [HBO.out]; exact B4.out.trans hb), by have := HORD.out; omega, HNC.out, Nat.zero_le _, HBIG.out, by decide, HBY.out⟩
  have hmv := K4.moved (m' := 1) HZ.out
  have e1 : (((1 : Nat) : Int)) = 1 := rfl
  have e2 : (((4096 : Nat) : Int)) = 4096 := rfl
  rw [e1, e2] at hmv
  have K5 := Aside0.mk hmv.1
  have B5 := Aside0.mk (B4.out.trans hmv.2.1)
  have O5 := Aside0.mk (show Rt 49 bo zero_rec (w4.setRow g [Value.slice (some ad) n c, .int .i64 1, .int .i64 4096].toArray) from (setRow_other _ _ _ _ (by have := HORD.out; omega)).trans O4.out)
  have E5 := Aside0.mk (show Rt 22 be [.int .i64 0] (w4.setRow g [Value.slice (some ad) n c, .int .i64 1, .int .i64 4096].toArray) from (setRow_other _ _ _ _ (by have := HORD.out; omega)).trans E4.out)
  have A5 := Aside0.mk (show Rt 3 ba [.int .i64 0] (w4.setRow g [Value.slice (some ad) n c, .int .i64 1, .int .i64 4096].toArray) from (setRow_other _ _ _ _ (by have := HORD.out; omega)).trans A4.out)
  have S5 := Aside0.mk (show bo + 4 ≤ (w4.setRow g [Value.slice (some ad) n c, .int .i64 1, .int .i64 4096].toArray).heap.size by rw [setRow_size]; have := HORD.out; omega)
  clear hmv K4 hl1 e1 e2 hg1 fg1 k0 k1 d1 d2 d3 d4 i0
  generalize w4.setRow g [Value.slice (some ad) n c, .int .i64 1, .int .i64 4096].toArray = w5 at *
  have HW := Aside0.mk (show whole 83 4096 xs (pRec xs 4096) = (pRec xs 4096 1).bind fun x n => if n < xs.length then .fail 4 (n : Int) else .ok x n by
    unfold whole
    rw [HLEN.out, if_neg HL.out, if_neg (by have := HZ.out; omega), HX.out, if_neg (by decide)])
  go_wp2_with fail
  go_at_call 80
  refine (r_record K5.out).mono ?_
  rintro e w6 ⟨hb, hp, ho⟩
  have O6 := Aside0.mk (show Rt 49 bo zero_rec w6 from (hp.2 bo O5.out.lt (by have := HORD.out; show bo ≠ g; omega)).trans O5.out)
  have E6 := Aside0.mk (show Rt 22 be [.int .i64 0] w6 from (hp.2 be E5.out.lt (by have := HORD.out; show be ≠ g; omega)).trans E5.out)
  have A6 := Aside0.mk (show Rt 3 ba [.int .i64 0] w6 from (hp.2 ba A5.out.lt (by have := HORD.out; show ba ≠ g; omega)).trans A5.out)
  have B6 := Aside0.mk (B5.out.trans hb)
  rcases hq : pRec xs 4096 1 with ⟨x, m2⟩ | ⟨er, p⟩
  rotate_left
  · rw [hq] at ho
    have ho : e = gaveUp er p := ho
    subst ho
    have HR := Aside0.mk (show whole 83 4096 xs (pRec xs 4096) = Res.fail er p by rw [HW.out, hq]; rfl)
    clear hb hp hq
    simp only [gaveUp]
    refine leaves_cons (f := 124) (args := #[ptr bo, ptr be, ptr ba]) (by simp) (by simp [go_sem]) ?_
    refine (HFAULT.out er p w6 O6.out E6.out A6.out B6.out).mono ?_
    rintro e u' w' ⟨rfl, rfl, ho, he, ha, hb⟩
    have x0 := ho.cell 0 _ rfl
    have x1 := ho.cell 1 _ rfl
    have x2 := ho.cell 2 _ rfl
    have x3 := ho.cell 3 _ rfl
    have x4 := ho.cell 4 _ rfl
    have x5 := ho.cell 5 _ rfl
    have x6 := ho.cell 6 _ rfl
    have y0 := he.cell 0 _ rfl
    have z0 := ha.cell 0 _ rfl
    rw [HR.out]
    simp [Leaves, settle, results, Try.results79, go_sem, x0, x1, x2, x3, x4, x5, x6, x5, x6, y0, z0]
    exact ⟨by rw [HBO.out]; exact hb, _, ⟨rfl, rfl, rfl⟩, rfl⟩
  rw [hq] at ho
  obtain ⟨v, he, ⟨Arq, nrq, crq, hv, hrq⟩, hk⟩ : ∃ v, e = .returned v ∧ memRec w5.heap.size x v w6 ∧ CrAt g bo (some ad) n c xs m2 4096 w6 := ho
  subst he hv
  have K6 := Aside0.mk hk
  have Lrq_6 := Aside0.mk (LN_alive.lower hrq S5.out)
  have HQ := Aside0.mk hq
  clear hb hp hq hrq hk
  try clear ho
  go_upto_region 11 with fail
  have hb7 : Below w6.heap.size w6 (w6.alloc (.cells #[.int .i64 x.f0, .string x.f1.f0, .int .i64 x.f1.f1, .slice Arq nrq crq, .string x.f1.f3, .int .i64 x.f1.f4, .int .i64 x.f1.f5] 49)) := below_alloc (Below.refl _ _) _
  have r7 : Rt 49 w6.heap.size [.int .i64 x.f0, .string x.f1.f0, .int .i64 x.f1.f1, .slice Arq nrq crq, .string x.f1.f3, .int .i64 x.f1.f4, .int .i64 x.f1.f5] (w6.alloc (.cells #[.int .i64 x.f0, .string x.f1.f0, .int .i64 x.f1.f1, .slice Arq nrq crq, .string x.f1.f3, .int .i64 x.f1.f4, .int .i64 x.f1.f5] 49)) := heap_alloc_new w6 _
  obtain ⟨bx, hbx⟩ : ∃ bx, w6.heap.size = bx := ⟨_, rfl⟩
  have O7 := Aside0.mk (O6.out.below hb7)
  have E7 := Aside0.mk (E6.out.below hb7)
  have A7 := Aside0.mk (A6.out.below hb7)
  have K7 := Aside0.mk (K6.out.below hb7)
  have Lrq_7 := Aside0.mk (LN_alive.below Lrq_6.out hb7)
  have B7 := Aside0.mk (B6.out.trans (hb7.mono (by have := B6.out.size; have := HBO.out; omega)))
  have B7' := B7.out
  rw [hbx] at r7 ⊢
  have R7 := Aside0.mk r7
  clear hb7 r7 hbx B7'
  generalize w6.alloc (.cells #[.int .i64 x.f0, .string x.f1.f0, .int .i64 x.f1.f1, .slice Arq nrq crq, .string x.f1.f3, .int .i64 x.f1.f4, .int .i64 x.f1.f5] 49) = w7 at *
  have hm7 := K7.out.row.cell 1 _ rfl
  by_cases ht : m2 < n
  · have d1 : decide ((m2 : Int) < (n : Int)) = true := decide_eq_true (by omega)
    have d2 : decide (m2 < n) = true := decide_eq_true ht
    have HR := Aside0.mk (show whole 83 4096 xs (pRec xs 4096) = Res.fail 4 (m2 : Int) by
      rw [HW.out, HQ.out]
      show (if m2 < xs.length then Res.fail 4 (m2 : Int) else Res.ok x m2) = _
      rw [HLEN.out, if_pos ht])
    clear ht
    go_wp2_with fail
    refine leaves_cons (f := 124) (args := #[ptr bo, ptr be, ptr ba]) (by simp) (by simp [go_sem]) ?_
    refine (HFAULT.out 4 (m2 : Int) w7 O7.out E7.out A7.out B7.out).mono ?_
    rintro e u' w' ⟨rfl, rfl, ho, he, ha, hb⟩
    have x0 := ho.cell 0 _ rfl
    have x1 := ho.cell 1 _ rfl
    have x2 := ho.cell 2 _ rfl
    have x3 := ho.cell 3 _ rfl
    have x4 := ho.cell 4 _ rfl
    have x5 := ho.cell 5 _ rfl
    have x6 := ho.cell 6 _ rfl
    have y0 := he.cell 0 _ rfl
    have z0 := ha.cell 0 _ rfl
    rw [HR.out]
    simp [Leaves, settle, results, Try.results79, go_sem, x0, x1, x2, x3, x4, x5, x6, x5, x6, y0, z0]
    exact ⟨by rw [HBO.out]; exact hb, _, ⟨rfl, rfl, rfl⟩, rfl⟩
  have d1 : decide ((m2 : Int) < (n : Int)) = false := decide_eq_false (by omega)
  have d2 : decide (m2 < n) = false := decide_eq_false ht
  have HR := Aside0.mk (show whole 83 4096 xs (pRec xs 4096) = Res.ok x m2 by
    rw [HW.out, HQ.out]
    show (if m2 < xs.length then Res.fail 4 (m2 : Int) else Res.ok x m2) = _
    rw [HLEN.out, if_neg ht])
  clear ht
  have c0 := R7.out.cell 0 _ rfl
  have c1 := R7.out.cell 1 _ rfl
  have c2 := R7.out.cell 2 _ rfl
  have c3 := R7.out.cell 3 _ rfl
  have c4 := R7.out.cell 4 _ rfl
  have c5 := R7.out.cell 5 _ rfl
  have c6 := R7.out.cell 6 _ rfl
  have z0 := O7.out.cell 0 _ rfl
  have z1 := O7.out.cell 1 _ rfl
  have z2 := O7.out.cell 2 _ rfl
  have z3 := O7.out.cell 3 _ rfl
  have z4 := O7.out.cell 4 _ rfl
  have z5 := O7.out.cell 5 _ rfl
  have z6 := O7.out.cell 6 _ rfl
  have f0 := O7.out.free 0
  have f1 := O7.out.free 1
  have f2 := O7.out.free 2
  have f3 := O7.out.free 3
  have f4 := O7.out.free 4
  have f5 := O7.out.free 5
  have f6 := O7.out.free 6
  have y0 := E7.out.cell 0 _ rfl
  have y1 := E7.out.free 0
  have a0 := A7.out.cell 0 _ rfl
  have a1 := A7.out.free 0
  have hne1 : be ≠ bo := by have := HORD.out; omega
  have hne2 : ba ≠ bo := by have := HORD.out; omega
  have hne3 : ba ≠ be := by have := HORD.out; omega
  go_wp2_with fail
  clear c0 c1 c2 c3 c4 c5 c6 z0 z1 z2 z3 z4 z5 z6 f0 f1 f2 f3 f4 f5 f6 y0 y1 a0 a1 d1 d2 hm7
  have q := O7.out.set 0 (.int .i64 x.f0)
  rw [show ([Value.int .i64 0, .string ⟨#[]⟩, .int .i64 0, .slice none 0 0, .string ⟨#[]⟩, .int .i64 0, .int .i64 0]).set 0 (.int .i64 x.f0) = [Value.int .i64 x.f0, .string ⟨#[]⟩, .int .i64 0, .slice none 0 0, .string ⟨#[]⟩, .int .i64 0, .int .i64 0] from rfl] at q
  rw [q]
  have O8 := Aside0.mk (show Rt 49 bo [Value.int .i64 x.f0, .string ⟨#[]⟩, .int .i64 0, .slice none 0 0, .string ⟨#[]⟩, .int .i64 0, .int .i64 0] (w7.setRow bo ([Value.int .i64 x.f0, .string ⟨#[]⟩, .int .i64 0, .slice none 0 0, .string ⟨#[]⟩, .int .i64 0, .int .i64 0]).toArray) from O7.out.row _)
  have E8 := Aside0.mk (show Rt 22 be [.int .i64 0] (w7.setRow bo ([Value.int .i64 x.f0, .string ⟨#[]⟩, .int .i64 0, .slice none 0 0, .string ⟨#[]⟩, .int .i64 0, .int .i64 0]).toArray) from (setRow_other _ _ _ _ hne1).trans E7.out)
  have A8 := Aside0.mk (show Rt 3 ba [.int .i64 0] (w7.setRow bo ([Value.int .i64 x.f0, .string ⟨#[]⟩, .int .i64 0, .slice none 0 0, .string ⟨#[]⟩, .int .i64 0, .int .i64 0]).toArray) from (setRow_other _ _ _ _ hne2).trans A7.out)
  have Lrq_8 := Aside0.mk (LN_alive.row Lrq_7.out (show bo < bo + 4 by omega) ([Value.int .i64 x.f0, .string ⟨#[]⟩, .int .i64 0, .slice none 0 0, .string ⟨#[]⟩, .int .i64 0, .int .i64 0]).toArray)
  have B8 := Aside0.mk (show Below bo W (w7.setRow bo ([Value.int .i64 x.f0, .string ⟨#[]⟩, .int .i64 0, .slice none 0 0, .string ⟨#[]⟩, .int .i64 0, .int .i64 0]).toArray) from below_setRow' B7.out (Nat.le_refl _) _)
  clear q
  generalize w7.setRow bo ([Value.int .i64 x.f0, .string ⟨#[]⟩, .int .i64 0, .slice none 0 0, .string ⟨#[]⟩, .int .i64 0, .int .i64 0]).toArray = w8 at *
  have q := O8.out.set 1 (.string x.f1.f0)
  rw [show ([Value.int .i64 x.f0, .string ⟨#[]⟩, .int .i64 0, .slice none 0 0, .string ⟨#[]⟩, .int .i64 0, .int .i64 0]).set 1 (.string x.f1.f0) = [Value.int .i64 x.f0, .string x.f1.f0, .int .i64 0, .slice none 0 0, .string ⟨#[]⟩, .int .i64 0, .int .i64 0] from rfl] at q
  rw [q]
  have O9 := Aside0.mk (show Rt 49 bo [Value.int .i64 x.f0, .string x.f1.f0, .int .i64 0, .slice none 0 0, .string ⟨#[]⟩, .int .i64 0, .int .i64 0] (w8.setRow bo ([Value.int .i64 x.f0, .string x.f1.f0, .int .i64 0, .slice none 0 0, .string ⟨#[]⟩, .int .i64 0, .int .i64 0]).toArray) from O8.out.row _)
  have E9 := Aside0.mk (show Rt 22 be [.int .i64 0] (w8.setRow bo ([Value.int .i64 x.f0, .string x.f1.f0, .int .i64 0, .slice none 0 0, .string ⟨#[]⟩, .int .i64 0, .int .i64 0]).toArray) from (setRow_other _ _ _ _ hne1).trans E8.out)
  have A9 := Aside0.mk (show Rt 3 ba [.int .i64 0] (w8.setRow bo ([Value.int .i64 x.f0, .string x.f1.f0, .int .i64 0, .slice none 0 0, .string ⟨#[]⟩, .int .i64 0, .int .i64 0]).toArray) from (setRow_other _ _ _ _ hne2).trans A8.out)
  have Lrq_9 := Aside0.mk (LN_alive.row Lrq_8.out (show bo < bo + 4 by omega) ([Value.int .i64 x.f0, .string x.f1.f0, .int .i64 0, .slice none 0 0, .string ⟨#[]⟩, .int .i64 0, .int .i64 0]).toArray)
  have B9 := Aside0.mk (show Below bo W (w8.setRow bo ([Value.int .i64 x.f0, .string x.f1.f0, .int .i64 0, .slice none 0 0, .string ⟨#[]⟩, .int .i64 0, .int .i64 0]).toArray) from below_setRow' B8.out (Nat.le_refl _) _)
  clear q
  generalize w8.setRow bo ([Value.int .i64 x.f0, .string x.f1.f0, .int .i64 0, .slice none 0 0, .string ⟨#[]⟩, .int .i64 0, .int .i64 0]).toArray = w9 at *
  have q := O9.out.set 2 (.int .i64 x.f1.f1)
  rw [show ([Value.int .i64 x.f0, .string x.f1.f0, .int .i64 0, .slice none 0 0, .string ⟨#[]⟩, .int .i64 0, .int .i64 0]).set 2 (.int .i64 x.f1.f1) = [Value.int .i64 x.f0, .string x.f1.f0, .int .i64 x.f1.f1, .slice none 0 0, .string ⟨#[]⟩, .int .i64 0, .int .i64 0] from rfl] at q
  rw [q]
  have O10 := Aside0.mk (show Rt 49 bo [Value.int .i64 x.f0, .string x.f1.f0, .int .i64 x.f1.f1, .slice none 0 0, .string ⟨#[]⟩, .int .i64 0, .int .i64 0] (w9.setRow bo ([Value.int .i64 x.f0, .string x.f1.f0, .int .i64 x.f1.f1, .slice none 0 0, .string ⟨#[]⟩, .int .i64 0, .int .i64 0]).toArray) from O9.out.row _)
  have E10 := Aside0.mk (show Rt 22 be [.int .i64 0] (w9.setRow bo ([Value.int .i64 x.f0, .string x.f1.f0, .int .i64 x.f1.f1, .slice none 0 0, .string ⟨#[]⟩, .int .i64 0, .int .i64 0]).toArray) from (setRow_other _ _ _ _ hne1).trans E9.out)
  have A10 := Aside0.mk (show Rt 3 ba [.int .i64 0] (w9.setRow bo ([Value.int .i64 x.f0, .string x.f1.f0, .int .i64 x.f1.f1, .slice none 0 0, .string ⟨#[]⟩, .int .i64 0, .int .i64 0]).toArray) from (setRow_other _ _ _ _ hne2).trans A9.out)
  have Lrq_10 := Aside0.mk (LN_alive.row Lrq_9.out (show bo < bo + 4 by omega) ([Value.int .i64 x.f0, .string x.f1.f0, .int .i64 x.f1.f1, .slice none 0 0, .string ⟨#[]⟩, .int .i64 0, .int .i64 0]).toArray)
  have B10 := Aside0.mk (show Below bo W (w9.setRow bo ([Value.int .i64 x.f0, .string x.f1.f0, .int .i64 x.f1.f1, .slice none 0 0, .string ⟨#[]⟩, .int .i64 0, .int .i64 0]).toArray) from below_setRow' B9.out (Nat.le_refl _) _)
  clear q
  generalize w9.setRow bo ([Value.int .i64 x.f0, .string x.f1.f0, .int .i64 x.f1.f1, .slice none 0 0, .string ⟨#[]⟩, .int .i64 0, .int .i64 0]).toArray = w10 at *
  have q := O10.out.set 3 (.slice Arq nrq crq)
  rw [show ([Value.int .i64 x.f0, .string x.f1.f0, .int .i64 x.f1.f1, .slice none 0 0, .string ⟨#[]⟩, .int .i64 0, .int .i64 0]).set 3 (.slice Arq nrq crq) = [Value.int .i64 x.f0, .string x.f1.f0, .int .i64 x.f1.f1, .slice Arq nrq crq, .string ⟨#[]⟩, .int .i64 0, .int .i64 0] from rfl] at q
  rw [q]
  have O11 := Aside0.mk (show Rt 49 bo [Value.int .i64 x.f0, .string x.f1.f0, .int .i64 x.f1.f1, .slice Arq nrq crq, .string ⟨#[]⟩, .int .i64 0, .int .i64 0] (w10.setRow bo ([Value.int .i64 x.f0, .string x.f1.f0, .int .i64 x.f1.f1, .slice Arq nrq crq, .string ⟨#[]⟩, .int .i64 0, .int .i64 0]).toArray) from O10.out.row _)
  have E11 := Aside0.mk (show Rt 22 be [.int .i64 0] (w10.setRow bo ([Value.int .i64 x.f0, .string x.f1.f0, .int .i64 x.f1.f1, .slice Arq nrq crq, .string ⟨#[]⟩, .int .i64 0, .int .i64 0]).toArray) from (setRow_other _ _ _ _ hne1).trans E10.out)
  have A11 := Aside0.mk (show Rt 3 ba [.int .i64 0] (w10.setRow bo ([Value.int .i64 x.f0, .string x.f1.f0, .int .i64 x.f1.f1, .slice Arq nrq crq, .string ⟨#[]⟩, .int .i64 0, .int .i64 0]).toArray) from (setRow_other _ _ _ _ hne2).trans A10.out)
  have Lrq_11 := Aside0.mk (LN_alive.row Lrq_10.out (show bo < bo + 4 by omega) ([Value.int .i64 x.f0, .string x.f1.f0, .int .i64 x.f1.f1, .slice Arq nrq crq, .string ⟨#[]⟩, .int .i64 0, .int .i64 0]).toArray)
  have B11 := Aside0.mk (show Below bo W (w10.setRow bo ([Value.int .i64 x.f0, .string x.f1.f0, .int .i64 x.f1.f1, .slice Arq nrq crq, .string ⟨#[]⟩, .int .i64 0, .int .i64 0]).toArray) from below_setRow' B10.out (Nat.le_refl _) _)
  clear q
  generalize w10.setRow bo ([Value.int .i64 x.f0, .string x.f1.f0, .int .i64 x.f1.f1, .slice Arq nrq crq, .string ⟨#[]⟩, .int .i64 0, .int .i64 0]).toArray = w11 at *
  have q := O11.out.set 4 (.string x.f1.f3)
  rw [show ([Value.int .i64 x.f0, .string x.f1.f0, .int .i64 x.f1.f1, .slice Arq nrq crq, .string ⟨#[]⟩, .int .i64 0, .int .i64 0]).set 4 (.string x.f1.f3) = [Value.int .i64 x.f0, .string x.f1.f0, .int .i64 x.f1.f1, .slice Arq nrq crq, .string x.f1.f3, .int .i64 0, .int .i64 0] from rfl] at q
  rw [q]
  have O12 := Aside0.mk (show Rt 49 bo [Value.int .i64 x.f0, .string x.f1.f0, .int .i64 x.f1.f1, .slice Arq nrq crq, .string x.f1.f3, .int .i64 0, .int .i64 0] (w11.setRow bo ([Value.int .i64 x.f0, .string x.f1.f0, .int .i64 x.f1.f1, .slice Arq nrq crq, .string x.f1.f3, .int .i64 0, .int .i64 0]).toArray) from O11.out.row _)
  have E12 := Aside0.mk (show Rt 22 be [.int .i64 0] (w11.setRow bo ([Value.int .i64 x.f0, .string x.f1.f0, .int .i64 x.f1.f1, .slice Arq nrq crq, .string x.f1.f3, .int .i64 0, .int .i64 0]).toArray) from (setRow_other _ _ _ _ hne1).trans E11.out)
  have A12 := Aside0.mk (show Rt 3 ba [.int .i64 0] (w11.setRow bo ([Value.int .i64 x.f0, .string x.f1.f0, .int .i64 x.f1.f1, .slice Arq nrq crq, .string x.f1.f3, .int .i64 0, .int .i64 0]).toArray) from (setRow_other _ _ _ _ hne2).trans A11.out)
  have Lrq_12 := Aside0.mk (LN_alive.row Lrq_11.out (show bo < bo + 4 by omega) ([Value.int .i64 x.f0, .string x.f1.f0, .int .i64 x.f1.f1, .slice Arq nrq crq, .string x.f1.f3, .int .i64 0, .int .i64 0]).toArray)
  have B12 := Aside0.mk (show Below bo W (w11.setRow bo ([Value.int .i64 x.f0, .string x.f1.f0, .int .i64 x.f1.f1, .slice Arq nrq crq, .string x.f1.f3, .int .i64 0, .int .i64 0]).toArray) from below_setRow' B11.out (Nat.le_refl _) _)
  clear q
  generalize w11.setRow bo ([Value.int .i64 x.f0, .string x.f1.f0, .int .i64 x.f1.f1, .slice Arq nrq crq, .string x.f1.f3, .int .i64 0, .int .i64 0]).toArray = w12 at *
  have q := O12.out.set 5 (.int .i64 x.f1.f4)
  rw [show ([Value.int .i64 x.f0, .string x.f1.f0, .int .i64 x.f1.f1, .slice Arq nrq crq, .string x.f1.f3, .int .i64 0, .int .i64 0]).set 5 (.int .i64 x.f1.f4) = [Value.int .i64 x.f0, .string x.f1.f0, .int .i64 x.f1.f1, .slice Arq nrq crq, .string x.f1.f3, .int .i64 x.f1.f4, .int .i64 0] from rfl] at q
  rw [q]
  have O13 := Aside0.mk (show Rt 49 bo [Value.int .i64 x.f0, .string x.f1.f0, .int .i64 x.f1.f1, .slice Arq nrq crq, .string x.f1.f3, .int .i64 x.f1.f4, .int .i64 0] (w12.setRow bo ([Value.int .i64 x.f0, .string x.f1.f0, .int .i64 x.f1.f1, .slice Arq nrq crq, .string x.f1.f3, .int .i64 x.f1.f4, .int .i64 0]).toArray) from O12.out.row _)
  have E13 := Aside0.mk (show Rt 22 be [.int .i64 0] (w12.setRow bo ([Value.int .i64 x.f0, .string x.f1.f0, .int .i64 x.f1.f1, .slice Arq nrq crq, .string x.f1.f3, .int .i64 x.f1.f4, .int .i64 0]).toArray) from (setRow_other _ _ _ _ hne1).trans E12.out)
  have A13 := Aside0.mk (show Rt 3 ba [.int .i64 0] (w12.setRow bo ([Value.int .i64 x.f0, .string x.f1.f0, .int .i64 x.f1.f1, .slice Arq nrq crq, .string x.f1.f3, .int .i64 x.f1.f4, .int .i64 0]).toArray) from (setRow_other _ _ _ _ hne2).trans A12.out)
  have Lrq_13 := Aside0.mk (LN_alive.row Lrq_12.out (show bo < bo + 4 by omega) ([Value.int .i64 x.f0, .string x.f1.f0, .int .i64 x.f1.f1, .slice Arq nrq crq, .string x.f1.f3, .int .i64 x.f1.f4, .int .i64 0]).toArray)
  have B13 := Aside0.mk (show Below bo W (w12.setRow bo ([Value.int .i64 x.f0, .string x.f1.f0, .int .i64 x.f1.f1, .slice Arq nrq crq, .string x.f1.f3, .int .i64 x.f1.f4, .int .i64 0]).toArray) from below_setRow' B12.out (Nat.le_refl _) _)
  clear q
  generalize w12.setRow bo ([Value.int .i64 x.f0, .string x.f1.f0, .int .i64 x.f1.f1, .slice Arq nrq crq, .string x.f1.f3, .int .i64 x.f1.f4, .int .i64 0]).toArray = w13 at *
  have q := O13.out.set 6 (.int .i64 x.f1.f5)
  rw [show ([Value.int .i64 x.f0, .string x.f1.f0, .int .i64 x.f1.f1, .slice Arq nrq crq, .string x.f1.f3, .int .i64 x.f1.f4, .int .i64 0]).set 6 (.int .i64 x.f1.f5) = [Value.int .i64 x.f0, .string x.f1.f0, .int .i64 x.f1.f1, .slice Arq nrq crq, .string x.f1.f3, .int .i64 x.f1.f4, .int .i64 x.f1.f5] from rfl] at q
  rw [q]
  have O14 := Aside0.mk (show Rt 49 bo [Value.int .i64 x.f0, .string x.f1.f0, .int .i64 x.f1.f1, .slice Arq nrq crq, .string x.f1.f3, .int .i64 x.f1.f4, .int .i64 x.f1.f5] (w13.setRow bo ([Value.int .i64 x.f0, .string x.f1.f0, .int .i64 x.f1.f1, .slice Arq nrq crq, .string x.f1.f3, .int .i64 x.f1.f4, .int .i64 x.f1.f5]).toArray) from O13.out.row _)
  have E14 := Aside0.mk (show Rt 22 be [.int .i64 0] (w13.setRow bo ([Value.int .i64 x.f0, .string x.f1.f0, .int .i64 x.f1.f1, .slice Arq nrq crq, .string x.f1.f3, .int .i64 x.f1.f4, .int .i64 x.f1.f5]).toArray) from (setRow_other _ _ _ _ hne1).trans E13.out)
  have A14 := Aside0.mk (show Rt 3 ba [.int .i64 0] (w13.setRow bo ([Value.int .i64 x.f0, .string x.f1.f0, .int .i64 x.f1.f1, .slice Arq nrq crq, .string x.f1.f3, .int .i64 x.f1.f4, .int .i64 x.f1.f5]).toArray) from (setRow_other _ _ _ _ hne2).trans A13.out)
  have Lrq_14 := Aside0.mk (LN_alive.row Lrq_13.out (show bo < bo + 4 by omega) ([Value.int .i64 x.f0, .string x.f1.f0, .int .i64 x.f1.f1, .slice Arq nrq crq, .string x.f1.f3, .int .i64 x.f1.f4, .int .i64 x.f1.f5]).toArray)
  have B14 := Aside0.mk (show Below bo W (w13.setRow bo ([Value.int .i64 x.f0, .string x.f1.f0, .int .i64 x.f1.f1, .slice Arq nrq crq, .string x.f1.f3, .int .i64 x.f1.f4, .int .i64 x.f1.f5]).toArray) from below_setRow' B13.out (Nat.le_refl _) _)
  clear q
  generalize w13.setRow bo ([Value.int .i64 x.f0, .string x.f1.f0, .int .i64 x.f1.f1, .slice Arq nrq crq, .string x.f1.f3, .int .i64 x.f1.f4, .int .i64 x.f1.f5]).toArray = w14 at *
  rw [E14.out.same 0 _ rfl, A14.out.same 0 _ rfl]
  refine leaves_cons (f := 124) (args := #[ptr bo, ptr be, ptr ba]) (by simp) (by simp [go_sem]) ?_
  refine (idle_rec (bo := bo) (be := be) (ba := ba) w14).mono ?_
  rintro e u' w' ⟨rfl, rfl, hb⟩
  have ho := O14.out.below hb
  have he := E14.out.below hb
  have ha := A14.out.below hb
  have hrq := LN_alive.below Lrq_14.out hb
  have x0 := ho.cell 0 _ rfl
  have x1 := ho.cell 1 _ rfl
  have x2 := ho.cell 2 _ rfl
  have x3 := ho.cell 3 _ rfl
  have x4 := ho.cell 4 _ rfl
  have x5 := ho.cell 5 _ rfl
  have x6 := ho.cell 6 _ rfl
  have y0 := he.cell 0 _ rfl
  have z0 := ha.cell 0 _ rfl
  rw [HR.out]
  simp [Leaves, settle, results, Try.results79, go_sem, x0, x1, x2, x3, x4, x5, x6, y0, z0]
  refine ⟨by rw [HBO.out]; exact B14.out.trans (hb.mono (by have := B14.out.size; have := HBO.out; omega)), _, ⟨rfl, rfl, rfl⟩, Arq, nrq, crq, rfl, LN_alive.lower hrq (by have := HBO.out; omega)⟩
def zeroD_rec : RecD := ⟨0, ⟨⟨#[]⟩, 0, [], ⟨#[]⟩, 0, 0⟩⟩
theorem enc_out_rec {S0 : Nat} {r : Res RecD} {v : Value} {w : World} (h : RdOut memRec zero_rec S0 r v w) : memRec S0 (outOr zeroD_rec r) v w := by
  cases r with
  | ok x n => exact h
  | fail e p =>
    have h : v = .agg zero_rec.toArray := h
    subst h
    exact ⟨none, 0, 0, rfl, Kd.R_nil _ _ _ _ _⟩
theorem Rt.full_rec {t b : Nat} {z0 z1 z2 z3 z4 z5 z6 : Value} {W : World} (h : Rt t b [z0, z1, z2, z3, z4, z5, z6] W) (a0 a1 a2 a3 a4 a5 a6 : Value) :
    (((((((W.setCell ⟨b, 0, none⟩ a0).setCell ⟨b, 1, none⟩ a1).setCell ⟨b, 2, none⟩ a2).setCell ⟨b, 3, none⟩ a3).setCell ⟨b, 4, none⟩ a4).setCell ⟨b, 5, none⟩ a5).setCell ⟨b, 6, none⟩ a6) = W.setRow b [a0, a1, a2, a3, a4, a5, a6].toArray := by
  rw [h.set 0 a0]
  have h0 : Rt t b [a0, z1, z2, z3, z4, z5, z6] (W.setRow b ([z0, z1, z2, z3, z4, z5, z6].set 0 a0).toArray) := h.row _
  rw [h0.set 1 a1, setRow_again]
  have h1 : Rt t b [a0, a1, z2, z3, z4, z5, z6] (W.setRow b ([a0, z1, z2, z3, z4, z5, z6].set 1 a1).toArray) := h.row _
  rw [h1.set 2 a2, setRow_again]
  have h2 : Rt t b [a0, a1, a2, z3, z4, z5, z6] (W.setRow b ([a0, a1, z2, z3, z4, z5, z6].set 2 a2).toArray) := h.row _
  rw [h2.set 3 a3, setRow_again]
  have h3 : Rt t b [a0, a1, a2, a3, z4, z5, z6] (W.setRow b ([a0, a1, a2, z3, z4, z5, z6].set 3 a3).toArray) := h.row _
  rw [h3.set 4 a4, setRow_again]
  have h4 : Rt t b [a0, a1, a2, a3, a4, z5, z6] (W.setRow b ([a0, a1, a2, a3, z4, z5, z6].set 4 a4).toArray) := h.row _
  rw [h4.set 5 a5, setRow_again]
  have h5 : Rt t b [a0, a1, a2, a3, a4, a5, z6] (W.setRow b ([a0, a1, a2, a3, a4, z5, z6].set 5 a5).toArray) := h.row _
  rw [h5.set 6 a6, setRow_again]
  rfl
theorem Record_at (A : Option Addr) (n c : Nat) (xs : List Int) (W : World) (hC : Kd.C (Kd.int .u8) W A n xs) (hnc : n ≤ c) (hb : IsBytes xs) (hbig : n < 1000000000) :
    Calls Try.prog 29 #[.slice A n c] W fun e w' => Below W.heap.size W w' ∧ ∃ v, e = .returned (.tuple #[v, .int .i64 (endOf (whole 83 4096 xs (pRec xs 4096))).1, .int .i64 (endOf (whole 83 4096 xs (pRec xs 4096))).2]) ∧ memRec W.heap.size (outOr zeroD_rec (whole 83 4096 xs (pRec xs 4096))) v w' := by
  have hb1 : Below W.heap.size W (W.alloc (.cells #[.int .i64 0, .string ⟨#[]⟩, .int .i64 0, .slice none 0 0, .string ⟨#[]⟩, .int .i64 0, .int .i64 0] 49)) := below_alloc (Below.refl _ _) _
  have r1 : Rt 49 W.heap.size zero_rec (W.alloc (.cells #[.int .i64 0, .string ⟨#[]⟩, .int .i64 0, .slice none 0 0, .string ⟨#[]⟩, .int .i64 0, .int .i64 0] 49)) := heap_alloc_new W _
  have hC1 := Kd.C_below hC hb1
  have HRD := Aside0.mk (read_record A n c xs (W.alloc (.cells #[.int .i64 0, .string ⟨#[]⟩, .int .i64 0, .slice none 0 0, .string ⟨#[]⟩, .int .i64 0, .int .i64 0] 49)) hC1 hnc hb hbig)
  generalize whole 83 4096 xs (pRec xs 4096) = rr at *
  have B1 := Aside0.mk hb1
  clear hC hC1 hnc hb hbig
  go_enter Try.func29, Try.ntmps29
  go_upto_region 1 with fail
  obtain ⟨b, hbe⟩ : ∃ b, W.heap.size = b := ⟨_, rfl⟩
  have HBE := Aside0.mk hbe
  rw [hbe] at r1 ⊢
  have R1 := Aside0.mk r1
  clear hb1 r1 hbe
  generalize W.alloc (.cells #[.int .i64 0, .string ⟨#[]⟩, .int .i64 0, .slice none 0 0, .string ⟨#[]⟩, .int .i64 0, .int .i64 0] 49) = w1 at *
  go_wp2_with fail
  go_at_call 79
  refine HRD.out.mono ?_
  rintro e w2 ⟨hb, v, rfl, ho⟩
  obtain ⟨Arq, nrq, crq, hv, hrq⟩ := enc_out_rec ho
  subst hv
  obtain ⟨x, hx⟩ : ∃ x, outOr zeroD_rec rr = x := ⟨_, rfl⟩
  obtain ⟨ec, hec⟩ : ∃ ec, (endOf rr).1 = ec := ⟨_, rfl⟩
  obtain ⟨ep, hep⟩ : ∃ ep, (endOf rr).2 = ep := ⟨_, rfl⟩
  rw [hx] at hrq ⊢
  rw [hec, hep]
  have HX := Aside0.mk (And.intro hx (And.intro hec hep))
  have R2 := Aside0.mk (R1.out.below hb)
  have Lrq_2 := Aside0.mk (LN_alive.lower hrq R1.out.lt)
  have B2 := Aside0.mk (show Below W.heap.size W w2 from B1.out.trans (hb.mono B1.out.size))
  clear hb ho hrq HRD hx hec hep
  have z0 := R2.out.cell 0 _ rfl
  have f0 := R2.out.free 0
  have z1 := R2.out.cell 1 _ rfl
  have f1 := R2.out.free 1
  have z2 := R2.out.cell 2 _ rfl
  have f2 := R2.out.free 2
  have z3 := R2.out.cell 3 _ rfl
  have f3 := R2.out.free 3
  have z4 := R2.out.cell 4 _ rfl
  have f4 := R2.out.free 4
  have z5 := R2.out.cell 5 _ rfl
  have f5 := R2.out.free 5
  have z6 := R2.out.cell 6 _ rfl
  have f6 := R2.out.free 6
  go_wp2_with fail
  rw [R2.out.full_rec]
  have R3 : Rt 49 b [.int .i64 x.f0, .string x.f1.f0, .int .i64 x.f1.f1, .slice Arq nrq crq, .string x.f1.f3, .int .i64 x.f1.f4, .int .i64 x.f1.f5] (w2.setRow b [Value.int .i64 x.f0, .string x.f1.f0, .int .i64 x.f1.f1, .slice Arq nrq crq, .string x.f1.f3, .int .i64 x.f1.f4, .int .i64 x.f1.f5].toArray) := R2.out.row _
  have Lrq_3 := LN_alive.row Lrq_2.out (Nat.lt_succ_self b) [Value.int .i64 x.f0, .string x.f1.f0, .int .i64 x.f1.f1, .slice Arq nrq crq, .string x.f1.f3, .int .i64 x.f1.f4, .int .i64 x.f1.f5].toArray
  have B3 : Below W.heap.size W (w2.setRow b [Value.int .i64 x.f0, .string x.f1.f0, .int .i64 x.f1.f1, .slice Arq nrq crq, .string x.f1.f3, .int .i64 x.f1.f4, .int .i64 x.f1.f5].toArray) := below_setRow' B2.out (Nat.le_of_eq HBE.out) _
  clear z0 f0 z1 f1 z2 f2 z3 f3 z4 f4 z5 f5 z6 f6
  generalize w2.setRow b [Value.int .i64 x.f0, .string x.f1.f0, .int .i64 x.f1.f1, .slice Arq nrq crq, .string x.f1.f3, .int .i64 x.f1.f4, .int .i64 x.f1.f5].toArray = w3 at *
  have x0 := R3.cell 0 _ rfl
  have x1 := R3.cell 1 _ rfl
  have x2 := R3.cell 2 _ rfl
  have x3 := R3.cell 3 _ rfl
  have x4 := R3.cell 4 _ rfl
  have x5 := R3.cell 5 _ rfl
  have x6 := R3.cell 6 _ rfl
  refine ⟨rfl, ?_⟩
  simp [results, Try.results29, go_sem, x0, x1, x2, x3, x4, x5, x6]
  refine ⟨B3, _, ⟨rfl, HX.out.2.1.symm, HX.out.2.2.symm⟩, ?_⟩
  rw [HX.out.1]
  exact ⟨Arq, nrq, crq, rfl, LN_alive.lower Lrq_3 (by have := HBE.out; omega)⟩
end Go.Proofs.Ytafmoglaockepaa.Cd
end
section
namespace Go.Proofs.Ytafmoglaockepaa.Cd
open Go Go.RowKit Go.Proofs.Ytafmoglaockepaa.Num Go.Proofs.Ytafmoglaockepaa.PG Go.Proofs.YtafmoglaockepaaW.PrintWords Go.Proofs.YtafmoglaockepaaW.PrintLast Go.Proofs.YtafmoglaockepaaW.PrintMore
set_option linter.unusedVariables false
set_option linter.unusedSimpArgs false
set_option maxHeartbeats 4000000
set_option maxRecDepth 100000
variable {g B : Nat} {A : Option Addr} {n c : Nat} {xs : List Int} {most : Nat}
theorem rec_is {α : Type} {s0 : Res α} {w : World} {a : Int} {rq : S40}
    (k : QSt g B A n c xs most ((s0.bind fun _ m => pI xs m).bind fun _ m => pReq xs most m) w)
    (e0 : ∀ x m, (s0.bind fun _ m => pI xs m) = .ok x m → x = a)
    (e1 : ∀ x m, ((s0.bind fun _ m => pI xs m).bind fun _ m => pReq xs most m) = .ok x m → x = rq) :
    QSt g B A n c xs most (s0.bind fun _ m => pRec xs most m) w ∧ ∀ yy m, (s0.bind fun _ m => pRec xs most m) = .ok yy m → yy = ⟨a, rq⟩ := by
  revert k e0 e1
  unfold pRec
  cases s0 with
  | fail e p => exact fun k _ _ => ⟨k, fun yy m h => by simp [Res.bind] at h⟩
  | ok u m0 =>
    simp only [Res.bind]
    cases pI xs m0 with
    | fail e p => exact fun k _ _ => ⟨k, fun yy m h => by simp [Res.bind] at h⟩
    | ok q0 m1 =>
      simp only
      cases pReq xs most m1 with
      | fail e p => exact fun k _ _ => ⟨k, fun yy m h => by simp [Res.bind] at h⟩
      | ok q1 m2 =>
        intro k e0 e1
        refine ⟨k, fun yy m h => ?_⟩
        injection h with h1 h2
        rw [← h1, e0 _ _ rfl, e1 _ _ rfl]
theorem refRecord_at (A : Option Addr) (n c : Nat) (xs : List Int) (W : World) (hC : Kd.C (Kd.int .u8) W A n xs) (hnc : n ≤ c) (hb : IsBytes xs) (hbig : n < 1000000000) :
    Calls Try.prog 30 #[.slice A n c] W fun e w' => Below W.heap.size W w' ∧ ∃ v, e = .returned (.tuple #[v, .int .i64 (endOf (whole 83 4096 xs (pRec xs 4096))).1, .int .i64 (endOf (whole 83 4096 xs (pRec xs 4096))).2]) ∧ memRec W.heap.size (outOr zeroD_rec (whole 83 4096 xs (pRec xs 4096))) v w' := by
  obtain ⟨wh, hwh⟩ : ∃ wh, whole 83 4096 xs (pRec xs 4096) = wh := ⟨_, rfl⟩
  have HWH := Aside0.mk (show ((hdr 83 4096 xs).bind fun _ m => tailOf xs (pRec xs 4096 m)) = wh by rw [← hwh, whole_hdr]; rfl)
  rw [hwh]
  clear hwh
  have hb1 : Below W.heap.size W (W.alloc (.cells #[.int .i64 0, .string ⟨#[]⟩, .int .i64 0, .slice none 0 0, .string ⟨#[]⟩, .int .i64 0, .int .i64 0] 49)) := below_alloc (Below.refl _ _) _
  have o1 : Rt 49 W.heap.size [.int .i64 0, .string ⟨#[]⟩, .int .i64 0, .slice none 0 0, .string ⟨#[]⟩, .int .i64 0, .int .i64 0] (W.alloc (.cells #[.int .i64 0, .string ⟨#[]⟩, .int .i64 0, .slice none 0 0, .string ⟨#[]⟩, .int .i64 0, .int .i64 0] 49)) := heap_alloc_new W _
  have hC1 := Kd.C_below hC hb1
  have HBG := Aside0.mk (q_begin A n c xs 4096 83 (W.alloc (.cells #[.int .i64 0, .string ⟨#[]⟩, .int .i64 0, .slice none 0 0, .string ⟨#[]⟩, .int .i64 0, .int .i64 0] 49)) hC1 hnc hb hbig (by decide))
  obtain ⟨bo, hbo⟩ : ∃ bo, W.heap.size = bo := ⟨_, rfl⟩
  have HBO := Aside0.mk hbo
  rw [hbo] at o1
  have BA := Aside0.mk (show Below bo W (W.alloc (.cells #[.int .i64 0, .string ⟨#[]⟩, .int .i64 0, .slice none 0 0, .string ⟨#[]⟩, .int .i64 0, .int .i64 0] 49)) by rw [← hbo]; exact hb1)
  have OA := Aside0.mk o1
  clear hC hC1 hnc hb hbig hb1 o1 hbo
  go_enter Try.func30, Try.ntmps30
  go_upto_region 1 with fail
  have hbo := HBO.out
  rw [hbo]
  clear hbo
  generalize W.alloc (.cells #[.int .i64 0, .string ⟨#[]⟩, .int .i64 0, .slice none 0 0, .string ⟨#[]⟩, .int .i64 0, .int .i64 0] 49) = wa at *
  go_wp2_with fail
  go_at_call 64
  refine HBG.out.mono ?_
  rintro e wb ⟨rfl, hb, hq⟩
  obtain ⟨g, hg⟩ : ∃ g, wa.heap.size = g := ⟨_, rfl⟩
  rw [hg] at hb hq ⊢
  obtain ⟨s0, hs0⟩ : ∃ s0, hdr 83 4096 xs = s0 := ⟨_, rfl⟩
  have HS := HWH.out
  rw [hs0] at hq HS
  have HGO := Aside0.mk (show bo < g by have := OA.out.lt; omega)
  have K0 := Aside0.mk hq
  have B0 := Aside0.mk (show Below bo W wb from BA.out.trans (hb.mono (Nat.le_of_lt HGO.out)))
  have O0 := Aside0.mk (show Rt 49 bo [.int .i64 0, .string ⟨#[]⟩, .int .i64 0, .slice none 0 0, .string ⟨#[]⟩, .int .i64 0, .int .i64 0] wb from (hb.block bo HGO.out).trans OA.out)
  have HSS := Aside0.mk HS
  clear hb hq HS hs0 HBG HWH BA OA hg
  generalize wb = w0 at *
  go_upto_region 3 with fail
  have hb2 : Below w0.heap.size w0 (w0.alloc (.cells #[.int .i64 0, .string ⟨#[]⟩, .int .i64 0, .slice none 0 0, .string ⟨#[]⟩, .int .i64 0, .int .i64 0] 49)) := below_alloc (Below.refl _ _) _
  have r2 : Rt 49 w0.heap.size [.int .i64 0, .string ⟨#[]⟩, .int .i64 0, .slice none 0 0, .string ⟨#[]⟩, .int .i64 0, .int .i64 0] (w0.alloc (.cells #[.int .i64 0, .string ⟨#[]⟩, .int .i64 0, .slice none 0 0, .string ⟨#[]⟩, .int .i64 0, .int .i64 0] 49)) := heap_alloc_new w0 _
  obtain ⟨b, hbe⟩ : ∃ b, w0.heap.size = b := ⟨_, rfl⟩
  have HLT := Aside0.mk (show bo < g ∧ g < b by have := K0.out.lt; have := HGO.out; omega)
  have K1 := Aside0.mk (K0.out.below hb2)
  have B1 := Aside0.mk (B0.out.trans (hb2.mono (by have := HLT.out; omega)))
  have O1 := Aside0.mk (O0.out.below hb2)
  rw [hbe] at r2 ⊢
  have R1 := Aside0.mk r2
  clear hb2 r2 hbe
  generalize w0.alloc (.cells #[.int .i64 0, .string ⟨#[]⟩, .int .i64 0, .slice none 0 0, .string ⟨#[]⟩, .int .i64 0, .int .i64 0] 49) = w1 at *
  have cr0 := R1.out.cell 0 _ rfl
  have fr0 := R1.out.free 0
  go_wp2_with fail
  go_at_call 66
  refine (q_int K1.out).mono ?_
  rintro e w2 ⟨hb, hp, a, v, rfl, rfl, hx, hq⟩
  have Xa := Aside0.mk hx
  have K2 := Aside0.mk hq
  have B2 := Aside0.mk (show Below bo W w2 from B1.out.trans (hb.mono (by have := HLT.out; omega)))
  have R2 := Aside0.mk (show Rt 49 b [Value.int .i64 0, .string ⟨#[]⟩, .int .i64 0, .slice none 0 0, .string ⟨#[]⟩, .int .i64 0, .int .i64 0] w2 from (hp.2 b R1.out.lt (by have := HLT.out; show b ≠ g; omega)).trans R1.out)
  have O2 := Aside0.mk (show Rt 49 bo [Value.int .i64 0, .string ⟨#[]⟩, .int .i64 0, .slice none 0 0, .string ⟨#[]⟩, .int .i64 0, .int .i64 0] w2 from (hp.2 bo O1.out.lt (by have := HLT.out; show bo ≠ g; omega)).trans O1.out)
  clear hb hp hx hq cr0 fr0
  have cr0 := R2.out.cell 0 _ rfl
  have fr0 := R2.out.free 0
  go_upto_region 4 with fail
  have e1 := R2.out.set 0 (.int .i64 a)
  rw [e1]
  clear e1 cr0 fr0
  have hl : [Value.int .i64 0, .string ⟨#[]⟩, .int .i64 0, .slice none 0 0, .string ⟨#[]⟩, .int .i64 0, .int .i64 0].set 0 (.int .i64 a) = [Value.int .i64 a, .string ⟨#[]⟩, .int .i64 0, .slice none 0 0, .string ⟨#[]⟩, .int .i64 0, .int .i64 0] := rfl
  rw [hl]
  clear hl
  have K3 := Aside0.mk (K2.out.aside (W' := w2.setRow b [Value.int .i64 a, .string ⟨#[]⟩, .int .i64 0, .slice none 0 0, .string ⟨#[]⟩, .int .i64 0, .int .i64 0].toArray) (below_setRow' (Below.refl _ _) (by have := HLT.out; omega) _) (setRow_other _ _ _ _ (by have := HLT.out; omega)))
  have B3 := Aside0.mk (show Below bo W (w2.setRow b [Value.int .i64 a, .string ⟨#[]⟩, .int .i64 0, .slice none 0 0, .string ⟨#[]⟩, .int .i64 0, .int .i64 0].toArray) from below_setRow' B2.out (by have := HLT.out; omega) _)
  have R3 := Aside0.mk (show Rt 49 b [Value.int .i64 a, .string ⟨#[]⟩, .int .i64 0, .slice none 0 0, .string ⟨#[]⟩, .int .i64 0, .int .i64 0] (w2.setRow b [Value.int .i64 a, .string ⟨#[]⟩, .int .i64 0, .slice none 0 0, .string ⟨#[]⟩, .int .i64 0, .int .i64 0].toArray) from R2.out.row _)
  have O3 := Aside0.mk (show Rt 49 bo [Value.int .i64 0, .string ⟨#[]⟩, .int .i64 0, .slice none 0 0, .string ⟨#[]⟩, .int .i64 0, .int .i64 0] (w2.setRow b [Value.int .i64 a, .string ⟨#[]⟩, .int .i64 0, .slice none 0 0, .string ⟨#[]⟩, .int .i64 0, .int .i64 0].toArray) from (setRow_other _ _ _ _ (by have := HLT.out; omega)).trans O2.out)
  generalize w2.setRow b [Value.int .i64 a, .string ⟨#[]⟩, .int .i64 0, .slice none 0 0, .string ⟨#[]⟩, .int .i64 0, .int .i64 0].toArray = w3 at *
  have cr1 := R3.out.cell 1 _ rfl
  have fr1 := R3.out.free 1
  have cr2 := R3.out.cell 2 _ rfl
  have fr2 := R3.out.free 2
  have cr3 := R3.out.cell 3 _ rfl
  have fr3 := R3.out.free 3
  have cr4 := R3.out.cell 4 _ rfl
  have fr4 := R3.out.free 4
  have cr5 := R3.out.cell 5 _ rfl
  have fr5 := R3.out.free 5
  have cr6 := R3.out.cell 6 _ rfl
  have fr6 := R3.out.free 6
  go_wp2_with fail
  go_at_call 76
  refine (q_request K3.out (by decide)).mono ?_
  rintro e w4 ⟨hb, hp, rq, v, rfl, hE, hx, hq⟩
  obtain ⟨Arq, nrq, crq, ev, hE⟩ := hE
  subst ev
  have Lrq_4 := Aside0.mk (show LN (b + 1) rq.f2 (.slice Arq nrq crq) w4 from LN_alive.lower hE R3.out.lt)
  clear hE
  have Xrq := Aside0.mk hx
  have K4 := Aside0.mk hq
  have B4 := Aside0.mk (show Below bo W w4 from B3.out.trans (hb.mono (by have := HLT.out; omega)))
  have R4 := Aside0.mk (show Rt 49 b [Value.int .i64 a, .string ⟨#[]⟩, .int .i64 0, .slice none 0 0, .string ⟨#[]⟩, .int .i64 0, .int .i64 0] w4 from (hp.2 b R3.out.lt (by have := HLT.out; show b ≠ g; omega)).trans R3.out)
  have O4 := Aside0.mk (show Rt 49 bo [Value.int .i64 0, .string ⟨#[]⟩, .int .i64 0, .slice none 0 0, .string ⟨#[]⟩, .int .i64 0, .int .i64 0] w4 from (hp.2 bo O3.out.lt (by have := HLT.out; show bo ≠ g; omega)).trans O3.out)
  clear hb hp hx hq cr1 fr1 cr2 fr2 cr3 fr3 cr4 fr4 cr5 fr5 cr6 fr6
  have cr1 := R4.out.cell 1 _ rfl
  have fr1 := R4.out.free 1
  have cr2 := R4.out.cell 2 _ rfl
  have fr2 := R4.out.free 2
  have cr3 := R4.out.cell 3 _ rfl
  have fr3 := R4.out.free 3
  have cr4 := R4.out.cell 4 _ rfl
  have fr4 := R4.out.free 4
  have cr5 := R4.out.cell 5 _ rfl
  have fr5 := R4.out.free 5
  have cr6 := R4.out.cell 6 _ rfl
  have fr6 := R4.out.free 6
  go_upto_region 5 with fail
  have e1 := R4.out.fill6 1 (.string rq.f0) (.int .i64 rq.f1) (.slice Arq nrq crq) (.string rq.f3) (.int .i64 rq.f4) (.int .i64 rq.f5)
  simp only [Nat.reduceAdd, List.set_cons_zero, List.set_cons_succ] at e1
  rw [e1]
  clear e1 cr1 fr1 cr2 fr2 cr3 fr3 cr4 fr4 cr5 fr5 cr6 fr6
  have K5 := Aside0.mk (K4.out.aside (W' := w4.setRow b [Value.int .i64 a, .string rq.f0, .int .i64 rq.f1, .slice Arq nrq crq, .string rq.f3, .int .i64 rq.f4, .int .i64 rq.f5].toArray) (below_setRow' (Below.refl _ _) (by have := HLT.out; omega) _) (setRow_other _ _ _ _ (by have := HLT.out; omega)))
  have B5 := Aside0.mk (show Below bo W (w4.setRow b [Value.int .i64 a, .string rq.f0, .int .i64 rq.f1, .slice Arq nrq crq, .string rq.f3, .int .i64 rq.f4, .int .i64 rq.f5].toArray) from below_setRow' B4.out (by have := HLT.out; omega) _)
  have R5 := Aside0.mk (show Rt 49 b [Value.int .i64 a, .string rq.f0, .int .i64 rq.f1, .slice Arq nrq crq, .string rq.f3, .int .i64 rq.f4, .int .i64 rq.f5] (w4.setRow b [Value.int .i64 a, .string rq.f0, .int .i64 rq.f1, .slice Arq nrq crq, .string rq.f3, .int .i64 rq.f4, .int .i64 rq.f5].toArray) from R4.out.row _)
  have O5 := Aside0.mk (show Rt 49 bo [Value.int .i64 0, .string ⟨#[]⟩, .int .i64 0, .slice none 0 0, .string ⟨#[]⟩, .int .i64 0, .int .i64 0] (w4.setRow b [Value.int .i64 a, .string rq.f0, .int .i64 rq.f1, .slice Arq nrq crq, .string rq.f3, .int .i64 rq.f4, .int .i64 rq.f5].toArray) from (setRow_other _ _ _ _ (by have := HLT.out; omega)).trans O4.out)
  have Lrq_5 := Aside0.mk (LN_alive.row (b := b) Lrq_4.out (by have := HLT.out; omega) [Value.int .i64 a, .string rq.f0, .int .i64 rq.f1, .slice Arq nrq crq, .string rq.f3, .int .i64 rq.f4, .int .i64 rq.f5].toArray)
  generalize w4.setRow b [Value.int .i64 a, .string rq.f0, .int .i64 rq.f1, .slice Arq nrq crq, .string rq.f3, .int .i64 rq.f4, .int .i64 rq.f5].toArray = w5 at *
  have hk := rec_is K5.out Xa.out Xrq.out
  have HI := fin_is hk.1 hk.2
  have hQE := q_end hk.1
  rw [HI.1, HSS.out] at hQE
  have HQE := Aside0.mk hQE
  have HI2 := HI.2
  rw [HSS.out] at HI2
  clear hQE HI hk
  go_wp2_with fail
  go_at_call 68
  refine HQE.out.mono ?_
  rintro e w6 ⟨hb, hp, rfl⟩
  have B6 := Aside0.mk (show Below bo W w6 from B5.out.trans (hb.mono (by have := HLT.out; omega)))
  have O6 := Aside0.mk (show Rt 49 bo [Value.int .i64 0, .string ⟨#[]⟩, .int .i64 0, .slice none 0 0, .string ⟨#[]⟩, .int .i64 0, .int .i64 0] w6 from (hp.2 bo O5.out.lt (by have := HLT.out; show bo ≠ g; omega)).trans O5.out)
  have R6 := Aside0.mk (show Rt 49 b [Value.int .i64 a, .string rq.f0, .int .i64 rq.f1, .slice Arq nrq crq, .string rq.f3, .int .i64 rq.f4, .int .i64 rq.f5] w6 from (hp.2 b R5.out.lt (by have := HLT.out; show b ≠ g; omega)).trans R5.out)
  have Lrq_6 := Aside0.mk (LN_alive.kept Lrq_5.out hp (fun j hj e => by have := HLT.out; omega))
  clear hb hp HQE
  have z0 := O6.out.cell 0 _ rfl
  have f0 := O6.out.free 0
  have z1 := O6.out.cell 1 _ rfl
  have f1 := O6.out.free 1
  have z2 := O6.out.cell 2 _ rfl
  have f2 := O6.out.free 2
  have z3 := O6.out.cell 3 _ rfl
  have f3 := O6.out.free 3
  have z4 := O6.out.cell 4 _ rfl
  have f4 := O6.out.free 4
  have z5 := O6.out.cell 5 _ rfl
  have f5 := O6.out.free 5
  have z6 := O6.out.cell 6 _ rfl
  have f6 := O6.out.free 6
  rcases HI2 with ⟨m, rfl⟩ | ⟨e, p, rfl, he⟩
  · have x0 := R6.out.cell 0 _ rfl
    have x1 := R6.out.cell 1 _ rfl
    have x2 := R6.out.cell 2 _ rfl
    have x3 := R6.out.cell 3 _ rfl
    have x4 := R6.out.cell 4 _ rfl
    have x5 := R6.out.cell 5 _ rfl
    have x6 := R6.out.cell 6 _ rfl
    simp only [endOf]
    go_wp2_with fail
    rw [O6.out.full_rec]
    have R3 : Rt 49 bo [Value.int .i64 a, .string rq.f0, .int .i64 rq.f1, .slice Arq nrq crq, .string rq.f3, .int .i64 rq.f4, .int .i64 rq.f5] (w6.setRow bo [Value.int .i64 a, .string rq.f0, .int .i64 rq.f1, .slice Arq nrq crq, .string rq.f3, .int .i64 rq.f4, .int .i64 rq.f5].toArray) := O6.out.row _
    have Lrq_3 := LN_alive.row (b := bo) Lrq_6.out (by have := HLT.out; omega) [Value.int .i64 a, .string rq.f0, .int .i64 rq.f1, .slice Arq nrq crq, .string rq.f3, .int .i64 rq.f4, .int .i64 rq.f5].toArray
    have B3 : Below bo W (w6.setRow bo [Value.int .i64 a, .string rq.f0, .int .i64 rq.f1, .slice Arq nrq crq, .string rq.f3, .int .i64 rq.f4, .int .i64 rq.f5].toArray) := below_setRow' B6.out (Nat.le_refl _) _
    clear z0 f0 x0 z1 f1 x1 z2 f2 x2 z3 f3 x3 z4 f4 x4 z5 f5 x5 z6 f6 x6
    generalize w6.setRow bo [Value.int .i64 a, .string rq.f0, .int .i64 rq.f1, .slice Arq nrq crq, .string rq.f3, .int .i64 rq.f4, .int .i64 rq.f5].toArray = w7 at *
    have x0 := R3.cell 0 _ rfl
    have x1 := R3.cell 1 _ rfl
    have x2 := R3.cell 2 _ rfl
    have x3 := R3.cell 3 _ rfl
    have x4 := R3.cell 4 _ rfl
    have x5 := R3.cell 5 _ rfl
    have x6 := R3.cell 6 _ rfl
    refine ⟨rfl, ?_⟩
    simp [results, Try.results30, go_sem, x0, x1, x2, x3, x4, x5, x6]
    rw [HBO.out]
    exact ⟨B3, _, ⟨rfl, rfl, rfl⟩, Arq, nrq, crq, rfl, LN_alive.lower Lrq_3 (by have := HLT.out; omega)⟩
  · have h1 : (e == 0) = false := by simpa using he
    have h2 : decide (e = 0) = false := decide_eq_false he
    have h3 : (e != 0) = true := by simpa using he
    simp only [endOf]
    go_wp2_with fail
    rw [O6.out.same 0 _ rfl, O6.out.same 1 _ rfl, O6.out.same 2 _ rfl, O6.out.same 3 _ rfl, O6.out.same 4 _ rfl, O6.out.same 5 _ rfl, O6.out.same 6 _ rfl]
    refine ⟨rfl, ?_⟩
    simp [results, Try.results30, go_sem, z0, z1, z2, z3, z4, z5, z6]
    rw [HBO.out]
    exact ⟨B6.out, _, ⟨rfl, rfl, rfl⟩, none, 0, 0, rfl, Kd.R_nil _ _ _ _ _⟩
end Go.Proofs.Ytafmoglaockepaa.Cd
end
section
namespace Go.Proofs.Ytafmoglaockepaa.Cd
open Go Go.RowKit Go.Proofs.Ytafmoglaockepaa.Mine Go.Proofs.Ytafmoglaockepaa.Num Go.Proofs.Ytafmoglaockepaa.PG Go.Proofs.YtafmoglaockepaaW.PrintWords Go.Proofs.YtafmoglaockepaaW.PrintLast Go.Proofs.YtafmoglaockepaaW.PrintMore
set_option linter.unusedVariables false
set_option linter.unusedSimpArgs false
set_option maxHeartbeats 4000000
set_option maxRecDepth 100000
theorem sameRecord_ok (x : RecD) (hl : x.f1.f2.length ≤ 9223372036854775807) (k : Nat) (hk : x.f1.f2.length + 1 ≤ k) : larderref09_SameRecord.f k x.f0 x.f1.f0 x.f1.f1 x.f1.f2 x.f1.f3 x.f1.f4 x.f1.f5 x.f0 x.f1.f0 x.f1.f1 x.f1.f2 x.f1.f3 x.f1.f4 x.f1.f5 = some true := by
  unfold larderref09_SameRecord.f
  rw [if_pos rfl, sameRequest_ok x.f1 hl k hk]
  rfl
theorem records_walk (x : RecD) (A : Option Addr) (c : Nat) (A2 : Option Addr) (n2 c2 : Nat) (xs : List Int) (W : World)
    (hC : Kd.C k110 W A x.f1.f2.length x.f1.f2) (hnc : x.f1.f2.length ≤ c) (hok : ReqOk x.f1) (hi : Int64 x.f0) (hsum : sumQ x.f1 ≤ 1048576)
    (hC2 : Kd.C (Kd.int .u8) W A2 n2 xs) (hnc2 : n2 ≤ c2) (hby : IsBytes xs) (hn2 : n2 ≤ 1048576) :
    Calls Try.prog 5 #[.int .i64 x.f0, .agg #[.string x.f1.f0, .int .i64 x.f1.f1, .slice A x.f1.f2.length c, .string x.f1.f3, .int .i64 x.f1.f4, .int .i64 x.f1.f5], .slice A2 n2 c2] W fun e w' => e = .returned (.bool true) ∧ Below W.heap.size W w' := by
  obtain rfl : xs.length = n2 := Kd.C_len hC2
  have HC := Aside0.mk (fun W' (hb : Below W.heap.size W W') => Kd.C_below hC hb)
  have HC2 := Aside0.mk (fun W' (hb : Below W.heap.size W W') => Kd.C_below hC2 hb)
  have HNC := Aside0.mk hnc
  have HNC2 := Aside0.mk hnc2
  have HOK := Aside0.mk hok
  have HI := Aside0.mk hi
  have HSUM := Aside0.mk hsum
  have HBY := Aside0.mk hby
  have HN2 := Aside0.mk hn2
  have HLL := Aside0.mk (show 2 * x.f1.f2.length ≤ 1048576 by have := sumN_count x.f1.f2; unfold sumQ at hsum; omega)
  have HBU := Aside0.mk (show bulkQ x.f1 ≤ 10485820 by have := bulkQ_sum x.f1; omega)
  have hb1 : Below W.heap.size W (W.alloc (.cells #[.string x.f1.f0, .int .i64 x.f1.f1, .slice A x.f1.f2.length c, .string x.f1.f3, .int .i64 x.f1.f4, .int .i64 x.f1.f5] 40)) := below_alloc (Below.refl _ _) _
  have r1 : Rt 40 W.heap.size [.string x.f1.f0, .int .i64 x.f1.f1, .slice A x.f1.f2.length c, .string x.f1.f3, .int .i64 x.f1.f4, .int .i64 x.f1.f5] (W.alloc (.cells #[.string x.f1.f0, .int .i64 x.f1.f1, .slice A x.f1.f2.length c, .string x.f1.f3, .int .i64 x.f1.f4, .int .i64 x.f1.f5] 40)) := heap_alloc_new W _
  obtain ⟨bo, hbo⟩ : ∃ bo, W.heap.size = bo := ⟨_, rfl⟩
  have HBO := Aside0.mk hbo
  rw [hbo] at r1 hb1
  have R1 := Aside0.mk r1
  have B1 := Aside0.mk hb1
  clear hC hC2 hnc hnc2 hok hi hsum hby hn2 hb1 r1 hbo
  go_enter Try.func5, Try.ntmps5
  go_upto_region 1 with fail
  have hbo := HBO.out
  rw [hbo]
  clear hbo
  generalize W.alloc (.cells #[.string x.f1.f0, .int .i64 x.f1.f1, .slice A x.f1.f2.length c, .string x.f1.f3, .int .i64 x.f1.f4, .int .i64 x.f1.f5] 40) = w1 at *
  have HWT := Aside0.mk (larderlaw09_weight.calls (x.f1.f2.length + 1) x.f1.f0 x.f1.f1 A c x.f1.f2 x.f1.f3 x.f1.f4 x.f1.f5 (sumQ x.f1) w1 (HC.out w1 (by rw [HBO.out]; exact B1.out)) HNC.out (weight_ok x.f1 (by have := HSUM.out; omega) _ (Nat.le_refl _)))
  have q0 := R1.out.cell 0 _ rfl
  have q1 := R1.out.cell 1 _ rfl
  have q2 := R1.out.cell 2 _ rfl
  have q3 := R1.out.cell 3 _ rfl
  have q4 := R1.out.cell 4 _ rfl
  have q5 := R1.out.cell 5 _ rfl
  go_wp2_with fail
  go_at_call 19
  refine HWT.out.mono ?_
  rintro e w2 ⟨rfl, hb⟩
  have R2 := Aside0.mk (R1.out.below hb)
  have B2 := Aside0.mk (B1.out.trans (hb.mono (Nat.le_of_lt R1.out.lt)))
  obtain ⟨s, hs⟩ : ∃ s, sumQ x.f1 = s := ⟨_, rfl⟩
  have HS := Aside0.mk hs
  have hg1 : decide ((1048576 : Int) < ((s : Nat) : Int)) = false := decide_eq_false (by have := HSUM.out; omega)
  have hg2 : decide (1048576 < s) = false := decide_eq_false (by have := HSUM.out; omega)
  rw [hs]
  clear hb hs q0 q1 q2 q3 q4 q5 HWT
  have HLN := Aside0.mk (lent_at x.f1 A c w2 (HC.out w2 (by rw [HBO.out]; exact B2.out)) HNC.out (by have := HLL.out; omega))
  have q0 := R2.out.cell 0 _ rfl
  have q1 := R2.out.cell 1 _ rfl
  have q2 := R2.out.cell 2 _ rfl
  have q3 := R2.out.cell 3 _ rfl
  have q4 := R2.out.cell 4 _ rfl
  have q5 := R2.out.cell 5 _ rfl
  go_wp2_with fail
  go_at_call 20
  refine HLN.out.mono ?_
  rintro e w3 ⟨hb, Ao, co, rfl, hCo, hco, hSp, hcs⟩
  have R3 := Aside0.mk (R2.out.below hb)
  have B3 := Aside0.mk (B2.out.trans (hb.mono (Nat.le_of_lt R2.out.lt)))
  have HCO := Aside0.mk (And.intro hco hcs)
  clear hg1 hg2 q0 q1 q2 q3 q4 q5 HLN
  go_upto_region 4 with fail
  have hb4 : Below w3.heap.size w3 (w3.alloc (.cells #[.int .i64 x.f0, .string x.f1.f0, .int .i64 x.f1.f1, .slice Ao x.f1.f2.length co, .string x.f1.f3, .int .i64 x.f1.f4, .int .i64 x.f1.f5] 49)) := below_alloc (Below.refl _ _) _
  have r4 : Rt 49 w3.heap.size [.int .i64 x.f0, .string x.f1.f0, .int .i64 x.f1.f1, .slice Ao x.f1.f2.length co, .string x.f1.f3, .int .i64 x.f1.f4, .int .i64 x.f1.f5] (w3.alloc (.cells #[.int .i64 x.f0, .string x.f1.f0, .int .i64 x.f1.f1, .slice Ao x.f1.f2.length co, .string x.f1.f3, .int .i64 x.f1.f4, .int .i64 x.f1.f5] 49)) := heap_alloc_new w3 _
  obtain ⟨b4, hb4e⟩ : ∃ b4, w3.heap.size = b4 := ⟨_, rfl⟩
  have R4 := Aside0.mk (R3.out.below hb4)
  have B4 := Aside0.mk (B3.out.trans (hb4.mono (Nat.le_of_lt R3.out.lt)))
  have CO4 := Aside0.mk (And.intro (Kd.C_below hCo hb4) (Kd.C_below hSp hb4))
  rw [hb4e] at r4 ⊢
  have O4 := Aside0.mk r4
  clear hb4 r4 hb4e hb hCo hco hSp hcs
  generalize w3.alloc (.cells #[.int .i64 x.f0, .string x.f1.f0, .int .i64 x.f1.f1, .slice Ao x.f1.f2.length co, .string x.f1.f3, .int .i64 x.f1.f4, .int .i64 x.f1.f5] 49) = w4 at *
  have HPR := Aside0.mk (PutRecord_at x w4 Ao co CO4.out.1 HI.out HOK.out (by have := HBU.out; unfold bulkC; omega))
  have HRP := Aside0.mk (refPutRecord_ok x HI.out HOK.out (by have := HBU.out; unfold bulkC; omega) (x.f1.f2.length + 12) (Nat.le_refl _))
  obtain ⟨P, hP⟩ : ∃ P, putOut 4096 (83 :: encC x) = P := ⟨_, rfl⟩
  obtain ⟨ec, hec⟩ : ∃ ec, putCode 4096 (83 :: encC x) = ec := ⟨_, rfl⟩
  rw [hP, hec] at HPR HRP
  clear hP hec
  have o0 := O4.out.cell 0 _ rfl
  have o1 := O4.out.cell 1 _ rfl
  have o2 := O4.out.cell 2 _ rfl
  have o3 := O4.out.cell 3 _ rfl
  have o4 := O4.out.cell 4 _ rfl
  have o5 := O4.out.cell 5 _ rfl
  have o6 := O4.out.cell 6 _ rfl
  go_wp2_with fail
  go_at_call 27
  refine HPR.out.mono ?_
  rintro e w5 ⟨v, rfl, hR, hb⟩
  obtain ⟨Ap, cp, rfl, hcp, hPC⟩ := Kd.R_reads hR
  have R5 := Aside0.mk (R4.out.below hb)
  have O5 := Aside0.mk (O4.out.below hb)
  have B5 := Aside0.mk (B4.out.trans (hb.mono (Nat.le_of_lt R4.out.lt)))
  have CO5 := Aside0.mk (And.intro (Kd.C_below CO4.out.1 hb) (Kd.C_below CO4.out.2 hb))
  have CP5 := Aside0.mk hPC
  have HRC := Aside0.mk (larderref09_PutRecord.calls _ x.f0 x.f1.f0 x.f1.f1 A c x.f1.f2 x.f1.f3 x.f1.f4 x.f1.f5 P ec w5 (HC.out w5 (by rw [HBO.out]; exact B5.out)) HNC.out HRP.out)
  clear hR hb hPC hcp o0 o1 o2 o3 o4 o5 o6 HPR
  have q0 := R5.out.cell 0 _ rfl
  have q1 := R5.out.cell 1 _ rfl
  have q2 := R5.out.cell 2 _ rfl
  have q3 := R5.out.cell 3 _ rfl
  have q4 := R5.out.cell 4 _ rfl
  have q5 := R5.out.cell 5 _ rfl
  go_wp2_with fail
  go_at_call 28
  refine HRC.out.mono ?_
  rintro e w6 ⟨v, rfl, hR, hb⟩
  obtain ⟨Aq, cq, rfl, hcq, hQC⟩ := Kd.R_reads hR
  have R6 := Aside0.mk (R5.out.below hb)
  have O6 := Aside0.mk (O5.out.below hb)
  have B6 := Aside0.mk (B5.out.trans (hb.mono (Nat.le_of_lt R5.out.lt)))
  have CO6 := Aside0.mk (And.intro (Kd.C_below CO5.out.1 hb) (Kd.C_below CO5.out.2 hb))
  have s1 : (convert 26 9 (.slice Ap P.length cp)).run Try.prog w6 = .ok (.string (strOfNums P)) w6 := Kd.C_string Try.underlying26 Try.underlying5 Try.underlying9 (Kd.C_below CP5.out hb)
  have s2 : (convert 26 9 (.slice Aq P.length cq)).run Try.prog w6 = .ok (.string (strOfNums P)) w6 := Kd.C_string Try.underlying26 Try.underlying5 Try.underlying9 hQC
  have t1 : ((strOfNums P).toList == (strOfNums P).toList) = true := by simp
  have t2 : ((strOfNums P).toList != (strOfNums P).toList) = false := by simp
  have u1 : (ec == ec) = true := by simp
  have u2 : (ec != ec) = false := by simp
  have v1 : (x.f0 != x.f0) = false := by simp
  have v2 : (x.f0 == x.f0) = true := by simp
  have HKP := Aside0.mk (kept_at x.f1 Ao co A c w6 CO6.out.1 HCO.out.1 CO6.out.2 HCO.out.2 (HC.out w6 (by rw [HBO.out]; exact B6.out)) HNC.out (by have := HLL.out; omega))
  clear hR hb hQC hcq q0 q1 q2 q3 q4 q5 HRC
  have q0 := R6.out.cell 0 _ rfl
  have q1 := R6.out.cell 1 _ rfl
  have q2 := R6.out.cell 2 _ rfl
  have q3 := R6.out.cell 3 _ rfl
  have q4 := R6.out.cell 4 _ rfl
  have q5 := R6.out.cell 5 _ rfl
  have o0 := O6.out.cell 0 _ rfl
  have o1 := O6.out.cell 1 _ rfl
  have o2 := O6.out.cell 2 _ rfl
  have o3 := O6.out.cell 3 _ rfl
  have o4 := O6.out.cell 4 _ rfl
  have o5 := O6.out.cell 5 _ rfl
  have o6 := O6.out.cell 6 _ rfl
  go_wp2_with fail
  go_at_call 23
  refine HKP.out.mono ?_
  rintro e w7 ⟨rfl, hb⟩
  have B7 := Aside0.mk (B6.out.trans (hb.mono (Nat.le_of_lt R6.out.lt)))
  have S7 := Aside0.mk (show bo ≤ w7.heap.size from Nat.le_trans (Nat.le_of_lt R6.out.lt) hb.size)
  have O7 := Aside0.mk (O6.out.below hb)
  clear hb s1 s2 t1 t2 u1 u2 q0 q1 q2 q3 q4 q5 HKP o0 o1 o2 o3 o4 o5 o6
  have o0 := O7.out.cell 0 _ rfl
  have HLE := Aside0.mk (larderref01_Lent.calls A2 c2 xs xs w7 (HC2.out w7 (by rw [HBO.out]; exact B7.out)) HNC2.out (by unfold larderref01_Lent.f; rw [if_pos (by have := HN2.out; omega)]))
  go_wp2_with fail
  go_at_call 14
  refine HLE.out.mono ?_
  rintro e w8 ⟨v, rfl, hR, ⟨hsp, hcsp⟩, hb⟩
  obtain ⟨Am, cm, rfl, hcm, hMC⟩ := Kd.R_reads hR
  have B8 := Aside0.mk (B7.out.trans (hb.mono S7.out))
  have S8 := Aside0.mk (Nat.le_trans S7.out hb.size)
  have CM8 := Aside0.mk hMC
  have HCM := Aside0.mk hcm
  have CS8 := Aside0.mk (show Kd.C (Kd.int .u8) w8 Am (xs ++ marks9).length (xs ++ marks9) from hsp)
  have HCS := Aside0.mk (show (xs ++ marks9).length ≤ cm from hcsp)
  have HRA := Aside0.mk (Record_at Am xs.length cm xs w8 hMC hcm HBY.out (by have := HN2.out; omega))
  clear hR hsp hcsp hb hMC hcm HLE
  obtain ⟨wh, hwh⟩ : ∃ wh, whole 83 4096 xs (pRec xs 4096) = wh := ⟨_, rfl⟩
  have HWH := Aside0.mk hwh
  rw [hwh] at HRA
  clear hwh
  go_wp2_with fail
  go_at_call 29
  refine HRA.out.mono ?_
  rintro e w9 ⟨hb, v, rfl, A5, n5, c5, rfl, hR5⟩
  obtain ⟨y, hx⟩ : ∃ y, outOr zeroD_rec wh = y := ⟨_, rfl⟩
  rw [hx] at hR5 ⊢
  obtain ⟨A5', c5', e5, hc5, hC5⟩ := Kd.R_reads hR5
  injection e5 with e1 e2 e3
  subst e1 e2 e3
  have C59 := Aside0.mk hC5
  have HC5 := Aside0.mk hc5
  clear hR5 hC5 hc5
  have B9 := Aside0.mk (B8.out.trans (hb.mono S8.out))
  have S9 := Aside0.mk (Nat.le_trans S8.out hb.size)
  have CM9 := Aside0.mk (Kd.C_below CM8.out hb)
  have CS9 := Aside0.mk (Kd.C_below CS8.out hb)
  have HX := Aside0.mk hx
  obtain ⟨g1, hg1⟩ : ∃ g1, (endOf wh).1 = g1 := ⟨_, rfl⟩
  obtain ⟨g2, hg2⟩ : ∃ g2, (endOf wh).2 = g2 := ⟨_, rfl⟩
  rw [hg1, hg2]
  have HG := Aside0.mk (And.intro hg1 hg2)
  clear hb HRA hx hg1 hg2
  go_upto_region 10 with fail
  have hb7 : Below w9.heap.size w9 (w9.alloc (.cells #[.int .i64 y.f0, .string y.f1.f0, .int .i64 y.f1.f1, .slice A5 y.f1.f2.length c5, .string y.f1.f3, .int .i64 y.f1.f4, .int .i64 y.f1.f5] 49)) := below_alloc (Below.refl _ _) _
  have r7 : Rt 49 w9.heap.size [.int .i64 y.f0, .string y.f1.f0, .int .i64 y.f1.f1, .slice A5 y.f1.f2.length c5, .string y.f1.f3, .int .i64 y.f1.f4, .int .i64 y.f1.f5] (w9.alloc (.cells #[.int .i64 y.f0, .string y.f1.f0, .int .i64 y.f1.f1, .slice A5 y.f1.f2.length c5, .string y.f1.f3, .int .i64 y.f1.f4, .int .i64 y.f1.f5] 49)) := heap_alloc_new w9 _
  obtain ⟨b10, hb7e⟩ : ∃ b7, w9.heap.size = b7 := ⟨_, rfl⟩
  have B10 := Aside0.mk (B9.out.trans (hb7.mono S9.out))
  have S10 := Aside0.mk (Nat.le_trans S9.out hb7.size)
  have CM10 := Aside0.mk (Kd.C_below CM9.out hb7)
  have CS10 := Aside0.mk (Kd.C_below CS9.out hb7)
  have C510 := Aside0.mk (Kd.C_below C59.out hb7)
  rw [hb7e] at r7 ⊢
  have R10 := Aside0.mk r7
  clear hb7 r7 hb7e
  generalize w9.alloc (.cells #[.int .i64 y.f0, .string y.f1.f0, .int .i64 y.f1.f1, .slice A5 y.f1.f2.length c5, .string y.f1.f3, .int .i64 y.f1.f4, .int .i64 y.f1.f5] 49) = w10 at *
  have HRB := Aside0.mk (refRecord_at A2 xs.length c2 xs w10 (HC2.out w10 (by rw [HBO.out]; exact B10.out)) HNC2.out HBY.out (by have := HN2.out; omega))
  rw [HWH.out, HG.out.1, HG.out.2, HX.out] at HRB
  go_wp2_with fail
  go_at_call 30
  refine HRB.out.mono ?_
  rintro e w11 ⟨hb, v, rfl, A6, n6, c6, rfl, hR6⟩
  obtain ⟨A6', c6', e6, hc6, hC6⟩ := Kd.R_reads hR6
  injection e6 with e1 e2 e3
  subst e1 e2 e3
  have hb9 : Below w11.heap.size w11 (w11.alloc (.cells #[.int .i64 y.f0, .string y.f1.f0, .int .i64 y.f1.f1, .slice A6 y.f1.f2.length c6, .string y.f1.f3, .int .i64 y.f1.f4, .int .i64 y.f1.f5] 49)) := below_alloc (Below.refl _ _) _
  have hb' := hb.trans (hb9.mono hb.size)
  have r9 : Rt 49 w11.heap.size [.int .i64 y.f0, .string y.f1.f0, .int .i64 y.f1.f1, .slice A6 y.f1.f2.length c6, .string y.f1.f3, .int .i64 y.f1.f4, .int .i64 y.f1.f5] (w11.alloc (.cells #[.int .i64 y.f0, .string y.f1.f0, .int .i64 y.f1.f1, .slice A6 y.f1.f2.length c6, .string y.f1.f3, .int .i64 y.f1.f4, .int .i64 y.f1.f5] 49)) := heap_alloc_new w11 _
  obtain ⟨b12, hb9e⟩ : ∃ b9, w11.heap.size = b9 := ⟨_, rfl⟩
  have B12 := Aside0.mk (B10.out.trans (hb'.mono S10.out))
  have S12 := Aside0.mk (Nat.le_trans S10.out hb'.size)
  have CM12 := Aside0.mk (Kd.C_below CM10.out hb')
  have CS12 := Aside0.mk (Kd.C_below CS10.out hb')
  have C512 := Aside0.mk (Kd.C_below C510.out hb')
  have C612 := Aside0.mk (Kd.C_below hC6 hb9)
  have HC6 := Aside0.mk hc6
  clear hR6 hC6 hc6
  have R1012 := Aside0.mk (R10.out.below hb')
  go_upto_region 11 with fail
  rw [hb9e] at r9
  have R12 := Aside0.mk r9
  clear hb9 r9 hb9e hb hb' HRB
  generalize w11.alloc (.cells #[.int .i64 y.f0, .string y.f1.f0, .int .i64 y.f1.f1, .slice A6 y.f1.f2.length c6, .string y.f1.f3, .int .i64 y.f1.f4, .int .i64 y.f1.f5] 49) = w12 at *
  have HSR := Aside0.mk (larderref09_SameRecord.calls (y.f1.f2.length + 1) y.f0 y.f1.f0 y.f1.f1 A5 c5 y.f1.f2 y.f1.f3 y.f1.f4 y.f1.f5 y.f0 y.f1.f0 y.f1.f1 A6 c6 y.f1.f2 y.f1.f3 y.f1.f4 y.f1.f5 true w12 C512.out HC5.out C612.out HC6.out (sameRecord_ok y C512.out.2.1 _ (Nat.le_refl _)))
  have q0 := R1012.out.cell 0 _ rfl
  have p0 := R12.out.cell 0 _ rfl
  have q1 := R1012.out.cell 1 _ rfl
  have p1 := R12.out.cell 1 _ rfl
  have q2 := R1012.out.cell 2 _ rfl
  have p2 := R12.out.cell 2 _ rfl
  have q3 := R1012.out.cell 3 _ rfl
  have p3 := R12.out.cell 3 _ rfl
  have q4 := R1012.out.cell 4 _ rfl
  have p4 := R12.out.cell 4 _ rfl
  have q5 := R1012.out.cell 5 _ rfl
  have p5 := R12.out.cell 5 _ rfl
  have q6 := R1012.out.cell 6 _ rfl
  have p6 := R12.out.cell 6 _ rfl
  have u1 : (g1 == g1) = true := by simp
  have u2 : (g2 == g2) = true := by simp
  go_wp2_with fail
  go_at_call 31
  refine HSR.out.mono ?_
  rintro e w13 ⟨rfl, hb⟩
  have B13 := Aside0.mk (B12.out.trans (hb.mono S12.out))
  have S13 := Aside0.mk (Nat.le_trans S12.out hb.size)
  have HKT := Aside0.mk (larderref01_Kept.calls Am cm xs A2 c2 xs true w13 (Kd.C_below CM12.out hb) HCM.out (HC2.out w13 (by rw [HBO.out]; exact B13.out)) HNC2.out (Kd.C_below CS12.out hb) HCS.out (by unfold larderref01_Kept.f; rw [if_pos rfl]))
  clear hb HSR q0 p0 q1 p1 q2 p2 q3 p3 q4 p4 q5 p5 q6 p6
  go_wp2_with fail
  go_at_call 18
  refine HKT.out.mono ?_
  rintro e w14 ⟨rfl, hd⟩
  have hb : Below w13.heap.size w13 w14 := by
    obtain ⟨md, rfl⟩ := hd
    exact pw_below_drewN (Below.refl _ _) md
  have B14 := Aside0.mk (B13.out.trans (hb.mono S13.out))
  clear hd hb
  go_wp2_with fail
  go_ret
  rw [HBO.out]
  exact ⟨rfl, B14.out⟩
end Go.Proofs.Ytafmoglaockepaa.Cd
end
section
namespace Go.Proofs.Ytafmoglaockepaa.Bulk
open Go Go.ChangeShapes Go.WideShapes Go.ChangeAt Go.RowKit
theorem one_le {H : Type} (d : DataW H) : 1 ≤ Rows.uptoBulk d := by
  cases d with
  | lit l => cases l <;> simp [Rows.uptoBulk]
  | nil => simp [Rows.uptoBulk]
  | ptr d => simp [Rows.uptoBulk]
  | slice elems spare => simp [Rows.uptoBulk]
  | agg parts => simp [Rows.uptoBulk]
  | iface t d => simp [Rows.uptoBulk]
  | map entries => simp [Rows.uptoBulk]
  | held h => simp [Rows.uptoBulk]
theorem length_le {H : Type} (l : List (DataW H)) : l.length ≤ Rows.uptoBulkAll l := by
  induction l with
  | nil => simp [Rows.uptoBulkAll]
  | cons x r ih => have := one_le x; simp only [Rows.uptoBulkAll, List.length_cons]; omega
theorem bound {H : Type} {l : List (DataW H)} (hk : Rows.uptoSmall H l = true) : Rows.uptoBulkAll l ≤ 1048576 := of_decide_eq_true hk
end Go.Proofs.Ytafmoglaockepaa.Bulk
end
section
namespace Go.Proofs.Ytafmoglaockepaa.Cd
open Go Go.Deep Go.ChangeShapes Go.WideShapes Go.RowKit Go.Proofs.Ytafmoglaockepaa.Num Go.Proofs.Ytafmoglaockepaa.PG Go.Proofs.YtafmoglaockepaaW.PrintWords Go.Proofs.YtafmoglaockepaaW.PrintLast Go.Proofs.YtafmoglaockepaaW.PrintMore
set_option linter.unusedVariables false
set_option maxRecDepth 100000
theorem bytesArg {H : Type} {enc : TypeId × Value → H} {W : World} {base : Nat} {held : Bool} {a : Option Addr} {len cap : Nat} {d : DataW H} {ps : List MemPlace}
    (h : DataW.Trod enc Try.prog W base (fun _ => true) held 26 (.slice a len cap) d ps) : ∃ zs : List Int, Kd.C (Kd.int .u8) W a len zs ∧ len ≤ cap ∧ (∀ v ∈ zs, (Lit.int .u8 v).wf = true) ∧ len + 1 ≤ Rows.uptoBulk d + 0 := by
  obtain ⟨fuel, hf⟩ := h
  rcases open_ints Try.underlying26 Try.underlying5 (by kernel_rfl) hf with ⟨hcs, hx⟩ | ⟨x, l, c, zs, hcs, _, hl, hm, hz, hx, hcell, hwz⟩
  · simp [Value.cells] at hcs
    obtain ⟨rfl, rfl, rfl⟩ := hcs
    obtain ⟨hx, _⟩ := Prod.mk.inj hx
    subst hx
    exact ⟨[], Kd.C_nil _ _, Nat.le_refl _, fun _ hp => (by cases hp), by simp [Rows.uptoBulk]⟩
  · simp [Value.cells] at hcs
    obtain ⟨rfl, rfl, rfl⟩ := hcs
    have hz : zs.length = cap := by simpa using hz
    obtain ⟨hx, _⟩ := Prod.mk.inj hx
    subst hx
    refine ⟨zs.take len, Kd.C_of_reads (d := (0 : Int)) (h1 := fun _ => rfl) ⟨by rw [List.length_take]; omega, by simp only [maxLen] at hm; omega, fun _ => ⟨x, rfl, fun i hi => ?_⟩⟩, hl, fun v hv => hwz v (List.mem_of_mem_take hv), ?_⟩
    · rw [hcell i (by omega)]
      congr 2
      rw [List.getD_eq_getElem?_getD, List.getD_eq_getElem?_getD, List.getElem?_take, if_pos hi]
    · have h1 := Bulk.length_le (lits (H := H) .u8 (zs.take len))
      simp only [Rows.uptoBulk]
      have h2 : (lits (H := H) .u8 (zs.take len)).length = len := by
        simp [lits]
        omega
      omega
theorem isBytes_of {zs : List Int} (h : ∀ v ∈ zs, (Lit.int .u8 v).wf = true) : IsBytes zs := by
  intro v hv
  have := bounds_u8 (h v hv)
  omega
theorem int64_of {a : Int} (h : (Lit.int .i64 a).wf = true) : Int64 a := by
  have := bounds_i64 h
  unfold Int64
  omega
end Go.Proofs.Ytafmoglaockepaa.Cd
end
section
namespace Go.Proofs.Ytafmoglaockepaa.Cd
open Go Go.Deep Go.ChangeShapes Go.WideShapes Go.RowKit Go.Proofs.Ytafmoglaockepaa.Num Go.Proofs.Ytafmoglaockepaa.PG Go.Proofs.YtafmoglaockepaaW.PrintWords Go.Proofs.YtafmoglaockepaaW.PrintLast Go.Proofs.YtafmoglaockepaaW.PrintMore
set_option linter.unusedVariables false
set_option maxRecDepth 100000
theorem trod_struct6 {H : Type} {enc : TypeId × Value → H} {P : Program} {w : World} {base : Nat} {spare : Nat → Bool} {held : Bool} {t : TypeId} {f0 f1 f2 f3 f4 f5 : Field} {fuel : Nat} {cs : List Value} {x : DataW H × List MemPlace} (ht : P.underlying t = some (.struct #[f0, f1, f2, f3, f4, f5])) (h : DataW.trod enc P w base spare held fuel t cs = some x) :
    ∃ y0 y1 y2 y3 y4 y5 n, x.1 = .agg [y0.1, y1.1, y2.1, y3.1, y4.1, y5.1] ∧ cs.length = P.cellsOf t ∧ DataW.trod enc P w base spare held n f0.type ((cs.drop f0.offset).take (P.cellsOf f0.type)) = some y0 ∧
      DataW.trod enc P w base spare held n f1.type ((cs.drop f1.offset).take (P.cellsOf f1.type)) = some y1 ∧ DataW.trod enc P w base spare held n f2.type ((cs.drop f2.offset).take (P.cellsOf f2.type)) = some y2 ∧
      DataW.trod enc P w base spare held n f3.type ((cs.drop f3.offset).take (P.cellsOf f3.type)) = some y3 ∧ DataW.trod enc P w base spare held n f4.type ((cs.drop f4.offset).take (P.cellsOf f4.type)) = some y4 ∧ DataW.trod enc P w base spare held n f5.type ((cs.drop f5.offset).take (P.cellsOf f5.type)) = some y5 := by
  obtain ⟨xs, n, _, rfl, hl, hlen, hf⟩ := DataW.trod_struct ht h
  match xs, hlen with
  | [y0, y1, y2, y3, y4, y5], _ => exact ⟨y0, y1, y2, y3, y4, y5, n, by simp, hl, by simpa using hf 0 f0 rfl, by simpa using hf 1 f1 rfl, by simpa using hf 2 f2 rfl, by simpa using hf 3 f3 rfl, by simpa using hf 4 f4 rfl, by simpa using hf 5 f5 rfl⟩
theorem sum_bulkP {H α : Type} (wt : α → Nat) (f : Nat → α) (D : Nat → DataW H) : ∀ L : List Nat, (∀ i ∈ L, wt (f i) ≤ Rows.uptoBulk (D i)) → ((L.map f).map wt).sum ≤ Rows.uptoBulkAll (L.map D)
  | [], _ => by simp
  | i :: L, h => by
    have h1 := sum_bulkP wt f D L (fun j hj => h j (List.mem_cons_of_mem _ hj))
    have h2 := h i (List.mem_cons_self ..)
    simp only [Rows.uptoBulkAll, List.map_cons, List.sum_cons] at h1 ⊢
    omega
theorem rowArg {H α : Type} {enc : TypeId × Value → H} {W : World} {base : Nat} {held : Bool} {a : Option Addr} {len cap : Nat} {d : DataW H} {ps : List MemPlace} {sl e : TypeId} (kd : Kd α) (z : α) (Ok : α → Prop) (wt : α → Nat) (hu : Try.prog.underlying sl = some (.slice e)) (hsz : Try.prog.cellsOf e = kd.sz)
    (hel : ∀ (fuel : Nat) (cs : List Value) (x : DataW H × List MemPlace), DataW.trod enc Try.prog W base (fun _ => true) held fuel e cs = some x → ∃ p, kd.K W p cs ∧ Ok p ∧ wt p ≤ Rows.uptoBulk x.1)
    (h : DataW.Trod enc Try.prog W base (fun _ => true) held sl (.slice a len cap) d ps) : ∃ l : List α, Kd.C kd W a len l ∧ len ≤ cap ∧ (∀ p ∈ l, Ok p) ∧ (l.map wt).sum + 1 ≤ Rows.uptoBulk d := by
  obtain ⟨fuel, hf⟩ := h
  rcases open_slice hu hf with ⟨hcs, hx⟩ | ⟨ad, l, c, m, n, D, Pl, hcs, _, hl, hm, hmm, hx, hr⟩
  · simp [Value.cells] at hcs
    obtain ⟨rfl, rfl, rfl⟩ := hcs
    obtain ⟨hx, _⟩ := Prod.mk.inj hx
    subst hx
    exact ⟨[], Kd.C_nil _ _, Nat.le_refl _, fun _ hp => (by cases hp), by simp [Rows.uptoBulk]⟩
  · simp [Value.cells] at hcs
    obtain ⟨rfl, rfl, rfl⟩ := hcs
    rw [if_pos rfl] at hmm
    have hcell : ∀ i, i < len → ∃ p : α, (∃ cs : List Value, cs.length = kd.sz ∧ kd.K W p cs ∧ ∀ j u, cs[j]? = some u → W.cell? (ad.add (i * kd.sz + j)) = some u) ∧ Ok p ∧ wt p ≤ Rows.uptoBulk (D i) := fun i hi => by
      obtain ⟨cs, hc, ht⟩ := hr i (by omega)
      obtain ⟨p, hk, hok, hw⟩ := hel _ _ _ ht
      rw [hsz] at hc
      obtain ⟨_, _, hat⟩ := World.cells?_some hc
      refine ⟨p, ⟨cs, kd.K_len hk, hk, fun j u hj => ?_⟩, hok, hw⟩
      have hjl : j < kd.sz := by
        rw [← kd.K_len hk]
        exact (List.getElem?_eq_some_iff.1 hj).1
      have g := hat (i := j) hjl
      rw [Go.Deep.add_add] at g
      rw [g, ← hj]
    obtain ⟨f, hfun⟩ : ∃ f : Nat → α, ∀ i, i < len → (∃ cs : List Value, cs.length = kd.sz ∧ kd.K W (f i) cs ∧ ∀ j u, cs[j]? = some u → W.cell? (ad.add (i * kd.sz + j)) = some u) ∧ Ok (f i) ∧ wt (f i) ≤ Rows.uptoBulk (D i) :=
      ⟨fun i => if h : i < len then (hcell i h).choose else z, fun i hi => by simp only [dif_pos hi]; exact (hcell i hi).choose_spec⟩
    refine ⟨(List.range len).map f, ⟨by simp, by simp only [maxLen] at hm; omega, fun _ => ⟨ad, rfl, fun j p hj => ?_⟩⟩, hl, fun p hp => ?_, ?_⟩
    · obtain ⟨hj1, hj2⟩ := List.getElem?_eq_some_iff.1 hj
      have hjl : j < len := by simpa using hj1
      simp only [List.getElem_map, List.getElem_range] at hj2
      subst hj2
      exact (hfun j hjl).1
    · obtain ⟨i, hi, rfl⟩ := List.mem_map.1 hp
      exact (hfun i (List.mem_range.1 hi)).2.1
    · have hd : d = .slice ((List.range len).map D) ((List.range (m - len)).map fun j => D (len + j)) := congrArg Prod.fst hx
      rw [hd]
      simp only [Rows.uptoBulk]
      have := sum_bulkP wt f D (List.range len) (fun i hi => (hfun i (List.mem_range.1 hi)).2.2)
      omega
theorem size_bytes (k : ByteArray) : k.data.toList.length = k.size := by rw [Array.length_toList]; rfl
theorem lineCells {H : Type} {enc : TypeId × Value → H} {W : World} {base : Nat} {held : Bool} (fuel : Nat) (cs : List Value) (x : DataW H × List MemPlace) (h : DataW.trod enc Try.prog W base (fun _ => true) held fuel 110 cs = some x) :
    ∃ p : S110, k110.K W p cs ∧ Int64 p.f1 ∧ 2 + p.f0.size ≤ Rows.uptoBulk x.1 := by
  have c3 : Try.prog.cellsOf 3 = 1 := by kernel_rfl
  have c9 : Try.prog.cellsOf 9 = 1 := by kernel_rfl
  have c110 : Try.prog.cellsOf 110 = 2 := by kernel_rfl
  obtain ⟨y0, y1, n', hy, hlen, h0, h1⟩ := trod_struct2 Try.underlying110 h
  rw [c110] at hlen
  obtain ⟨v0, v1, rfl⟩ : ∃ v0 v1, cs = [v0, v1] := by
    match cs, hlen with
    | [v0, v1], _ => exact ⟨v0, v1, rfl⟩
  simp only [c3, c9] at h0 h1
  obtain ⟨k0, e0, x0, w0⟩ := DataW.trod_string Try.underlying9 h0
  obtain ⟨k1, e1, x1, w1⟩ := DataW.trod_int Try.underlying3 h1
  simp at e0 e1
  subst e0
  subst e1
  refine ⟨⟨k0, k1⟩, k110_mk W ⟨k0, k1⟩, int64_of w1, ?_⟩
  rw [hy, x0, x1]
  simp only [Rows.uptoBulk, Rows.uptoBulkAll]
  have := size_bytes k0
  omega
theorem linesArg {H : Type} {enc : TypeId × Value → H} {W : World} {base : Nat} {held : Bool} {a : Option Addr} {len cap : Nat} {d : DataW H} {ps : List MemPlace}
    (h : DataW.Trod enc Try.prog W base (fun _ => true) held 38 (.slice a len cap) d ps) : ∃ l : List S110, Kd.C k110 W a len l ∧ len ≤ cap ∧ LinOk l ∧ sumN l + 1 ≤ Rows.uptoBulk d :=
  rowArg k110 ⟨⟨#[]⟩, 0⟩ (fun p => Int64 p.f1) (fun p => 2 + p.f0.size) Try.underlying38 (by kernel_rfl) lineCells h
theorem slice_of {H : Type} {enc : TypeId × Value → H} {W : World} {base : Nat} {held : Bool} {sl e : TypeId} {fuel : Nat} {v : Value} {x : DataW H × List MemPlace} (hu : Try.prog.underlying sl = some (.slice e)) (h : DataW.trod enc Try.prog W base (fun _ => true) held fuel sl [v] = some x) :
    ∃ a len cap, v = .slice a len cap ∧ DataW.Trod enc Try.prog W base (fun _ => true) held sl (.slice a len cap) x.1 x.2 := by
  obtain ⟨a, len, cap, rfl⟩ : ∃ a len cap, v = .slice a len cap := by
    rcases open_slice hu h with ⟨hcs, _⟩ | ⟨ad, l, c, _, _, _, _, hcs, _⟩
    · simp at hcs; exact ⟨_, _, _, hcs⟩
    · simp at hcs; exact ⟨_, _, _, hcs⟩
  exact ⟨a, len, cap, rfl, fuel, h⟩
theorem reqCells {H : Type} {enc : TypeId × Value → H} {W : World} {base : Nat} {held : Bool} (fuel : Nat) (cs : List Value) (x : DataW H × List MemPlace) (h : DataW.trod enc Try.prog W base (fun _ => true) held fuel 40 cs = some x) :
    ∃ (q : S40) (A : Option Addr) (c : Nat), cs = [.string q.f0, .int .i64 q.f1, .slice A q.f2.length c, .string q.f3, .int .i64 q.f4, .int .i64 q.f5] ∧ q.f2.length ≤ c ∧ Kd.C k110 W A q.f2.length q.f2 ∧ ReqOk q ∧ 7 + sumQ q ≤ Rows.uptoBulk x.1 := by
  have c3 : Try.prog.cellsOf 3 = 1 := by kernel_rfl
  have c9 : Try.prog.cellsOf 9 = 1 := by kernel_rfl
  have c38 : Try.prog.cellsOf 38 = 1 := by kernel_rfl
  have c40 : Try.prog.cellsOf 40 = 6 := by kernel_rfl
  obtain ⟨y0, y1, y2, y3, y4, y5, n, hx, hlen, h0, h1, h2, h3, h4, h5⟩ := trod_struct6 Try.underlying40 h
  rw [c40] at hlen
  obtain ⟨v0, v1, v2, v3, v4, v5, rfl⟩ : ∃ v0 v1 v2 v3 v4 v5, cs = [v0, v1, v2, v3, v4, v5] := by
    match cs, hlen with
    | [v0, v1, v2, v3, v4, v5], _ => exact ⟨v0, v1, v2, v3, v4, v5, rfl⟩
  simp only [c3, c9, c38] at h0 h1 h2 h3 h4 h5
  have h2' : DataW.trod enc Try.prog W base (fun _ => true) held n 38 [v2] = some y2 := h2
  obtain ⟨k0, e0, x0, _⟩ := DataW.trod_string Try.underlying9 h0
  obtain ⟨k1, e1, x1, w1⟩ := DataW.trod_int Try.underlying3 h1
  obtain ⟨k3, e3, x3, _⟩ := DataW.trod_string Try.underlying9 h3
  obtain ⟨k4, e4, x4, w4⟩ := DataW.trod_int Try.underlying3 h4
  obtain ⟨k5, e5, x5, w5⟩ := DataW.trod_int Try.underlying3 h5
  simp at e0 e1 e3 e4 e5
  subst e0 e1 e3 e4 e5
  obtain ⟨a, len, cap, rfl, hT⟩ := slice_of Try.underlying38 h2'
  obtain ⟨l, hC, hl, hlo, hb⟩ := linesArg hT
  obtain rfl : l.length = len := Kd.C_len hC
  refine ⟨⟨k0, k1, l, k3, k4, k5⟩, a, cap, rfl, hl, hC, ⟨int64_of w1, hlo, int64_of w4, int64_of w5⟩, ?_⟩
  rw [hx, x0, x1, x3, x4, x5]
  simp only [Rows.uptoBulk, Rows.uptoBulkAll, sumQ]
  have := size_bytes k0
  have := size_bytes k3
  omega
theorem requestArg {H : Type} {enc : TypeId × Value → H} {W : World} {base b0 : Nat} {r : Reach} {held : Bool} {v : Value} {d : DataW H} {ps : List MemPlace} (hv : Value.okWide Try.prog W r b0 40 v)
    (h : DataW.Trod enc Try.prog W base (fun _ => true) held 40 v d ps) : ∃ (q : S40) (A : Option Addr) (c : Nat), v = .agg #[.string q.f0, .int .i64 q.f1, .slice A q.f2.length c, .string q.f3, .int .i64 q.f4, .int .i64 q.f5] ∧ Kd.C k110 W A q.f2.length q.f2 ∧ q.f2.length ≤ c ∧ ReqOk q ∧ 7 + sumQ q ≤ Rows.uptoBulk d := by
  obtain ⟨cs, rfl, hsz⟩ := okWide_struct Try.underlying40 hv
  obtain ⟨fuel, hf⟩ := h
  obtain ⟨q, A, c, hcs, hc, hC, hok, hb⟩ := reqCells _ _ _ hf
  refine ⟨q, A, c, ?_, hC, hc, hok, hb⟩
  have hcs : cs.toList = _ := hcs
  rw [← hcs]
end Go.Proofs.Ytafmoglaockepaa.Cd
end
