/- What the codec writes and reads: texts of this session joined, with what is not needed left out. -/
import Derived.Test.YtafmoglaockepaaFo4
import Derived.Deep.RegionHeld3
import Derived.Deep.RegionLaw
import Derived.Test.YtafmoglaockepaaFo2
import Derived.Test.YtafmoglaockepaaFo3
section
namespace Go.Proofs.Ytafmoglaockepaa.Cd
open Go Go.RowKit Go.Proofs.Ytafmoglaockepaa.Num Go.Proofs.Ytafmoglaockepaa.PG Go.Proofs.YtafmoglaockepaaW.PrintWords Go.Proofs.YtafmoglaockepaaW.PrintLast Go.Proofs.YtafmoglaockepaaW.PrintMore
set_option linter.unusedVariables false
set_option linter.unusedSimpArgs false
set_option maxHeartbeats 4000000
set_option maxRecDepth 100000
theorem read_record (A : Option Addr) (n c : Nat) (xs : List Int) (W : World) (hC : Kd.C (Kd.int .u8) W A n xs) (hnc : n ≤ c) (hb : IsBytes xs) (hbig : n < 1000000000) :
    Calls Try.prog 79 #[.slice A n c, .int .u8 83, .int .i64 4096, .func (.func 80) #[] #[]] W fun e w' => Below W.heap.size W w' ∧ ∃ v, e = .returned (.tuple #[v, .int .i64 (endOf (whole 83 4096 xs (pRec xs 4096))).1, .int .i64 (endOf (whole 83 4096 xs (pRec xs 4096))).2]) ∧ RdOut memRec zero_rec W.heap.size (whole 83 4096 xs (pRec xs 4096)) v w' := by
  have HC := Aside0.mk hC
  have HNC := Aside0.mk hnc
  have HBY := Aside0.mk hb
  have HBIG := Aside0.mk hbig
  have HLEN := Aside0.mk (show xs.length = n from Kd.C_len hC)
  have hmf : ∀ (fn : Fn) (first cap : Array Value) (w : World), (Instr.makeFunc fn first cap).run Try.prog w = .ok (.func fn first cap) w := fun _ _ _ _ => rfl
  clear hC hnc hb hbig
  obtain ⟨bo, hbo⟩ : ∃ bo, W.heap.size = bo := ⟨_, rfl⟩
  have HBO := Aside0.mk hbo
  clear hbo
  go_enter_defers Try.func79, Try.ntmps79
  go_upto_region 3 with fail
  have hb1 : Below W.heap.size W (W.alloc (.cells #[.int .i64 0, .string ⟨#[]⟩, .int .i64 0, .slice none 0 0, .string ⟨#[]⟩, .int .i64 0, .int .i64 0] 49)) := below_alloc (Below.refl _ _) _
  have o1 : Rt 49 W.heap.size zero_rec (W.alloc (.cells #[.int .i64 0, .string ⟨#[]⟩, .int .i64 0, .slice none 0 0, .string ⟨#[]⟩, .int .i64 0, .int .i64 0] 49)) := heap_alloc_new W _
  have s1 : (W.alloc (.cells #[.int .i64 0, .string ⟨#[]⟩, .int .i64 0, .slice none 0 0, .string ⟨#[]⟩, .int .i64 0, .int .i64 0] 49)).heap.size = W.heap.size + 1 := by simp
  generalize W.alloc (.cells #[.int .i64 0, .string ⟨#[]⟩, .int .i64 0, .slice none 0 0, .string ⟨#[]⟩, .int .i64 0, .int .i64 0] 49) = wa at *
  have hb2 : Below wa.heap.size wa (wa.alloc (.cells #[.int .i64 0] 22)) := below_alloc (Below.refl _ _) _
  have e2 : Rt 22 wa.heap.size [.int .i64 0] (wa.alloc (.cells #[.int .i64 0] 22)) := heap_alloc_new wa _
  have o2 := o1.below hb2
  have s2 : (wa.alloc (.cells #[.int .i64 0] 22)).heap.size = wa.heap.size + 1 := by simp
  have hc2 := hb1.trans (hb2.mono hb1.size)
  generalize wa.alloc (.cells #[.int .i64 0] 22) = wb at *
  have hb3 : Below wb.heap.size wb (wb.alloc (.cells #[.int .i64 0] 3)) := below_alloc (Below.refl _ _) _
  have a3 : Rt 3 wb.heap.size [.int .i64 0] (wb.alloc (.cells #[.int .i64 0] 3)) := heap_alloc_new wb _
  have o3 := o2.below hb3
  have e3 := e2.below hb3
  have s3 : (wb.alloc (.cells #[.int .i64 0] 3)).heap.size = wb.heap.size + 1 := by simp
  have hc3 := hc2.trans (hb3.mono hc2.size)
  generalize wb.alloc (.cells #[.int .i64 0] 3) = wc at *
  have hb4 : Below wc.heap.size wc (wc.alloc (.cells #[.slice A n c, .int .i64 0, .int .i64 4096] 158)) := below_alloc (Below.refl _ _) _
  have g4 : Rt 158 wc.heap.size [.slice A n c, .int .i64 0, .int .i64 4096] (wc.alloc (.cells #[.slice A n c, .int .i64 0, .int .i64 4096] 158)) := heap_alloc_new wc _
  have o4 := o3.below hb4
  have e4 := e3.below hb4
  have a4 := a3.below hb4
  have hc4 := hc3.trans (hb4.mono hc3.size)
  have s4 : (wc.alloc (.cells #[.slice A n c, .int .i64 0, .int .i64 4096] 158)).heap.size = wc.heap.size + 1 := by simp
  generalize wc.alloc (.cells #[.slice A n c, .int .i64 0, .int .i64 4096] 158) = w4 at *
  rw [s3, s2, s1] at g4 s4
  rw [s2, s1] at a4
  rw [s1] at e4
  obtain ⟨be, hbe⟩ : ∃ be, W.heap.size + 1 = be := ⟨_, rfl⟩
  rw [hbe] at e4 a4 g4 s4 ⊢
  obtain ⟨ba, hba⟩ : ∃ ba, be + 1 = ba := ⟨_, rfl⟩
  rw [hba] at a4 g4 s4 ⊢
  obtain ⟨g, hg⟩ : ∃ g, ba + 1 = g := ⟨_, rfl⟩
  rw [hg] at g4 s4 ⊢
  rw [HBO.out] at o4 hbe ⊢
  have O4 := Aside0.mk o4
  have E4 := Aside0.mk e4
  have A4 := Aside0.mk a4
  have G4 := Aside0.mk g4
  have B4 := Aside0.mk (show Below bo W w4 by rw [← HBO.out]; exact hc4)
  have HORD := Aside0.mk (show be = bo + 1 ∧ ba = bo + 2 ∧ g = bo + 3 ∧ w4.heap.size = bo + 4 by omega)
  clear hb1 o1 s1 hb2 e2 o2 s2 hc2 hb3 a3 o3 e3 s3 hc3 hb4 o4 e4 a4 hc4 s4 hbe hba hg g4 hmf
  have HFAULT := Aside0.mk (show ∀ (er p : Int) (w : World), Rt 49 bo zero_rec w → Rt 22 be [.int .i64 0] w → Rt 3 ba [.int .i64 0] w → Below bo W w → CallsD Try.prog 124 #[ptr bo, ptr be, ptr ba] (.panicking [{ v := fault er p, recovered := false }]) w fun e u' w' =>
      e = .returned (.tuple #[]) ∧ u' = .panicking [{ v := fault er p, recovered := true }] ∧ Rt 49 bo zero_rec w' ∧ Rt 22 be [.int .i64 er] w' ∧ Rt 3 ba [.int .i64 p] w' ∧ Below bo W w' from fun er p w ho he ha hb => by
    have := HORD.out
    refine (catch_rec er p [] w ho he ha (by omega) (by omega) (by omega)).mono ?_
    rintro e u' w' ⟨h1, h2, h3, h4, h5, _, h6⟩
    exact ⟨h1, h2, h3, h4, h5, hb.trans (h6 bo (by omega) (by omega) (by have := hb.size; have := HBO.out; omega))⟩)
  by_cases hl : 4096 < n
  · have d1 : decide ((4096 : Int) < (n : Int)) = true := decide_eq_true (by omega)
    have d2 : decide (4096 < n) = true := decide_eq_true hl
    have HR := Aside0.mk (show whole 83 4096 xs (pRec xs 4096) = Res.fail 1 0 by
      unfold whole
      rw [HLEN.out, if_pos hl])
    clear hl
    go_wp2_with fail
    refine leaves_cons (f := 124) (args := #[ptr bo, ptr be, ptr ba]) (by simp) (by simp [go_sem]) ?_
    refine (HFAULT.out 1 0 w4 O4.out E4.out A4.out B4.out).mono ?_
    rintro e u' w' ⟨rfl, rfl, ho, he, ha, hb⟩
    have x0 := ho.cell 0 _ rfl
    have x1 := ho.cell 1 _ rfl
    have x2 := ho.cell 2 _ rfl
    have x3 := ho.cell 3 _ rfl
    have x4 := ho.cell 4 _ rfl
    have x5 := ho.cell 5 _ rfl
    have x6 := ho.cell 6 _ rfl
    have y0 := he.cell 0 _ rfl
    have z0 := ha.cell 0 _ rfl
    rw [HR.out]
    simp [Leaves, settle, results, Try.results79, go_sem, x0, x1, x2, x3, x4, x5, x6, x5, x6, y0, z0]
    exact ⟨by rw [HBO.out]; exact hb, _, ⟨rfl, rfl, rfl⟩, rfl⟩
  have d1 : decide ((4096 : Int) < (n : Int)) = false := decide_eq_false (by omega)
  have d2 : decide (4096 < n) = false := decide_eq_false hl
  have HL := Aside0.mk hl
  clear hl
  rcases Nat.eq_zero_or_pos n with hz | hz
  · have HR := Aside0.mk (show whole 83 4096 xs (pRec xs 4096) = Res.fail 3 0 by
      unfold whole
      rw [HLEN.out, if_neg HL.out, if_pos hz])
    have d3 : ((n : Int) == 0) = true := by simpa using hz
    have d4 : decide (n = 0) = true := decide_eq_true hz
    have d5 : (n : Int) = 0 := by omega
    go_wp2_with fail
    refine leaves_cons (f := 124) (args := #[ptr bo, ptr be, ptr ba]) (by simp) (by simp [go_sem]) ?_
    refine (HFAULT.out 3 0 w4 O4.out E4.out A4.out B4.out).mono ?_
    rintro e u' w' ⟨rfl, rfl, ho, he, ha, hb⟩
    have x0 := ho.cell 0 _ rfl
    have x1 := ho.cell 1 _ rfl
    have x2 := ho.cell 2 _ rfl
    have x3 := ho.cell 3 _ rfl
    have x4 := ho.cell 4 _ rfl
    have x5 := ho.cell 5 _ rfl
    have x6 := ho.cell 6 _ rfl
    have y0 := he.cell 0 _ rfl
    have z0 := ha.cell 0 _ rfl
    rw [HR.out]
    simp [Leaves, settle, results, Try.results79, go_sem, x0, x1, x2, x3, x4, x5, x6, x5, x6, y0, z0]
    exact ⟨by rw [HBO.out]; exact hb, _, ⟨rfl, rfl, rfl⟩, rfl⟩
  have d3 : ((n : Int) == 0) = false := by simp; omega
  have d4 : decide (n = 0) = false := decide_eq_false (by omega)
  have HZ := Aside0.mk hz
  have i0 : (0 : Int) < (n : Int) := by omega
  have hCx := Kd.C_below HC.out (show Below W.heap.size W w4 by rw [HBO.out]; exact B4.out)
  obtain ⟨ad, rfl, hcell⟩ := (Kd.reads_of_C (d := (0 : Int)) (h1 := fun _ => rfl) hCx).2.2 hz
  have k0 := hcell 0 hz
  obtain ⟨x, hx⟩ : ∃ x, xs.getD 0 0 = x := ⟨_, rfl⟩
  rw [hx] at k0
  have HX := Aside0.mk (show xs.headD 0 = x by rw [← hx]; cases xs <;> rfl)
  have k1 : w4.cell? ad = some (.int .u8 x) := by
    have e : ad.add 0 = ad := by simp [Addr.add]
    rwa [e] at k0
  clear hz hCx hcell hx
  by_cases hk : x = 83
  rotate_left
  · have HR := Aside0.mk (show whole 83 4096 xs (pRec xs 4096) = Res.fail 90 0 by
      unfold whole
      rw [HLEN.out, if_neg HL.out, if_neg (by have := HZ.out; omega), HX.out, if_pos hk])
    have d5 : (x != 83) = true := by simpa using hk
    have d6 : (x == 83) = false := by simpa using hk
    have d7 : decide (x = 83) = false := decide_eq_false hk
    clear hk
    go_wp2_with fail
    refine leaves_cons (f := 124) (args := #[ptr bo, ptr be, ptr ba]) (by simp) (by simp [go_sem]) ?_
    refine (HFAULT.out 90 0 w4 O4.out E4.out A4.out B4.out).mono ?_
    rintro e u' w' ⟨rfl, rfl, ho, he, ha, hb⟩
    have x0 := ho.cell 0 _ rfl
    have x1 := ho.cell 1 _ rfl
    have x2 := ho.cell 2 _ rfl
    have x3 := ho.cell 3 _ rfl
    have x4 := ho.cell 4 _ rfl
    have x5 := ho.cell 5 _ rfl
    have x6 := ho.cell 6 _ rfl
    have y0 := he.cell 0 _ rfl
    have z0 := ha.cell 0 _ rfl
    rw [HR.out]
    simp [Leaves, settle, results, Try.results79, go_sem, x0, x1, x2, x3, x4, x5, x6, x5, x6, y0, z0]
    exact ⟨by rw [HBO.out]; exact hb, _, ⟨rfl, rfl, rfl⟩, rfl⟩
  subst hk
  have hg1 := G4.out.cell 1 _ rfl
  have fg1 := G4.out.free 1
  go_upto_region 10 with fail
  rw [G4.out.set 1 (.int .i64 1)]
  have hl1 : [Value.slice (some ad) n c, .int .i64 0, .int .i64 4096].set 1 (.int .i64 1) = [Value.slice (some ad) n c, .int .i64 1, .int .i64 4096] := rfl
  rw [hl1]
  have K4 : CrAt g bo (some ad) n c xs 0 4096 w4 := ⟨G4.out, fun W' hb => Kd.C_below HC.out (by rw [HBO.out]; exact B4.out.trans hb), by have := HORD.out; omega, HNC.out, Nat.zero_le _, HBIG.out, by decide, HBY.out⟩
  have hmv := K4.moved (m' := 1) HZ.out
  have e1 : (((1 : Nat) : Int)) = 1 := rfl
  have e2 : (((4096 : Nat) : Int)) = 4096 := rfl
  rw [e1, e2] at hmv
  have K5 := Aside0.mk hmv.1
  have B5 := Aside0.mk (B4.out.trans hmv.2.1)
  have O5 := Aside0.mk (show Rt 49 bo zero_rec (w4.setRow g [Value.slice (some ad) n c, .int .i64 1, .int .i64 4096].toArray) from (setRow_other _ _ _ _ (by have := HORD.out; omega)).trans O4.out)
  have E5 := Aside0.mk (show Rt 22 be [.int .i64 0] (w4.setRow g [Value.slice (some ad) n c, .int .i64 1, .int .i64 4096].toArray) from (setRow_other _ _ _ _ (by have := HORD.out; omega)).trans E4.out)
  have A5 := Aside0.mk (show Rt 3 ba [.int .i64 0] (w4.setRow g [Value.slice (some ad) n c, .int .i64 1, .int .i64 4096].toArray) from (setRow_other _ _ _ _ (by have := HORD.out; omega)).trans A4.out)
  have S5 := Aside0.mk (show bo + 4 ≤ (w4.setRow g [Value.slice (some ad) n c, .int .i64 1, .int .i64 4096].toArray).heap.size by rw [setRow_size]; have := HORD.out; omega)
  clear hmv K4 hl1 e1 e2 hg1 fg1 k0 k1 d1 d2 d3 d4 i0
  generalize w4.setRow g [Value.slice (some ad) n c, .int .i64 1, .int .i64 4096].toArray = w5 at *
  have HW := Aside0.mk (show whole 83 4096 xs (pRec xs 4096) = (pRec xs 4096 1).bind fun x n => if n < xs.length then .fail 4 (n : Int) else .ok x n by
    unfold whole
    rw [HLEN.out, if_neg HL.out, if_neg (by have := HZ.out; omega), HX.out, if_neg (by decide)])
  go_wp2_with fail
  go_at_call 80
  refine (r_record K5.out).mono ?_
  rintro e w6 ⟨hb, hp, ho⟩
  have O6 := Aside0.mk (show Rt 49 bo zero_rec w6 from (hp.2 bo O5.out.lt (by have := HORD.out; show bo ≠ g; omega)).trans O5.out)
  have E6 := Aside0.mk (show Rt 22 be [.int .i64 0] w6 from (hp.2 be E5.out.lt (by have := HORD.out; show be ≠ g; omega)).trans E5.out)
  have A6 := Aside0.mk (show Rt 3 ba [.int .i64 0] w6 from (hp.2 ba A5.out.lt (by have := HORD.out; show ba ≠ g; omega)).trans A5.out)
  have B6 := Aside0.mk (B5.out.trans hb)
  rcases hq : pRec xs 4096 1 with ⟨x, m2⟩ | ⟨er, p⟩
  rotate_left
  · rw [hq] at ho
    have ho : e = gaveUp er p := ho
    subst ho
    have HR := Aside0.mk (show whole 83 4096 xs (pRec xs 4096) = Res.fail er p by rw [HW.out, hq]; rfl)
    clear hb hp hq
    simp only [gaveUp]
    refine leaves_cons (f := 124) (args := #[ptr bo, ptr be, ptr ba]) (by simp) (by simp [go_sem]) ?_
    refine (HFAULT.out er p w6 O6.out E6.out A6.out B6.out).mono ?_
    rintro e u' w' ⟨rfl, rfl, ho, he, ha, hb⟩
    have x0 := ho.cell 0 _ rfl
    have x1 := ho.cell 1 _ rfl
    have x2 := ho.cell 2 _ rfl
    have x3 := ho.cell 3 _ rfl
    have x4 := ho.cell 4 _ rfl
    have x5 := ho.cell 5 _ rfl
    have x6 := ho.cell 6 _ rfl
    have y0 := he.cell 0 _ rfl
    have z0 := ha.cell 0 _ rfl
    rw [HR.out]
    simp [Leaves, settle, results, Try.results79, go_sem, x0, x1, x2, x3, x4, x5, x6, x5, x6, y0, z0]
    exact ⟨by rw [HBO.out]; exact hb, _, ⟨rfl, rfl, rfl⟩, rfl⟩
  rw [hq] at ho
  obtain ⟨v, he, ⟨Arq, nrq, crq, hv, hrq⟩, hk⟩ : ∃ v, e = .returned v ∧ memRec w5.heap.size x v w6 ∧ CrAt g bo (some ad) n c xs m2 4096 w6 := ho
  subst he hv
  have K6 := Aside0.mk hk
  have Lrq_6 := Aside0.mk (LN_alive.lower hrq S5.out)
  have HQ := Aside0.mk hq
  clear hb hp hq hrq hk
  try clear ho
  go_upto_region 11 with fail
  have hb7 : Below w6.heap.size w6 (w6.alloc (.cells #[.int .i64 x.f0, .string x.f1.f0, .int .i64 x.f1.f1, .slice Arq nrq crq, .string x.f1.f3, .int .i64 x.f1.f4, .int .i64 x.f1.f5] 49)) := below_alloc (Below.refl _ _) _
  have r7 : Rt 49 w6.heap.size [.int .i64 x.f0, .string x.f1.f0, .int .i64 x.f1.f1, .slice Arq nrq crq, .string x.f1.f3, .int .i64 x.f1.f4, .int .i64 x.f1.f5] (w6.alloc (.cells #[.int .i64 x.f0, .string x.f1.f0, .int .i64 x.f1.f1, .slice Arq nrq crq, .string x.f1.f3, .int .i64 x.f1.f4, .int .i64 x.f1.f5] 49)) := heap_alloc_new w6 _
  obtain ⟨bx, hbx⟩ : ∃ bx, w6.heap.size = bx := ⟨_, rfl⟩
  have O7 := Aside0.mk (O6.out.below hb7)
  have E7 := Aside0.mk (E6.out.below hb7)
  have A7 := Aside0.mk (A6.out.below hb7)
  have K7 := Aside0.mk (K6.out.below hb7)
  have Lrq_7 := Aside0.mk (LN_alive.below Lrq_6.out hb7)
  have B7 := Aside0.mk (B6.out.trans (hb7.mono (by have := B6.out.size; have := HBO.out; omega)))
  have B7' := B7.out
  rw [hbx] at r7 ⊢
  have R7 := Aside0.mk r7
  clear hb7 r7 hbx B7'
  generalize w6.alloc (.cells #[.int .i64 x.f0, .string x.f1.f0, .int .i64 x.f1.f1, .slice Arq nrq crq, .string x.f1.f3, .int .i64 x.f1.f4, .int .i64 x.f1.f5] 49) = w7 at *
  have hm7 := K7.out.row.cell 1 _ rfl
  by_cases ht : m2 < n
  · have d1 : decide ((m2 : Int) < (n : Int)) = true := decide_eq_true (by omega)
    have d2 : decide (m2 < n) = true := decide_eq_true ht
    have HR := Aside0.mk (show whole 83 4096 xs (pRec xs 4096) = Res.fail 4 (m2 : Int) by
      rw [HW.out, HQ.out]
      show (if m2 < xs.length then Res.fail 4 (m2 : Int) else Res.ok x m2) = _
      rw [HLEN.out, if_pos ht])
    clear ht
    go_wp2_with fail
    refine leaves_cons (f := 124) (args := #[ptr bo, ptr be, ptr ba]) (by simp) (by simp [go_sem]) ?_
    refine (HFAULT.out 4 (m2 : Int) w7 O7.out E7.out A7.out B7.out).mono ?_
    rintro e u' w' ⟨rfl, rfl, ho, he, ha, hb⟩
    have x0 := ho.cell 0 _ rfl
    have x1 := ho.cell 1 _ rfl
    have x2 := ho.cell 2 _ rfl
    have x3 := ho.cell 3 _ rfl
    have x4 := ho.cell 4 _ rfl
    have x5 := ho.cell 5 _ rfl
    have x6 := ho.cell 6 _ rfl
    have y0 := he.cell 0 _ rfl
    have z0 := ha.cell 0 _ rfl
    rw [HR.out]
    simp [Leaves, settle, results, Try.results79, go_sem, x0, x1, x2, x3, x4, x5, x6, x5, x6, y0, z0]
    exact ⟨by rw [HBO.out]; exact hb, _, ⟨rfl, rfl, rfl⟩, rfl⟩
  have d1 : decide ((m2 : Int) < (n : Int)) = false := decide_eq_false (by omega)
  have d2 : decide (m2 < n) = false := decide_eq_false ht
  have HR := Aside0.mk (show whole 83 4096 xs (pRec xs 4096) = Res.ok x m2 by
    rw [HW.out, HQ.out]
    show (if m2 < xs.length then Res.fail 4 (m2 : Int) else Res.ok x m2) = _
    rw [HLEN.out, if_neg ht])
  clear ht
  have c0 := R7.out.cell 0 _ rfl
  have c1 := R7.out.cell 1 _ rfl
  have c2 := R7.out.cell 2 _ rfl
  have c3 := R7.out.cell 3 _ rfl
  have c4 := R7.out.cell 4 _ rfl
  have c5 := R7.out.cell 5 _ rfl
  have c6 := R7.out.cell 6 _ rfl
  have z0 := O7.out.cell 0 _ rfl
  have z1 := O7.out.cell 1 _ rfl
  have z2 := O7.out.cell 2 _ rfl
  have z3 := O7.out.cell 3 _ rfl
  have z4 := O7.out.cell 4 _ rfl
  have z5 := O7.out.cell 5 _ rfl
  have z6 := O7.out.cell 6 _ rfl
  have f0 := O7.out.free 0
  have f1 := O7.out.free 1
  have f2 := O7.out.free 2
  have f3 := O7.out.free 3
  have f4 := O7.out.free 4
  have f5 := O7.out.free 5
  have f6 := O7.out.free 6
  have y0 := E7.out.cell 0 _ rfl
  have y1 := E7.out.free 0
  have a0 := A7.out.cell 0 _ rfl
  have a1 := A7.out.free 0
  have hne1 : be ≠ bo := by have := HORD.out; omega
  have hne2 : ba ≠ bo := by have := HORD.out; omega
  have hne3 : ba ≠ be := by have := HORD.out; omega
  go_wp2_with fail
  clear c0 c1 c2 c3 c4 c5 c6 z0 z1 z2 z3 z4 z5 z6 f0 f1 f2 f3 f4 f5 f6 y0 y1 a0 a1 d1 d2 hm7
  have q := O7.out.set 0 (.int .i64 x.f0)
  rw [show ([Value.int .i64 0, .string ⟨#[]⟩, .int .i64 0, .slice none 0 0, .string ⟨#[]⟩, .int .i64 0, .int .i64 0]).set 0 (.int .i64 x.f0) = [Value.int .i64 x.f0, .string ⟨#[]⟩, .int .i64 0, .slice none 0 0, .string ⟨#[]⟩, .int .i64 0, .int .i64 0] from rfl] at q
  rw [q]
  have O8 := Aside0.mk (show Rt 49 bo [Value.int .i64 x.f0, .string ⟨#[]⟩, .int .i64 0, .slice none 0 0, .string ⟨#[]⟩, .int .i64 0, .int .i64 0] (w7.setRow bo ([Value.int .i64 x.f0, .string ⟨#[]⟩, .int .i64 0, .slice none 0 0, .string ⟨#[]⟩, .int .i64 0, .int .i64 0]).toArray) from O7.out.row _)
  have E8 := Aside0.mk (show Rt 22 be [.int .i64 0] (w7.setRow bo ([Value.int .i64 x.f0, .string ⟨#[]⟩, .int .i64 0, .slice none 0 0, .string ⟨#[]⟩, .int .i64 0, .int .i64 0]).toArray) from (setRow_other _ _ _ _ hne1).trans E7.out)
  have A8 := Aside0.mk (show Rt 3 ba [.int .i64 0] (w7.setRow bo ([Value.int .i64 x.f0, .string ⟨#[]⟩, .int .i64 0, .slice none 0 0, .string ⟨#[]⟩, .int .i64 0, .int .i64 0]).toArray) from (setRow_other _ _ _ _ hne2).trans A7.out)
  have Lrq_8 := Aside0.mk (LN_alive.row Lrq_7.out (show bo < bo + 4 by omega) ([Value.int .i64 x.f0, .string ⟨#[]⟩, .int .i64 0, .slice none 0 0, .string ⟨#[]⟩, .int .i64 0, .int .i64 0]).toArray)
  have B8 := Aside0.mk (show Below bo W (w7.setRow bo ([Value.int .i64 x.f0, .string ⟨#[]⟩, .int .i64 0, .slice none 0 0, .string ⟨#[]⟩, .int .i64 0, .int .i64 0]).toArray) from below_setRow' B7.out (Nat.le_refl _) _)
  clear q
  generalize w7.setRow bo ([Value.int .i64 x.f0, .string ⟨#[]⟩, .int .i64 0, .slice none 0 0, .string ⟨#[]⟩, .int .i64 0, .int .i64 0]).toArray = w8 at *
  have q := O8.out.set 1 (.string x.f1.f0)
  rw [show ([Value.int .i64 x.f0, .string ⟨#[]⟩, .int .i64 0, .slice none 0 0, .string ⟨#[]⟩, .int .i64 0, .int .i64 0]).set 1 (.string x.f1.f0) = [Value.int .i64 x.f0, .string x.f1.f0, .int .i64 0, .slice none 0 0, .string ⟨#[]⟩, .int .i64 0, .int .i64 0] from rfl] at q
  rw [q]
  have O9 := Aside0.mk (show Rt 49 bo [Value.int .i64 x.f0, .string x.f1.f0, .int .i64 0, .slice none 0 0, .string ⟨#[]⟩, .int .i64 0, .int .i64 0] (w8.setRow bo ([Value.int .i64 x.f0, .string x.f1.f0, .int .i64 0, .slice none 0 0, .string ⟨#[]⟩, .int .i64 0, .int .i64 0]).toArray) from O8.out.row _)
  have E9 := Aside0.mk (show Rt 22 be [.int .i64 0] (w8.setRow bo ([Value.int .i64 x.f0, .string x.f1.f0, .int .i64 0, .slice none 0 0, .string ⟨#[]⟩, .int .i64 0, .int .i64 0]).toArray) from (setRow_other _ _ _ _ hne1).trans E8.out)
  have A9 := Aside0.mk (show Rt 3 ba [.int .i64 0] (w8.setRow bo ([Value.int .i64 x.f0, .string x.f1.f0, .int .i64 0, .slice none 0 0, .string ⟨#[]⟩, .int .i64 0, .int .i64 0]).toArray) from (setRow_other _ _ _ _ hne2).trans A8.out)
  have Lrq_9 := Aside0.mk (LN_alive.row Lrq_8.out (show bo < bo + 4 by omega) ([Value.int .i64 x.f0, .string x.f1.f0, .int .i64 0, .slice none 0 0, .string ⟨#[]⟩, .int .i64 0, .int .i64 0]).toArray)
  have B9 := Aside0.mk (show Below bo W (w8.setRow bo ([Value.int .i64 x.f0, .string x.f1.f0, .int .i64 0, .slice none 0 0, .string ⟨#[]⟩, .int .i64 0, .int .i64 0]).toArray) from below_setRow' B8.out (Nat.le_refl _) _)
  clear q
  generalize w8.setRow bo ([Value.int .i64 x.f0, .string x.f1.f0, .int .i64 0, .slice none 0 0, .string ⟨#[]⟩, .int .i64 0, .int .i64 0]).toArray = w9 at *
  have q := O9.out.set 2 (.int .i64 x.f1.f1)
  rw [show ([Value.int .i64 x.f0, .string x.f1.f0, .int .i64 0, .slice none 0 0, .string ⟨#[]⟩, .int .i64 0, .int .i64 0]).set 2 (.int .i64 x.f1.f1) = [Value.int .i64 x.f0, .string x.f1.f0, .int .i64 x.f1.f1, .slice none 0 0, .string ⟨#[]⟩, .int .i64 0, .int .i64 0] from rfl] at q
  rw [q]
  have O10 := Aside0.mk (show Rt 49 bo [Value.int .i64 x.f0, .string x.f1.f0, .int .i64 x.f1.f1, .slice none 0 0, .string ⟨#[]⟩, .int .i64 0, .int .i64 0] (w9.setRow bo ([Value.int .i64 x.f0, .string x.f1.f0, .int .i64 x.f1.f1, .slice none 0 0, .string ⟨#[]⟩, .int .i64 0, .int .i64 0]).toArray) from O9.out.row _)
  have E10 := Aside0.mk (show Rt 22 be [.int .i64 0] (w9.setRow bo ([Value.int .i64 x.f0, .string x.f1.f0, .int .i64 x.f1.f1, .slice none 0 0, .string ⟨#[]⟩, .int .i64 0, .int .i64 0]).toArray) from (setRow_other _ _ _ _ hne1).trans E9.out)
  have A10 := Aside0.mk (show Rt 3 ba [.int .i64 0] (w9.setRow bo ([Value.int .i64 x.f0, .string x.f1.f0, .int .i64 x.f1.f1, .slice none 0 0, .string ⟨#[]⟩, .int .i64 0, .int .i64 0]).toArray) from (setRow_other _ _ _ _ hne2).trans A9.out)
  have Lrq_10 := Aside0.mk (LN_alive.row Lrq_9.out (show bo < bo + 4 by omega) ([Value.int .i64 x.f0, .string x.f1.f0, .int .i64 x.f1.f1, .slice none 0 0, .string ⟨#[]⟩, .int .i64 0, .int .i64 0]).toArray)
  have B10 := Aside0.mk (show Below bo W (w9.setRow bo ([Value.int .i64 x.f0, .string x.f1.f0, .int .i64 x.f1.f1, .slice none 0 0, .string ⟨#[]⟩, .int .i64 0, .int .i64 0]).toArray) from below_setRow' B9.out (Nat.le_refl _) _)
  clear q
  generalize w9.setRow bo ([Value.int .i64 x.f0, .string x.f1.f0, .int .i64 x.f1.f1, .slice none 0 0, .string ⟨#[]⟩, .int .i64 0, .int .i64 0]).toArray = w10 at *
  have q := O10.out.set 3 (.slice Arq nrq crq)
  rw [show ([Value.int .i64 x.f0, .string x.f1.f0, .int .i64 x.f1.f1, .slice none 0 0, .string ⟨#[]⟩, .int .i64 0, .int .i64 0]).set 3 (.slice Arq nrq crq) = [Value.int .i64 x.f0, .string x.f1.f0, .int .i64 x.f1.f1, .slice Arq nrq crq, .string ⟨#[]⟩, .int .i64 0, .int .i64 0] from rfl] at q
  rw [q]
  have O11 := Aside0.mk (show Rt 49 bo [Value.int .i64 x.f0, .string x.f1.f0, .int .i64 x.f1.f1, .slice Arq nrq crq, .string ⟨#[]⟩, .int .i64 0, .int .i64 0] (w10.setRow bo ([Value.int .i64 x.f0, .string x.f1.f0, .int .i64 x.f1.f1, .slice Arq nrq crq, .string ⟨#[]⟩, .int .i64 0, .int .i64 0]).toArray) from O10.out.row _)
  have E11 := Aside0.mk (show Rt 22 be [.int .i64 0] (w10.setRow bo ([Value.int .i64 x.f0, .string x.f1.f0, .int .i64 x.f1.f1, .slice Arq nrq crq, .string ⟨#[]⟩, .int .i64 0, .int .i64 0]).toArray) from (setRow_other _ _ _ _ hne1).trans E10.out)
  have A11 := Aside0.mk (show Rt 3 ba [.int .i64 0] (w10.setRow bo ([Value.int .i64 x.f0, .string x.f1.f0, .int .i64 x.f1.f1, .slice Arq nrq crq, .string ⟨#[]⟩, .int .i64 0, .int .i64 0]).toArray) from (setRow_other _ _ _ _ hne2).trans A10.out)
  have Lrq_11 := Aside0.mk (LN_alive.row Lrq_10.out (show bo < bo + 4 by omega) ([Value.int .i64 x.f0, .string x.f1.f0, .int .i64 x.f1.f1, .slice Arq nrq crq, .string ⟨#[]⟩, .int .i64 0, .int .i64 0]).toArray)
  have B11 := Aside0.mk (show Below bo W (w10.setRow bo ([Value.int .i64 x.f0, .string x.f1.f0, .int .i64 x.f1.f1, .slice Arq nrq crq, .string ⟨#[]⟩, .int .i64 0, .int .i64 0]).toArray) from below_setRow' B10.out (Nat.le_refl _) _)
  clear q
  generalize w10.setRow bo ([Value.int .i64 x.f0, .string x.f1.f0, .int .i64 x.f1.f1, .slice Arq nrq crq, .string ⟨#[]⟩, .int .i64 0, .int .i64 0]).toArray = w11 at *
  have q := O11.out.set 4 (.string x.f1.f3)
  rw [show ([Value.int .i64 x.f0, .string x.f1.f0, .int .i64 x.f1.f1, .slice Arq nrq crq, .string ⟨#[]⟩, .int .i64 0, .int .i64 0]).set 4 (.string x.f1.f3) = [Value.int .i64 x.f0, .string x.f1.f0, .int .i64 x.f1.f1, .slice Arq nrq crq, .string x.f1.f3, .int .i64 0, .int .i64 0] from rfl] at q
  rw [q]
  have O12 := Aside0.mk (show Rt 49 bo [Value.int .i64 x.f0, .string x.f1.f0, .int .i64 x.f1.f1, .slice Arq nrq crq, .string x.f1.f3, .int .i64 0, .int .i64 0] (w11.setRow bo ([Value.int .i64 x.f0, .string x.f1.f0, .int .i64 x.f1.f1, .slice Arq nrq crq, .string x.f1.f3, .int .i64 0, .int .i64 0]).toArray) from O11.out.row _)
  have E12 := Aside0.mk (show Rt 22 be [.int .i64 0] (w11.setRow bo ([Value.int .i64 x.f0, .string x.f1.f0, .int .i64 x.f1.f1, .slice Arq nrq crq, .string x.f1.f3, .int .i64 0, .int .i64 0]).toArray) from (setRow_other _ _ _ _ hne1).trans E11.out)
  have A12 := Aside0.mk (show Rt 3 ba [.int .i64 0] (w11.setRow bo ([Value.int .i64 x.f0, .string x.f1.f0, .int .i64 x.f1.f1, .slice Arq nrq crq, .string x.f1.f3, .int .i64 0, .int .i64 0]).toArray) from (setRow_other _ _ _ _ hne2).trans A11.out)
  have Lrq_12 := Aside0.mk (LN_alive.row Lrq_11.out (show bo < bo + 4 by omega) ([Value.int .i64 x.f0, .string x.f1.f0, .int .i64 x.f1.f1, .slice Arq nrq crq, .string x.f1.f3, .int .i64 0, .int .i64 0]).toArray)
  have B12 := Aside0.mk (show Below bo W (w11.setRow bo ([Value.int .i64 x.f0, .string x.f1.f0, .int .i64 x.f1.f1, .slice Arq nrq crq, .string x.f1.f3, .int .i64 0, .int .i64 0]).toArray) from below_setRow' B11.out (Nat.le_refl _) _)
  clear q
  generalize w11.setRow bo ([Value.int .i64 x.f0, .string x.f1.f0, .int .i64 x.f1.f1, .slice Arq nrq crq, .string x.f1.f3, .int .i64 0, .int .i64 0]).toArray = w12 at *
  have q := O12.out.set 5 (.int .i64 x.f1.f4)
  rw [show ([Value.int .i64 x.f0, .string x.f1.f0, .int .i64 x.f1.f1, .slice Arq nrq crq, .string x.f1.f3, .int .i64 0, .int .i64 0]).set 5 (.int .i64 x.f1.f4) = [Value.int .i64 x.f0, .string x.f1.f0, .int .i64 x.f1.f1, .slice Arq nrq crq, .string x.f1.f3, .int .i64 x.f1.f4, .int .i64 0] from rfl] at q
  rw [q]
  have O13 := Aside0.mk (show Rt 49 bo [Value.int .i64 x.f0, .string x.f1.f0, .int .i64 x.f1.f1, .slice Arq nrq crq, .string x.f1.f3, .int .i64 x.f1.f4, .int .i64 0] (w12.setRow bo ([Value.int .i64 x.f0, .string x.f1.f0, .int .i64 x.f1.f1, .slice Arq nrq crq, .string x.f1.f3, .int .i64 x.f1.f4, .int .i64 0]).toArray) from O12.out.row _)
  have E13 := Aside0.mk (show Rt 22 be [.int .i64 0] (w12.setRow bo ([Value.int .i64 x.f0, .string x.f1.f0, .int .i64 x.f1.f1, .slice Arq nrq crq, .string x.f1.f3, .int .i64 x.f1.f4, .int .i64 0]).toArray) from (setRow_other _ _ _ _ hne1).trans E12.out)
  have A13 := Aside0.mk (show Rt 3 ba [.int .i64 0] (w12.setRow bo ([Value.int .i64 x.f0, .string x.f1.f0, .int .i64 x.f1.f1, .slice Arq nrq crq, .string x.f1.f3, .int .i64 x.f1.f4, .int .i64 0]).toArray) from (setRow_other _ _ _ _ hne2).trans A12.out)
  have Lrq_13 := Aside0.mk (LN_alive.row Lrq_12.out (show bo < bo + 4 by omega) ([Value.int .i64 x.f0, .string x.f1.f0, .int .i64 x.f1.f1, .slice Arq nrq crq, .string x.f1.f3, .int .i64 x.f1.f4, .int .i64 0]).toArray)
  have B13 := Aside0.mk (show Below bo W (w12.setRow bo ([Value.int .i64 x.f0, .string x.f1.f0, .int .i64 x.f1.f1, .slice Arq nrq crq, .string x.f1.f3, .int .i64 x.f1.f4, .int .i64 0]).toArray) from below_setRow' B12.out (Nat.le_refl _) _)
  clear q
  generalize w12.setRow bo ([Value.int .i64 x.f0, .string x.f1.f0, .int .i64 x.f1.f1, .slice Arq nrq crq, .string x.f1.f3, .int .i64 x.f1.f4, .int .i64 0]).toArray = w13 at *
  have q := O13.out.set 6 (.int .i64 x.f1.f5)
  rw [show ([Value.int .i64 x.f0, .string x.f1.f0, .int .i64 x.f1.f1, .slice Arq nrq crq, .string x.f1.f3, .int .i64 x.f1.f4, .int .i64 0]).set 6 (.int .i64 x.f1.f5) = [Value.int .i64 x.f0, .string x.f1.f0, .int .i64 x.f1.f1, .slice Arq nrq crq, .string x.f1.f3, .int .i64 x.f1.f4, .int .i64 x.f1.f5] from rfl] at q
  rw [q]
  have O14 := Aside0.mk (show Rt 49 bo [Value.int .i64 x.f0, .string x.f1.f0, .int .i64 x.f1.f1, .slice Arq nrq crq, .string x.f1.f3, .int .i64 x.f1.f4, .int .i64 x.f1.f5] (w13.setRow bo ([Value.int .i64 x.f0, .string x.f1.f0, .int .i64 x.f1.f1, .slice Arq nrq crq, .string x.f1.f3, .int .i64 x.f1.f4, .int .i64 x.f1.f5]).toArray) from O13.out.row _)
  have E14 := Aside0.mk (show Rt 22 be [.int .i64 0] (w13.setRow bo ([Value.int .i64 x.f0, .string x.f1.f0, .int .i64 x.f1.f1, .slice Arq nrq crq, .string x.f1.f3, .int .i64 x.f1.f4, .int .i64 x.f1.f5]).toArray) from (setRow_other _ _ _ _ hne1).trans E13.out)
  have A14 := Aside0.mk (show Rt 3 ba [.int .i64 0] (w13.setRow bo ([Value.int .i64 x.f0, .string x.f1.f0, .int .i64 x.f1.f1, .slice Arq nrq crq, .string x.f1.f3, .int .i64 x.f1.f4, .int .i64 x.f1.f5]).toArray) from (setRow_other _ _ _ _ hne2).trans A13.out)
  have Lrq_14 := Aside0.mk (LN_alive.row Lrq_13.out (show bo < bo + 4 by omega) ([Value.int .i64 x.f0, .string x.f1.f0, .int .i64 x.f1.f1, .slice Arq nrq crq, .string x.f1.f3, .int .i64 x.f1.f4, .int .i64 x.f1.f5]).toArray)
  have B14 := Aside0.mk (show Below bo W (w13.setRow bo ([Value.int .i64 x.f0, .string x.f1.f0, .int .i64 x.f1.f1, .slice Arq nrq crq, .string x.f1.f3, .int .i64 x.f1.f4, .int .i64 x.f1.f5]).toArray) from below_setRow' B13.out (Nat.le_refl _) _)
  clear q
  generalize w13.setRow bo ([Value.int .i64 x.f0, .string x.f1.f0, .int .i64 x.f1.f1, .slice Arq nrq crq, .string x.f1.f3, .int .i64 x.f1.f4, .int .i64 x.f1.f5]).toArray = w14 at *
  rw [E14.out.same 0 _ rfl, A14.out.same 0 _ rfl]
  refine leaves_cons (f := 124) (args := #[ptr bo, ptr be, ptr ba]) (by simp) (by simp [go_sem]) ?_
  refine (idle_rec (bo := bo) (be := be) (ba := ba) w14).mono ?_
  rintro e u' w' ⟨rfl, rfl, hb⟩
  have ho := O14.out.below hb
  have he := E14.out.below hb
  have ha := A14.out.below hb
  have hrq := LN_alive.below Lrq_14.out hb
  have x0 := ho.cell 0 _ rfl
  have x1 := ho.cell 1 _ rfl
  have x2 := ho.cell 2 _ rfl
  have x3 := ho.cell 3 _ rfl
  have x4 := ho.cell 4 _ rfl
  have x5 := ho.cell 5 _ rfl
  have x6 := ho.cell 6 _ rfl
  have y0 := he.cell 0 _ rfl
  have z0 := ha.cell 0 _ rfl
  rw [HR.out]
  simp [Leaves, settle, results, Try.results79, go_sem, x0, x1, x2, x3, x4, x5, x6, y0, z0]
  refine ⟨by rw [HBO.out]; exact B14.out.trans (hb.mono (by have := B14.out.size; have := HBO.out; omega)), _, ⟨rfl, rfl, rfl⟩, Arq, nrq, crq, rfl, LN_alive.lower hrq (by have := HBO.out; omega)⟩
def zeroD_rec : RecD := ⟨0, ⟨⟨#[]⟩, 0, [], ⟨#[]⟩, 0, 0⟩⟩
theorem enc_out_rec {S0 : Nat} {r : Res RecD} {v : Value} {w : World} (h : RdOut memRec zero_rec S0 r v w) : memRec S0 (outOr zeroD_rec r) v w := by
  cases r with
  | ok x n => exact h
  | fail e p =>
    have h : v = .agg zero_rec.toArray := h
    subst h
    exact ⟨none, 0, 0, rfl, Kd.R_nil _ _ _ _ _⟩
theorem Rt.full_rec {t b : Nat} {z0 z1 z2 z3 z4 z5 z6 : Value} {W : World} (h : Rt t b [z0, z1, z2, z3, z4, z5, z6] W) (a0 a1 a2 a3 a4 a5 a6 : Value) :
    (((((((W.setCell ⟨b, 0, none⟩ a0).setCell ⟨b, 1, none⟩ a1).setCell ⟨b, 2, none⟩ a2).setCell ⟨b, 3, none⟩ a3).setCell ⟨b, 4, none⟩ a4).setCell ⟨b, 5, none⟩ a5).setCell ⟨b, 6, none⟩ a6) = W.setRow b [a0, a1, a2, a3, a4, a5, a6].toArray := by
  rw [h.set 0 a0]
  have h0 : Rt t b [a0, z1, z2, z3, z4, z5, z6] (W.setRow b ([z0, z1, z2, z3, z4, z5, z6].set 0 a0).toArray) := h.row _
  rw [h0.set 1 a1, setRow_again]
  have h1 : Rt t b [a0, a1, z2, z3, z4, z5, z6] (W.setRow b ([a0, z1, z2, z3, z4, z5, z6].set 1 a1).toArray) := h.row _
  rw [h1.set 2 a2, setRow_again]
  have h2 : Rt t b [a0, a1, a2, z3, z4, z5, z6] (W.setRow b ([a0, a1, z2, z3, z4, z5, z6].set 2 a2).toArray) := h.row _
  rw [h2.set 3 a3, setRow_again]
  have h3 : Rt t b [a0, a1, a2, a3, z4, z5, z6] (W.setRow b ([a0, a1, a2, z3, z4, z5, z6].set 3 a3).toArray) := h.row _
  rw [h3.set 4 a4, setRow_again]
  have h4 : Rt t b [a0, a1, a2, a3, a4, z5, z6] (W.setRow b ([a0, a1, a2, a3, z4, z5, z6].set 4 a4).toArray) := h.row _
  rw [h4.set 5 a5, setRow_again]
  have h5 : Rt t b [a0, a1, a2, a3, a4, a5, z6] (W.setRow b ([a0, a1, a2, a3, a4, z5, z6].set 5 a5).toArray) := h.row _
  rw [h5.set 6 a6, setRow_again]
  rfl
theorem Record_at (A : Option Addr) (n c : Nat) (xs : List Int) (W : World) (hC : Kd.C (Kd.int .u8) W A n xs) (hnc : n ≤ c) (hb : IsBytes xs) (hbig : n < 1000000000) :
    Calls Try.prog 29 #[.slice A n c] W fun e w' => Below W.heap.size W w' ∧ ∃ v, e = .returned (.tuple #[v, .int .i64 (endOf (whole 83 4096 xs (pRec xs 4096))).1, .int .i64 (endOf (whole 83 4096 xs (pRec xs 4096))).2]) ∧ memRec W.heap.size (outOr zeroD_rec (whole 83 4096 xs (pRec xs 4096))) v w' := by
  have hb1 : Below W.heap.size W (W.alloc (.cells #[.int .i64 0, .string ⟨#[]⟩, .int .i64 0, .slice none 0 0, .string ⟨#[]⟩, .int .i64 0, .int .i64 0] 49)) := below_alloc (Below.refl _ _) _
  have r1 : Rt 49 W.heap.size zero_rec (W.alloc (.cells #[.int .i64 0, .string ⟨#[]⟩, .int .i64 0, .slice none 0 0, .string ⟨#[]⟩, .int .i64 0, .int .i64 0] 49)) := heap_alloc_new W _
  have hC1 := Kd.C_below hC hb1
  have HRD := Aside0.mk (read_record A n c xs (W.alloc (.cells #[.int .i64 0, .string ⟨#[]⟩, .int .i64 0, .slice none 0 0, .string ⟨#[]⟩, .int .i64 0, .int .i64 0] 49)) hC1 hnc hb hbig)
  generalize whole 83 4096 xs (pRec xs 4096) = rr at *
  have B1 := Aside0.mk hb1
  clear hC hC1 hnc hb hbig
  go_enter Try.func29, Try.ntmps29
  go_upto_region 1 with fail
  obtain ⟨b, hbe⟩ : ∃ b, W.heap.size = b := ⟨_, rfl⟩
  have HBE := Aside0.mk hbe
  rw [hbe] at r1 ⊢
  have R1 := Aside0.mk r1
  clear hb1 r1 hbe
  generalize W.alloc (.cells #[.int .i64 0, .string ⟨#[]⟩, .int .i64 0, .slice none 0 0, .string ⟨#[]⟩, .int .i64 0, .int .i64 0] 49) = w1 at *
  go_wp2_with fail
  go_at_call 79
  refine HRD.out.mono ?_
  rintro e w2 ⟨hb, v, rfl, ho⟩
  obtain ⟨Arq, nrq, crq, hv, hrq⟩ := enc_out_rec ho
  subst hv
  obtain ⟨x, hx⟩ : ∃ x, outOr zeroD_rec rr = x := ⟨_, rfl⟩
  obtain ⟨ec, hec⟩ : ∃ ec, (endOf rr).1 = ec := ⟨_, rfl⟩
  obtain ⟨ep, hep⟩ : ∃ ep, (endOf rr).2 = ep := ⟨_, rfl⟩
  rw [hx] at hrq ⊢
  rw [hec, hep]
  have HX := Aside0.mk (And.intro hx (And.intro hec hep))
  have R2 := Aside0.mk (R1.out.below hb)
  have Lrq_2 := Aside0.mk (LN_alive.lower hrq R1.out.lt)
  have B2 := Aside0.mk (show Below W.heap.size W w2 from B1.out.trans (hb.mono B1.out.size))
  clear hb ho hrq HRD hx hec hep
  have z0 := R2.out.cell 0 _ rfl
  have f0 := R2.out.free 0
  have z1 := R2.out.cell 1 _ rfl
  have f1 := R2.out.free 1
  have z2 := R2.out.cell 2 _ rfl
  have f2 := R2.out.free 2
  have z3 := R2.out.cell 3 _ rfl
  have f3 := R2.out.free 3
  have z4 := R2.out.cell 4 _ rfl
  have f4 := R2.out.free 4
  have z5 := R2.out.cell 5 _ rfl
  have f5 := R2.out.free 5
  have z6 := R2.out.cell 6 _ rfl
  have f6 := R2.out.free 6
  go_wp2_with fail
  rw [R2.out.full_rec]
  have R3 : Rt 49 b [.int .i64 x.f0, .string x.f1.f0, .int .i64 x.f1.f1, .slice Arq nrq crq, .string x.f1.f3, .int .i64 x.f1.f4, .int .i64 x.f1.f5] (w2.setRow b [Value.int .i64 x.f0, .string x.f1.f0, .int .i64 x.f1.f1, .slice Arq nrq crq, .string x.f1.f3, .int .i64 x.f1.f4, .int .i64 x.f1.f5].toArray) := R2.out.row _
  have Lrq_3 := LN_alive.row Lrq_2.out (Nat.lt_succ_self b) [Value.int .i64 x.f0, .string x.f1.f0, .int .i64 x.f1.f1, .slice Arq nrq crq, .string x.f1.f3, .int .i64 x.f1.f4, .int .i64 x.f1.f5].toArray
  have B3 : Below W.heap.size W (w2.setRow b [Value.int .i64 x.f0, .string x.f1.f0, .int .i64 x.f1.f1, .slice Arq nrq crq, .string x.f1.f3, .int .i64 x.f1.f4, .int .i64 x.f1.f5].toArray) := below_setRow' B2.out (Nat.le_of_eq HBE.out) _
  clear z0 f0 z1 f1 z2 f2 z3 f3 z4 f4 z5 f5 z6 f6
  generalize w2.setRow b [Value.int .i64 x.f0, .string x.f1.f0, .int .i64 x.f1.f1, .slice Arq nrq crq, .string x.f1.f3, .int .i64 x.f1.f4, .int .i64 x.f1.f5].toArray = w3 at *
  have x0 := R3.cell 0 _ rfl
  have x1 := R3.cell 1 _ rfl
  have x2 := R3.cell 2 _ rfl
  have x3 := R3.cell 3 _ rfl
  have x4 := R3.cell 4 _ rfl
  have x5 := R3.cell 5 _ rfl
  have x6 := R3.cell 6 _ rfl
  refine ⟨rfl, ?_⟩
  simp [results, Try.results29, go_sem, x0, x1, x2, x3, x4, x5, x6]
  refine ⟨B3, _, ⟨rfl, HX.out.2.1.symm, HX.out.2.2.symm⟩, ?_⟩
  rw [HX.out.1]
  exact ⟨Arq, nrq, crq, rfl, LN_alive.lower Lrq_3 (by have := HBE.out; omega)⟩
end Go.Proofs.Ytafmoglaockepaa.Cd
end
section
namespace Go.Proofs.Ytafmoglaockepaa.Cd
open Go Go.RowKit Go.Proofs.Ytafmoglaockepaa.Num Go.Proofs.Ytafmoglaockepaa.PG Go.Proofs.YtafmoglaockepaaW.PrintWords Go.Proofs.YtafmoglaockepaaW.PrintLast Go.Proofs.YtafmoglaockepaaW.PrintMore
set_option linter.unusedVariables false
set_option linter.unusedSimpArgs false
set_option maxHeartbeats 4000000
set_option maxRecDepth 100000
abbrev zero_st : List Value := [.int .i64 0, .int .i64 0, .int .i64 0, .slice none 0 0, .slice none 0 0, .slice none 0 0]
theorem catch_st {bo be ba : Nat} {ve va : Value} (er p : Int) (older : List PanicEntry) (w : World) (ho : Rt 58 bo zero_st w) (he : Rt 22 be [ve] w) (ha : Rt 3 ba [va] w) (h1 : bo ≠ be) (h2 : bo ≠ ba) (h3 : be ≠ ba) :
    CallsD Try.prog 128 #[ptr bo, ptr be, ptr ba] (.panicking ({ v := fault er p, recovered := false } :: older)) w fun e u' w' =>
      e = .returned (.tuple #[]) ∧ u' = .panicking ({ v := fault er p, recovered := true } :: older) ∧ Rt 58 bo zero_st w' ∧ Rt 22 be [.int .i64 er] w' ∧ Rt 3 ba [.int .i64 p] w' ∧ Kept w w' (fun j => j = bo ∨ j = be ∨ j = ba) ∧ ∀ B, B ≤ be → B ≤ ba → B ≤ w.heap.size → Below B w w' := by
  have HO := Aside0.mk ho
  have HE := Aside0.mk he
  have HA := Aside0.mk ha
  have hu155 := Try.underlying155
  clear ho he ha
  refine callsD_of_wpS Try.func128 rfl fun c₀ cs hu => ?_
  simp only [Try.ntmps128, List.size_toArray, List.length_cons, List.length_nil, Nat.reduceAdd, Nat.reduceSub, Array.replicate_succ, Array.replicate_zero, List.push_toArray, List.append_toArray, List.nil_append, List.cons_append]
  apply wpS_seq
  refine wpS_recovers (v := fault er p) (cs' := { c₀ with mode := .panicking ({ v := fault er p, recovered := true } :: older) } :: cs) (by rfl) (by simp [go_sem]) (by simp [recoverD, hu]) ?_ ?_
  · rintro ⟨a, w, u', h, _⟩
    cases h
  simp only [Act.put, List.setIfInBounds_toArray, List.set_cons_zero, List.set_cons_succ]
  unfold fault
  have hTA : ∀ v w, (Instr.typeAssert (.iface 155 v) 20 155 true).run Try.prog w = .ok (.tuple #[v, .bool true]) w := fun v w => by
    simp [Instr.typeAssert, run_underlying hu155]
  go_wp2_with fail
  simp only [Exit.thenS]
  refine wpS_of_wp ?_
  have hb1 : Below w.heap.size w (w.alloc (.cells #[.int .i64 er, .int .i64 p] 155)) := below_alloc (Below.refl _ _) _
  have hr3 : Rt 155 w.heap.size [.int .i64 er, .int .i64 p] (w.alloc (.cells #[.int .i64 er, .int .i64 p] 155)) := heap_alloc_new w _
  obtain ⟨b3, hb3⟩ : ∃ b3, w.heap.size = b3 := ⟨_, rfl⟩
  have HB3E := Aside0.mk hb3
  have O1 := Aside0.mk (HO.out.below hb1)
  have E1 := Aside0.mk (HE.out.below hb1)
  have A1 := Aside0.mk (HA.out.below hb1)
  have P1 := Aside0.mk (Kept.of_below hb1 (fun j => j = bo ∨ j = be ∨ j = ba))
  have W1 := Aside0.mk (show Below w.heap.size w (w.alloc (.cells #[.int .i64 er, .int .i64 p] 155)) from hb1)
  rw [hb3] at hr3 ⊢
  have R1 := Aside0.mk hr3
  clear hb1 hr3 hb3 hTA hu155 hu
  generalize w.alloc (.cells #[.int .i64 er, .int .i64 p] 155) = w1 at *
  go_upto_region 3 with fail
  have hb1 : Below w1.heap.size w1 (w1.alloc (.cells #[.int .i64 0, .int .i64 0, .int .i64 0, .slice none 0 0, .slice none 0 0, .slice none 0 0] 58)) := below_alloc (Below.refl _ _) _
  have hr5 : Rt 58 w1.heap.size zero_st (w1.alloc (.cells #[.int .i64 0, .int .i64 0, .int .i64 0, .slice none 0 0, .slice none 0 0, .slice none 0 0] 58)) := heap_alloc_new w1 _
  obtain ⟨b5, hb5⟩ : ∃ b5, w1.heap.size = b5 := ⟨_, rfl⟩
  have O2 := Aside0.mk (O1.out.below hb1)
  have E2 := Aside0.mk (E1.out.below hb1)
  have A2 := Aside0.mk (A1.out.below hb1)
  have R2 := Aside0.mk (R1.out.below hb1)
  have P2 := Aside0.mk (P1.out.below hb1)
  have W2 := Aside0.mk (W1.out.trans (hb1.mono W1.out.size))
  rw [hb5] at hr5 ⊢
  have Z2 := Aside0.mk hr5
  clear hb1 hr5 hb5 O1 E1 A1 R1 P1 W1
  generalize w1.alloc (.cells #[.int .i64 0, .int .i64 0, .int .i64 0, .slice none 0 0, .slice none 0 0, .slice none 0 0] 58) = w2 at *
  have MKS := Aside0.mk (show ∀ w' : World, (∀ j t (u : Array Value), w2.heap[j]? = some (Obj.cells u t (0, 0)) → t ≠ 22 → t ≠ 3 → w'.heap[j]? = w2.heap[j]?) → (fun w' : World => (w'.cell? ⟨b5, 0, none⟩ = some (.int .i64 0) ∧ w'.cell? ⟨b5, 1, none⟩ = some (.int .i64 0) ∧ w'.cell? ⟨b5, 2, none⟩ = some (.int .i64 0) ∧ w'.cell? ⟨b5, 3, none⟩ = some (.slice none 0 0) ∧ w'.cell? ⟨b5, 4, none⟩ = some (.slice none 0 0) ∧ w'.cell? ⟨b5, 5, none⟩ = some (.slice none 0 0)) ∧ w'.cell? ⟨b3, 0, none⟩ = some (.int .i64 er) ∧ w'.cell? ⟨b3, 1, none⟩ = some (.int .i64 p)) w' from fun w' hw => by
    have z : Rt 58 b5 zero_st w' := (hw b5 58 _ Z2.out (by decide) (by decide)).trans Z2.out
    have r : Rt 155 b3 [.int .i64 er, .int .i64 p] w' := (hw b3 155 _ R2.out (by decide) (by decide)).trans R2.out
    exact ⟨⟨z.cell 0 _ rfl, z.cell 1 _ rfl, z.cell 2 _ rfl, z.cell 3 _ rfl, z.cell 4 _ rfl, z.cell 5 _ rfl⟩, r.cell 0 _ rfl, r.cell 1 _ rfl⟩)
  refine wp_region_held_drew (S := fun w' : World => (w'.cell? ⟨b5, 0, none⟩ = some (.int .i64 0) ∧ w'.cell? ⟨b5, 1, none⟩ = some (.int .i64 0) ∧ w'.cell? ⟨b5, 2, none⟩ = some (.int .i64 0) ∧ w'.cell? ⟨b5, 3, none⟩ = some (.slice none 0 0) ∧ w'.cell? ⟨b5, 4, none⟩ = some (.slice none 0 0) ∧ w'.cell? ⟨b5, 5, none⟩ = some (.slice none 0 0)) ∧ w'.cell? ⟨b3, 0, none⟩ = some (.int .i64 er) ∧ w'.cell? ⟨b3, 1, none⟩ = some (.int .i64 p)) (by kernel_rfl) (MKS.out _ (fun _ _ _ _ _ _ => rfl)) (fun hHeld => ?_)
  refine wpAnyH_take (i := 0) (oi := { dst := some 12, op := Op.load 58 (Operand.tmp 5), type := 58, pos := "read.go:88", after := #[], guard := none }) (v := ?_) rfl (by kernel_rfl) (by kernel_rfl) (by kernel_rfl) (fun _ _ _ h => h) (Or.inl ⟨by rfl, ?_⟩) hHeld ?_
  rotate_left
  · intro w' hS; obtain ⟨⟨hS0, hS1, hS2, hS3, hS4, hS5⟩, hS6, hS7⟩ := hS; go_simp; all_goals (with_reducible rfl)
  (try simp only [Act.put, List.setIfInBounds_toArray, List.set_cons_zero, List.set_cons_succ])
  refine wpAnyH_take (i := 1) (oi := { dst := some 13, op := Op.fieldAddr 155 (Operand.tmp 3) 0, type := 0, pos := "read.go:88", after := #[{ on := 5, ground := Ground.gcOnly Departure.lateStores }], guard := none }) (v := ?_) rfl (by kernel_rfl) (by kernel_rfl) (by kernel_rfl) (fun _ _ _ h => h) (Or.inl ⟨by rfl, ?_⟩) hHeld ?_
  rotate_left
  · intro w' hS; obtain ⟨⟨hS0, hS1, hS2, hS3, hS4, hS5⟩, hS6, hS7⟩ := hS; go_simp; all_goals (with_reducible rfl)
  (try simp only [Act.put, List.setIfInBounds_toArray, List.set_cons_zero, List.set_cons_succ])
  refine wpAnyH_take (i := 2) (oi := { dst := some 14, op := Op.load 22 (Operand.tmp 13), type := 22, pos := "read.go:88", after := #[{ on := 1, ground := Ground.data }, { on := 5, ground := Ground.gcOnly Departure.lateStores }], guard := none }) (v := ?_) rfl (by kernel_rfl) (by kernel_rfl) (by kernel_rfl) (fun _ _ _ h => h) (Or.inl ⟨by rfl, ?_⟩) hHeld ?_
  rotate_left
  · intro w' hS; obtain ⟨⟨hS0, hS1, hS2, hS3, hS4, hS5⟩, hS6, hS7⟩ := hS; go_simp; all_goals (with_reducible rfl)
  (try simp only [Act.put, List.setIfInBounds_toArray, List.set_cons_zero, List.set_cons_succ])
  refine wpAnyH_take (i := 3) (oi := { dst := some 15, op := Op.fieldAddr 155 (Operand.tmp 3) 1, type := 0, pos := "read.go:88", after := #[{ on := 6, ground := Ground.gcOnly Departure.lateStores }], guard := none }) (v := ?_) rfl (by kernel_rfl) (by kernel_rfl) (by kernel_rfl) (fun _ _ _ h => h) (Or.inl ⟨by rfl, ?_⟩) hHeld ?_
  rotate_left
  · intro w' hS; obtain ⟨⟨hS0, hS1, hS2, hS3, hS4, hS5⟩, hS6, hS7⟩ := hS; go_simp; all_goals (with_reducible rfl)
  (try simp only [Act.put, List.setIfInBounds_toArray, List.set_cons_zero, List.set_cons_succ])
  refine wpAnyH_take (i := 4) (oi := { dst := some 16, op := Op.load 3 (Operand.tmp 15), type := 3, pos := "read.go:88", after := #[{ on := 3, ground := Ground.data }, { on := 6, ground := Ground.gcOnly Departure.lateStores }], guard := none }) (v := ?_) rfl (by kernel_rfl) (by kernel_rfl) (by kernel_rfl) (fun _ _ _ h => h) (Or.inl ⟨by rfl, ?_⟩) hHeld ?_
  rotate_left
  · intro w' hS; obtain ⟨⟨hS0, hS1, hS2, hS3, hS4, hS5⟩, hS6, hS7⟩ := hS; go_simp; all_goals (with_reducible rfl)
  (try simp only [Act.put, List.setIfInBounds_toArray, List.set_cons_zero, List.set_cons_succ])
  refine wpAnyH_ready (rs := [5]) (by kernel_rfl) (by simp) ?_
  refine AllReadyH.cons (o := { dst := none, op := Op.store 58 (Operand.tmp 0) (Operand.tmp 12), type := 0, pos := "read.go:88", after := #[{ on := 0, ground := Ground.data }, { on := 0, ground := Ground.phase }, { on := 1, ground := Ground.textOnly Departure.lateStores }, { on := 2, ground := Ground.textOnly Departure.lateStores }, { on := 3, ground := Ground.textOnly Departure.lateStores }, { on := 4, ground := Ground.textOnly Departure.lateStores }], guard := none }) rfl (fun K hK => ?_) AllReadyH.nil
  have d0 := O2.out.cell 0 _ rfl
  have d1 := O2.out.cell 1 _ rfl
  have d2 := O2.out.cell 2 _ rfl
  have d3 := O2.out.cell 3 _ rfl
  have d4 := O2.out.cell 4 _ rfl
  have d5 := O2.out.cell 5 _ rfl
  have f0 := O2.out.free 0
  have f1 := O2.out.free 1
  have f2 := O2.out.free 2
  have f3 := O2.out.free 3
  have f4 := O2.out.free 4
  have f5 := O2.out.free 5
  go_simp
  rw [O2.out.same 0 _ rfl, O2.out.same 1 _ rfl, O2.out.same 2 _ rfl, O2.out.same 3 _ rfl, O2.out.same 4 _ rfl, O2.out.same 5 _ rfl]
  clear d0 d1 d2 d3 d4 d5 f0 f1 f2 f3 f4 f5
  refine hK.out _ _ (MKS.out _ (fun _ _ _ _ _ _ => rfl)) (fun hHeld => ?_)
  clear hK K
  (try simp only [Act.put, List.setIfInBounds_toArray, List.set_cons_zero, List.set_cons_succ])
  refine wpAnyH_ready (rs := [6]) (by kernel_rfl) (by simp) ?_
  refine AllReadyH.cons (o := { dst := none, op := Op.store 22 (Operand.tmp 1) (Operand.tmp 14), type := 0, pos := "read.go:88", after := #[{ on := 2, ground := Ground.data }, { on := 5, ground := Ground.chain }, { on := 0, ground := Ground.phase }, { on := 1, ground := Ground.phase }, { on := 2, ground := Ground.phase }, { on := 3, ground := Ground.textOnly Departure.lateStores }, { on := 4, ground := Ground.textOnly Departure.lateStores }, { on := 5, ground := Ground.phase }], guard := none }) rfl (fun K hK => ?_) AllReadyH.nil
  have d0 := E2.out.cell 0 _ rfl
  have f0 := E2.out.free 0
  go_simp
  rw [E2.out.set 0 (.int .i64 er), show [ve].set 0 (.int .i64 er) = [Value.int .i64 er] from rfl]
  have E6 := Aside0.mk (show Rt 22 be [.int .i64 er] (w2.setRow be [Value.int .i64 er].toArray) from E2.out.row _)
  have A6 := Aside0.mk (show Rt 3 ba [va] (w2.setRow be [Value.int .i64 er].toArray) from (setRow_other _ _ _ _ (Ne.symm h3)).trans A2.out)
  clear d0 f0
  refine hK.out _ _ (MKS.out _ (fun j t u hj h22 h3' => setRow_other _ _ _ _ (fun e => h22 (by rw [e] at hj; exact blk_types hj E2.out)))) (fun hHeld => ?_)
  clear hK K
  (try simp only [Act.put, List.setIfInBounds_toArray, List.set_cons_zero, List.set_cons_succ])
  refine wpAnyH_ready (rs := [7]) (by kernel_rfl) (by simp) ?_
  refine AllReadyH.cons (o := { dst := none, op := Op.store 3 (Operand.tmp 2) (Operand.tmp 16), type := 0, pos := "read.go:88", after := #[{ on := 4, ground := Ground.data }, { on := 6, ground := Ground.chain }, { on := 0, ground := Ground.phase }, { on := 1, ground := Ground.phase }, { on := 2, ground := Ground.phase }, { on := 3, ground := Ground.phase }, { on := 4, ground := Ground.phase }, { on := 5, ground := Ground.phase }, { on := 6, ground := Ground.phase }], guard := none }) rfl (fun K hK => ?_) AllReadyH.nil
  have d0 := A6.out.cell 0 _ rfl
  have f0 := A6.out.free 0
  go_simp
  rw [A6.out.set 0 (.int .i64 p), show [va].set 0 (.int .i64 p) = [Value.int .i64 p] from rfl]
  have A7 := Aside0.mk (show Rt 3 ba [.int .i64 p] ((w2.setRow be [Value.int .i64 er].toArray).setRow ba [Value.int .i64 p].toArray) from A6.out.row _)
  have E7 := Aside0.mk (show Rt 22 be [.int .i64 er] ((w2.setRow be [Value.int .i64 er].toArray).setRow ba [Value.int .i64 p].toArray) from (setRow_other _ _ _ _ h3).trans E6.out)
  have O7 := Aside0.mk (show Rt 58 bo zero_st ((w2.setRow be [Value.int .i64 er].toArray).setRow ba [Value.int .i64 p].toArray) from (setRow_other _ _ _ _ h2).trans ((setRow_other _ _ _ _ h1).trans O2.out))
  have P7 := Aside0.mk (show Kept w ((w2.setRow be [Value.int .i64 er].toArray).setRow ba [Value.int .i64 p].toArray) (fun j => j = bo ∨ j = be ∨ j = ba) from ⟨by rw [setRow_size, setRow_size]; exact P2.out.1, fun j hj hn => (setRow_other _ _ _ _ (fun e => hn (.inr (.inr e)))).trans ((setRow_other _ _ _ _ (fun e => hn (.inr (.inl e)))).trans (P2.out.2 j hj hn))⟩)
  clear d0 f0
  refine hK.out _ _ (MKS.out _ (fun j t u hj h22 h3' => (setRow_other _ _ _ _ (fun e => h3' (by rw [e] at hj; exact blk_types hj A2.out))).trans (setRow_other _ _ _ _ (fun e => h22 (by rw [e] at hj; exact blk_types hj E2.out))))) (fun hHeld => ?_)
  clear hK K
  (try simp only [Act.put, List.setIfInBounds_toArray, List.set_cons_zero, List.set_cons_succ])
  refine wpAnyH_done (by kernel_rfl) ?_ _
  (try simp only [Act.put, List.setIfInBounds_toArray, List.set_cons_zero, List.set_cons_succ])
  try simp only [Exit.then]
  refine ⟨rfl, _, rfl, ?_⟩
  refine ⟨.tuple #[], by simp [results, Try.f128, Try.results128], rfl, rfl, O7.out, E7.out, A7.out, P7.out, fun B h1 h2 h3 => ?_⟩
  exact below_drew (below_setRow' (below_setRow' (W2.out.mono (by have := HB3E.out; omega)) h1 _) h2 _)
theorem idle_st {bo be ba : Nat} (w : World) :
    CallsD Try.prog 128 #[ptr bo, ptr be, ptr ba] .returning w fun e u' w' => e = .returned (.tuple #[]) ∧ u' = .returning ∧ Below w.heap.size w w' := by
  have hu155 := Try.underlying155
  refine callsD_of_wpS Try.func128 rfl fun c₀ cs hu => ?_
  simp only [Try.ntmps128, List.size_toArray, List.length_cons, List.length_nil, Nat.reduceAdd, Nat.reduceSub, Array.replicate_succ, Array.replicate_zero, List.push_toArray, List.append_toArray, List.nil_append, List.cons_append]
  apply wpS_seq
  refine wpS_recovers_none (by rfl) (by simp [go_sem]) (by simp [recoverD, hu]) ?_ ?_
  · rintro ⟨a, w, u', h, _⟩
    cases h
  simp only [Act.put, List.setIfInBounds_toArray, List.set_cons_zero, List.set_cons_succ]
  obtain ⟨i, hi, hz, _, _⟩ : ∃ i, Try.prog.info? 155 = some i ∧ i.zero = some (.agg #[.int .i64 0, .int .i64 0]) ∧ i.size = 2 ∧ True := by
    have h : (Try.prog.info? 155).map (fun i => (i.zero, i.size)) = some (some (.agg #[.int .i64 0, .int .i64 0]), 2) := by kernel_rfl
    obtain ⟨i, hi, he⟩ := Option.map_eq_some_iff.1 h
    simp only [Prod.mk.injEq] at he
    exact ⟨i, hi, he.1, he.2, trivial⟩
  have hTA : ∀ w, (Instr.typeAssert .nilIface 20 155 true).run Try.prog w = .ok (.tuple #[.agg #[.int .i64 0, .int .i64 0], .bool false]) w := fun w => by
    simp [Instr.typeAssert, run_underlying hu155, zeroValue, typeInfo, hi, hz]
  have hb1 : Below w.heap.size w (w.alloc (.cells #[.int .i64 0, .int .i64 0] 155)) := below_alloc (Below.refl _ _) _
  have HB := Aside0.mk hb1
  clear hb1
  go_wp2_with fail
  simp only [Exit.thenS]
  refine wpS_of_wp ?_
  go_wp2_with fail
  refine ⟨rfl, .returning, ?_, .tuple #[], by simp [results, Try.f128, Try.results128], rfl, rfl, HB.out⟩
  rw [← hu]
theorem read_state (A : Option Addr) (n c : Nat) (xs : List Int) (W : World) (hC : Kd.C (Kd.int .u8) W A n xs) (hnc : n ≤ c) (hb : IsBytes xs) (hbig : n < 1000000000) :
    Calls Try.prog 89 #[.slice A n c, .int .u8 84, .int .i64 131072, .func (.func 90) #[] #[]] W fun e w' => Below W.heap.size W w' ∧ ∃ v, e = .returned (.tuple #[v, .int .i64 (endOf (whole 84 131072 xs (pSt xs 131072))).1, .int .i64 (endOf (whole 84 131072 xs (pSt xs 131072))).2]) ∧ RdOut memSt zero_st W.heap.size (whole 84 131072 xs (pSt xs 131072)) v w' := by
  have HC := Aside0.mk hC
  have HNC := Aside0.mk hnc
  have HBY := Aside0.mk hb
  have HBIG := Aside0.mk hbig
  have HLEN := Aside0.mk (show xs.length = n from Kd.C_len hC)
  have hmf : ∀ (fn : Fn) (first cap : Array Value) (w : World), (Instr.makeFunc fn first cap).run Try.prog w = .ok (.func fn first cap) w := fun _ _ _ _ => rfl
  clear hC hnc hb hbig
  obtain ⟨bo, hbo⟩ : ∃ bo, W.heap.size = bo := ⟨_, rfl⟩
  have HBO := Aside0.mk hbo
  clear hbo
  go_enter_defers Try.func89, Try.ntmps89
  go_upto_region 3 with fail
  have hb1 : Below W.heap.size W (W.alloc (.cells #[.int .i64 0, .int .i64 0, .int .i64 0, .slice none 0 0, .slice none 0 0, .slice none 0 0] 58)) := below_alloc (Below.refl _ _) _
  have o1 : Rt 58 W.heap.size zero_st (W.alloc (.cells #[.int .i64 0, .int .i64 0, .int .i64 0, .slice none 0 0, .slice none 0 0, .slice none 0 0] 58)) := heap_alloc_new W _
  have s1 : (W.alloc (.cells #[.int .i64 0, .int .i64 0, .int .i64 0, .slice none 0 0, .slice none 0 0, .slice none 0 0] 58)).heap.size = W.heap.size + 1 := by simp
  generalize W.alloc (.cells #[.int .i64 0, .int .i64 0, .int .i64 0, .slice none 0 0, .slice none 0 0, .slice none 0 0] 58) = wa at *
  have hb2 : Below wa.heap.size wa (wa.alloc (.cells #[.int .i64 0] 22)) := below_alloc (Below.refl _ _) _
  have e2 : Rt 22 wa.heap.size [.int .i64 0] (wa.alloc (.cells #[.int .i64 0] 22)) := heap_alloc_new wa _
  have o2 := o1.below hb2
  have s2 : (wa.alloc (.cells #[.int .i64 0] 22)).heap.size = wa.heap.size + 1 := by simp
  have hc2 := hb1.trans (hb2.mono hb1.size)
  generalize wa.alloc (.cells #[.int .i64 0] 22) = wb at *
  have hb3 : Below wb.heap.size wb (wb.alloc (.cells #[.int .i64 0] 3)) := below_alloc (Below.refl _ _) _
  have a3 : Rt 3 wb.heap.size [.int .i64 0] (wb.alloc (.cells #[.int .i64 0] 3)) := heap_alloc_new wb _
  have o3 := o2.below hb3
  have e3 := e2.below hb3
  have s3 : (wb.alloc (.cells #[.int .i64 0] 3)).heap.size = wb.heap.size + 1 := by simp
  have hc3 := hc2.trans (hb3.mono hc2.size)
  generalize wb.alloc (.cells #[.int .i64 0] 3) = wc at *
  have hb4 : Below wc.heap.size wc (wc.alloc (.cells #[.slice A n c, .int .i64 0, .int .i64 131072] 158)) := below_alloc (Below.refl _ _) _
  have g4 : Rt 158 wc.heap.size [.slice A n c, .int .i64 0, .int .i64 131072] (wc.alloc (.cells #[.slice A n c, .int .i64 0, .int .i64 131072] 158)) := heap_alloc_new wc _
  have o4 := o3.below hb4
  have e4 := e3.below hb4
  have a4 := a3.below hb4
  have hc4 := hc3.trans (hb4.mono hc3.size)
  have s4 : (wc.alloc (.cells #[.slice A n c, .int .i64 0, .int .i64 131072] 158)).heap.size = wc.heap.size + 1 := by simp
  generalize wc.alloc (.cells #[.slice A n c, .int .i64 0, .int .i64 131072] 158) = w4 at *
  rw [s3, s2, s1] at g4 s4
  rw [s2, s1] at a4
  rw [s1] at e4
  obtain ⟨be, hbe⟩ : ∃ be, W.heap.size + 1 = be := ⟨_, rfl⟩
  rw [hbe] at e4 a4 g4 s4 ⊢
  obtain ⟨ba, hba⟩ : ∃ ba, be + 1 = ba := ⟨_, rfl⟩
  rw [hba] at a4 g4 s4 ⊢
  obtain ⟨g, hg⟩ : ∃ g, ba + 1 = g := ⟨_, rfl⟩
  rw [hg] at g4 s4 ⊢
  rw [HBO.out] at o4 hbe ⊢
  have O4 := Aside0.mk o4
  have E4 := Aside0.mk e4
  have A4 := Aside0.mk a4
  have G4 := Aside0.mk g4
  have B4 := Aside0.mk (show Below bo W w4 by rw [← HBO.out]; exact hc4)
  have HORD := Aside0.mk (show be = bo + 1 ∧ ba = bo + 2 ∧ g = bo + 3 ∧ w4.heap.size = bo + 4 by omega)
  clear hb1 o1 s1 hb2 e2 o2 s2 hc2 hb3 a3 o3 e3 s3 hc3 hb4 o4 e4 a4 hc4 s4 hbe hba hg g4 hmf
  have HFAULT := Aside0.mk (show ∀ (er p : Int) (w : World), Rt 58 bo zero_st w → Rt 22 be [.int .i64 0] w → Rt 3 ba [.int .i64 0] w → Below bo W w → CallsD Try.prog 128 #[ptr bo, ptr be, ptr ba] (.panicking [{ v := fault er p, recovered := false }]) w fun e u' w' =>
      e = .returned (.tuple #[]) ∧ u' = .panicking [{ v := fault er p, recovered := true }] ∧ Rt 58 bo zero_st w' ∧ Rt 22 be [.int .i64 er] w' ∧ Rt 3 ba [.int .i64 p] w' ∧ Below bo W w' from fun er p w ho he ha hb => by
    have := HORD.out
    refine (catch_st er p [] w ho he ha (by omega) (by omega) (by omega)).mono ?_
    rintro e u' w' ⟨h1, h2, h3, h4, h5, _, h6⟩
    exact ⟨h1, h2, h3, h4, h5, hb.trans (h6 bo (by omega) (by omega) (by have := hb.size; have := HBO.out; omega))⟩)
  by_cases hl : 131072 < n
  · have d1 : decide ((131072 : Int) < (n : Int)) = true := decide_eq_true (by omega)
    have d2 : decide (131072 < n) = true := decide_eq_true hl
    have HR := Aside0.mk (show whole 84 131072 xs (pSt xs 131072) = Res.fail 1 0 by
      unfold whole
      rw [HLEN.out, if_pos hl])
    clear hl
    go_wp2_with fail
    refine leaves_cons (f := 128) (args := #[ptr bo, ptr be, ptr ba]) (by simp) (by simp [go_sem]) ?_
    refine (HFAULT.out 1 0 w4 O4.out E4.out A4.out B4.out).mono ?_
    rintro e u' w' ⟨rfl, rfl, ho, he, ha, hb⟩
    have x0 := ho.cell 0 _ rfl
    have x1 := ho.cell 1 _ rfl
    have x2 := ho.cell 2 _ rfl
    have x3 := ho.cell 3 _ rfl
    have x4 := ho.cell 4 _ rfl
    have x5 := ho.cell 5 _ rfl
    have y0 := he.cell 0 _ rfl
    have z0 := ha.cell 0 _ rfl
    rw [HR.out]
    simp [Leaves, settle, results, Try.results89, go_sem, x0, x1, x2, x3, x4, x5, x5, y0, z0]
    exact ⟨by rw [HBO.out]; exact hb, _, ⟨rfl, rfl, rfl⟩, rfl⟩
  have d1 : decide ((131072 : Int) < (n : Int)) = false := decide_eq_false (by omega)
  have d2 : decide (131072 < n) = false := decide_eq_false hl
  have HL := Aside0.mk hl
  clear hl
  rcases Nat.eq_zero_or_pos n with hz | hz
  · have HR := Aside0.mk (show whole 84 131072 xs (pSt xs 131072) = Res.fail 3 0 by
      unfold whole
      rw [HLEN.out, if_neg HL.out, if_pos hz])
    have d3 : ((n : Int) == 0) = true := by simpa using hz
    have d4 : decide (n = 0) = true := decide_eq_true hz
    have d5 : (n : Int) = 0 := by omega
    go_wp2_with fail
    refine leaves_cons (f := 128) (args := #[ptr bo, ptr be, ptr ba]) (by simp) (by simp [go_sem]) ?_
    refine (HFAULT.out 3 0 w4 O4.out E4.out A4.out B4.out).mono ?_
    rintro e u' w' ⟨rfl, rfl, ho, he, ha, hb⟩
    have x0 := ho.cell 0 _ rfl
    have x1 := ho.cell 1 _ rfl
    have x2 := ho.cell 2 _ rfl
    have x3 := ho.cell 3 _ rfl
    have x4 := ho.cell 4 _ rfl
    have x5 := ho.cell 5 _ rfl
    have y0 := he.cell 0 _ rfl
    have z0 := ha.cell 0 _ rfl
    rw [HR.out]
    simp [Leaves, settle, results, Try.results89, go_sem, x0, x1, x2, x3, x4, x5, x5, y0, z0]
    exact ⟨by rw [HBO.out]; exact hb, _, ⟨rfl, rfl, rfl⟩, rfl⟩
  have d3 : ((n : Int) == 0) = false := by simp; omega
  have d4 : decide (n = 0) = false := decide_eq_false (by omega)
  have HZ := Aside0.mk hz
  have i0 : (0 : Int) < (n : Int) := by omega
  have hCx := Kd.C_below HC.out (show Below W.heap.size W w4 by rw [HBO.out]; exact B4.out)
  obtain ⟨ad, rfl, hcell⟩ := (Kd.reads_of_C (d := (0 : Int)) (h1 := fun _ => rfl) hCx).2.2 hz
  have k0 := hcell 0 hz
  obtain ⟨x, hx⟩ : ∃ x, xs.getD 0 0 = x := ⟨_, rfl⟩
  rw [hx] at k0
  have HX := Aside0.mk (show xs.headD 0 = x by rw [← hx]; cases xs <;> rfl)
  have k1 : w4.cell? ad = some (.int .u8 x) := by
    have e : ad.add 0 = ad := by simp [Addr.add]
    rwa [e] at k0
  clear hz hCx hcell hx
  by_cases hk : x = 84
  rotate_left
  · have HR := Aside0.mk (show whole 84 131072 xs (pSt xs 131072) = Res.fail 90 0 by
      unfold whole
      rw [HLEN.out, if_neg HL.out, if_neg (by have := HZ.out; omega), HX.out, if_pos hk])
    have d5 : (x != 84) = true := by simpa using hk
    have d6 : (x == 84) = false := by simpa using hk
    have d7 : decide (x = 84) = false := decide_eq_false hk
    clear hk
    go_wp2_with fail
    refine leaves_cons (f := 128) (args := #[ptr bo, ptr be, ptr ba]) (by simp) (by simp [go_sem]) ?_
    refine (HFAULT.out 90 0 w4 O4.out E4.out A4.out B4.out).mono ?_
    rintro e u' w' ⟨rfl, rfl, ho, he, ha, hb⟩
    have x0 := ho.cell 0 _ rfl
    have x1 := ho.cell 1 _ rfl
    have x2 := ho.cell 2 _ rfl
    have x3 := ho.cell 3 _ rfl
    have x4 := ho.cell 4 _ rfl
    have x5 := ho.cell 5 _ rfl
    have y0 := he.cell 0 _ rfl
    have z0 := ha.cell 0 _ rfl
    rw [HR.out]
    simp [Leaves, settle, results, Try.results89, go_sem, x0, x1, x2, x3, x4, x5, x5, y0, z0]
    exact ⟨by rw [HBO.out]; exact hb, _, ⟨rfl, rfl, rfl⟩, rfl⟩
  subst hk
  have hg1 := G4.out.cell 1 _ rfl
  have fg1 := G4.out.free 1
  go_upto_region 10 with fail
  rw [G4.out.set 1 (.int .i64 1)]
  have hl1 : [Value.slice (some ad) n c, .int .i64 0, .int .i64 131072].set 1 (.int .i64 1) = [Value.slice (some ad) n c, .int .i64 1, .int .i64 131072] := rfl
  rw [hl1]
  have K4 : CrAt g bo (some ad) n c xs 0 131072 w4 := ⟨G4.out, fun W' hb => Kd.C_below HC.out (by rw [HBO.out]; exact B4.out.trans hb), by have := HORD.out; omega, HNC.out, Nat.zero_le _, HBIG.out, by decide, HBY.out⟩
  have hmv := K4.moved (m' := 1) HZ.out
  have e1 : (((1 : Nat) : Int)) = 1 := rfl
  have e2 : (((131072 : Nat) : Int)) = 131072 := rfl
  rw [e1, e2] at hmv
  have K5 := Aside0.mk hmv.1
  have B5 := Aside0.mk (B4.out.trans hmv.2.1)
  have O5 := Aside0.mk (show Rt 58 bo zero_st (w4.setRow g [Value.slice (some ad) n c, .int .i64 1, .int .i64 131072].toArray) from (setRow_other _ _ _ _ (by have := HORD.out; omega)).trans O4.out)
  have E5 := Aside0.mk (show Rt 22 be [.int .i64 0] (w4.setRow g [Value.slice (some ad) n c, .int .i64 1, .int .i64 131072].toArray) from (setRow_other _ _ _ _ (by have := HORD.out; omega)).trans E4.out)
  have A5 := Aside0.mk (show Rt 3 ba [.int .i64 0] (w4.setRow g [Value.slice (some ad) n c, .int .i64 1, .int .i64 131072].toArray) from (setRow_other _ _ _ _ (by have := HORD.out; omega)).trans A4.out)
  have S5 := Aside0.mk (show bo + 4 ≤ (w4.setRow g [Value.slice (some ad) n c, .int .i64 1, .int .i64 131072].toArray).heap.size by rw [setRow_size]; have := HORD.out; omega)
  clear hmv K4 hl1 e1 e2 hg1 fg1 k0 k1 d1 d2 d3 d4 i0
  generalize w4.setRow g [Value.slice (some ad) n c, .int .i64 1, .int .i64 131072].toArray = w5 at *
  have HW := Aside0.mk (show whole 84 131072 xs (pSt xs 131072) = (pSt xs 131072 1).bind fun x n => if n < xs.length then .fail 4 (n : Int) else .ok x n by
    unfold whole
    rw [HLEN.out, if_neg HL.out, if_neg (by have := HZ.out; omega), HX.out, if_neg (by decide)])
  go_wp2_with fail
  go_at_call 90
  refine (r_state K5.out).mono ?_
  rintro e w6 ⟨hb, hp, ho⟩
  have O6 := Aside0.mk (show Rt 58 bo zero_st w6 from (hp.2 bo O5.out.lt (by have := HORD.out; show bo ≠ g; omega)).trans O5.out)
  have E6 := Aside0.mk (show Rt 22 be [.int .i64 0] w6 from (hp.2 be E5.out.lt (by have := HORD.out; show be ≠ g; omega)).trans E5.out)
  have A6 := Aside0.mk (show Rt 3 ba [.int .i64 0] w6 from (hp.2 ba A5.out.lt (by have := HORD.out; show ba ≠ g; omega)).trans A5.out)
  have B6 := Aside0.mk (B5.out.trans hb)
  rcases hq : pSt xs 131072 1 with ⟨x, m2⟩ | ⟨er, p⟩
  rotate_left
  · rw [hq] at ho
    have ho : e = gaveUp er p := ho
    subst ho
    have HR := Aside0.mk (show whole 84 131072 xs (pSt xs 131072) = Res.fail er p by rw [HW.out, hq]; rfl)
    clear hb hp hq
    simp only [gaveUp]
    refine leaves_cons (f := 128) (args := #[ptr bo, ptr be, ptr ba]) (by simp) (by simp [go_sem]) ?_
    refine (HFAULT.out er p w6 O6.out E6.out A6.out B6.out).mono ?_
    rintro e u' w' ⟨rfl, rfl, ho, he, ha, hb⟩
    have x0 := ho.cell 0 _ rfl
    have x1 := ho.cell 1 _ rfl
    have x2 := ho.cell 2 _ rfl
    have x3 := ho.cell 3 _ rfl
    have x4 := ho.cell 4 _ rfl
    have x5 := ho.cell 5 _ rfl
    have y0 := he.cell 0 _ rfl
    have z0 := ha.cell 0 _ rfl
    rw [HR.out]
    simp [Leaves, settle, results, Try.results89, go_sem, x0, x1, x2, x3, x4, x5, x5, y0, z0]
    exact ⟨by rw [HBO.out]; exact hb, _, ⟨rfl, rfl, rfl⟩, rfl⟩
  rw [hq] at ho
  obtain ⟨v, he, ⟨Al, nl, cl, Ah, nh, ch, Ad, nd, cd, hv, hl, hh, hd⟩, hk⟩ : ∃ v, e = .returned v ∧ memSt w5.heap.size x v w6 ∧ CrAt g bo (some ad) n c xs m2 131072 w6 := ho
  subst he hv
  have K6 := Aside0.mk hk
  have Ll_6 := Aside0.mk (LL_alive.lower hl S5.out)
  have Lh_6 := Aside0.mk (LH_alive.lower hh S5.out)
  have Ld_6 := Aside0.mk (LD_alive.lower hd S5.out)
  have HQ := Aside0.mk hq
  clear hb hp hq hl hh hd hk
  try clear ho
  go_upto_region 11 with fail
  have hb7 : Below w6.heap.size w6 (w6.alloc (.cells #[.int .i64 x.f0, .int .i64 x.f1, .int .i64 x.f2, .slice Al nl cl, .slice Ah nh ch, .slice Ad nd cd] 58)) := below_alloc (Below.refl _ _) _
  have r7 : Rt 58 w6.heap.size [.int .i64 x.f0, .int .i64 x.f1, .int .i64 x.f2, .slice Al nl cl, .slice Ah nh ch, .slice Ad nd cd] (w6.alloc (.cells #[.int .i64 x.f0, .int .i64 x.f1, .int .i64 x.f2, .slice Al nl cl, .slice Ah nh ch, .slice Ad nd cd] 58)) := heap_alloc_new w6 _
  obtain ⟨bx, hbx⟩ : ∃ bx, w6.heap.size = bx := ⟨_, rfl⟩
  have O7 := Aside0.mk (O6.out.below hb7)
  have E7 := Aside0.mk (E6.out.below hb7)
  have A7 := Aside0.mk (A6.out.below hb7)
  have K7 := Aside0.mk (K6.out.below hb7)
  have Ll_7 := Aside0.mk (LL_alive.below Ll_6.out hb7)
  have Lh_7 := Aside0.mk (LH_alive.below Lh_6.out hb7)
  have Ld_7 := Aside0.mk (LD_alive.below Ld_6.out hb7)
  have B7 := Aside0.mk (B6.out.trans (hb7.mono (by have := B6.out.size; have := HBO.out; omega)))
  have B7' := B7.out
  rw [hbx] at r7 ⊢
  have R7 := Aside0.mk r7
  clear hb7 r7 hbx B7'
  generalize w6.alloc (.cells #[.int .i64 x.f0, .int .i64 x.f1, .int .i64 x.f2, .slice Al nl cl, .slice Ah nh ch, .slice Ad nd cd] 58) = w7 at *
  have hm7 := K7.out.row.cell 1 _ rfl
  by_cases ht : m2 < n
  · have d1 : decide ((m2 : Int) < (n : Int)) = true := decide_eq_true (by omega)
    have d2 : decide (m2 < n) = true := decide_eq_true ht
    have HR := Aside0.mk (show whole 84 131072 xs (pSt xs 131072) = Res.fail 4 (m2 : Int) by
      rw [HW.out, HQ.out]
      show (if m2 < xs.length then Res.fail 4 (m2 : Int) else Res.ok x m2) = _
      rw [HLEN.out, if_pos ht])
    clear ht
    go_wp2_with fail
    refine leaves_cons (f := 128) (args := #[ptr bo, ptr be, ptr ba]) (by simp) (by simp [go_sem]) ?_
    refine (HFAULT.out 4 (m2 : Int) w7 O7.out E7.out A7.out B7.out).mono ?_
    rintro e u' w' ⟨rfl, rfl, ho, he, ha, hb⟩
    have x0 := ho.cell 0 _ rfl
    have x1 := ho.cell 1 _ rfl
    have x2 := ho.cell 2 _ rfl
    have x3 := ho.cell 3 _ rfl
    have x4 := ho.cell 4 _ rfl
    have x5 := ho.cell 5 _ rfl
    have y0 := he.cell 0 _ rfl
    have z0 := ha.cell 0 _ rfl
    rw [HR.out]
    simp [Leaves, settle, results, Try.results89, go_sem, x0, x1, x2, x3, x4, x5, x5, y0, z0]
    exact ⟨by rw [HBO.out]; exact hb, _, ⟨rfl, rfl, rfl⟩, rfl⟩
  have d1 : decide ((m2 : Int) < (n : Int)) = false := decide_eq_false (by omega)
  have d2 : decide (m2 < n) = false := decide_eq_false ht
  have HR := Aside0.mk (show whole 84 131072 xs (pSt xs 131072) = Res.ok x m2 by
    rw [HW.out, HQ.out]
    show (if m2 < xs.length then Res.fail 4 (m2 : Int) else Res.ok x m2) = _
    rw [HLEN.out, if_neg ht])
  clear ht
  have c0 := R7.out.cell 0 _ rfl
  have c1 := R7.out.cell 1 _ rfl
  have c2 := R7.out.cell 2 _ rfl
  have c3 := R7.out.cell 3 _ rfl
  have c4 := R7.out.cell 4 _ rfl
  have c5 := R7.out.cell 5 _ rfl
  have z0 := O7.out.cell 0 _ rfl
  have z1 := O7.out.cell 1 _ rfl
  have z2 := O7.out.cell 2 _ rfl
  have z3 := O7.out.cell 3 _ rfl
  have z4 := O7.out.cell 4 _ rfl
  have z5 := O7.out.cell 5 _ rfl
  have f0 := O7.out.free 0
  have f1 := O7.out.free 1
  have f2 := O7.out.free 2
  have f3 := O7.out.free 3
  have f4 := O7.out.free 4
  have f5 := O7.out.free 5
  have y0 := E7.out.cell 0 _ rfl
  have y1 := E7.out.free 0
  have a0 := A7.out.cell 0 _ rfl
  have a1 := A7.out.free 0
  have hne1 : be ≠ bo := by have := HORD.out; omega
  have hne2 : ba ≠ bo := by have := HORD.out; omega
  have hne3 : ba ≠ be := by have := HORD.out; omega
  go_wp2_with fail
  clear c0 c1 c2 c3 c4 c5 z0 z1 z2 z3 z4 z5 f0 f1 f2 f3 f4 f5 y0 y1 a0 a1 d1 d2 hm7
  have q := O7.out.set 0 (.int .i64 x.f0)
  rw [show ([Value.int .i64 0, .int .i64 0, .int .i64 0, .slice none 0 0, .slice none 0 0, .slice none 0 0]).set 0 (.int .i64 x.f0) = [Value.int .i64 x.f0, .int .i64 0, .int .i64 0, .slice none 0 0, .slice none 0 0, .slice none 0 0] from rfl] at q
  rw [q]
  have O8 := Aside0.mk (show Rt 58 bo [Value.int .i64 x.f0, .int .i64 0, .int .i64 0, .slice none 0 0, .slice none 0 0, .slice none 0 0] (w7.setRow bo ([Value.int .i64 x.f0, .int .i64 0, .int .i64 0, .slice none 0 0, .slice none 0 0, .slice none 0 0]).toArray) from O7.out.row _)
  have E8 := Aside0.mk (show Rt 22 be [.int .i64 0] (w7.setRow bo ([Value.int .i64 x.f0, .int .i64 0, .int .i64 0, .slice none 0 0, .slice none 0 0, .slice none 0 0]).toArray) from (setRow_other _ _ _ _ hne1).trans E7.out)
  have A8 := Aside0.mk (show Rt 3 ba [.int .i64 0] (w7.setRow bo ([Value.int .i64 x.f0, .int .i64 0, .int .i64 0, .slice none 0 0, .slice none 0 0, .slice none 0 0]).toArray) from (setRow_other _ _ _ _ hne2).trans A7.out)
  have Ll_8 := Aside0.mk (LL_alive.row Ll_7.out (show bo < bo + 4 by omega) ([Value.int .i64 x.f0, .int .i64 0, .int .i64 0, .slice none 0 0, .slice none 0 0, .slice none 0 0]).toArray)
  have Lh_8 := Aside0.mk (LH_alive.row Lh_7.out (show bo < bo + 4 by omega) ([Value.int .i64 x.f0, .int .i64 0, .int .i64 0, .slice none 0 0, .slice none 0 0, .slice none 0 0]).toArray)
  have Ld_8 := Aside0.mk (LD_alive.row Ld_7.out (show bo < bo + 4 by omega) ([Value.int .i64 x.f0, .int .i64 0, .int .i64 0, .slice none 0 0, .slice none 0 0, .slice none 0 0]).toArray)
  have B8 := Aside0.mk (show Below bo W (w7.setRow bo ([Value.int .i64 x.f0, .int .i64 0, .int .i64 0, .slice none 0 0, .slice none 0 0, .slice none 0 0]).toArray) from below_setRow' B7.out (Nat.le_refl _) _)
  clear q
  generalize w7.setRow bo ([Value.int .i64 x.f0, .int .i64 0, .int .i64 0, .slice none 0 0, .slice none 0 0, .slice none 0 0]).toArray = w8 at *
  have q := O8.out.set 1 (.int .i64 x.f1)
  rw [show ([Value.int .i64 x.f0, .int .i64 0, .int .i64 0, .slice none 0 0, .slice none 0 0, .slice none 0 0]).set 1 (.int .i64 x.f1) = [Value.int .i64 x.f0, .int .i64 x.f1, .int .i64 0, .slice none 0 0, .slice none 0 0, .slice none 0 0] from rfl] at q
  rw [q]
  have O9 := Aside0.mk (show Rt 58 bo [Value.int .i64 x.f0, .int .i64 x.f1, .int .i64 0, .slice none 0 0, .slice none 0 0, .slice none 0 0] (w8.setRow bo ([Value.int .i64 x.f0, .int .i64 x.f1, .int .i64 0, .slice none 0 0, .slice none 0 0, .slice none 0 0]).toArray) from O8.out.row _)
  have E9 := Aside0.mk (show Rt 22 be [.int .i64 0] (w8.setRow bo ([Value.int .i64 x.f0, .int .i64 x.f1, .int .i64 0, .slice none 0 0, .slice none 0 0, .slice none 0 0]).toArray) from (setRow_other _ _ _ _ hne1).trans E8.out)
  have A9 := Aside0.mk (show Rt 3 ba [.int .i64 0] (w8.setRow bo ([Value.int .i64 x.f0, .int .i64 x.f1, .int .i64 0, .slice none 0 0, .slice none 0 0, .slice none 0 0]).toArray) from (setRow_other _ _ _ _ hne2).trans A8.out)
  have Ll_9 := Aside0.mk (LL_alive.row Ll_8.out (show bo < bo + 4 by omega) ([Value.int .i64 x.f0, .int .i64 x.f1, .int .i64 0, .slice none 0 0, .slice none 0 0, .slice none 0 0]).toArray)
  have Lh_9 := Aside0.mk (LH_alive.row Lh_8.out (show bo < bo + 4 by omega) ([Value.int .i64 x.f0, .int .i64 x.f1, .int .i64 0, .slice none 0 0, .slice none 0 0, .slice none 0 0]).toArray)
  have Ld_9 := Aside0.mk (LD_alive.row Ld_8.out (show bo < bo + 4 by omega) ([Value.int .i64 x.f0, .int .i64 x.f1, .int .i64 0, .slice none 0 0, .slice none 0 0, .slice none 0 0]).toArray)
  have B9 := Aside0.mk (show Below bo W (w8.setRow bo ([Value.int .i64 x.f0, .int .i64 x.f1, .int .i64 0, .slice none 0 0, .slice none 0 0, .slice none 0 0]).toArray) from below_setRow' B8.out (Nat.le_refl _) _)
  clear q
  generalize w8.setRow bo ([Value.int .i64 x.f0, .int .i64 x.f1, .int .i64 0, .slice none 0 0, .slice none 0 0, .slice none 0 0]).toArray = w9 at *
  have q := O9.out.set 2 (.int .i64 x.f2)
  rw [show ([Value.int .i64 x.f0, .int .i64 x.f1, .int .i64 0, .slice none 0 0, .slice none 0 0, .slice none 0 0]).set 2 (.int .i64 x.f2) = [Value.int .i64 x.f0, .int .i64 x.f1, .int .i64 x.f2, .slice none 0 0, .slice none 0 0, .slice none 0 0] from rfl] at q
  rw [q]
  have O10 := Aside0.mk (show Rt 58 bo [Value.int .i64 x.f0, .int .i64 x.f1, .int .i64 x.f2, .slice none 0 0, .slice none 0 0, .slice none 0 0] (w9.setRow bo ([Value.int .i64 x.f0, .int .i64 x.f1, .int .i64 x.f2, .slice none 0 0, .slice none 0 0, .slice none 0 0]).toArray) from O9.out.row _)
  have E10 := Aside0.mk (show Rt 22 be [.int .i64 0] (w9.setRow bo ([Value.int .i64 x.f0, .int .i64 x.f1, .int .i64 x.f2, .slice none 0 0, .slice none 0 0, .slice none 0 0]).toArray) from (setRow_other _ _ _ _ hne1).trans E9.out)
  have A10 := Aside0.mk (show Rt 3 ba [.int .i64 0] (w9.setRow bo ([Value.int .i64 x.f0, .int .i64 x.f1, .int .i64 x.f2, .slice none 0 0, .slice none 0 0, .slice none 0 0]).toArray) from (setRow_other _ _ _ _ hne2).trans A9.out)
  have Ll_10 := Aside0.mk (LL_alive.row Ll_9.out (show bo < bo + 4 by omega) ([Value.int .i64 x.f0, .int .i64 x.f1, .int .i64 x.f2, .slice none 0 0, .slice none 0 0, .slice none 0 0]).toArray)
  have Lh_10 := Aside0.mk (LH_alive.row Lh_9.out (show bo < bo + 4 by omega) ([Value.int .i64 x.f0, .int .i64 x.f1, .int .i64 x.f2, .slice none 0 0, .slice none 0 0, .slice none 0 0]).toArray)
  have Ld_10 := Aside0.mk (LD_alive.row Ld_9.out (show bo < bo + 4 by omega) ([Value.int .i64 x.f0, .int .i64 x.f1, .int .i64 x.f2, .slice none 0 0, .slice none 0 0, .slice none 0 0]).toArray)
  have B10 := Aside0.mk (show Below bo W (w9.setRow bo ([Value.int .i64 x.f0, .int .i64 x.f1, .int .i64 x.f2, .slice none 0 0, .slice none 0 0, .slice none 0 0]).toArray) from below_setRow' B9.out (Nat.le_refl _) _)
  clear q
  generalize w9.setRow bo ([Value.int .i64 x.f0, .int .i64 x.f1, .int .i64 x.f2, .slice none 0 0, .slice none 0 0, .slice none 0 0]).toArray = w10 at *
  have q := O10.out.set 3 (.slice Al nl cl)
  rw [show ([Value.int .i64 x.f0, .int .i64 x.f1, .int .i64 x.f2, .slice none 0 0, .slice none 0 0, .slice none 0 0]).set 3 (.slice Al nl cl) = [Value.int .i64 x.f0, .int .i64 x.f1, .int .i64 x.f2, .slice Al nl cl, .slice none 0 0, .slice none 0 0] from rfl] at q
  rw [q]
  have O11 := Aside0.mk (show Rt 58 bo [Value.int .i64 x.f0, .int .i64 x.f1, .int .i64 x.f2, .slice Al nl cl, .slice none 0 0, .slice none 0 0] (w10.setRow bo ([Value.int .i64 x.f0, .int .i64 x.f1, .int .i64 x.f2, .slice Al nl cl, .slice none 0 0, .slice none 0 0]).toArray) from O10.out.row _)
  have E11 := Aside0.mk (show Rt 22 be [.int .i64 0] (w10.setRow bo ([Value.int .i64 x.f0, .int .i64 x.f1, .int .i64 x.f2, .slice Al nl cl, .slice none 0 0, .slice none 0 0]).toArray) from (setRow_other _ _ _ _ hne1).trans E10.out)
  have A11 := Aside0.mk (show Rt 3 ba [.int .i64 0] (w10.setRow bo ([Value.int .i64 x.f0, .int .i64 x.f1, .int .i64 x.f2, .slice Al nl cl, .slice none 0 0, .slice none 0 0]).toArray) from (setRow_other _ _ _ _ hne2).trans A10.out)
  have Ll_11 := Aside0.mk (LL_alive.row Ll_10.out (show bo < bo + 4 by omega) ([Value.int .i64 x.f0, .int .i64 x.f1, .int .i64 x.f2, .slice Al nl cl, .slice none 0 0, .slice none 0 0]).toArray)
  have Lh_11 := Aside0.mk (LH_alive.row Lh_10.out (show bo < bo + 4 by omega) ([Value.int .i64 x.f0, .int .i64 x.f1, .int .i64 x.f2, .slice Al nl cl, .slice none 0 0, .slice none 0 0]).toArray)
  have Ld_11 := Aside0.mk (LD_alive.row Ld_10.out (show bo < bo + 4 by omega) ([Value.int .i64 x.f0, .int .i64 x.f1, .int .i64 x.f2, .slice Al nl cl, .slice none 0 0, .slice none 0 0]).toArray)
  have B11 := Aside0.mk (show Below bo W (w10.setRow bo ([Value.int .i64 x.f0, .int .i64 x.f1, .int .i64 x.f2, .slice Al nl cl, .slice none 0 0, .slice none 0 0]).toArray) from below_setRow' B10.out (Nat.le_refl _) _)
  clear q
  generalize w10.setRow bo ([Value.int .i64 x.f0, .int .i64 x.f1, .int .i64 x.f2, .slice Al nl cl, .slice none 0 0, .slice none 0 0]).toArray = w11 at *
  have q := O11.out.set 4 (.slice Ah nh ch)
  rw [show ([Value.int .i64 x.f0, .int .i64 x.f1, .int .i64 x.f2, .slice Al nl cl, .slice none 0 0, .slice none 0 0]).set 4 (.slice Ah nh ch) = [Value.int .i64 x.f0, .int .i64 x.f1, .int .i64 x.f2, .slice Al nl cl, .slice Ah nh ch, .slice none 0 0] from rfl] at q
  rw [q]
  have O12 := Aside0.mk (show Rt 58 bo [Value.int .i64 x.f0, .int .i64 x.f1, .int .i64 x.f2, .slice Al nl cl, .slice Ah nh ch, .slice none 0 0] (w11.setRow bo ([Value.int .i64 x.f0, .int .i64 x.f1, .int .i64 x.f2, .slice Al nl cl, .slice Ah nh ch, .slice none 0 0]).toArray) from O11.out.row _)
  have E12 := Aside0.mk (show Rt 22 be [.int .i64 0] (w11.setRow bo ([Value.int .i64 x.f0, .int .i64 x.f1, .int .i64 x.f2, .slice Al nl cl, .slice Ah nh ch, .slice none 0 0]).toArray) from (setRow_other _ _ _ _ hne1).trans E11.out)
  have A12 := Aside0.mk (show Rt 3 ba [.int .i64 0] (w11.setRow bo ([Value.int .i64 x.f0, .int .i64 x.f1, .int .i64 x.f2, .slice Al nl cl, .slice Ah nh ch, .slice none 0 0]).toArray) from (setRow_other _ _ _ _ hne2).trans A11.out)
  have Ll_12 := Aside0.mk (LL_alive.row Ll_11.out (show bo < bo + 4 by omega) ([Value.int .i64 x.f0, .int .i64 x.f1, .int .i64 x.f2, .slice Al nl cl, .slice Ah nh ch, .slice none 0 0]).toArray)
  have Lh_12 := Aside0.mk (LH_alive.row Lh_11.out (show bo < bo + 4 by omega) ([Value.int .i64 x.f0, .int .i64 x.f1, .int .i64 x.f2, .slice Al nl cl, .slice Ah nh ch, .slice none 0 0]).toArray)
  have Ld_12 := Aside0.mk (LD_alive.row Ld_11.out (show bo < bo + 4 by omega) ([Value.int .i64 x.f0, .int .i64 x.f1, .int .i64 x.f2, .slice Al nl cl, .slice Ah nh ch, .slice none 0 0]).toArray)
  have B12 := Aside0.mk (show Below bo W (w11.setRow bo ([Value.int .i64 x.f0, .int .i64 x.f1, .int .i64 x.f2, .slice Al nl cl, .slice Ah nh ch, .slice none 0 0]).toArray) from below_setRow' B11.out (Nat.le_refl _) _)
  clear q
  generalize w11.setRow bo ([Value.int .i64 x.f0, .int .i64 x.f1, .int .i64 x.f2, .slice Al nl cl, .slice Ah nh ch, .slice none 0 0]).toArray = w12 at *
  have q := O12.out.set 5 (.slice Ad nd cd)
  rw [show ([Value.int .i64 x.f0, .int .i64 x.f1, .int .i64 x.f2, .slice Al nl cl, .slice Ah nh ch, .slice none 0 0]).set 5 (.slice Ad nd cd) = [Value.int .i64 x.f0, .int .i64 x.f1, .int .i64 x.f2, .slice Al nl cl, .slice Ah nh ch, .slice Ad nd cd] from rfl] at q
  rw [q]
  have O13 := Aside0.mk (show Rt 58 bo [Value.int .i64 x.f0, .int .i64 x.f1, .int .i64 x.f2, .slice Al nl cl, .slice Ah nh ch, .slice Ad nd cd] (w12.setRow bo ([Value.int .i64 x.f0, .int .i64 x.f1, .int .i64 x.f2, .slice Al nl cl, .slice Ah nh ch, .slice Ad nd cd]).toArray) from O12.out.row _)
  have E13 := Aside0.mk (show Rt 22 be [.int .i64 0] (w12.setRow bo ([Value.int .i64 x.f0, .int .i64 x.f1, .int .i64 x.f2, .slice Al nl cl, .slice Ah nh ch, .slice Ad nd cd]).toArray) from (setRow_other _ _ _ _ hne1).trans E12.out)
  have A13 := Aside0.mk (show Rt 3 ba [.int .i64 0] (w12.setRow bo ([Value.int .i64 x.f0, .int .i64 x.f1, .int .i64 x.f2, .slice Al nl cl, .slice Ah nh ch, .slice Ad nd cd]).toArray) from (setRow_other _ _ _ _ hne2).trans A12.out)
  have Ll_13 := Aside0.mk (LL_alive.row Ll_12.out (show bo < bo + 4 by omega) ([Value.int .i64 x.f0, .int .i64 x.f1, .int .i64 x.f2, .slice Al nl cl, .slice Ah nh ch, .slice Ad nd cd]).toArray)
  have Lh_13 := Aside0.mk (LH_alive.row Lh_12.out (show bo < bo + 4 by omega) ([Value.int .i64 x.f0, .int .i64 x.f1, .int .i64 x.f2, .slice Al nl cl, .slice Ah nh ch, .slice Ad nd cd]).toArray)
  have Ld_13 := Aside0.mk (LD_alive.row Ld_12.out (show bo < bo + 4 by omega) ([Value.int .i64 x.f0, .int .i64 x.f1, .int .i64 x.f2, .slice Al nl cl, .slice Ah nh ch, .slice Ad nd cd]).toArray)
  have B13 := Aside0.mk (show Below bo W (w12.setRow bo ([Value.int .i64 x.f0, .int .i64 x.f1, .int .i64 x.f2, .slice Al nl cl, .slice Ah nh ch, .slice Ad nd cd]).toArray) from below_setRow' B12.out (Nat.le_refl _) _)
  clear q
  generalize w12.setRow bo ([Value.int .i64 x.f0, .int .i64 x.f1, .int .i64 x.f2, .slice Al nl cl, .slice Ah nh ch, .slice Ad nd cd]).toArray = w13 at *
  rw [E13.out.same 0 _ rfl, A13.out.same 0 _ rfl]
  refine leaves_cons (f := 128) (args := #[ptr bo, ptr be, ptr ba]) (by simp) (by simp [go_sem]) ?_
  refine (idle_st (bo := bo) (be := be) (ba := ba) w13).mono ?_
  rintro e u' w' ⟨rfl, rfl, hb⟩
  have ho := O13.out.below hb
  have he := E13.out.below hb
  have ha := A13.out.below hb
  have hl := LL_alive.below Ll_13.out hb
  have hh := LH_alive.below Lh_13.out hb
  have hd := LD_alive.below Ld_13.out hb
  have x0 := ho.cell 0 _ rfl
  have x1 := ho.cell 1 _ rfl
  have x2 := ho.cell 2 _ rfl
  have x3 := ho.cell 3 _ rfl
  have x4 := ho.cell 4 _ rfl
  have x5 := ho.cell 5 _ rfl
  have y0 := he.cell 0 _ rfl
  have z0 := ha.cell 0 _ rfl
  rw [HR.out]
  simp [Leaves, settle, results, Try.results89, go_sem, x0, x1, x2, x3, x4, x5, y0, z0]
  refine ⟨by rw [HBO.out]; exact B13.out.trans (hb.mono (by have := B13.out.size; have := HBO.out; omega)), _, ⟨rfl, rfl, rfl⟩, Al, nl, cl, Ah, nh, ch, Ad, nd, cd, rfl, LL_alive.lower hl (by have := HBO.out; omega), LH_alive.lower hh (by have := HBO.out; omega), LD_alive.lower hd (by have := HBO.out; omega)⟩
end Go.Proofs.Ytafmoglaockepaa.Cd
end
section
namespace Go.Proofs.Ytafmoglaockepaa.Cd
open Go Go.RowKit Go.Proofs.Ytafmoglaockepaa.Num Go.Proofs.Ytafmoglaockepaa.PG Go.Proofs.YtafmoglaockepaaW.PrintWords Go.Proofs.YtafmoglaockepaaW.PrintLast Go.Proofs.YtafmoglaockepaaW.PrintMore
set_option linter.unusedVariables false
set_option linter.unusedSimpArgs false
set_option maxHeartbeats 4000000
set_option maxRecDepth 100000
def zeroD_st : StD := ⟨0, 0, 0, [], [], []⟩
theorem enc_out_st {S0 : Nat} {r : Res StD} {v : Value} {w : World} (h : RdOut memSt zero_st S0 r v w) : memSt S0 (outOr zeroD_st r) v w := by
  cases r with
  | ok x n => exact h
  | fail e p =>
    have h : v = .agg zero_st.toArray := h
    subst h
    exact ⟨none, 0, 0, none, 0, 0, none, 0, 0, rfl, Kd.R_nil _ _ _ _ _, Kd.R_nil _ _ _ _ _, Kd.R_nil _ _ _ _ _⟩
theorem Rt.full_st {t b : Nat} {z0 z1 z2 z3 z4 z5 : Value} {W : World} (h : Rt t b [z0, z1, z2, z3, z4, z5] W) (a0 a1 a2 a3 a4 a5 : Value) :
    ((((((W.setCell ⟨b, 0, none⟩ a0).setCell ⟨b, 1, none⟩ a1).setCell ⟨b, 2, none⟩ a2).setCell ⟨b, 3, none⟩ a3).setCell ⟨b, 4, none⟩ a4).setCell ⟨b, 5, none⟩ a5) = W.setRow b [a0, a1, a2, a3, a4, a5].toArray := by
  rw [h.set 0 a0]
  have h0 : Rt t b [a0, z1, z2, z3, z4, z5] (W.setRow b ([z0, z1, z2, z3, z4, z5].set 0 a0).toArray) := h.row _
  rw [h0.set 1 a1, setRow_again]
  have h1 : Rt t b [a0, a1, z2, z3, z4, z5] (W.setRow b ([a0, z1, z2, z3, z4, z5].set 1 a1).toArray) := h.row _
  rw [h1.set 2 a2, setRow_again]
  have h2 : Rt t b [a0, a1, a2, z3, z4, z5] (W.setRow b ([a0, a1, z2, z3, z4, z5].set 2 a2).toArray) := h.row _
  rw [h2.set 3 a3, setRow_again]
  have h3 : Rt t b [a0, a1, a2, a3, z4, z5] (W.setRow b ([a0, a1, a2, z3, z4, z5].set 3 a3).toArray) := h.row _
  rw [h3.set 4 a4, setRow_again]
  have h4 : Rt t b [a0, a1, a2, a3, a4, z5] (W.setRow b ([a0, a1, a2, a3, z4, z5].set 4 a4).toArray) := h.row _
  rw [h4.set 5 a5, setRow_again]
  rfl
theorem State_at (A : Option Addr) (n c : Nat) (xs : List Int) (W : World) (hC : Kd.C (Kd.int .u8) W A n xs) (hnc : n ≤ c) (hb : IsBytes xs) (hbig : n < 1000000000) :
    Calls Try.prog 37 #[.slice A n c] W fun e w' => Below W.heap.size W w' ∧ ∃ v, e = .returned (.tuple #[v, .int .i64 (endOf (whole 84 131072 xs (pSt xs 131072))).1, .int .i64 (endOf (whole 84 131072 xs (pSt xs 131072))).2]) ∧ memSt W.heap.size (outOr zeroD_st (whole 84 131072 xs (pSt xs 131072))) v w' := by
  have hb1 : Below W.heap.size W (W.alloc (.cells #[.int .i64 0, .int .i64 0, .int .i64 0, .slice none 0 0, .slice none 0 0, .slice none 0 0] 58)) := below_alloc (Below.refl _ _) _
  have r1 : Rt 58 W.heap.size zero_st (W.alloc (.cells #[.int .i64 0, .int .i64 0, .int .i64 0, .slice none 0 0, .slice none 0 0, .slice none 0 0] 58)) := heap_alloc_new W _
  have hC1 := Kd.C_below hC hb1
  have HRD := Aside0.mk (read_state A n c xs (W.alloc (.cells #[.int .i64 0, .int .i64 0, .int .i64 0, .slice none 0 0, .slice none 0 0, .slice none 0 0] 58)) hC1 hnc hb hbig)
  generalize whole 84 131072 xs (pSt xs 131072) = rr at *
  have B1 := Aside0.mk hb1
  clear hC hC1 hnc hb hbig
  go_enter Try.func37, Try.ntmps37
  go_upto_region 1 with fail
  obtain ⟨b, hbe⟩ : ∃ b, W.heap.size = b := ⟨_, rfl⟩
  have HBE := Aside0.mk hbe
  rw [hbe] at r1 ⊢
  have R1 := Aside0.mk r1
  clear hb1 r1 hbe
  generalize W.alloc (.cells #[.int .i64 0, .int .i64 0, .int .i64 0, .slice none 0 0, .slice none 0 0, .slice none 0 0] 58) = w1 at *
  go_wp2_with fail
  go_at_call 89
  refine HRD.out.mono ?_
  rintro e w2 ⟨hb, v, rfl, ho⟩
  obtain ⟨Al, nl, cl, Ah, nh, ch, Ad, nd, cd, hv, hl, hh, hd⟩ := enc_out_st ho
  subst hv
  obtain ⟨x, hx⟩ : ∃ x, outOr zeroD_st rr = x := ⟨_, rfl⟩
  obtain ⟨ec, hec⟩ : ∃ ec, (endOf rr).1 = ec := ⟨_, rfl⟩
  obtain ⟨ep, hep⟩ : ∃ ep, (endOf rr).2 = ep := ⟨_, rfl⟩
  rw [hx] at hl hh hd ⊢
  rw [hec, hep]
  have HX := Aside0.mk (And.intro hx (And.intro hec hep))
  have R2 := Aside0.mk (R1.out.below hb)
  have Ll_2 := Aside0.mk (LL_alive.lower hl R1.out.lt)
  have Lh_2 := Aside0.mk (LH_alive.lower hh R1.out.lt)
  have Ld_2 := Aside0.mk (LD_alive.lower hd R1.out.lt)
  have B2 := Aside0.mk (show Below W.heap.size W w2 from B1.out.trans (hb.mono B1.out.size))
  clear hb ho hl hh hd HRD hx hec hep
  have z0 := R2.out.cell 0 _ rfl
  have f0 := R2.out.free 0
  have z1 := R2.out.cell 1 _ rfl
  have f1 := R2.out.free 1
  have z2 := R2.out.cell 2 _ rfl
  have f2 := R2.out.free 2
  have z3 := R2.out.cell 3 _ rfl
  have f3 := R2.out.free 3
  have z4 := R2.out.cell 4 _ rfl
  have f4 := R2.out.free 4
  have z5 := R2.out.cell 5 _ rfl
  have f5 := R2.out.free 5
  go_wp2_with fail
  rw [R2.out.full_st]
  have R3 : Rt 58 b [.int .i64 x.f0, .int .i64 x.f1, .int .i64 x.f2, .slice Al nl cl, .slice Ah nh ch, .slice Ad nd cd] (w2.setRow b [Value.int .i64 x.f0, .int .i64 x.f1, .int .i64 x.f2, .slice Al nl cl, .slice Ah nh ch, .slice Ad nd cd].toArray) := R2.out.row _
  have Ll_3 := LL_alive.row Ll_2.out (Nat.lt_succ_self b) [Value.int .i64 x.f0, .int .i64 x.f1, .int .i64 x.f2, .slice Al nl cl, .slice Ah nh ch, .slice Ad nd cd].toArray
  have Lh_3 := LH_alive.row Lh_2.out (Nat.lt_succ_self b) [Value.int .i64 x.f0, .int .i64 x.f1, .int .i64 x.f2, .slice Al nl cl, .slice Ah nh ch, .slice Ad nd cd].toArray
  have Ld_3 := LD_alive.row Ld_2.out (Nat.lt_succ_self b) [Value.int .i64 x.f0, .int .i64 x.f1, .int .i64 x.f2, .slice Al nl cl, .slice Ah nh ch, .slice Ad nd cd].toArray
  have B3 : Below W.heap.size W (w2.setRow b [Value.int .i64 x.f0, .int .i64 x.f1, .int .i64 x.f2, .slice Al nl cl, .slice Ah nh ch, .slice Ad nd cd].toArray) := below_setRow' B2.out (Nat.le_of_eq HBE.out) _
  clear z0 f0 z1 f1 z2 f2 z3 f3 z4 f4 z5 f5
  generalize w2.setRow b [Value.int .i64 x.f0, .int .i64 x.f1, .int .i64 x.f2, .slice Al nl cl, .slice Ah nh ch, .slice Ad nd cd].toArray = w3 at *
  have x0 := R3.cell 0 _ rfl
  have x1 := R3.cell 1 _ rfl
  have x2 := R3.cell 2 _ rfl
  have x3 := R3.cell 3 _ rfl
  have x4 := R3.cell 4 _ rfl
  have x5 := R3.cell 5 _ rfl
  refine ⟨rfl, ?_⟩
  simp [results, Try.results37, go_sem, x0, x1, x2, x3, x4, x5]
  refine ⟨B3, _, ⟨rfl, HX.out.2.1.symm, HX.out.2.2.symm⟩, ?_⟩
  rw [HX.out.1]
  exact ⟨Al, nl, cl, Ah, nh, ch, Ad, nd, cd, rfl, LL_alive.lower Ll_3 (by have := HBE.out; omega), LH_alive.lower Lh_3 (by have := HBE.out; omega), LD_alive.lower Ld_3 (by have := HBE.out; omega)⟩
end Go.Proofs.Ytafmoglaockepaa.Cd
end
section
namespace Go.Proofs.Ytafmoglaockepaa.Cd
open Go Go.RowKit Go.Proofs.Ytafmoglaockepaa.Num Go.Proofs.Ytafmoglaockepaa.PG Go.Proofs.YtafmoglaockepaaW.PrintWords Go.Proofs.YtafmoglaockepaaW.PrintLast Go.Proofs.YtafmoglaockepaaW.PrintMore
set_option linter.unusedVariables false
set_option linter.unusedSimpArgs false
theorem enc_pos (f n : Nat) (h : 0 < f) : 1 ≤ (enc f n).length := by
  cases f with
  | zero => omega
  | succ f =>
    rw [enc]
    split
    · simp
    · simp
theorem encT_size (s : ByteArray) : s.size + 1 ≤ (encT s).length := by
  unfold encT
  have := enc_pos 10 s.size (by decide)
  have h2 : (bytesOf s).length = s.size := bytesOf_length s
  rw [List.length_append]
  omega
theorem flat_mem {α : Type} {e : α → List Int} : ∀ {l : List α} {x : α}, x ∈ l → (e x).length ≤ (l.flatMap e).length
  | y :: l, x, h => by
    rw [List.flatMap_cons, List.length_append]
    rcases List.mem_cons.1 h with rfl | h
    · omega
    · have := flat_mem (e := e) h
      omega
theorem flat_count {α : Type} {e : α → List Int} (h : ∀ x, 1 ≤ (e x).length) : ∀ l : List α, l.length ≤ (l.flatMap e).length
  | [] => by simp
  | x :: l => by
    have := flat_count h l
    have := h x
    rw [List.flatMap_cons, List.length_append, List.length_cons]
    omega
theorem encN_size (x : S110) : x.f0.size + 1 ≤ (encN x).length := by
  have := encT_size x.f0
  unfold encN
  rw [List.length_append]
  omega
theorem encL_size (x : S28) : x.f0.size + 1 ≤ (encL x).length := by
  have := encT_size x.f0
  unfold encL
  rw [List.length_append]
  omega
theorem linFit_of {most : Nat} {l : List S110} (h : (encU l.length ++ encNs l).length ≤ most) : LinFit most l := by
  rw [List.length_append] at h
  unfold encNs at h
  refine ⟨?_, fun x hx => ?_⟩
  · have := flat_count (e := encN) (fun x => by have := encN_size x; omega) l
    omega
  · have := flat_mem (e := encN) hx
    have := encN_size x
    omega
theorem reqFit_of {most : Nat} {q : S40} (h : (encQ q).length ≤ most) : ReqFit most q := by
  have h0 := encT_size q.f0
  have h3 := encT_size q.f3
  unfold encQ encReq at h
  simp only [List.length_append] at h
  exact ⟨by omega, linFit_of (by rw [List.length_append]; omega), by omega⟩
theorem whole_enc {α : Type} {key : Int} {most : Nat} {b : List Int} {p : Nat → Res α} {x : α} (hl : (key :: b).length ≤ most) (hp : p 1 = .ok x (1 + b.length)) : whole key most (key :: b) p = .ok x (1 + b.length) := by
  unfold whole
  rw [if_neg (by omega), if_neg (by simp), if_neg (by simp), hp]
  simp only [Res.bind]
  rw [if_neg (by simp only [List.length_cons]; omega)]
theorem drop1 (key : Int) (b : List Int) : (key :: b).drop 1 = b ++ [] := by simp
theorem back_req (q : S40) (ho : ReqOk q) (h : (81 :: encQ q).length ≤ 4096) : whole 81 4096 (81 :: encQ q) (pReq (81 :: encQ q) 4096) = .ok q (1 + (encQ q).length) :=
  whole_enc h (pReq_enc (by decide) q (reqFit_of (by rw [List.length_cons] at h; omega)) ho 1 [] (drop1 ..))
end Go.Proofs.Ytafmoglaockepaa.Cd
end
section
namespace Go.Proofs.Ytafmoglaockepaa.Cd
open Go Go.RowKit Go.Proofs.Ytafmoglaockepaa.Num Go.Proofs.Ytafmoglaockepaa.PG Go.Proofs.YtafmoglaockepaaW.PrintWords Go.Proofs.YtafmoglaockepaaW.PrintLast Go.Proofs.YtafmoglaockepaaW.PrintMore
set_option linter.unusedVariables false
set_option linter.unusedSimpArgs false
theorem ug_back (l : List Int) : ∀ (i n : Nat), i ≤ 9 → IsBytes l → (ug i n l).2.2 = 0 →
    ∃ d j : Nat, (ug i n l).1 = ((n + d * 128 ^ i : Nat) : Int) ∧ (ug i n l).2.1 = ((i + j : Nat) : Int) ∧ 0 < j ∧ j ≤ l.length ∧ l.take j = enc (10 - i) d ∧ (0 < i → 0 < d) := by
  induction l with
  | nil => intro i n _ _ h; simp [ug] at h
  | cons c t ih =>
    intro i n hi hb h
    have hc := hb c (List.mem_cons_self ..)
    have ht : IsBytes t := fun x hx => hb x (List.mem_cons_of_mem _ hx)
    unfold ug at h ⊢
    by_cases h9 : i = 9 ∧ c > 1
    · rw [if_pos h9] at h; exact absurd h (by simp)
    · rw [if_neg h9] at h ⊢
      by_cases h0 : 0 < i ∧ c = 0
      · rw [if_pos h0] at h; exact absurd h (by simp)
      · rw [if_neg h0] at h ⊢
        obtain ⟨f, hf⟩ : ∃ f, 10 - i = f + 1 := ⟨9 - i, by omega⟩
        by_cases h1 : c < 128
        · rw [if_pos h1]
          refine ⟨c.toNat, 1, ?_, rfl, by decide, by simp, ?_, fun hi0 => ?_⟩
          · simp only
            rw [show c.toNat % 128 = c.toNat by omega]
          · rw [hf, enc, if_pos (by omega), List.take_succ_cons, List.take_zero, show ((c.toNat : Nat) : Int) = c by omega]
          · have : c ≠ 0 := fun h2 => h0 ⟨hi0, h2⟩
            omega
        · rw [if_neg h1] at h ⊢
          have hi8 : i + 1 ≤ 9 := by
            rcases Nat.lt_or_ge i 9 with h2 | h2
            · omega
            · exact absurd ⟨by omega, by omega⟩ h9
          obtain ⟨d, j, e1, e2, e3, e4, e5, e6⟩ := ih (i + 1) (n + c.toNat % 128 * 128 ^ i) hi8 ht h
          have hd := e6 (by omega)
          refine ⟨c.toNat % 128 + 128 * d, j + 1, ?_, ?_, by omega, by simp only [List.length_cons]; omega, ?_, fun _ => by omega⟩
          · rw [e1, Nat.pow_succ, Nat.add_mul]
            congr 1
            rw [Nat.add_assoc, show d * (128 ^ i * 128) = 128 * d * 128 ^ i by rw [Nat.mul_comm (128 ^ i) 128, ← Nat.mul_assoc, Nat.mul_comm d 128]]
          · rw [e2]; omega
          · rw [hf, enc, if_neg (by omega), List.take_succ_cons, e5, show 10 - (i + 1) = f by omega, show (c.toNat % 128 + 128 * d) % 128 + 128 = c.toNat by omega, show (c.toNat % 128 + 128 * d) / 128 = d by omega, show ((c.toNat : Nat) : Int) = c by omega]
theorem ug_back0 {l : List Int} (hb : IsBytes l) (h : (ug 0 0 l).2.2 = 0) :
    ∃ d j : Nat, (ug 0 0 l).1 = (d : Int) ∧ (ug 0 0 l).2.1 = (j : Int) ∧ 0 < j ∧ j ≤ l.length ∧ l.take j = enc 10 d ∧ d < 18446744073709551616 := by
  obtain ⟨d, j, e1, e2, e3, e4, e5, _⟩ := ug_back l 0 0 (by decide) hb h
  have hlt := (ug_lt l 0 0 (by decide) (by decide) hb).2
  rw [Nat.pow_zero, Nat.mul_one, Nat.zero_add] at e1
  rw [e1] at hlt
  exact ⟨d, j, e1, by rw [e2, Nat.zero_add], e3, e4, e5, by omega⟩
theorem unzz_bd {u : Nat} (h : u < 18446744073709551616) : -9223372036854775808 ≤ unzz (u : Int) ∧ unzz (u : Int) ≤ 9223372036854775807 := by
  unfold unzz
  split <;> omega
theorem bytesOf_str {l : List Int} (hb : IsBytes l) : bytesOf (strOfNums l) = l := by
  unfold bytesOf
  rw [strOfNums_data, List.map_map]
  conv => rhs; rw [← List.map_id l]
  refine List.map_congr_left (fun x hx => ?_)
  have := hb x hx
  show ((UInt8.ofNat x.toNat).toNat : Int) = x
  rw [UInt8.toNat_ofNat_of_lt' (by show x.toNat < 256; omega)]
  omega
theorem isBytes_drop {l : List Int} (h : IsBytes l) (n : Nat) : IsBytes (l.drop n) := fun x hx => h x (List.mem_of_mem_drop hx)
theorem isBytes_take {l : List Int} (h : IsBytes l) (n : Nat) : IsBytes (l.take n) := fun x hx => h x (List.mem_of_mem_take hx)
theorem Res.bind_ok {α β : Type} {r : Res α} {f : α → Nat → Res β} {y : β} {m : Nat} (h : r.bind f = .ok y m) : ∃ x k, r = .ok x k ∧ f x k = .ok y m := by
  cases r with
  | ok x k => exact ⟨x, k, rfl, h⟩
  | fail e p => cases h
theorem took_val {α : Type} {n m : Nat} {r : α × Int × Int} {x : α} (h : took n r = .ok x m) : r.2.2 = 0 ∧ x = r.1 ∧ m = n + r.2.1.toNat := by
  unfold took at h
  split at h
  · next h0 => injection h with h1 h2; exact ⟨h0, h1.symm, h2.symm⟩
  · cases h
def Back {α : Type} (xs : List Int) (e : α → List Int) (Ok : α → Prop) (p : Nat → Res α) : Prop :=
  ∀ n x m, n ≤ xs.length → p n = .ok x m → m ≤ xs.length ∧ xs.drop n = e x ++ xs.drop m ∧ Ok x
variable {xs : List Int} {most : Nat}
theorem pU_back (hb : IsBytes xs) : Back xs encU (fun u => u ≤ most) (pU xs most) := by
  intro n u m hn h
  unfold pU at h
  obtain ⟨v, k, h1, h2⟩ := Res.bind_ok h
  obtain ⟨e0, rfl, rfl⟩ := took_val h1
  obtain ⟨d, j, e1, e2, e3, e4, e5, e6⟩ := ug_back0 (isBytes_drop hb n) e0
  rw [e1, e2] at h2
  split at h2
  · cases h2
  · next hle =>
    injection h2 with h3 h4
    rw [Int.toNat_natCast] at h3 h4
    subst h3 h4
    rw [List.length_drop] at e4
    refine ⟨by omega, ?_, by omega⟩
    unfold encU
    rw [← e5, ← List.drop_drop, List.take_append_drop]
theorem pI_back (hb : IsBytes xs) : Back xs encI Int64 (pI xs) := by
  intro n u m hn h
  obtain ⟨e0, rfl, rfl⟩ := took_val h
  have e0' : (ug 0 0 (xs.drop n)).2.2 = 0 := e0
  obtain ⟨d, j, e1, e2, e3, e4, e5, e6⟩ := ug_back0 (isBytes_drop hb n) e0'
  have hz := zz_unzz (d : Int) (by omega)
  have hbd := unzz_bd e6
  show n + (ug 0 0 (xs.drop n)).2.1.toNat ≤ _ ∧ _ = encI (unzz (ug 0 0 (xs.drop n)).1) ++ xs.drop (n + (ug 0 0 (xs.drop n)).2.1.toNat) ∧ Int64 (unzz (ug 0 0 (xs.drop n)).1)
  rw [e1, e2, Int.toNat_natCast]
  rw [List.length_drop] at e4
  refine ⟨by omega, ?_, hbd⟩
  unfold encI
  rw [show zz (unzz (d : Int)) = d by omega, ← e5, ← List.drop_drop, List.take_append_drop]
theorem pT_back (hb : IsBytes xs) (hm : most < 18446744073709551616) : Back xs encT (fun s => s.size ≤ most) (pT xs most) := by
  intro n s m hn h
  obtain ⟨e0, e1, e2⟩ := took_val h
  have hdl : (xs.drop n).length = xs.length - n := List.length_drop ..
  unfold tx at e0 e1 e2
  by_cases c0 : (ug 0 0 (xs.drop n)).2.2 = 0
  · rw [if_pos c0] at e0 e1 e2
    obtain ⟨d, j, g1, g2, g3, g4, g5, g6⟩ := ug_back0 (isBytes_drop hb n) c0
    rw [g1, g2] at e0 e1 e2
    by_cases c1 : (d : Int) > (most : Int)
    · rw [if_pos c1] at e0; cases e0
    · rw [if_neg c1] at e0 e1 e2
      by_cases c2 : (d : Int) > ((xs.drop n).length : Int) - (j : Int)
      · rw [if_pos c2] at e0; cases e0
      · rw [if_neg c2] at e1 e2
        dsimp only at e1 e2
        have e3 : ((j : Int) + (d : Int)).toNat = j + d := by omega
        rw [e3] at e1 e2
        rw [Int.toNat_natCast] at e1
        subst e2
        have hp : bytesOf s = ((xs.drop n).take (j + d)).drop j := by rw [e1, bytesOf_str (isBytes_drop (isBytes_take (isBytes_drop hb n) _) _)]
        have hs : s.size = d := by
          have := bytesOf_length s
          rw [hp, List.length_drop, List.length_take] at this
          omega
        refine ⟨by omega, ?_, by omega⟩
        unfold encT
        rw [hp, hs, ← g5, ← List.drop_drop (l := xs), show (xs.drop n).take j = ((xs.drop n).take (j + d)).take j by rw [List.take_take, Nat.min_eq_left (by omega)], List.take_append_drop, List.take_append_drop]
  · rw [if_neg c0] at e0
    exact absurd e0 c0
theorem pN_back {α : Type} {e : α → List Int} {Ok : α → Prop} {one : Nat → Res α} (ho : Back xs e Ok one) : ∀ (k : Nat) (acc : List α) (n : Nat) (l : List α) (m : Nat), n ≤ xs.length → pN one k acc n = .ok l m →
    ∃ l', l = acc ++ l' ∧ l'.length = k ∧ m ≤ xs.length ∧ xs.drop n = l'.flatMap e ++ xs.drop m ∧ ∀ x ∈ l', Ok x
  | 0, acc, n, l, m, hn, h => by
    injection h with h1 h2
    subst h1 h2
    exact ⟨[], by simp, rfl, hn, by simp, by simp⟩
  | k + 1, acc, n, l, m, hn, h => by
    obtain ⟨x, n1, h1, h2⟩ := Res.bind_ok h
    obtain ⟨a1, a2, a3⟩ := ho n x n1 hn h1
    obtain ⟨l', b1, b2, b3, b4, b5⟩ := pN_back ho k (acc ++ [x]) n1 l m a1 h2
    refine ⟨x :: l', by rw [b1, List.append_assoc]; rfl, by rw [List.length_cons, b2], b3, ?_, fun y hy => ?_⟩
    · rw [a2, b4, List.flatMap_cons, List.append_assoc]
    · rcases List.mem_cons.1 hy with rfl | hy
      · exact a3
      · exact b5 y hy
theorem pList_back {α : Type} {e : α → List Int} {Ok : α → Prop} {one : Nat → Res α} (hb : IsBytes xs) (ho : Back xs e Ok one) :
    Back xs (fun l => encU l.length ++ l.flatMap e) (fun l => l.length ≤ most ∧ ∀ x ∈ l, Ok x) (pList xs most one) := by
  intro n l m hn h
  obtain ⟨k, n1, h1, h2⟩ := Res.bind_ok h
  obtain ⟨a1, a2, a3⟩ := pU_back hb n k n1 hn h1
  obtain ⟨l', b1, b2, b3, b4, b5⟩ := pN_back ho k [] n1 l m a1 h2
  rw [List.nil_append] at b1
  subst b1
  refine ⟨b3, ?_, by omega, b5⟩
  show _ = (encU l.length ++ l.flatMap e) ++ _
  rw [a2, b4, b2, List.append_assoc]
theorem pLine_back (hb : IsBytes xs) (hm : most < 18446744073709551616) : Back xs encN (fun x => Int64 x.f1) (pLine xs most) := by
  intro n x m hn h
  obtain ⟨a, n1, h1, h⟩ := Res.bind_ok h
  obtain ⟨b, n2, h2, h⟩ := Res.bind_ok h
  injection h with e1 e2
  subst e1 e2
  obtain ⟨a1, a2, a3⟩ := pT_back hb hm n a n1 hn h1
  obtain ⟨b1, b2, b3⟩ := pI_back hb n1 b n2 a1 h2
  exact ⟨b1, by unfold encN; rw [a2, b2, List.append_assoc], b3⟩
theorem pLevel_back (hb : IsBytes xs) (hm : most < 18446744073709551616) : Back xs encL (fun x => Int64 x.f1 ∧ Int64 x.f2) (pLevel xs most) := by
  intro n x m hn h
  obtain ⟨a, n1, h1, h⟩ := Res.bind_ok h
  obtain ⟨b, n2, h2, h⟩ := Res.bind_ok h
  obtain ⟨c, n3, h3, h⟩ := Res.bind_ok h
  injection h with e1 e2
  subst e1 e2
  obtain ⟨a1, a2, a3⟩ := pT_back hb hm n a n1 hn h1
  obtain ⟨b1, b2, b3⟩ := pI_back hb n1 b n2 a1 h2
  obtain ⟨c1, c2, c3⟩ := pI_back hb n2 c n3 b1 h3
  exact ⟨c1, by unfold encL; rw [a2, b2, c2]; simp only [List.append_assoc], b3, c3⟩
theorem pLines_back (hb : IsBytes xs) (hm : most < 18446744073709551616) : Back xs (fun l => encU l.length ++ encNs l) (fun l => l.length ≤ most ∧ LinOk l) (pList xs most (pLine xs most)) := pList_back hb (pLine_back hb hm)
theorem pLevels_back (hb : IsBytes xs) (hm : most < 18446744073709551616) : Back xs (fun l => encU l.length ++ encLs l) (fun l => l.length ≤ most ∧ LevOk l) (pList xs most (pLevel xs most)) := pList_back hb (pLevel_back hb hm)
theorem pReq_back (hb : IsBytes xs) (hm : most < 18446744073709551616) : Back xs encQ ReqOk (pReq xs most) := by
  intro n x m hn h
  obtain ⟨a, n1, h1, h⟩ := Res.bind_ok h
  obtain ⟨b, n2, h2, h⟩ := Res.bind_ok h
  obtain ⟨c, n3, h3, h⟩ := Res.bind_ok h
  obtain ⟨d, n4, h4, h⟩ := Res.bind_ok h
  obtain ⟨e, n5, h5, h⟩ := Res.bind_ok h
  obtain ⟨f, n6, h6, h⟩ := Res.bind_ok h
  injection h with e1 e2
  subst e1 e2
  obtain ⟨a1, a2, a3⟩ := pT_back hb hm n a n1 hn h1
  obtain ⟨b1, b2, b3⟩ := pI_back hb n1 b n2 a1 h2
  obtain ⟨c1, c2, c3⟩ := pLines_back hb hm n2 c n3 b1 h3
  obtain ⟨d1, d2, d3⟩ := pT_back hb hm n3 d n4 c1 h4
  obtain ⟨g1, g2, g3⟩ := pI_back hb n4 e n5 d1 h5
  obtain ⟨k1, k2, k3⟩ := pI_back hb n5 f n6 g1 h6
  exact ⟨k1, by unfold encQ encReq; rw [a2, b2, c2, d2, g2, k2]; simp only [List.append_assoc], b3, c3.2, g3, k3⟩
theorem pRec_back (hb : IsBytes xs) (hm : most < 18446744073709551616) : Back xs encC (fun x => Int64 x.f0 ∧ ReqOk x.f1) (pRec xs most) := by
  intro n x m hn h
  obtain ⟨a, n1, h1, h⟩ := Res.bind_ok h
  obtain ⟨b, n2, h2, h⟩ := Res.bind_ok h
  injection h with e1 e2
  subst e1 e2
  obtain ⟨a1, a2, a3⟩ := pI_back hb n a n1 hn h1
  obtain ⟨b1, b2, b3⟩ := pReq_back hb hm n1 b n2 a1 h2
  exact ⟨b1, by unfold encC; rw [a2, b2, List.append_assoc], a3, b3⟩
theorem pHeld_back (hb : IsBytes xs) (hm : most < 18446744073709551616) : Back xs encH HeldOk (pHeld xs most) := by
  intro n x m hn h
  obtain ⟨a, n1, h1, h⟩ := Res.bind_ok h
  obtain ⟨b, n2, h2, h⟩ := Res.bind_ok h
  obtain ⟨c, n3, h3, h⟩ := Res.bind_ok h
  injection h with e1 e2
  subst e1 e2
  obtain ⟨a1, a2, a3⟩ := pT_back hb hm n a n1 hn h1
  obtain ⟨b1, b2, b3⟩ := pLines_back hb hm n1 b n2 a1 h2
  obtain ⟨c1, c2, c3⟩ := pI_back hb n2 c n3 b1 h3
  exact ⟨c1, by unfold encH; rw [a2, b2, c2]; simp only [List.append_assoc], b3.2, c3⟩
theorem pDone_back (hb : IsBytes xs) (hm : most < 18446744073709551616) : Back xs encD DoneOk (pDone xs most) := by
  intro n x m hn h
  obtain ⟨a, n1, h1, h⟩ := Res.bind_ok h
  obtain ⟨b, n2, h2, h⟩ := Res.bind_ok h
  injection h with e1 e2
  subst e1 e2
  obtain ⟨a1, a2, a3⟩ := pReq_back hb hm n a n1 hn h1
  obtain ⟨b1, b2, b3⟩ := pI_back hb n1 b n2 a1 h2
  exact ⟨b1, by unfold encD; rw [a2, b2, List.append_assoc], a3, b3⟩
theorem pReply_back (hb : IsBytes xs) (hm : most < 18446744073709551616) : Back xs (fun x : RepD => encReply x.id x.er x.line x.levs x.now) (fun x => Int64 x.er ∧ Int64 x.line ∧ Int64 x.now ∧ LevOk x.levs) (pReply xs most) := by
  intro n x m hn h
  obtain ⟨a, n1, h1, h⟩ := Res.bind_ok h
  obtain ⟨b, n2, h2, h⟩ := Res.bind_ok h
  obtain ⟨c, n3, h3, h⟩ := Res.bind_ok h
  obtain ⟨d, n4, h4, h⟩ := Res.bind_ok h
  obtain ⟨e, n5, h5, h⟩ := Res.bind_ok h
  injection h with e1 e2
  subst e1 e2
  obtain ⟨a1, a2, a3⟩ := pT_back hb hm n a n1 hn h1
  obtain ⟨b1, b2, b3⟩ := pI_back hb n1 b n2 a1 h2
  obtain ⟨c1, c2, c3⟩ := pI_back hb n2 c n3 b1 h3
  obtain ⟨d1, d2, d3⟩ := pLevels_back hb hm n3 d n4 c1 h4
  obtain ⟨g1, g2, g3⟩ := pI_back hb n4 e n5 d1 h5
  exact ⟨g1, by unfold encReply; rw [a2, b2, c2, d2, g2]; simp only [List.append_assoc], b3, c3, g3, d3.2⟩
theorem pSt_back (hb : IsBytes xs) (hm : most < 18446744073709551616) : Back xs encS (fun x => Int64 x.f0 ∧ Int64 x.f1 ∧ Int64 x.f2 ∧ LevOk x.f3 ∧ HeldsOk x.f4 ∧ DonesOk x.f5) (pSt xs most) := by
  intro n x m hn h
  obtain ⟨a, n1, h1, h⟩ := Res.bind_ok h
  obtain ⟨b, n2, h2, h⟩ := Res.bind_ok h
  obtain ⟨c, n3, h3, h⟩ := Res.bind_ok h
  obtain ⟨d, n4, h4, h⟩ := Res.bind_ok h
  obtain ⟨e, n5, h5, h⟩ := Res.bind_ok h
  obtain ⟨f, n6, h6, h⟩ := Res.bind_ok h
  injection h with e1 e2
  subst e1 e2
  obtain ⟨a1, a2, a3⟩ := pI_back hb n a n1 hn h1
  obtain ⟨b1, b2, b3⟩ := pI_back hb n1 b n2 a1 h2
  obtain ⟨c1, c2, c3⟩ := pI_back hb n2 c n3 b1 h3
  obtain ⟨d1, d2, d3⟩ := pLevels_back hb hm n3 d n4 c1 h4
  obtain ⟨g1, g2, g3⟩ := pList_back hb (pHeld_back hb hm) n4 e n5 d1 h5
  obtain ⟨k1, k2, k3⟩ := pList_back hb (pDone_back hb hm) n5 f n6 g1 h6
  exact ⟨k1, by unfold encS encHs encDs; rw [a2, b2, c2, d2, g2, k2]; simp only [List.append_assoc], a3, b3, c3, d3.2, g3.2, k3.2⟩
theorem whole_back {α : Type} {e : α → List Int} {Ok : α → Prop} {key : Int} {p : Nat → Res α} (hp : Back xs e Ok p) {x : α} {m : Nat} (h : whole key most xs p = .ok x m) : xs.length ≤ most ∧ xs = key :: e x ∧ Ok x := by
  unfold whole at h
  split at h
  · cases h
  · next h1 =>
    split at h
    · cases h
    · next h2 =>
      split at h
      · cases h
      · next h3 =>
        obtain ⟨y, k, h4, h5⟩ := Res.bind_ok h
        split at h5
        · cases h5
        · next h6 =>
          injection h5 with e1 e2
          subst e1 e2
          obtain ⟨a1, a2, a3⟩ := hp 1 y k (by omega) h4
          refine ⟨by omega, ?_, a3⟩
          rw [List.drop_of_length_le (l := xs) (i := k) (by omega), List.append_nil] at a2
          cases xs with
          | nil => simp at h2
          | cons c t =>
            have h7 : c = key := by simpa using h3
            rw [h7, ← a2]
            rfl
end Go.Proofs.Ytafmoglaockepaa.Cd
end
section
namespace Go.Proofs.Ytafmoglaockepaa.Cd
open Go Go.RowKit Go.Proofs.Ytafmoglaockepaa.Num Go.Proofs.Ytafmoglaockepaa.PG Go.Proofs.YtafmoglaockepaaW.PrintWords Go.Proofs.YtafmoglaockepaaW.PrintLast Go.Proofs.YtafmoglaockepaaW.PrintMore
set_option linter.unusedVariables false
set_option linter.unusedSimpArgs false
theorem outD_eq (r : Res RepD) : outD r = outOr zeroD r := by cases r <;> rfl
end Go.Proofs.Ytafmoglaockepaa.Cd
end
section
namespace Go.Proofs.Ytafmoglaockepaa.Cd
open Go Go.RowKit Go.Proofs.Ytafmoglaockepaa.Num Go.Proofs.Ytafmoglaockepaa.PG Go.Proofs.YtafmoglaockepaaW.PrintWords Go.Proofs.YtafmoglaockepaaW.PrintLast Go.Proofs.YtafmoglaockepaaW.PrintMore
set_option linter.unusedVariables false
set_option linter.unusedSimpArgs false
def Nz {α : Type} (r : Res α) : Prop := ∀ e p, r = .fail e p → e ≠ 0
theorem Nz.bind {α β : Type} {r : Res α} {f : α → Nat → Res β} (h : Nz r) (hf : ∀ x n, Nz (f x n)) : Nz (r.bind f) := by
  cases r with
  | ok x n => exact hf x n
  | fail e p =>
    intro e' p' h'
    injection h' with h1 h2
    subst h1 h2
    exact h _ _ rfl
theorem nz_ok {α : Type} (x : α) (n : Nat) : Nz (Res.ok x n) := fun _ _ h => by cases h
theorem nz_fail {α : Type} {e p : Int} (h : e ≠ 0) : Nz (Res.fail (α := α) e p) := fun _ _ h' => by
  injection h' with h1 h2
  subst h1
  exact h
theorem nz_took {α : Type} (n : Nat) (r : α × Int × Int) : Nz (took n r) := by
  unfold took
  split
  · exact nz_ok _ _
  · next h => exact nz_fail h
variable {xs : List Int} {most : Nat}
theorem nz_T (n : Nat) : Nz (pT xs most n) := nz_took _ _
theorem nz_I (n : Nat) : Nz (pI xs n) := nz_took _ _
theorem nz_U (n : Nat) : Nz (pU xs most n) := Nz.bind (nz_took _ _) (fun u m => by
  split
  · exact nz_fail (by decide)
  · exact nz_ok _ _)
theorem nz_N {α : Type} {one : Nat → Res α} (h : ∀ n, Nz (one n)) : ∀ k l n, Nz (pN one k l n)
  | 0, l, n => nz_ok _ _
  | k + 1, l, n => Nz.bind (h n) (fun x m => nz_N h k _ m)
theorem nz_List {α : Type} {one : Nat → Res α} (h : ∀ n, Nz (one n)) (n : Nat) : Nz (pList xs most one n) := Nz.bind (nz_U n) (fun k m => nz_N h k [] m)
theorem nz_Line (n : Nat) : Nz (pLine xs most n) := Nz.bind (nz_T n) (fun _ _ => Nz.bind (nz_I _) (fun _ _ => nz_ok _ _))
theorem nz_Level (n : Nat) : Nz (pLevel xs most n) := Nz.bind (nz_T n) (fun _ _ => Nz.bind (nz_I _) (fun _ _ => Nz.bind (nz_I _) (fun _ _ => nz_ok _ _)))
theorem nz_Req (n : Nat) : Nz (pReq xs most n) := Nz.bind (nz_T n) (fun _ _ => Nz.bind (nz_I _) (fun _ _ => Nz.bind (nz_List nz_Line _) (fun _ _ => Nz.bind (nz_T _) (fun _ _ => Nz.bind (nz_I _) (fun _ _ => Nz.bind (nz_I _) (fun _ _ => nz_ok _ _))))))
theorem nz_Rec (n : Nat) : Nz (pRec xs most n) := Nz.bind (nz_I n) (fun _ _ => Nz.bind (nz_Req _) (fun _ _ => nz_ok _ _))
theorem nz_Held (n : Nat) : Nz (pHeld xs most n) := Nz.bind (nz_T n) (fun _ _ => Nz.bind (nz_List nz_Line _) (fun _ _ => Nz.bind (nz_I _) (fun _ _ => nz_ok _ _)))
theorem nz_Done (n : Nat) : Nz (pDone xs most n) := Nz.bind (nz_Req n) (fun _ _ => Nz.bind (nz_I _) (fun _ _ => nz_ok _ _))
theorem nz_Reply (n : Nat) : Nz (pReply xs most n) := Nz.bind (nz_T n) (fun _ _ => Nz.bind (nz_I _) (fun _ _ => Nz.bind (nz_I _) (fun _ _ => Nz.bind (nz_List nz_Level _) (fun _ _ => Nz.bind (nz_I _) (fun _ _ => nz_ok _ _)))))
theorem nz_St (n : Nat) : Nz (pSt xs most n) := Nz.bind (nz_I n) (fun _ _ => Nz.bind (nz_I _) (fun _ _ => Nz.bind (nz_I _) (fun _ _ => Nz.bind (nz_List nz_Level _) (fun _ _ => Nz.bind (nz_List nz_Held _) (fun _ _ => Nz.bind (nz_List nz_Done _) (fun _ _ => nz_ok _ _))))))
theorem nz_whole {α : Type} {key : Int} {p : Nat → Res α} (h : ∀ n, Nz (p n)) : Nz (whole key most xs p) := by
  unfold whole
  split
  · exact nz_fail (by decide)
  · split
    · exact nz_fail (by decide)
    · split
      · exact nz_fail (by decide)
      · exact Nz.bind (h 1) (fun x n => by
          split
          · exact nz_fail (by decide)
          · exact nz_ok _ _)
theorem form_walk0 {α : Type} {key : Int} {e : α → List Int} {Ok : α → Prop} {p : Nat → Res α} (z : α) (hp : Back xs e Ok p) (hn : ∀ n, Nz (p n)) :
    ∃ (g1 g2 : Int) (y : α), (endOf (whole key most xs p)).1 = g1 ∧ (endOf (whole key most xs p)).2 = g2 ∧ outOr z (whole key most xs p) = y ∧
    ((0 = g1 ∧ xs.head? = some key ∧ putOut most (key :: e y) = xs ∧ putCode most (key :: e y) = 0 ∧ (key :: e y).length ≤ most ∧ Ok y) ∨ (g1 ≠ 0)) := by
  have hz := nz_whole (xs := xs) (most := most) (key := key) hn
  refine ⟨_, _, _, rfl, rfl, rfl, ?_⟩
  cases h : whole key most xs p with
  | ok x m =>
    left
    obtain ⟨a1, a2, a3⟩ := whole_back hp h
    have a4 : (key :: e x).length ≤ most := by rw [← a2]; exact a1
    refine ⟨rfl, by rw [a2]; rfl, ?_, ?_, a4, a3⟩
    · show putOut most (key :: e x) = xs
      unfold putOut
      rw [if_neg (by omega), ← a2]
    · show putCode most (key :: e x) = 0
      unfold putCode
      rw [if_neg (by omega)]
  | fail e p => exact .inr (hz e p h)
theorem bulkN_enc : ∀ l : List S110, bulkN l ≤ 20 * (encNs l).length
  | [] => by simp [bulkN]
  | x :: l => by
    have := bulkN_enc l
    have := encN_size x
    simp only [bulkN, encNs, List.map_cons, List.sum_cons, List.flatMap_cons, List.length_append] at this ⊢
    simp only [bulkN, encNs] at *
    omega
theorem bulkL_enc : ∀ l : List S28, bulkL l ≤ 30 * (encLs l).length
  | [] => by simp [bulkL]
  | x :: l => by
    have := bulkL_enc l
    have := encL_size x
    simp only [bulkL, encLs, List.map_cons, List.sum_cons, List.flatMap_cons, List.length_append] at this ⊢
    simp only [bulkL, encLs] at *
    omega
theorem bulkQ_enc (q : S40) : bulkQ q ≤ 60 + 20 * (encQ q).length := by
  have h0 := encT_size q.f0
  have h3 := encT_size q.f3
  have := bulkN_enc q.f2
  unfold bulkQ encQ encReq
  simp only [List.length_append]
  omega
theorem bulkH_enc (x : S121) : bulkH x ≤ 40 + 20 * (encH x).length := by
  have h0 := encT_size x.f0
  have := bulkN_enc x.f1
  unfold bulkH encH
  simp only [List.length_append]
  omega
theorem bulkHs_enc : ∀ l : List S121, bulkHs l ≤ 60 * (encHs l).length
  | [] => by simp [bulkHs]
  | x :: l => by
    have h1 := bulkHs_enc l
    have h2 := bulkH_enc x
    have h3 : 1 ≤ (encH x).length := by have := encT_size x.f0; unfold encH; simp only [List.length_append]; omega
    simp only [bulkHs, encHs, List.map_cons, List.sum_cons, List.flatMap_cons, List.length_append] at h1 ⊢
    omega
theorem bulkDs_enc : ∀ l : List S123, bulkDs l ≤ 100 * (encDs l).length
  | [] => by simp [bulkDs]
  | x :: l => by
    have h1 := bulkDs_enc l
    have h2 := bulkQ_enc x.f0
    have h3 : 1 ≤ (encQ x.f0).length := by have := encT_size x.f0.f0; unfold encQ encReq; simp only [List.length_append]; omega
    have h4 : (encD x).length = (encQ x.f0).length + (encI x.f1).length := by unfold encD; rw [List.length_append]
    simp only [bulkDs, encDs, bulkD, List.map_cons, List.sum_cons, List.flatMap_cons, List.length_append] at h1 ⊢
    omega
theorem bulkS_enc (x : StD) : bulkS x ≤ 90 + 100 * (encS x).length := by
  have h3 := bulkL_enc x.f3
  have h4 := bulkHs_enc x.f4
  have h5 := bulkDs_enc x.f5
  unfold bulkS encS
  simp only [List.length_append]
  omega
def TK (xs : List Int) (ks : List Int) (k : Int) : Prop := k = 0 ∨ (k = 1 ∧ ∃ c, c ∈ ks ∧ xs.head? = some c)
theorem TK.skip {ks : List Int} {k c : Int} (h : TK xs ks k) : TK xs (c :: ks) k := by
  rcases h with h | ⟨h1, d, h2, h3⟩
  · exact .inl h
  · exact .inr ⟨h1, d, List.mem_cons_of_mem _ h2, h3⟩
theorem TK.zero {ks : List Int} {k c : Int} (h : TK xs ks k) (hc : xs.head? = some c) (hn : c ∉ ks) : k = 0 := by
  rcases h with h | ⟨h1, d, h2, h3⟩
  · exact h
  · rw [hc] at h3
    injection h3 with h3
    subst h3
    exact absurd h2 hn
theorem TK.hit {ks : List Int} {c : Int} (hc : xs.head? = some c) : TK xs (c :: ks) 1 := .inr ⟨rfl, c, List.mem_cons_self, hc⟩
theorem TK.le {ks : List Int} {k : Int} (h : TK xs ks k) : k = 0 ∨ k = 1 := by
  rcases h with h | ⟨h, _⟩
  · exact .inl h
  · exact .inr h
theorem TK.nil {ks : List Int} {k : Int} (h : TK [] ks k) : k = 0 := by
  rcases h with h | ⟨h1, d, h2, h3⟩
  · exact h
  · cases h3
end Go.Proofs.Ytafmoglaockepaa.Cd
end
section
-- Written by a program of this session (wip/pp), out of the translation.
namespace Go.Proofs.Ytafmoglaockepaa.PG
open Go.RowKit Go.Proofs.Ytafmoglaockepaa.Mine Go.Proofs.YtafmoglaockepaaW.PrintWords Go.Proofs.YtafmoglaockepaaW.PrintLast Go.Proofs.YtafmoglaockepaaW.PrintMore
attribute [local go_sem] max2_int min2_int max_two min_two max_three min_three max_four min_four   -- for this text's walks alone
set_option linter.unusedVariables false
set_option linter.unusedSimpArgs false
attribute [local go_sem high] eqA110
def larderref09_SameLines.l0 : Nat → List (S110) → List (S110) → Int → Option (Bool)
  | 0, _, _, _ => none
  | k + 1, x0, x1, x5 => if x5 < (x0.length : Int) then (if 0 ≤ x5 then (if x5 < (x1.length : Int) then (if (!((((rd_T110 x0 x5).f0).toList) == (((rd_T110 x1 x5).f0).toList)) || (!(((rd_T110 x0 x5).f1) == ((rd_T110 x1 x5).f1)))) = true then (some false) else (larderref09_SameLines.l0 k x0 x1 (wrap64 (x5 + 1)))) else (none)) else (none)) else (some true)
def larderref09_SameLines.f (k : Nat) (l0 : List (S110)) (l1 : List (S110)) : Option (Bool) := if (l0.length : Int) = (l1.length : Int) then (larderref09_SameLines.l0 k l0 l1 0) else (some false)
set_option maxHeartbeats 8000000 in
set_option maxRecDepth 100000 in
theorem larderref09_SameLines.calls (k : Nat) (A0 : Option Addr) (c0 : Nat) (l0 : List (S110)) (A1 : Option Addr) (c1 : Nat) (l1 : List (S110)) (r : Bool) (w : World) (hr0 : Kd.C k110 w A0 l0.length l0) (hc0 : l0.length ≤ c0) (hr1 : Kd.C k110 w A1 l1.length l1) (hc1 : l1.length ≤ c1) (h : larderref09_SameLines.f k l0 l1 = some r) :
    Calls Try.prog 77 #[.slice A0 l0.length c0, .slice A1 l1.length c1] w fun e w' => e = .returned (.bool r) ∧ Drawn0 w w' := by
  have hu110 := Try.underlying110
  have HR0 := Aside0.mk hr0
  have HC0 := Aside0.mk hc0
  clear hr0 hc0
  have HR1 := Aside0.mk hr1
  have HC1 := Aside0.mk hc1
  clear hr1 hc1
  have H : (if (l0.length : Int) = (l1.length : Int) then (larderref09_SameLines.l0 k l0 l1 0) else (some false)) = some r := h
  clear h
  by_cases c3 : (l0.length : Int) = (l1.length : Int)
  · rw [if_pos c3] at H
    have c3b0 : ((l0.length : Int) == (l1.length : Int)) = true := beq_iff_eq.mpr c3
    have c3b1 : ((l0.length : Int) != (l1.length : Int)) = false := bne_eq_false_iff_eq.mpr c3
    have c3b2 : (l0.length == l1.length) = true := by first | simpa using c3 | (simp at c3 ⊢; omega)
    clear c3
    have H' := Aside0.mk H
    clear H
    go_enter Try.func77, Try.ntmps77
    go_wp2
    repeat (go_quiet (fail); try go_wp2)
    go_loopg [5] k (fun kq v5 w' => ∃ (x5_1 : Int), v5 = .int .i64 x5_1 ∧ Aside0 (larderref09_SameLines.l0 kq l0 l1 x5_1 = some r) ∧ Aside0 (kq ≤ k) ∧ Drawn0 w w')
    case atStart => exact ⟨(0), (by first | rfl | (simp; done) | (simp [*]; done)), H', ⟨Nat.le_refl _⟩, by repeat (first | exact Drawn0.refl _ | apply Drawn0.step)⟩
    case round =>
      clear H'
      try clear c1
      try clear p2
      try clear c3
      try clear c3b0
      try clear c3b1
      try clear c3b2
      obtain ⟨x5_1, rfl, HA, HK1, ⟨m1, rfl⟩⟩ := hrel
      cases gk with
      | zero => exact absurd HA.out (by simp [larderref09_SameLines.l0])
      | succ k1 =>
        have H := HA.out
        clear HA
        simp only [larderref09_SameLines.l0] at H
        by_cases c4 : x5_1 < (l0.length : Int)
        · rw [if_pos c4] at H
          have c4b0 : decide (x5_1 < (l0.length : Int)) = true := decide_eq_true c4
          clear c4
          by_cases c5 : 0 ≤ x5_1
          · rw [if_pos c5] at H
            have c5b0 : decide (0 ≤ x5_1) = true := decide_eq_true c5
            clear c5
            by_cases c6 : x5_1 < (l1.length : Int)
            · rw [if_pos c6] at H
              have c6b0 : decide (x5_1 < (l1.length : Int)) = true := decide_eq_true c6
              clear c6
              by_cases c7 : (!((((rd_T110 l0 x5_1).f0).toList) == (((rd_T110 l1 x5_1).f0).toList)) || (!(((rd_T110 l0 x5_1).f1) == ((rd_T110 l1 x5_1).f1)))) = true
              · rw [if_pos c7] at H
                have c7b0 : (!((((rd_T110 l0 x5_1).f0).toList) == (((rd_T110 l1 x5_1).f0).toList)) || (!(((rd_T110 l0 x5_1).f1) == ((rd_T110 l1 x5_1).f1)))) = true := c7
                clear c7
                obtain rfl := Option.some.inj H
                have p309 : 0 ≤ (x5_1 : Int) := of_decide_eq_true (by first | (with_reducible assumption) | assumption)
                have q309 : x5_1 < (l0.length : Int) := of_decide_eq_true (by first | (with_reducible assumption) | assumption)
                obtain ⟨ad309, e309, hx309_0, hx309_1⟩ := at_T110 HR0.out x5_1 p309 q309
                cases e309
                replace p309 := eq_true p309
                replace q309 := eq_true q309
                have p310 : 0 ≤ (x5_1 : Int) := of_decide_eq_true (by first | (with_reducible assumption) | assumption)
                have q310 : x5_1 < (l1.length : Int) := of_decide_eq_true (by first | (with_reducible assumption) | assumption)
                obtain ⟨ad310, e310, hx310_0, hx310_1⟩ := at_T110 HR1.out x5_1 p310 q310
                cases e310
                replace p310 := eq_true p310
                replace q310 := eq_true q310
                go_wp2
                repeat (go_quiet (fail); try go_wp2)
                go_ret
                exact ⟨by first | rfl | (simp; done) | (simp [*]; done), by repeat (first | exact Drawn0.refl _ | apply Drawn0.step)⟩
              · rw [if_neg c7] at H
                have c7b0 : (!((((rd_T110 l0 x5_1).f0).toList) == (((rd_T110 l1 x5_1).f0).toList)) || (!(((rd_T110 l0 x5_1).f1) == ((rd_T110 l1 x5_1).f1)))) = false := by simpa using c7
                clear c7
                have H' := Aside0.mk H
                clear H
                have p309 : 0 ≤ (x5_1 : Int) := of_decide_eq_true (by first | (with_reducible assumption) | assumption)
                have q309 : x5_1 < (l0.length : Int) := of_decide_eq_true (by first | (with_reducible assumption) | assumption)
                obtain ⟨ad309, e309, hx309_0, hx309_1⟩ := at_T110 HR0.out x5_1 p309 q309
                cases e309
                replace p309 := eq_true p309
                replace q309 := eq_true q309
                have p310 : 0 ≤ (x5_1 : Int) := of_decide_eq_true (by first | (with_reducible assumption) | assumption)
                have q310 : x5_1 < (l1.length : Int) := of_decide_eq_true (by first | (with_reducible assumption) | assumption)
                obtain ⟨ad310, e310, hx310_0, hx310_1⟩ := at_T110 HR1.out x5_1 p310 q310
                cases e310
                replace p310 := eq_true p310
                replace q310 := eq_true q310
                go_wp2
                repeat (go_quiet (fail); try go_wp2)
                go_roundg k1
                case measure => have := HK1.out; omega
                case rel => exact ⟨(wrap64 (x5_1 + 1)), (by first | rfl | (simp; done) | (simp [*]; done)), H', ⟨by have := HK1.out; omega⟩, by repeat (first | exact Drawn0.refl _ | apply Drawn0.step)⟩
            · rw [if_neg c6] at H
              exact absurd H (by simp)
          · rw [if_neg c5] at H
            exact absurd H (by simp)
        · rw [if_neg c4] at H
          have c4b0 : decide (x5_1 < (l0.length : Int)) = false := decide_eq_false c4
          clear c4
          obtain rfl := Option.some.inj H
          go_wp2
          repeat (go_quiet (fail); try go_wp2)
          go_ret
          exact ⟨by first | rfl | (simp; done) | (simp [*]; done), by repeat (first | exact Drawn0.refl _ | apply Drawn0.step)⟩
  · rw [if_neg c3] at H
    have c3b0 : ((l0.length : Int) == (l1.length : Int)) = false := beq_eq_false_iff_ne.mpr c3
    have c3b1 : ((l0.length : Int) != (l1.length : Int)) = true := bne_iff_ne.mpr c3
    have c3b2 : (l0.length == l1.length) = false := by first | simpa using c3 | (simp at c3 ⊢; omega)
    obtain rfl := Option.some.inj H
    go_enter Try.func77, Try.ntmps77
    go_wp2
    repeat (go_quiet (fail); try go_wp2)
    go_ret
    exact ⟨by first | rfl | (simp; done) | (simp [*]; done), by repeat (first | exact Drawn0.refl _ | apply Drawn0.step)⟩
end Go.Proofs.Ytafmoglaockepaa.PG
end
section
-- Written by a program of this session (wip/pp), out of the translation.
namespace Go.Proofs.Ytafmoglaockepaa.PG
open Go.RowKit Go.Proofs.Ytafmoglaockepaa.Mine Go.Proofs.YtafmoglaockepaaW.PrintWords Go.Proofs.YtafmoglaockepaaW.PrintLast Go.Proofs.YtafmoglaockepaaW.PrintMore
attribute [local go_sem] max2_int min2_int max_two min_two max_three min_three max_four min_four   -- for this text's walks alone
set_option linter.unusedVariables false
set_option linter.unusedSimpArgs false
def larderref09_SameRequest.f (k : Nat) (a0_0 : ByteArray) (a0_1 : Int) (l0_2 : List (S110)) (a0_3 : ByteArray) (a0_4 : Int) (a0_5 : Int) (a1_0 : ByteArray) (a1_1 : Int) (l1_2 : List (S110)) (a1_3 : ByteArray) (a1_4 : Int) (a1_5 : Int) : Option (Bool) := if a0_0.toList = a1_0.toList then (if a0_1 = a1_1 then ((larderref09_SameLines.f k l0_2 l1_2).bind fun t313 => (if t313 = true then (if a0_3.toList = a1_3.toList then (if a0_4 = a1_4 then (some (a0_5 == a1_5)) else (some false)) else (some false)) else (some false))) else (some false)) else (some false)
set_option maxHeartbeats 8000000 in
set_option maxRecDepth 100000 in
theorem larderref09_SameRequest.calls (k : Nat) (a0_0 : ByteArray) (a0_1 : Int) (A0_2 : Option Addr) (c0_2 : Nat) (l0_2 : List (S110)) (a0_3 : ByteArray) (a0_4 : Int) (a0_5 : Int) (a1_0 : ByteArray) (a1_1 : Int) (A1_2 : Option Addr) (c1_2 : Nat) (l1_2 : List (S110)) (a1_3 : ByteArray) (a1_4 : Int) (a1_5 : Int) (r : Bool) (w : World) (hr0_2 : Kd.C k110 w A0_2 l0_2.length l0_2) (hc0_2 : l0_2.length ≤ c0_2) (hr1_2 : Kd.C k110 w A1_2 l1_2.length l1_2) (hc1_2 : l1_2.length ≤ c1_2) (h : larderref09_SameRequest.f k a0_0 a0_1 l0_2 a0_3 a0_4 a0_5 a1_0 a1_1 l1_2 a1_3 a1_4 a1_5 = some r) :
    Calls Try.prog 26 #[.agg #[.string a0_0, .int .i64 a0_1, .slice A0_2 l0_2.length c0_2, .string a0_3, .int .i64 a0_4, .int .i64 a0_5], .agg #[.string a1_0, .int .i64 a1_1, .slice A1_2 l1_2.length c1_2, .string a1_3, .int .i64 a1_4, .int .i64 a1_5]] w fun e w' => e = .returned (.bool r) ∧ Below w.heap.size w w' := by
  have hu40 := Try.underlying40
  have HR0_2 := Aside0.mk hr0_2
  have HC0_2 := Aside0.mk hc0_2
  clear hr0_2 hc0_2
  have HR1_2 := Aside0.mk hr1_2
  have HC1_2 := Aside0.mk hc1_2
  clear hr1_2 hc1_2
  have HB := Aside0.mk (Below.refl w.heap.size w)
  have H : (if a0_0.toList = a1_0.toList then (if a0_1 = a1_1 then ((larderref09_SameLines.f k l0_2 l1_2).bind fun t313 => (if t313 = true then (if a0_3.toList = a1_3.toList then (if a0_4 = a1_4 then (some (a0_5 == a1_5)) else (some false)) else (some false)) else (some false))) else (some false)) else (some false)) = some r := h
  clear h
  by_cases c3 : a0_0.toList = a1_0.toList
  · rw [if_pos c3] at H
    have c3b0 : (a0_0.toList == a1_0.toList) = true := beq_iff_eq.mpr c3
    have c3b1 : (a0_0.toList != a1_0.toList) = false := bne_eq_false_iff_eq.mpr c3
    clear c3
    by_cases c4 : a0_1 = a1_1
    · rw [if_pos c4] at H
      have c4b0 : (a0_1 == a1_1) = true := beq_iff_eq.mpr c4
      have c4b1 : (a0_1 != a1_1) = false := bne_eq_false_iff_eq.mpr c4
      clear c4
      replace H := Option.bind_eq_some_iff.mp H
      obtain ⟨t313, A50, H⟩ := H
      replace H : (if t313 = true then (if a0_3.toList = a1_3.toList then (if a0_4 = a1_4 then (some (a0_5 == a1_5)) else (some false)) else (some false)) else (some false)) = some r := H
      have A5 := Aside0.mk A50
      clear A50
      by_cases c6 : t313 = true
      · subst c6
        have H1 : (if a0_3.toList = a1_3.toList then (if a0_4 = a1_4 then (some (a0_5 == a1_5)) else (some false)) else (some false)) = some r := by rw [if_pos rfl] at H; exact H
        clear H
        have H := H1
        clear H1
        by_cases c7 : a0_3.toList = a1_3.toList
        · rw [if_pos c7] at H
          have c7b0 : (a0_3.toList == a1_3.toList) = true := beq_iff_eq.mpr c7
          have c7b1 : (a0_3.toList != a1_3.toList) = false := bne_eq_false_iff_eq.mpr c7
          clear c7
          by_cases c8 : a0_4 = a1_4
          · rw [if_pos c8] at H
            have c8b0 : (a0_4 == a1_4) = true := beq_iff_eq.mpr c8
            have c8b1 : (a0_4 != a1_4) = false := bne_eq_false_iff_eq.mpr c8
            clear c8
            obtain rfl := Option.some.inj H
            go_enter Try.func26, Try.ntmps26
            go_wp2_with (first | ((with_reducible refine gate_dst (N := 2) rfl ?_); refine box_event ?hg (N := 2) ?hd (cs := #[.string a0_0, .int .i64 a0_1, .slice A0_2 l0_2.length c0_2, .string a0_3, .int .i64 a0_4, .int .i64 a0_5]) (t := 40) ?hr ?_; (case hd => rfl); (case hg => rfl); (case hr => first | (go_simp; done) | (go_simp; rfl)); intro gb311 hg w9 hbox hb; have n0_ := Aside0.mk (below_step (by repeat (first | (with_reducible first | exact HB.out | apply below_alloc | apply pw_below_drewN | apply below_drew1) | exact HB.out)) hb); have n1_ := Aside0.mk (hbox); have n2_ := Aside0.mk ((by rw [hg]; exact (below_size (by repeat (first | (with_reducible first | exact HB.out | apply below_alloc | apply pw_below_drewN | apply below_drew1) | exact HB.out))) : w.heap.size ≤ gb311)); have n3_ := Aside0.mk ((by rw [hg]; exact (below_size (by repeat (first | (with_reducible first | exact HB.out | apply below_alloc | apply pw_below_drewN | apply below_drew1) | exact HB.out))) : w.heap.size ≤ gb311)); clear HB; have HB := n0_; have BK311 := n1_; have GW311 := n2_; have GE311 := n3_; clear n0_ n1_ n2_ n3_; clear hb hbox hg) | ((with_reducible refine gate_dst (N := 3) rfl ?_); refine box_event ?hg (N := 3) ?hd (cs := #[.string a1_0, .int .i64 a1_1, .slice A1_2 l1_2.length c1_2, .string a1_3, .int .i64 a1_4, .int .i64 a1_5]) (t := 40) ?hr ?_; (case hd => rfl); (case hg => rfl); (case hr => first | (go_simp; done) | (go_simp; rfl)); intro gb312 hg w10 hbox hb; have n0_ := Aside0.mk (blk_below (g := gb311) (o := .cells #[.string a0_0, .int .i64 a0_1, .slice A0_2 l0_2.length c0_2, .string a0_3, .int .i64 a0_4, .int .i64 a0_5] 40 (0, 0)) (by (with_reducible repeat (first | refine blk_drewN ?_ _ | refine blk_drew ?_ | refine blk_alloc ?_ _)); exact BK311.out) hb); have n1_ := Aside0.mk (below_step (by repeat (first | (with_reducible first | exact HB.out | apply below_alloc | apply pw_below_drewN | apply below_drew1 | refine below_set ?_ GE311.out) | exact HB.out)) hb); have n2_ := Aside0.mk (hbox); have n3_ := Aside0.mk ((by rw [hg]; exact (below_size (by repeat (first | (with_reducible first | exact HB.out | apply below_alloc | apply pw_below_drewN | apply below_drew1 | refine below_set ?_ GE311.out) | exact HB.out))) : w.heap.size ≤ gb312)); have n4_ := Aside0.mk ((by rw [hg]; exact (below_size (by repeat (first | (with_reducible first | exact HB.out | apply below_alloc | apply pw_below_drewN | apply below_drew1 | refine below_set ?_ GE311.out) | exact HB.out))) : w.heap.size ≤ gb312)); have n5_ := Aside0.mk ((by rw [hg]; exact Nat.ne_of_lt (blk_lt (g := gb311) (o := .cells #[.string a0_0, .int .i64 a0_1, .slice A0_2 l0_2.length c0_2, .string a0_3, .int .i64 a0_4, .int .i64 a0_5] 40 (0, 0)) (by (with_reducible repeat (first | refine blk_drewN ?_ _ | refine blk_drew ?_ | refine blk_alloc ?_ _)); exact BK311.out)) : gb311 ≠ gb312)); have n6_ := Aside0.mk ((by rw [hg]; exact Nat.ne_of_gt (blk_lt (g := gb311) (o := .cells #[.string a0_0, .int .i64 a0_1, .slice A0_2 l0_2.length c0_2, .string a0_3, .int .i64 a0_4, .int .i64 a0_5] 40 (0, 0)) (by (with_reducible repeat (first | refine blk_drewN ?_ _ | refine blk_drew ?_ | refine blk_alloc ?_ _)); exact BK311.out)) : gb312 ≠ gb311)); clear BK311; clear HB; have BK311 := n0_; have HB := n1_; have BK312 := n2_; have GW312 := n3_; have GE312 := n4_; have NB311_312 := n5_; have NB312_311 := n6_; clear n0_ n1_ n2_ n3_ n4_ n5_ n6_; clear hb hbox hg; have hnb11 := NB311_312.out; have hnc11 := NB312_311.out; have hcz12_0 : w10.cell? ⟨gb311, 0, none⟩ = some (.string a0_0) := (blk_cell BK311.out 0).trans rfl; have hcz12_1 : w10.cell? ⟨gb311, 1, none⟩ = some (.int .i64 a0_1) := (blk_cell BK311.out 1).trans rfl; have hcz12_2 : w10.cell? ⟨gb311, 2, none⟩ = some (.slice A0_2 l0_2.length c0_2) := (blk_cell BK311.out 2).trans rfl; have hcz12_3 : w10.cell? ⟨gb311, 3, none⟩ = some (.string a0_3) := (blk_cell BK311.out 3).trans rfl; have hcz12_4 : w10.cell? ⟨gb311, 4, none⟩ = some (.int .i64 a0_4) := (blk_cell BK311.out 4).trans rfl; have hcz12_5 : w10.cell? ⟨gb311, 5, none⟩ = some (.int .i64 a0_5) := (blk_cell BK311.out 5).trans rfl; have hfz12_0 := blk_frozen BK311.out 0; have hfz12_1 := blk_frozen BK311.out 1; have hfz12_2 := blk_frozen BK311.out 2; have hfz12_3 := blk_frozen BK311.out 3; have hfz12_4 := blk_frozen BK311.out 4; have hfz12_5 := blk_frozen BK311.out 5; have hcz13_0 : w10.cell? ⟨gb312, 0, none⟩ = some (.string a1_0) := (blk_cell BK312.out 0).trans rfl; have hcz13_1 : w10.cell? ⟨gb312, 1, none⟩ = some (.int .i64 a1_1) := (blk_cell BK312.out 1).trans rfl; have hcz13_2 : w10.cell? ⟨gb312, 2, none⟩ = some (.slice A1_2 l1_2.length c1_2) := (blk_cell BK312.out 2).trans rfl; have hcz13_3 : w10.cell? ⟨gb312, 3, none⟩ = some (.string a1_3) := (blk_cell BK312.out 3).trans rfl; have hcz13_4 : w10.cell? ⟨gb312, 4, none⟩ = some (.int .i64 a1_4) := (blk_cell BK312.out 4).trans rfl; have hcz13_5 : w10.cell? ⟨gb312, 5, none⟩ = some (.int .i64 a1_5) := (blk_cell BK312.out 5).trans rfl; have hfz13_0 := blk_frozen BK312.out 0; have hfz13_1 := blk_frozen BK312.out 1; have hfz13_2 := blk_frozen BK312.out 2; have hfz13_3 := blk_frozen BK312.out 3; have hfz13_4 := blk_frozen BK312.out 4; have hfz13_5 := blk_frozen BK312.out 5) | (go_at_call 77; (with_reducible refine (larderref09_SameLines.calls k _ _ l0_2 _ _ l1_2 true _ ?side1 ?side2 ?side3 ?side4 A5.out).mono ?_); (case side1 => repeat (first | exact (Kd.C_below HR0_2.out HB.out) | (with_reducible refine Kd.C_alloc ?_ _) | (with_reducible refine Kd.C_drewN ?_ _) | (with_reducible refine Kd.C_drew ?_))); (case side2 => exact HC0_2.out); (case side3 => repeat (first | exact (Kd.C_below HR1_2.out HB.out) | (with_reducible refine Kd.C_alloc ?_ _) | (with_reducible refine Kd.C_drewN ?_ _) | (with_reducible refine Kd.C_drew ?_))); (case side4 => exact HC1_2.out); rintro e w' ⟨rfl, ⟨nd, rfl⟩⟩))
            go_ret
            exact ⟨by first | rfl | (simp [errW_none, errW_some] <;> rfl) | (simp [*, errW_none, errW_some] <;> rfl), by repeat (first | (with_reducible first | exact HB.out | apply below_alloc | apply pw_below_drewN | apply below_drew1 | refine below_set ?_ GE311.out | refine below_set ?_ GE312.out) | exact HB.out)⟩
          · rw [if_neg c8] at H
            have c8b0 : (a0_4 == a1_4) = false := beq_eq_false_iff_ne.mpr c8
            have c8b1 : (a0_4 != a1_4) = true := bne_iff_ne.mpr c8
            obtain rfl := Option.some.inj H
            go_enter Try.func26, Try.ntmps26
            go_wp2_with (first | ((with_reducible refine gate_dst (N := 2) rfl ?_); refine box_event ?hg (N := 2) ?hd (cs := #[.string a0_0, .int .i64 a0_1, .slice A0_2 l0_2.length c0_2, .string a0_3, .int .i64 a0_4, .int .i64 a0_5]) (t := 40) ?hr ?_; (case hd => rfl); (case hg => rfl); (case hr => first | (go_simp; done) | (go_simp; rfl)); intro gb311 hg w14 hbox hb; have n0_ := Aside0.mk (below_step (by repeat (first | (with_reducible first | exact HB.out | apply below_alloc | apply pw_below_drewN | apply below_drew1) | exact HB.out)) hb); have n1_ := Aside0.mk (hbox); have n2_ := Aside0.mk ((by rw [hg]; exact (below_size (by repeat (first | (with_reducible first | exact HB.out | apply below_alloc | apply pw_below_drewN | apply below_drew1) | exact HB.out))) : w.heap.size ≤ gb311)); have n3_ := Aside0.mk ((by rw [hg]; exact (below_size (by repeat (first | (with_reducible first | exact HB.out | apply below_alloc | apply pw_below_drewN | apply below_drew1) | exact HB.out))) : w.heap.size ≤ gb311)); clear HB; have HB := n0_; have BK311 := n1_; have GW311 := n2_; have GE311 := n3_; clear n0_ n1_ n2_ n3_; clear hb hbox hg) | ((with_reducible refine gate_dst (N := 3) rfl ?_); refine box_event ?hg (N := 3) ?hd (cs := #[.string a1_0, .int .i64 a1_1, .slice A1_2 l1_2.length c1_2, .string a1_3, .int .i64 a1_4, .int .i64 a1_5]) (t := 40) ?hr ?_; (case hd => rfl); (case hg => rfl); (case hr => first | (go_simp; done) | (go_simp; rfl)); intro gb312 hg w15 hbox hb; have n0_ := Aside0.mk (blk_below (g := gb311) (o := .cells #[.string a0_0, .int .i64 a0_1, .slice A0_2 l0_2.length c0_2, .string a0_3, .int .i64 a0_4, .int .i64 a0_5] 40 (0, 0)) (by (with_reducible repeat (first | refine blk_drewN ?_ _ | refine blk_drew ?_ | refine blk_alloc ?_ _)); exact BK311.out) hb); have n1_ := Aside0.mk (below_step (by repeat (first | (with_reducible first | exact HB.out | apply below_alloc | apply pw_below_drewN | apply below_drew1 | refine below_set ?_ GE311.out) | exact HB.out)) hb); have n2_ := Aside0.mk (hbox); have n3_ := Aside0.mk ((by rw [hg]; exact (below_size (by repeat (first | (with_reducible first | exact HB.out | apply below_alloc | apply pw_below_drewN | apply below_drew1 | refine below_set ?_ GE311.out) | exact HB.out))) : w.heap.size ≤ gb312)); have n4_ := Aside0.mk ((by rw [hg]; exact (below_size (by repeat (first | (with_reducible first | exact HB.out | apply below_alloc | apply pw_below_drewN | apply below_drew1 | refine below_set ?_ GE311.out) | exact HB.out))) : w.heap.size ≤ gb312)); have n5_ := Aside0.mk ((by rw [hg]; exact Nat.ne_of_lt (blk_lt (g := gb311) (o := .cells #[.string a0_0, .int .i64 a0_1, .slice A0_2 l0_2.length c0_2, .string a0_3, .int .i64 a0_4, .int .i64 a0_5] 40 (0, 0)) (by (with_reducible repeat (first | refine blk_drewN ?_ _ | refine blk_drew ?_ | refine blk_alloc ?_ _)); exact BK311.out)) : gb311 ≠ gb312)); have n6_ := Aside0.mk ((by rw [hg]; exact Nat.ne_of_gt (blk_lt (g := gb311) (o := .cells #[.string a0_0, .int .i64 a0_1, .slice A0_2 l0_2.length c0_2, .string a0_3, .int .i64 a0_4, .int .i64 a0_5] 40 (0, 0)) (by (with_reducible repeat (first | refine blk_drewN ?_ _ | refine blk_drew ?_ | refine blk_alloc ?_ _)); exact BK311.out)) : gb312 ≠ gb311)); clear BK311; clear HB; have BK311 := n0_; have HB := n1_; have BK312 := n2_; have GW312 := n3_; have GE312 := n4_; have NB311_312 := n5_; have NB312_311 := n6_; clear n0_ n1_ n2_ n3_ n4_ n5_ n6_; clear hb hbox hg; have hnb16 := NB311_312.out; have hnc16 := NB312_311.out; have hcz17_0 : w15.cell? ⟨gb311, 0, none⟩ = some (.string a0_0) := (blk_cell BK311.out 0).trans rfl; have hcz17_1 : w15.cell? ⟨gb311, 1, none⟩ = some (.int .i64 a0_1) := (blk_cell BK311.out 1).trans rfl; have hcz17_2 : w15.cell? ⟨gb311, 2, none⟩ = some (.slice A0_2 l0_2.length c0_2) := (blk_cell BK311.out 2).trans rfl; have hcz17_3 : w15.cell? ⟨gb311, 3, none⟩ = some (.string a0_3) := (blk_cell BK311.out 3).trans rfl; have hcz17_4 : w15.cell? ⟨gb311, 4, none⟩ = some (.int .i64 a0_4) := (blk_cell BK311.out 4).trans rfl; have hcz17_5 : w15.cell? ⟨gb311, 5, none⟩ = some (.int .i64 a0_5) := (blk_cell BK311.out 5).trans rfl; have hfz17_0 := blk_frozen BK311.out 0; have hfz17_1 := blk_frozen BK311.out 1; have hfz17_2 := blk_frozen BK311.out 2; have hfz17_3 := blk_frozen BK311.out 3; have hfz17_4 := blk_frozen BK311.out 4; have hfz17_5 := blk_frozen BK311.out 5; have hcz18_0 : w15.cell? ⟨gb312, 0, none⟩ = some (.string a1_0) := (blk_cell BK312.out 0).trans rfl; have hcz18_1 : w15.cell? ⟨gb312, 1, none⟩ = some (.int .i64 a1_1) := (blk_cell BK312.out 1).trans rfl; have hcz18_2 : w15.cell? ⟨gb312, 2, none⟩ = some (.slice A1_2 l1_2.length c1_2) := (blk_cell BK312.out 2).trans rfl; have hcz18_3 : w15.cell? ⟨gb312, 3, none⟩ = some (.string a1_3) := (blk_cell BK312.out 3).trans rfl; have hcz18_4 : w15.cell? ⟨gb312, 4, none⟩ = some (.int .i64 a1_4) := (blk_cell BK312.out 4).trans rfl; have hcz18_5 : w15.cell? ⟨gb312, 5, none⟩ = some (.int .i64 a1_5) := (blk_cell BK312.out 5).trans rfl; have hfz18_0 := blk_frozen BK312.out 0; have hfz18_1 := blk_frozen BK312.out 1; have hfz18_2 := blk_frozen BK312.out 2; have hfz18_3 := blk_frozen BK312.out 3; have hfz18_4 := blk_frozen BK312.out 4; have hfz18_5 := blk_frozen BK312.out 5) | (go_at_call 77; (with_reducible refine (larderref09_SameLines.calls k _ _ l0_2 _ _ l1_2 true _ ?side1 ?side2 ?side3 ?side4 A5.out).mono ?_); (case side1 => repeat (first | exact (Kd.C_below HR0_2.out HB.out) | (with_reducible refine Kd.C_alloc ?_ _) | (with_reducible refine Kd.C_drewN ?_ _) | (with_reducible refine Kd.C_drew ?_))); (case side2 => exact HC0_2.out); (case side3 => repeat (first | exact (Kd.C_below HR1_2.out HB.out) | (with_reducible refine Kd.C_alloc ?_ _) | (with_reducible refine Kd.C_drewN ?_ _) | (with_reducible refine Kd.C_drew ?_))); (case side4 => exact HC1_2.out); rintro e w' ⟨rfl, ⟨nd, rfl⟩⟩))
            go_ret
            exact ⟨by first | rfl | (simp [errW_none, errW_some] <;> rfl) | (simp [*, errW_none, errW_some] <;> rfl), by repeat (first | (with_reducible first | exact HB.out | apply below_alloc | apply pw_below_drewN | apply below_drew1 | refine below_set ?_ GE311.out | refine below_set ?_ GE312.out) | exact HB.out)⟩
        · rw [if_neg c7] at H
          have c7b0 : (a0_3.toList == a1_3.toList) = false := beq_eq_false_iff_ne.mpr c7
          have c7b1 : (a0_3.toList != a1_3.toList) = true := bne_iff_ne.mpr c7
          obtain rfl := Option.some.inj H
          go_enter Try.func26, Try.ntmps26
          go_wp2_with (first | ((with_reducible refine gate_dst (N := 2) rfl ?_); refine box_event ?hg (N := 2) ?hd (cs := #[.string a0_0, .int .i64 a0_1, .slice A0_2 l0_2.length c0_2, .string a0_3, .int .i64 a0_4, .int .i64 a0_5]) (t := 40) ?hr ?_; (case hd => rfl); (case hg => rfl); (case hr => first | (go_simp; done) | (go_simp; rfl)); intro gb311 hg w19 hbox hb; have n0_ := Aside0.mk (below_step (by repeat (first | (with_reducible first | exact HB.out | apply below_alloc | apply pw_below_drewN | apply below_drew1) | exact HB.out)) hb); have n1_ := Aside0.mk (hbox); have n2_ := Aside0.mk ((by rw [hg]; exact (below_size (by repeat (first | (with_reducible first | exact HB.out | apply below_alloc | apply pw_below_drewN | apply below_drew1) | exact HB.out))) : w.heap.size ≤ gb311)); have n3_ := Aside0.mk ((by rw [hg]; exact (below_size (by repeat (first | (with_reducible first | exact HB.out | apply below_alloc | apply pw_below_drewN | apply below_drew1) | exact HB.out))) : w.heap.size ≤ gb311)); clear HB; have HB := n0_; have BK311 := n1_; have GW311 := n2_; have GE311 := n3_; clear n0_ n1_ n2_ n3_; clear hb hbox hg) | ((with_reducible refine gate_dst (N := 3) rfl ?_); refine box_event ?hg (N := 3) ?hd (cs := #[.string a1_0, .int .i64 a1_1, .slice A1_2 l1_2.length c1_2, .string a1_3, .int .i64 a1_4, .int .i64 a1_5]) (t := 40) ?hr ?_; (case hd => rfl); (case hg => rfl); (case hr => first | (go_simp; done) | (go_simp; rfl)); intro gb312 hg w20 hbox hb; have n0_ := Aside0.mk (blk_below (g := gb311) (o := .cells #[.string a0_0, .int .i64 a0_1, .slice A0_2 l0_2.length c0_2, .string a0_3, .int .i64 a0_4, .int .i64 a0_5] 40 (0, 0)) (by (with_reducible repeat (first | refine blk_drewN ?_ _ | refine blk_drew ?_ | refine blk_alloc ?_ _)); exact BK311.out) hb); have n1_ := Aside0.mk (below_step (by repeat (first | (with_reducible first | exact HB.out | apply below_alloc | apply pw_below_drewN | apply below_drew1 | refine below_set ?_ GE311.out) | exact HB.out)) hb); have n2_ := Aside0.mk (hbox); have n3_ := Aside0.mk ((by rw [hg]; exact (below_size (by repeat (first | (with_reducible first | exact HB.out | apply below_alloc | apply pw_below_drewN | apply below_drew1 | refine below_set ?_ GE311.out) | exact HB.out))) : w.heap.size ≤ gb312)); have n4_ := Aside0.mk ((by rw [hg]; exact (below_size (by repeat (first | (with_reducible first | exact HB.out | apply below_alloc | apply pw_below_drewN | apply below_drew1 | refine below_set ?_ GE311.out) | exact HB.out))) : w.heap.size ≤ gb312)); have n5_ := Aside0.mk ((by rw [hg]; exact Nat.ne_of_lt (blk_lt (g := gb311) (o := .cells #[.string a0_0, .int .i64 a0_1, .slice A0_2 l0_2.length c0_2, .string a0_3, .int .i64 a0_4, .int .i64 a0_5] 40 (0, 0)) (by (with_reducible repeat (first | refine blk_drewN ?_ _ | refine blk_drew ?_ | refine blk_alloc ?_ _)); exact BK311.out)) : gb311 ≠ gb312)); have n6_ := Aside0.mk ((by rw [hg]; exact Nat.ne_of_gt (blk_lt (g := gb311) (o := .cells #[.string a0_0, .int .i64 a0_1, .slice A0_2 l0_2.length c0_2, .string a0_3, .int .i64 a0_4, .int .i64 a0_5] 40 (0, 0)) (by (with_reducible repeat (first | refine blk_drewN ?_ _ | refine blk_drew ?_ | refine blk_alloc ?_ _)); exact BK311.out)) : gb312 ≠ gb311)); clear BK311; clear HB; have BK311 := n0_; have HB := n1_; have BK312 := n2_; have GW312 := n3_; have GE312 := n4_; have NB311_312 := n5_; have NB312_311 := n6_; clear n0_ n1_ n2_ n3_ n4_ n5_ n6_; clear hb hbox hg; have hnb21 := NB311_312.out; have hnc21 := NB312_311.out; have hcz22_0 : w20.cell? ⟨gb311, 0, none⟩ = some (.string a0_0) := (blk_cell BK311.out 0).trans rfl; have hcz22_1 : w20.cell? ⟨gb311, 1, none⟩ = some (.int .i64 a0_1) := (blk_cell BK311.out 1).trans rfl; have hcz22_2 : w20.cell? ⟨gb311, 2, none⟩ = some (.slice A0_2 l0_2.length c0_2) := (blk_cell BK311.out 2).trans rfl; have hcz22_3 : w20.cell? ⟨gb311, 3, none⟩ = some (.string a0_3) := (blk_cell BK311.out 3).trans rfl; have hcz22_4 : w20.cell? ⟨gb311, 4, none⟩ = some (.int .i64 a0_4) := (blk_cell BK311.out 4).trans rfl; have hcz22_5 : w20.cell? ⟨gb311, 5, none⟩ = some (.int .i64 a0_5) := (blk_cell BK311.out 5).trans rfl; have hfz22_0 := blk_frozen BK311.out 0; have hfz22_1 := blk_frozen BK311.out 1; have hfz22_2 := blk_frozen BK311.out 2; have hfz22_3 := blk_frozen BK311.out 3; have hfz22_4 := blk_frozen BK311.out 4; have hfz22_5 := blk_frozen BK311.out 5; have hcz23_0 : w20.cell? ⟨gb312, 0, none⟩ = some (.string a1_0) := (blk_cell BK312.out 0).trans rfl; have hcz23_1 : w20.cell? ⟨gb312, 1, none⟩ = some (.int .i64 a1_1) := (blk_cell BK312.out 1).trans rfl; have hcz23_2 : w20.cell? ⟨gb312, 2, none⟩ = some (.slice A1_2 l1_2.length c1_2) := (blk_cell BK312.out 2).trans rfl; have hcz23_3 : w20.cell? ⟨gb312, 3, none⟩ = some (.string a1_3) := (blk_cell BK312.out 3).trans rfl; have hcz23_4 : w20.cell? ⟨gb312, 4, none⟩ = some (.int .i64 a1_4) := (blk_cell BK312.out 4).trans rfl; have hcz23_5 : w20.cell? ⟨gb312, 5, none⟩ = some (.int .i64 a1_5) := (blk_cell BK312.out 5).trans rfl; have hfz23_0 := blk_frozen BK312.out 0; have hfz23_1 := blk_frozen BK312.out 1; have hfz23_2 := blk_frozen BK312.out 2; have hfz23_3 := blk_frozen BK312.out 3; have hfz23_4 := blk_frozen BK312.out 4; have hfz23_5 := blk_frozen BK312.out 5) | (go_at_call 77; (with_reducible refine (larderref09_SameLines.calls k _ _ l0_2 _ _ l1_2 true _ ?side1 ?side2 ?side3 ?side4 A5.out).mono ?_); (case side1 => repeat (first | exact (Kd.C_below HR0_2.out HB.out) | (with_reducible refine Kd.C_alloc ?_ _) | (with_reducible refine Kd.C_drewN ?_ _) | (with_reducible refine Kd.C_drew ?_))); (case side2 => exact HC0_2.out); (case side3 => repeat (first | exact (Kd.C_below HR1_2.out HB.out) | (with_reducible refine Kd.C_alloc ?_ _) | (with_reducible refine Kd.C_drewN ?_ _) | (with_reducible refine Kd.C_drew ?_))); (case side4 => exact HC1_2.out); rintro e w' ⟨rfl, ⟨nd, rfl⟩⟩))
          go_ret
          exact ⟨by first | rfl | (simp [errW_none, errW_some] <;> rfl) | (simp [*, errW_none, errW_some] <;> rfl), by repeat (first | (with_reducible first | exact HB.out | apply below_alloc | apply pw_below_drewN | apply below_drew1 | refine below_set ?_ GE311.out | refine below_set ?_ GE312.out) | exact HB.out)⟩
      · replace c6 := Bool.eq_false_iff.mpr c6
        subst c6
        have H1 : (some false) = some r := by rw [if_neg (show ¬ (false = true) by decide)] at H; exact H
        clear H
        have H := H1
        clear H1
        obtain rfl := Option.some.inj H
        go_enter Try.func26, Try.ntmps26
        go_wp2_with (first | ((with_reducible refine gate_dst (N := 2) rfl ?_); refine box_event ?hg (N := 2) ?hd (cs := #[.string a0_0, .int .i64 a0_1, .slice A0_2 l0_2.length c0_2, .string a0_3, .int .i64 a0_4, .int .i64 a0_5]) (t := 40) ?hr ?_; (case hd => rfl); (case hg => rfl); (case hr => first | (go_simp; done) | (go_simp; rfl)); intro gb311 hg w24 hbox hb; have n0_ := Aside0.mk (below_step (by repeat (first | (with_reducible first | exact HB.out | apply below_alloc | apply pw_below_drewN | apply below_drew1) | exact HB.out)) hb); have n1_ := Aside0.mk (hbox); have n2_ := Aside0.mk ((by rw [hg]; exact (below_size (by repeat (first | (with_reducible first | exact HB.out | apply below_alloc | apply pw_below_drewN | apply below_drew1) | exact HB.out))) : w.heap.size ≤ gb311)); have n3_ := Aside0.mk ((by rw [hg]; exact (below_size (by repeat (first | (with_reducible first | exact HB.out | apply below_alloc | apply pw_below_drewN | apply below_drew1) | exact HB.out))) : w.heap.size ≤ gb311)); clear HB; have HB := n0_; have BK311 := n1_; have GW311 := n2_; have GE311 := n3_; clear n0_ n1_ n2_ n3_; clear hb hbox hg) | ((with_reducible refine gate_dst (N := 3) rfl ?_); refine box_event ?hg (N := 3) ?hd (cs := #[.string a1_0, .int .i64 a1_1, .slice A1_2 l1_2.length c1_2, .string a1_3, .int .i64 a1_4, .int .i64 a1_5]) (t := 40) ?hr ?_; (case hd => rfl); (case hg => rfl); (case hr => first | (go_simp; done) | (go_simp; rfl)); intro gb312 hg w25 hbox hb; have n0_ := Aside0.mk (blk_below (g := gb311) (o := .cells #[.string a0_0, .int .i64 a0_1, .slice A0_2 l0_2.length c0_2, .string a0_3, .int .i64 a0_4, .int .i64 a0_5] 40 (0, 0)) (by (with_reducible repeat (first | refine blk_drewN ?_ _ | refine blk_drew ?_ | refine blk_alloc ?_ _)); exact BK311.out) hb); have n1_ := Aside0.mk (below_step (by repeat (first | (with_reducible first | exact HB.out | apply below_alloc | apply pw_below_drewN | apply below_drew1 | refine below_set ?_ GE311.out) | exact HB.out)) hb); have n2_ := Aside0.mk (hbox); have n3_ := Aside0.mk ((by rw [hg]; exact (below_size (by repeat (first | (with_reducible first | exact HB.out | apply below_alloc | apply pw_below_drewN | apply below_drew1 | refine below_set ?_ GE311.out) | exact HB.out))) : w.heap.size ≤ gb312)); have n4_ := Aside0.mk ((by rw [hg]; exact (below_size (by repeat (first | (with_reducible first | exact HB.out | apply below_alloc | apply pw_below_drewN | apply below_drew1 | refine below_set ?_ GE311.out) | exact HB.out))) : w.heap.size ≤ gb312)); have n5_ := Aside0.mk ((by rw [hg]; exact Nat.ne_of_lt (blk_lt (g := gb311) (o := .cells #[.string a0_0, .int .i64 a0_1, .slice A0_2 l0_2.length c0_2, .string a0_3, .int .i64 a0_4, .int .i64 a0_5] 40 (0, 0)) (by (with_reducible repeat (first | refine blk_drewN ?_ _ | refine blk_drew ?_ | refine blk_alloc ?_ _)); exact BK311.out)) : gb311 ≠ gb312)); have n6_ := Aside0.mk ((by rw [hg]; exact Nat.ne_of_gt (blk_lt (g := gb311) (o := .cells #[.string a0_0, .int .i64 a0_1, .slice A0_2 l0_2.length c0_2, .string a0_3, .int .i64 a0_4, .int .i64 a0_5] 40 (0, 0)) (by (with_reducible repeat (first | refine blk_drewN ?_ _ | refine blk_drew ?_ | refine blk_alloc ?_ _)); exact BK311.out)) : gb312 ≠ gb311)); clear BK311; clear HB; have BK311 := n0_; have HB := n1_; have BK312 := n2_; have GW312 := n3_; have GE312 := n4_; have NB311_312 := n5_; have NB312_311 := n6_; clear n0_ n1_ n2_ n3_ n4_ n5_ n6_; clear hb hbox hg; have hnb26 := NB311_312.out; have hnc26 := NB312_311.out; have hcz27_0 : w25.cell? ⟨gb311, 0, none⟩ = some (.string a0_0) := (blk_cell BK311.out 0).trans rfl; have hcz27_1 : w25.cell? ⟨gb311, 1, none⟩ = some (.int .i64 a0_1) := (blk_cell BK311.out 1).trans rfl; have hcz27_2 : w25.cell? ⟨gb311, 2, none⟩ = some (.slice A0_2 l0_2.length c0_2) := (blk_cell BK311.out 2).trans rfl; have hcz27_3 : w25.cell? ⟨gb311, 3, none⟩ = some (.string a0_3) := (blk_cell BK311.out 3).trans rfl; have hcz27_4 : w25.cell? ⟨gb311, 4, none⟩ = some (.int .i64 a0_4) := (blk_cell BK311.out 4).trans rfl; have hcz27_5 : w25.cell? ⟨gb311, 5, none⟩ = some (.int .i64 a0_5) := (blk_cell BK311.out 5).trans rfl; have hfz27_0 := blk_frozen BK311.out 0; have hfz27_1 := blk_frozen BK311.out 1; have hfz27_2 := blk_frozen BK311.out 2; have hfz27_3 := blk_frozen BK311.out 3; have hfz27_4 := blk_frozen BK311.out 4; have hfz27_5 := blk_frozen BK311.out 5; have hcz28_0 : w25.cell? ⟨gb312, 0, none⟩ = some (.string a1_0) := (blk_cell BK312.out 0).trans rfl; have hcz28_1 : w25.cell? ⟨gb312, 1, none⟩ = some (.int .i64 a1_1) := (blk_cell BK312.out 1).trans rfl; have hcz28_2 : w25.cell? ⟨gb312, 2, none⟩ = some (.slice A1_2 l1_2.length c1_2) := (blk_cell BK312.out 2).trans rfl; have hcz28_3 : w25.cell? ⟨gb312, 3, none⟩ = some (.string a1_3) := (blk_cell BK312.out 3).trans rfl; have hcz28_4 : w25.cell? ⟨gb312, 4, none⟩ = some (.int .i64 a1_4) := (blk_cell BK312.out 4).trans rfl; have hcz28_5 : w25.cell? ⟨gb312, 5, none⟩ = some (.int .i64 a1_5) := (blk_cell BK312.out 5).trans rfl; have hfz28_0 := blk_frozen BK312.out 0; have hfz28_1 := blk_frozen BK312.out 1; have hfz28_2 := blk_frozen BK312.out 2; have hfz28_3 := blk_frozen BK312.out 3; have hfz28_4 := blk_frozen BK312.out 4; have hfz28_5 := blk_frozen BK312.out 5) | (go_at_call 77; (with_reducible refine (larderref09_SameLines.calls k _ _ l0_2 _ _ l1_2 false _ ?side1 ?side2 ?side3 ?side4 A5.out).mono ?_); (case side1 => repeat (first | exact (Kd.C_below HR0_2.out HB.out) | (with_reducible refine Kd.C_alloc ?_ _) | (with_reducible refine Kd.C_drewN ?_ _) | (with_reducible refine Kd.C_drew ?_))); (case side2 => exact HC0_2.out); (case side3 => repeat (first | exact (Kd.C_below HR1_2.out HB.out) | (with_reducible refine Kd.C_alloc ?_ _) | (with_reducible refine Kd.C_drewN ?_ _) | (with_reducible refine Kd.C_drew ?_))); (case side4 => exact HC1_2.out); rintro e w' ⟨rfl, ⟨nd, rfl⟩⟩))
        go_ret
        exact ⟨by first | rfl | (simp [errW_none, errW_some] <;> rfl) | (simp [*, errW_none, errW_some] <;> rfl), by repeat (first | (with_reducible first | exact HB.out | apply below_alloc | apply pw_below_drewN | apply below_drew1 | refine below_set ?_ GE311.out | refine below_set ?_ GE312.out) | exact HB.out)⟩
    · rw [if_neg c4] at H
      have c4b0 : (a0_1 == a1_1) = false := beq_eq_false_iff_ne.mpr c4
      have c4b1 : (a0_1 != a1_1) = true := bne_iff_ne.mpr c4
      obtain rfl := Option.some.inj H
      go_enter Try.func26, Try.ntmps26
      go_wp2_with (first | ((with_reducible refine gate_dst (N := 2) rfl ?_); refine box_event ?hg (N := 2) ?hd (cs := #[.string a0_0, .int .i64 a0_1, .slice A0_2 l0_2.length c0_2, .string a0_3, .int .i64 a0_4, .int .i64 a0_5]) (t := 40) ?hr ?_; (case hd => rfl); (case hg => rfl); (case hr => first | (go_simp; done) | (go_simp; rfl)); intro gb311 hg w29 hbox hb; have n0_ := Aside0.mk (below_step (by repeat (first | (with_reducible first | exact HB.out | apply below_alloc | apply pw_below_drewN | apply below_drew1) | exact HB.out)) hb); have n1_ := Aside0.mk (hbox); have n2_ := Aside0.mk ((by rw [hg]; exact (below_size (by repeat (first | (with_reducible first | exact HB.out | apply below_alloc | apply pw_below_drewN | apply below_drew1) | exact HB.out))) : w.heap.size ≤ gb311)); have n3_ := Aside0.mk ((by rw [hg]; exact (below_size (by repeat (first | (with_reducible first | exact HB.out | apply below_alloc | apply pw_below_drewN | apply below_drew1) | exact HB.out))) : w.heap.size ≤ gb311)); clear HB; have HB := n0_; have BK311 := n1_; have GW311 := n2_; have GE311 := n3_; clear n0_ n1_ n2_ n3_; clear hb hbox hg) | ((with_reducible refine gate_dst (N := 3) rfl ?_); refine box_event ?hg (N := 3) ?hd (cs := #[.string a1_0, .int .i64 a1_1, .slice A1_2 l1_2.length c1_2, .string a1_3, .int .i64 a1_4, .int .i64 a1_5]) (t := 40) ?hr ?_; (case hd => rfl); (case hg => rfl); (case hr => first | (go_simp; done) | (go_simp; rfl)); intro gb312 hg w30 hbox hb; have n0_ := Aside0.mk (blk_below (g := gb311) (o := .cells #[.string a0_0, .int .i64 a0_1, .slice A0_2 l0_2.length c0_2, .string a0_3, .int .i64 a0_4, .int .i64 a0_5] 40 (0, 0)) (by (with_reducible repeat (first | refine blk_drewN ?_ _ | refine blk_drew ?_ | refine blk_alloc ?_ _)); exact BK311.out) hb); have n1_ := Aside0.mk (below_step (by repeat (first | (with_reducible first | exact HB.out | apply below_alloc | apply pw_below_drewN | apply below_drew1 | refine below_set ?_ GE311.out) | exact HB.out)) hb); have n2_ := Aside0.mk (hbox); have n3_ := Aside0.mk ((by rw [hg]; exact (below_size (by repeat (first | (with_reducible first | exact HB.out | apply below_alloc | apply pw_below_drewN | apply below_drew1 | refine below_set ?_ GE311.out) | exact HB.out))) : w.heap.size ≤ gb312)); have n4_ := Aside0.mk ((by rw [hg]; exact (below_size (by repeat (first | (with_reducible first | exact HB.out | apply below_alloc | apply pw_below_drewN | apply below_drew1 | refine below_set ?_ GE311.out) | exact HB.out))) : w.heap.size ≤ gb312)); have n5_ := Aside0.mk ((by rw [hg]; exact Nat.ne_of_lt (blk_lt (g := gb311) (o := .cells #[.string a0_0, .int .i64 a0_1, .slice A0_2 l0_2.length c0_2, .string a0_3, .int .i64 a0_4, .int .i64 a0_5] 40 (0, 0)) (by (with_reducible repeat (first | refine blk_drewN ?_ _ | refine blk_drew ?_ | refine blk_alloc ?_ _)); exact BK311.out)) : gb311 ≠ gb312)); have n6_ := Aside0.mk ((by rw [hg]; exact Nat.ne_of_gt (blk_lt (g := gb311) (o := .cells #[.string a0_0, .int .i64 a0_1, .slice A0_2 l0_2.length c0_2, .string a0_3, .int .i64 a0_4, .int .i64 a0_5] 40 (0, 0)) (by (with_reducible repeat (first | refine blk_drewN ?_ _ | refine blk_drew ?_ | refine blk_alloc ?_ _)); exact BK311.out)) : gb312 ≠ gb311)); clear BK311; clear HB; have BK311 := n0_; have HB := n1_; have BK312 := n2_; have GW312 := n3_; have GE312 := n4_; have NB311_312 := n5_; have NB312_311 := n6_; clear n0_ n1_ n2_ n3_ n4_ n5_ n6_; clear hb hbox hg; have hnb31 := NB311_312.out; have hnc31 := NB312_311.out; have hcz32_0 : w30.cell? ⟨gb311, 0, none⟩ = some (.string a0_0) := (blk_cell BK311.out 0).trans rfl; have hcz32_1 : w30.cell? ⟨gb311, 1, none⟩ = some (.int .i64 a0_1) := (blk_cell BK311.out 1).trans rfl; have hcz32_2 : w30.cell? ⟨gb311, 2, none⟩ = some (.slice A0_2 l0_2.length c0_2) := (blk_cell BK311.out 2).trans rfl; have hcz32_3 : w30.cell? ⟨gb311, 3, none⟩ = some (.string a0_3) := (blk_cell BK311.out 3).trans rfl; have hcz32_4 : w30.cell? ⟨gb311, 4, none⟩ = some (.int .i64 a0_4) := (blk_cell BK311.out 4).trans rfl; have hcz32_5 : w30.cell? ⟨gb311, 5, none⟩ = some (.int .i64 a0_5) := (blk_cell BK311.out 5).trans rfl; have hfz32_0 := blk_frozen BK311.out 0; have hfz32_1 := blk_frozen BK311.out 1; have hfz32_2 := blk_frozen BK311.out 2; have hfz32_3 := blk_frozen BK311.out 3; have hfz32_4 := blk_frozen BK311.out 4; have hfz32_5 := blk_frozen BK311.out 5; have hcz33_0 : w30.cell? ⟨gb312, 0, none⟩ = some (.string a1_0) := (blk_cell BK312.out 0).trans rfl; have hcz33_1 : w30.cell? ⟨gb312, 1, none⟩ = some (.int .i64 a1_1) := (blk_cell BK312.out 1).trans rfl; have hcz33_2 : w30.cell? ⟨gb312, 2, none⟩ = some (.slice A1_2 l1_2.length c1_2) := (blk_cell BK312.out 2).trans rfl; have hcz33_3 : w30.cell? ⟨gb312, 3, none⟩ = some (.string a1_3) := (blk_cell BK312.out 3).trans rfl; have hcz33_4 : w30.cell? ⟨gb312, 4, none⟩ = some (.int .i64 a1_4) := (blk_cell BK312.out 4).trans rfl; have hcz33_5 : w30.cell? ⟨gb312, 5, none⟩ = some (.int .i64 a1_5) := (blk_cell BK312.out 5).trans rfl; have hfz33_0 := blk_frozen BK312.out 0; have hfz33_1 := blk_frozen BK312.out 1; have hfz33_2 := blk_frozen BK312.out 2; have hfz33_3 := blk_frozen BK312.out 3; have hfz33_4 := blk_frozen BK312.out 4; have hfz33_5 := blk_frozen BK312.out 5))
      go_ret
      exact ⟨by first | rfl | (simp [errW_none, errW_some] <;> rfl) | (simp [*, errW_none, errW_some] <;> rfl), by repeat (first | (with_reducible first | exact HB.out | apply below_alloc | apply pw_below_drewN | apply below_drew1 | refine below_set ?_ GE311.out | refine below_set ?_ GE312.out) | exact HB.out)⟩
  · rw [if_neg c3] at H
    have c3b0 : (a0_0.toList == a1_0.toList) = false := beq_eq_false_iff_ne.mpr c3
    have c3b1 : (a0_0.toList != a1_0.toList) = true := bne_iff_ne.mpr c3
    obtain rfl := Option.some.inj H
    go_enter Try.func26, Try.ntmps26
    go_wp2_with (first | ((with_reducible refine gate_dst (N := 2) rfl ?_); refine box_event ?hg (N := 2) ?hd (cs := #[.string a0_0, .int .i64 a0_1, .slice A0_2 l0_2.length c0_2, .string a0_3, .int .i64 a0_4, .int .i64 a0_5]) (t := 40) ?hr ?_; (case hd => rfl); (case hg => rfl); (case hr => first | (go_simp; done) | (go_simp; rfl)); intro gb311 hg w34 hbox hb; have n0_ := Aside0.mk (below_step (by repeat (first | (with_reducible first | exact HB.out | apply below_alloc | apply pw_below_drewN | apply below_drew1) | exact HB.out)) hb); have n1_ := Aside0.mk (hbox); have n2_ := Aside0.mk ((by rw [hg]; exact (below_size (by repeat (first | (with_reducible first | exact HB.out | apply below_alloc | apply pw_below_drewN | apply below_drew1) | exact HB.out))) : w.heap.size ≤ gb311)); have n3_ := Aside0.mk ((by rw [hg]; exact (below_size (by repeat (first | (with_reducible first | exact HB.out | apply below_alloc | apply pw_below_drewN | apply below_drew1) | exact HB.out))) : w.heap.size ≤ gb311)); clear HB; have HB := n0_; have BK311 := n1_; have GW311 := n2_; have GE311 := n3_; clear n0_ n1_ n2_ n3_; clear hb hbox hg) | ((with_reducible refine gate_dst (N := 3) rfl ?_); refine box_event ?hg (N := 3) ?hd (cs := #[.string a1_0, .int .i64 a1_1, .slice A1_2 l1_2.length c1_2, .string a1_3, .int .i64 a1_4, .int .i64 a1_5]) (t := 40) ?hr ?_; (case hd => rfl); (case hg => rfl); (case hr => first | (go_simp; done) | (go_simp; rfl)); intro gb312 hg w35 hbox hb; have n0_ := Aside0.mk (blk_below (g := gb311) (o := .cells #[.string a0_0, .int .i64 a0_1, .slice A0_2 l0_2.length c0_2, .string a0_3, .int .i64 a0_4, .int .i64 a0_5] 40 (0, 0)) (by (with_reducible repeat (first | refine blk_drewN ?_ _ | refine blk_drew ?_ | refine blk_alloc ?_ _)); exact BK311.out) hb); have n1_ := Aside0.mk (below_step (by repeat (first | (with_reducible first | exact HB.out | apply below_alloc | apply pw_below_drewN | apply below_drew1 | refine below_set ?_ GE311.out) | exact HB.out)) hb); have n2_ := Aside0.mk (hbox); have n3_ := Aside0.mk ((by rw [hg]; exact (below_size (by repeat (first | (with_reducible first | exact HB.out | apply below_alloc | apply pw_below_drewN | apply below_drew1 | refine below_set ?_ GE311.out) | exact HB.out))) : w.heap.size ≤ gb312)); have n4_ := Aside0.mk ((by rw [hg]; exact (below_size (by repeat (first | (with_reducible first | exact HB.out | apply below_alloc | apply pw_below_drewN | apply below_drew1 | refine below_set ?_ GE311.out) | exact HB.out))) : w.heap.size ≤ gb312)); have n5_ := Aside0.mk ((by rw [hg]; exact Nat.ne_of_lt (blk_lt (g := gb311) (o := .cells #[.string a0_0, .int .i64 a0_1, .slice A0_2 l0_2.length c0_2, .string a0_3, .int .i64 a0_4, .int .i64 a0_5] 40 (0, 0)) (by (with_reducible repeat (first | refine blk_drewN ?_ _ | refine blk_drew ?_ | refine blk_alloc ?_ _)); exact BK311.out)) : gb311 ≠ gb312)); have n6_ := Aside0.mk ((by rw [hg]; exact Nat.ne_of_gt (blk_lt (g := gb311) (o := .cells #[.string a0_0, .int .i64 a0_1, .slice A0_2 l0_2.length c0_2, .string a0_3, .int .i64 a0_4, .int .i64 a0_5] 40 (0, 0)) (by (with_reducible repeat (first | refine blk_drewN ?_ _ | refine blk_drew ?_ | refine blk_alloc ?_ _)); exact BK311.out)) : gb312 ≠ gb311)); clear BK311; clear HB; have BK311 := n0_; have HB := n1_; have BK312 := n2_; have GW312 := n3_; have GE312 := n4_; have NB311_312 := n5_; have NB312_311 := n6_; clear n0_ n1_ n2_ n3_ n4_ n5_ n6_; clear hb hbox hg; have hnb36 := NB311_312.out; have hnc36 := NB312_311.out; have hcz37_0 : w35.cell? ⟨gb311, 0, none⟩ = some (.string a0_0) := (blk_cell BK311.out 0).trans rfl; have hcz37_1 : w35.cell? ⟨gb311, 1, none⟩ = some (.int .i64 a0_1) := (blk_cell BK311.out 1).trans rfl; have hcz37_2 : w35.cell? ⟨gb311, 2, none⟩ = some (.slice A0_2 l0_2.length c0_2) := (blk_cell BK311.out 2).trans rfl; have hcz37_3 : w35.cell? ⟨gb311, 3, none⟩ = some (.string a0_3) := (blk_cell BK311.out 3).trans rfl; have hcz37_4 : w35.cell? ⟨gb311, 4, none⟩ = some (.int .i64 a0_4) := (blk_cell BK311.out 4).trans rfl; have hcz37_5 : w35.cell? ⟨gb311, 5, none⟩ = some (.int .i64 a0_5) := (blk_cell BK311.out 5).trans rfl; have hfz37_0 := blk_frozen BK311.out 0; have hfz37_1 := blk_frozen BK311.out 1; have hfz37_2 := blk_frozen BK311.out 2; have hfz37_3 := blk_frozen BK311.out 3; have hfz37_4 := blk_frozen BK311.out 4; have hfz37_5 := blk_frozen BK311.out 5; have hcz38_0 : w35.cell? ⟨gb312, 0, none⟩ = some (.string a1_0) := (blk_cell BK312.out 0).trans rfl; have hcz38_1 : w35.cell? ⟨gb312, 1, none⟩ = some (.int .i64 a1_1) := (blk_cell BK312.out 1).trans rfl; have hcz38_2 : w35.cell? ⟨gb312, 2, none⟩ = some (.slice A1_2 l1_2.length c1_2) := (blk_cell BK312.out 2).trans rfl; have hcz38_3 : w35.cell? ⟨gb312, 3, none⟩ = some (.string a1_3) := (blk_cell BK312.out 3).trans rfl; have hcz38_4 : w35.cell? ⟨gb312, 4, none⟩ = some (.int .i64 a1_4) := (blk_cell BK312.out 4).trans rfl; have hcz38_5 : w35.cell? ⟨gb312, 5, none⟩ = some (.int .i64 a1_5) := (blk_cell BK312.out 5).trans rfl; have hfz38_0 := blk_frozen BK312.out 0; have hfz38_1 := blk_frozen BK312.out 1; have hfz38_2 := blk_frozen BK312.out 2; have hfz38_3 := blk_frozen BK312.out 3; have hfz38_4 := blk_frozen BK312.out 4; have hfz38_5 := blk_frozen BK312.out 5))
    go_ret
    exact ⟨by first | rfl | (simp [errW_none, errW_some] <;> rfl) | (simp [*, errW_none, errW_some] <;> rfl), by repeat (first | (with_reducible first | exact HB.out | apply below_alloc | apply pw_below_drewN | apply below_drew1 | refine below_set ?_ GE311.out | refine below_set ?_ GE312.out) | exact HB.out)⟩
end Go.Proofs.Ytafmoglaockepaa.PG
end
section
-- Written by a program of this session (wip/pp), out of the translation.
namespace Go.Proofs.Ytafmoglaockepaa.PG
open Go.RowKit Go.Proofs.Ytafmoglaockepaa.Mine Go.Proofs.YtafmoglaockepaaW.PrintWords Go.Proofs.YtafmoglaockepaaW.PrintLast Go.Proofs.YtafmoglaockepaaW.PrintMore
attribute [local go_sem] max2_int min2_int max_two min_two max_three min_three max_four min_four   -- for this text's walks alone
set_option linter.unusedVariables false
set_option linter.unusedSimpArgs false
end Go.Proofs.Ytafmoglaockepaa.PG
end
section
namespace Go.Proofs.Ytafmoglaockepaa.Cd
open Go Go.RowKit Go.Proofs.Ytafmoglaockepaa.Num Go.Proofs.Ytafmoglaockepaa.PG Go.Proofs.YtafmoglaockepaaW.PrintWords Go.Proofs.YtafmoglaockepaaW.PrintLast Go.Proofs.YtafmoglaockepaaW.PrintMore
set_option linter.unusedVariables false
set_option linter.unusedSimpArgs false
set_option maxHeartbeats 4000000
set_option maxRecDepth 100000
structure QAt (g B : Nat) (A : Option Addr) (n c : Nat) (xs : List Int) (most m : Nat) (e p : Int) (W : World) : Prop where
  row : Rt 137 g [Value.slice A n c, .int .i64 (m : Int), .int .i64 (most : Int), .int .i64 e, .int .i64 p] W
  foot : ∀ W', Below B W W' → Kd.C (Kd.int .u8) W' A n xs
  b : B ≤ g
  nc : n ≤ c
  le : e = 0 → m ≤ n
  big : n < 1000000000
  mb : most < 1000000000
  by_ : IsBytes xs
def QSt {α : Type} (g B : Nat) (A : Option Addr) (n c : Nat) (xs : List Int) (most : Nat) (r : Res α) (W : World) : Prop :=
  match r with
  | .ok _ m => QAt g B A n c xs most m 0 0 W
  | .fail e p => e ≠ 0 ∧ ∃ m, QAt g B A n c xs most m e p W
variable {g B : Nat} {A : Option Addr} {n c : Nat} {xs : List Int} {most : Nat}
theorem QAt.len {m : Nat} {e p : Int} {W : World} (k : QAt g B A n c xs most m e p W) : xs.length = n := Kd.C_len (k.foot W (Below.refl _ _))
theorem QAt.size {m : Nat} {e p : Int} {W : World} (k : QAt g B A n c xs most m e p W) : B ≤ W.heap.size := Nat.le_of_lt (Nat.lt_of_le_of_lt k.b k.row.lt)
theorem QAt.aside {m : Nat} {e p : Int} {W W' : World} (k : QAt g B A n c xs most m e p W) (hb : Below B W W') (hg : W'.heap[g]? = W.heap[g]?) : QAt g B A n c xs most m e p W' :=
  { k with row := hg.trans k.row, foot := fun W2 hb2 => k.foot W2 (hb.trans hb2) }
theorem QAt.below {m : Nat} {e p : Int} {W W' : World} (k : QAt g B A n c xs most m e p W) (hb : Below W.heap.size W W') : QAt g B A n c xs most m e p W' := k.aside (hb.mono k.size) (hb.block g k.row.lt)
theorem QAt.put {m : Nat} {e p : Int} {W : World} (k : QAt g B A n c xs most m e p W) (m' : Nat) (e' p' : Int) (h : e' = 0 → m' ≤ n) :
    QAt g B A n c xs most m' e' p' (W.setRow g [Value.slice A n c, .int .i64 (m' : Int), .int .i64 (most : Int), .int .i64 e', .int .i64 p'].toArray) ∧ Below B W (W.setRow g [Value.slice A n c, .int .i64 (m' : Int), .int .i64 (most : Int), .int .i64 e', .int .i64 p'].toArray) ∧ Kept W (W.setRow g [Value.slice A n c, .int .i64 (m' : Int), .int .i64 (most : Int), .int .i64 e', .int .i64 p'].toArray) (fun j => j = g) := by
  have hb : Below B W (W.setRow g [Value.slice A n c, .int .i64 (m' : Int), .int .i64 (most : Int), .int .i64 e', .int .i64 p'].toArray) := below_setRow' (Below.refl _ _) k.b _
  refine ⟨{ k with row := k.row.row _, foot := fun W2 hb2 => k.foot W2 (hb.trans hb2), le := h }, hb, ?_⟩
  exact ⟨by rw [setRow_size]; exact Nat.le_refl _, fun j hj hn => setRow_other _ _ _ _ hn⟩
theorem QAt.rest {m : Nat} {W : World} {p : Int} (k : QAt g B A n c xs most m 0 p W) {W' : World} (hb : Below B W W') : Kd.C (Kd.int .u8) W' (if c = m then A else A.map (·.add m)) (xs.drop m).length (xs.drop m) := by
  have hl := k.len
  have hC := k.foot W' hb
  rw [← hl] at hC
  have h1 := k.le rfl
  have h2 := k.nc
  have := Kd.C_drop (m := m) (c := c) hC (by omega) (by omega)
  rwa [show m * (Kd.int .u8).sz = m from Nat.mul_one m] at this
theorem QAt.dl {m : Nat} {e p : Int} {W : World} (k : QAt g B A n c xs most m e p W) : (xs.drop m).length = n - m := by rw [List.length_drop, k.len]
theorem QSt.aside {α : Type} {r : Res α} {W W' : World} (k : QSt g B A n c xs most r W) (hb : Below B W W') (hg : W'.heap[g]? = W.heap[g]?) : QSt g B A n c xs most r W' := by
  cases r with
  | ok x m => exact QAt.aside k hb hg
  | fail e p => exact ⟨k.1, k.2.choose, k.2.choose_spec.aside hb hg⟩
theorem QSt.lt {α : Type} {r : Res α} {W : World} (k : QSt g B A n c xs most r W) : g < W.heap.size := by
  cases r with
  | ok x m => exact (QAt.row k).lt
  | fail e p => exact k.2.choose_spec.row.lt
theorem QSt.b {α : Type} {r : Res α} {W : World} (k : QSt g B A n c xs most r W) : B ≤ g := by
  cases r with
  | ok x m => exact (QAt.b k)
  | fail e p => exact k.2.choose_spec.b
theorem QSt.size {α : Type} {r : Res α} {W : World} (k : QSt g B A n c xs most r W) : B ≤ W.heap.size := Nat.le_of_lt (Nat.lt_of_le_of_lt k.b k.lt)
theorem QSt.below {α : Type} {r : Res α} {W W' : World} (k : QSt g B A n c xs most r W) (hb : Below W.heap.size W W') : QSt g B A n c xs most r W' := k.aside (hb.mono k.size) (hb.block g k.lt)
end Go.Proofs.Ytafmoglaockepaa.Cd
end
section
namespace Go.Proofs.Ytafmoglaockepaa.Cd
open Go Go.RowKit Go.Proofs.Ytafmoglaockepaa.Num Go.Proofs.Ytafmoglaockepaa.PG Go.Proofs.YtafmoglaockepaaW.PrintWords Go.Proofs.YtafmoglaockepaaW.PrintLast Go.Proofs.YtafmoglaockepaaW.PrintMore
set_option linter.unusedVariables false
set_option linter.unusedSimpArgs false
set_option maxHeartbeats 4000000
set_option maxRecDepth 100000
variable {g B : Nat} {A : Option Addr} {n c : Nat} {xs : List Int} {most : Nat}
def Res.shape {α : Type} : Res α → Res Unit
  | .ok _ m => .ok () m
  | .fail e p => .fail e p
end Go.Proofs.Ytafmoglaockepaa.Cd
end
section
namespace Go.Proofs.Ytafmoglaockepaa.Cd
open Go Go.RowKit Go.Proofs.Ytafmoglaockepaa.Num Go.Proofs.Ytafmoglaockepaa.PG Go.Proofs.YtafmoglaockepaaW.PrintWords Go.Proofs.YtafmoglaockepaaW.PrintLast Go.Proofs.YtafmoglaockepaaW.PrintMore
set_option linter.unusedVariables false
set_option linter.unusedSimpArgs false
set_option maxHeartbeats 4000000
set_option maxRecDepth 100000
theorem read_request (A : Option Addr) (n c : Nat) (xs : List Int) (W : World) (hC : Kd.C (Kd.int .u8) W A n xs) (hnc : n ≤ c) (hb : IsBytes xs) (hbig : n < 1000000000) :
    Calls Try.prog 74 #[.slice A n c, .int .u8 81, .int .i64 4096, .func (.func 75) #[] #[]] W fun e w' => Below W.heap.size W w' ∧ ∃ v, e = .returned (.tuple #[v, .int .i64 (endOf (whole 81 4096 xs (pReq xs 4096))).1, .int .i64 (endOf (whole 81 4096 xs (pReq xs 4096))).2]) ∧ RdOut memReq zero_req W.heap.size (whole 81 4096 xs (pReq xs 4096)) v w' := by
  have HC := Aside0.mk hC
  have HNC := Aside0.mk hnc
  have HBY := Aside0.mk hb
  have HBIG := Aside0.mk hbig
  have HLEN := Aside0.mk (show xs.length = n from Kd.C_len hC)
  have hmf : ∀ (fn : Fn) (first cap : Array Value) (w : World), (Instr.makeFunc fn first cap).run Try.prog w = .ok (.func fn first cap) w := fun _ _ _ _ => rfl
  clear hC hnc hb hbig
  obtain ⟨bo, hbo⟩ : ∃ bo, W.heap.size = bo := ⟨_, rfl⟩
  have HBO := Aside0.mk hbo
  clear hbo
  go_enter_defers Try.func74, Try.ntmps74
  go_upto_region 3 with fail
  have hb1 : Below W.heap.size W (W.alloc (.cells #[.string ⟨#[]⟩, .int .i64 0, .slice none 0 0, .string ⟨#[]⟩, .int .i64 0, .int .i64 0] 40)) := below_alloc (Below.refl _ _) _
  have o1 : Rt 40 W.heap.size zero_req (W.alloc (.cells #[.string ⟨#[]⟩, .int .i64 0, .slice none 0 0, .string ⟨#[]⟩, .int .i64 0, .int .i64 0] 40)) := heap_alloc_new W _
  have s1 : (W.alloc (.cells #[.string ⟨#[]⟩, .int .i64 0, .slice none 0 0, .string ⟨#[]⟩, .int .i64 0, .int .i64 0] 40)).heap.size = W.heap.size + 1 := by simp
  generalize W.alloc (.cells #[.string ⟨#[]⟩, .int .i64 0, .slice none 0 0, .string ⟨#[]⟩, .int .i64 0, .int .i64 0] 40) = wa at *
  have hb2 : Below wa.heap.size wa (wa.alloc (.cells #[.int .i64 0] 22)) := below_alloc (Below.refl _ _) _
  have e2 : Rt 22 wa.heap.size [.int .i64 0] (wa.alloc (.cells #[.int .i64 0] 22)) := heap_alloc_new wa _
  have o2 := o1.below hb2
  have s2 : (wa.alloc (.cells #[.int .i64 0] 22)).heap.size = wa.heap.size + 1 := by simp
  have hc2 := hb1.trans (hb2.mono hb1.size)
  generalize wa.alloc (.cells #[.int .i64 0] 22) = wb at *
  have hb3 : Below wb.heap.size wb (wb.alloc (.cells #[.int .i64 0] 3)) := below_alloc (Below.refl _ _) _
  have a3 : Rt 3 wb.heap.size [.int .i64 0] (wb.alloc (.cells #[.int .i64 0] 3)) := heap_alloc_new wb _
  have o3 := o2.below hb3
  have e3 := e2.below hb3
  have s3 : (wb.alloc (.cells #[.int .i64 0] 3)).heap.size = wb.heap.size + 1 := by simp
  have hc3 := hc2.trans (hb3.mono hc2.size)
  generalize wb.alloc (.cells #[.int .i64 0] 3) = wc at *
  have hb4 : Below wc.heap.size wc (wc.alloc (.cells #[.slice A n c, .int .i64 0, .int .i64 4096] 158)) := below_alloc (Below.refl _ _) _
  have g4 : Rt 158 wc.heap.size [.slice A n c, .int .i64 0, .int .i64 4096] (wc.alloc (.cells #[.slice A n c, .int .i64 0, .int .i64 4096] 158)) := heap_alloc_new wc _
  have o4 := o3.below hb4
  have e4 := e3.below hb4
  have a4 := a3.below hb4
  have hc4 := hc3.trans (hb4.mono hc3.size)
  have s4 : (wc.alloc (.cells #[.slice A n c, .int .i64 0, .int .i64 4096] 158)).heap.size = wc.heap.size + 1 := by simp
  generalize wc.alloc (.cells #[.slice A n c, .int .i64 0, .int .i64 4096] 158) = w4 at *
  rw [s3, s2, s1] at g4 s4
  rw [s2, s1] at a4
  rw [s1] at e4
  obtain ⟨be, hbe⟩ : ∃ be, W.heap.size + 1 = be := ⟨_, rfl⟩
  rw [hbe] at e4 a4 g4 s4 ⊢
  obtain ⟨ba, hba⟩ : ∃ ba, be + 1 = ba := ⟨_, rfl⟩
  rw [hba] at a4 g4 s4 ⊢
  obtain ⟨g, hg⟩ : ∃ g, ba + 1 = g := ⟨_, rfl⟩
  rw [hg] at g4 s4 ⊢
  rw [HBO.out] at o4 hbe ⊢
  have O4 := Aside0.mk o4
  have E4 := Aside0.mk e4
  have A4 := Aside0.mk a4
  have G4 := Aside0.mk g4
  have B4 := Aside0.mk (show Below bo W w4 by rw [← HBO.out]; exact hc4)
  have HORD := Aside0.mk (show be = bo + 1 ∧ ba = bo + 2 ∧ g = bo + 3 ∧ w4.heap.size = bo + 4 by omega)
  clear hb1 o1 s1 hb2 e2 o2 s2 hc2 hb3 a3 o3 e3 s3 hc3 hb4 o4 e4 a4 hc4 s4 hbe hba hg g4 hmf
  have HFAULT := Aside0.mk (show ∀ (er p : Int) (w : World), Rt 40 bo zero_req w → Rt 22 be [.int .i64 0] w → Rt 3 ba [.int .i64 0] w → Below bo W w → CallsD Try.prog 123 #[ptr bo, ptr be, ptr ba] (.panicking [{ v := fault er p, recovered := false }]) w fun e u' w' =>
      e = .returned (.tuple #[]) ∧ u' = .panicking [{ v := fault er p, recovered := true }] ∧ Rt 40 bo zero_req w' ∧ Rt 22 be [.int .i64 er] w' ∧ Rt 3 ba [.int .i64 p] w' ∧ Below bo W w' from fun er p w ho he ha hb => by
    have := HORD.out
    refine (catch_req er p [] w ho he ha (by omega) (by omega) (by omega)).mono ?_
    rintro e u' w' ⟨h1, h2, h3, h4, h5, _, h6⟩
    exact ⟨h1, h2, h3, h4, h5, hb.trans (h6 bo (by omega) (by omega) (by have := hb.size; have := HBO.out; omega))⟩)
  by_cases hl : 4096 < n
  · have d1 : decide ((4096 : Int) < (n : Int)) = true := decide_eq_true (by omega)
    have d2 : decide (4096 < n) = true := decide_eq_true hl
    have HR := Aside0.mk (show whole 81 4096 xs (pReq xs 4096) = Res.fail 1 0 by
      unfold whole
      rw [HLEN.out, if_pos hl])
    clear hl
    go_wp2_with fail
    refine leaves_cons (f := 123) (args := #[ptr bo, ptr be, ptr ba]) (by simp) (by simp [go_sem]) ?_
    refine (HFAULT.out 1 0 w4 O4.out E4.out A4.out B4.out).mono ?_
    rintro e u' w' ⟨rfl, rfl, ho, he, ha, hb⟩
    have x0 := ho.cell 0 _ rfl
    have x1 := ho.cell 1 _ rfl
    have x2 := ho.cell 2 _ rfl
    have x3 := ho.cell 3 _ rfl
    have x4 := ho.cell 4 _ rfl
    have x5 := ho.cell 5 _ rfl
    have y0 := he.cell 0 _ rfl
    have z0 := ha.cell 0 _ rfl
    rw [HR.out]
    simp [Leaves, settle, results, Try.results74, go_sem, x0, x1, x2, x3, x4, x5, x5, y0, z0]
    exact ⟨by rw [HBO.out]; exact hb, _, ⟨rfl, rfl, rfl⟩, rfl⟩
  have d1 : decide ((4096 : Int) < (n : Int)) = false := decide_eq_false (by omega)
  have d2 : decide (4096 < n) = false := decide_eq_false hl
  have HL := Aside0.mk hl
  clear hl
  rcases Nat.eq_zero_or_pos n with hz | hz
  · have HR := Aside0.mk (show whole 81 4096 xs (pReq xs 4096) = Res.fail 3 0 by
      unfold whole
      rw [HLEN.out, if_neg HL.out, if_pos hz])
    have d3 : ((n : Int) == 0) = true := by simpa using hz
    have d4 : decide (n = 0) = true := decide_eq_true hz
    have d5 : (n : Int) = 0 := by omega
    go_wp2_with fail
    refine leaves_cons (f := 123) (args := #[ptr bo, ptr be, ptr ba]) (by simp) (by simp [go_sem]) ?_
    refine (HFAULT.out 3 0 w4 O4.out E4.out A4.out B4.out).mono ?_
    rintro e u' w' ⟨rfl, rfl, ho, he, ha, hb⟩
    have x0 := ho.cell 0 _ rfl
    have x1 := ho.cell 1 _ rfl
    have x2 := ho.cell 2 _ rfl
    have x3 := ho.cell 3 _ rfl
    have x4 := ho.cell 4 _ rfl
    have x5 := ho.cell 5 _ rfl
    have y0 := he.cell 0 _ rfl
    have z0 := ha.cell 0 _ rfl
    rw [HR.out]
    simp [Leaves, settle, results, Try.results74, go_sem, x0, x1, x2, x3, x4, x5, x5, y0, z0]
    exact ⟨by rw [HBO.out]; exact hb, _, ⟨rfl, rfl, rfl⟩, rfl⟩
  have d3 : ((n : Int) == 0) = false := by simp; omega
  have d4 : decide (n = 0) = false := decide_eq_false (by omega)
  have HZ := Aside0.mk hz
  have i0 : (0 : Int) < (n : Int) := by omega
  have hCx := Kd.C_below HC.out (show Below W.heap.size W w4 by rw [HBO.out]; exact B4.out)
  obtain ⟨ad, rfl, hcell⟩ := (Kd.reads_of_C (d := (0 : Int)) (h1 := fun _ => rfl) hCx).2.2 hz
  have k0 := hcell 0 hz
  obtain ⟨x, hx⟩ : ∃ x, xs.getD 0 0 = x := ⟨_, rfl⟩
  rw [hx] at k0
  have HX := Aside0.mk (show xs.headD 0 = x by rw [← hx]; cases xs <;> rfl)
  have k1 : w4.cell? ad = some (.int .u8 x) := by
    have e : ad.add 0 = ad := by simp [Addr.add]
    rwa [e] at k0
  clear hz hCx hcell hx
  by_cases hk : x = 81
  rotate_left
  · have HR := Aside0.mk (show whole 81 4096 xs (pReq xs 4096) = Res.fail 90 0 by
      unfold whole
      rw [HLEN.out, if_neg HL.out, if_neg (by have := HZ.out; omega), HX.out, if_pos hk])
    have d5 : (x != 81) = true := by simpa using hk
    have d6 : (x == 81) = false := by simpa using hk
    have d7 : decide (x = 81) = false := decide_eq_false hk
    clear hk
    go_wp2_with fail
    refine leaves_cons (f := 123) (args := #[ptr bo, ptr be, ptr ba]) (by simp) (by simp [go_sem]) ?_
    refine (HFAULT.out 90 0 w4 O4.out E4.out A4.out B4.out).mono ?_
    rintro e u' w' ⟨rfl, rfl, ho, he, ha, hb⟩
    have x0 := ho.cell 0 _ rfl
    have x1 := ho.cell 1 _ rfl
    have x2 := ho.cell 2 _ rfl
    have x3 := ho.cell 3 _ rfl
    have x4 := ho.cell 4 _ rfl
    have x5 := ho.cell 5 _ rfl
    have y0 := he.cell 0 _ rfl
    have z0 := ha.cell 0 _ rfl
    rw [HR.out]
    simp [Leaves, settle, results, Try.results74, go_sem, x0, x1, x2, x3, x4, x5, x5, y0, z0]
    exact ⟨by rw [HBO.out]; exact hb, _, ⟨rfl, rfl, rfl⟩, rfl⟩
  subst hk
  have hg1 := G4.out.cell 1 _ rfl
  have fg1 := G4.out.free 1
  go_upto_region 10 with fail
  rw [G4.out.set 1 (.int .i64 1)]
  have hl1 : [Value.slice (some ad) n c, .int .i64 0, .int .i64 4096].set 1 (.int .i64 1) = [Value.slice (some ad) n c, .int .i64 1, .int .i64 4096] := rfl
  rw [hl1]
  have K4 : CrAt g bo (some ad) n c xs 0 4096 w4 := ⟨G4.out, fun W' hb => Kd.C_below HC.out (by rw [HBO.out]; exact B4.out.trans hb), by have := HORD.out; omega, HNC.out, Nat.zero_le _, HBIG.out, by decide, HBY.out⟩
  have hmv := K4.moved (m' := 1) HZ.out
  have e1 : (((1 : Nat) : Int)) = 1 := rfl
  have e2 : (((4096 : Nat) : Int)) = 4096 := rfl
  rw [e1, e2] at hmv
  have K5 := Aside0.mk hmv.1
  have B5 := Aside0.mk (B4.out.trans hmv.2.1)
  have O5 := Aside0.mk (show Rt 40 bo zero_req (w4.setRow g [Value.slice (some ad) n c, .int .i64 1, .int .i64 4096].toArray) from (setRow_other _ _ _ _ (by have := HORD.out; omega)).trans O4.out)
  have E5 := Aside0.mk (show Rt 22 be [.int .i64 0] (w4.setRow g [Value.slice (some ad) n c, .int .i64 1, .int .i64 4096].toArray) from (setRow_other _ _ _ _ (by have := HORD.out; omega)).trans E4.out)
  have A5 := Aside0.mk (show Rt 3 ba [.int .i64 0] (w4.setRow g [Value.slice (some ad) n c, .int .i64 1, .int .i64 4096].toArray) from (setRow_other _ _ _ _ (by have := HORD.out; omega)).trans A4.out)
  have S5 := Aside0.mk (show bo + 4 ≤ (w4.setRow g [Value.slice (some ad) n c, .int .i64 1, .int .i64 4096].toArray).heap.size by rw [setRow_size]; have := HORD.out; omega)
  clear hmv K4 hl1 e1 e2 hg1 fg1 k0 k1 d1 d2 d3 d4 i0
  generalize w4.setRow g [Value.slice (some ad) n c, .int .i64 1, .int .i64 4096].toArray = w5 at *
  have HW := Aside0.mk (show whole 81 4096 xs (pReq xs 4096) = (pReq xs 4096 1).bind fun x n => if n < xs.length then .fail 4 (n : Int) else .ok x n by
    unfold whole
    rw [HLEN.out, if_neg HL.out, if_neg (by have := HZ.out; omega), HX.out, if_neg (by decide)])
  go_wp2_with fail
  go_at_call 75
  refine (r_request K5.out).mono ?_
  rintro e w6 ⟨hb, hp, ho⟩
  have O6 := Aside0.mk (show Rt 40 bo zero_req w6 from (hp.2 bo O5.out.lt (by have := HORD.out; show bo ≠ g; omega)).trans O5.out)
  have E6 := Aside0.mk (show Rt 22 be [.int .i64 0] w6 from (hp.2 be E5.out.lt (by have := HORD.out; show be ≠ g; omega)).trans E5.out)
  have A6 := Aside0.mk (show Rt 3 ba [.int .i64 0] w6 from (hp.2 ba A5.out.lt (by have := HORD.out; show ba ≠ g; omega)).trans A5.out)
  have B6 := Aside0.mk (B5.out.trans hb)
  rcases hq : pReq xs 4096 1 with ⟨x, m2⟩ | ⟨er, p⟩
  rotate_left
  · rw [hq] at ho
    have ho : e = gaveUp er p := ho
    subst ho
    have HR := Aside0.mk (show whole 81 4096 xs (pReq xs 4096) = Res.fail er p by rw [HW.out, hq]; rfl)
    clear hb hp hq
    simp only [gaveUp]
    refine leaves_cons (f := 123) (args := #[ptr bo, ptr be, ptr ba]) (by simp) (by simp [go_sem]) ?_
    refine (HFAULT.out er p w6 O6.out E6.out A6.out B6.out).mono ?_
    rintro e u' w' ⟨rfl, rfl, ho, he, ha, hb⟩
    have x0 := ho.cell 0 _ rfl
    have x1 := ho.cell 1 _ rfl
    have x2 := ho.cell 2 _ rfl
    have x3 := ho.cell 3 _ rfl
    have x4 := ho.cell 4 _ rfl
    have x5 := ho.cell 5 _ rfl
    have y0 := he.cell 0 _ rfl
    have z0 := ha.cell 0 _ rfl
    rw [HR.out]
    simp [Leaves, settle, results, Try.results74, go_sem, x0, x1, x2, x3, x4, x5, x5, y0, z0]
    exact ⟨by rw [HBO.out]; exact hb, _, ⟨rfl, rfl, rfl⟩, rfl⟩
  rw [hq] at ho
  obtain ⟨v, he, ⟨Al, nl, cl, hv, hl⟩, hk⟩ : ∃ v, e = .returned v ∧ memReq w5.heap.size x v w6 ∧ CrAt g bo (some ad) n c xs m2 4096 w6 := ho
  subst he hv
  have K6 := Aside0.mk hk
  have Ll_6 := Aside0.mk (LN_alive.lower hl S5.out)
  have HQ := Aside0.mk hq
  clear hb hp hq hl hk
  try clear ho
  go_upto_region 11 with fail
  have hb7 : Below w6.heap.size w6 (w6.alloc (.cells #[.string x.f0, .int .i64 x.f1, .slice Al nl cl, .string x.f3, .int .i64 x.f4, .int .i64 x.f5] 40)) := below_alloc (Below.refl _ _) _
  have r7 : Rt 40 w6.heap.size [.string x.f0, .int .i64 x.f1, .slice Al nl cl, .string x.f3, .int .i64 x.f4, .int .i64 x.f5] (w6.alloc (.cells #[.string x.f0, .int .i64 x.f1, .slice Al nl cl, .string x.f3, .int .i64 x.f4, .int .i64 x.f5] 40)) := heap_alloc_new w6 _
  obtain ⟨bx, hbx⟩ : ∃ bx, w6.heap.size = bx := ⟨_, rfl⟩
  have O7 := Aside0.mk (O6.out.below hb7)
  have E7 := Aside0.mk (E6.out.below hb7)
  have A7 := Aside0.mk (A6.out.below hb7)
  have K7 := Aside0.mk (K6.out.below hb7)
  have Ll_7 := Aside0.mk (LN_alive.below Ll_6.out hb7)
  have B7 := Aside0.mk (B6.out.trans (hb7.mono (by have := B6.out.size; have := HBO.out; omega)))
  have B7' := B7.out
  rw [hbx] at r7 ⊢
  have R7 := Aside0.mk r7
  clear hb7 r7 hbx B7'
  generalize w6.alloc (.cells #[.string x.f0, .int .i64 x.f1, .slice Al nl cl, .string x.f3, .int .i64 x.f4, .int .i64 x.f5] 40) = w7 at *
  have hm7 := K7.out.row.cell 1 _ rfl
  by_cases ht : m2 < n
  · have d1 : decide ((m2 : Int) < (n : Int)) = true := decide_eq_true (by omega)
    have d2 : decide (m2 < n) = true := decide_eq_true ht
    have HR := Aside0.mk (show whole 81 4096 xs (pReq xs 4096) = Res.fail 4 (m2 : Int) by
      rw [HW.out, HQ.out]
      show (if m2 < xs.length then Res.fail 4 (m2 : Int) else Res.ok x m2) = _
      rw [HLEN.out, if_pos ht])
    clear ht
    go_wp2_with fail
    refine leaves_cons (f := 123) (args := #[ptr bo, ptr be, ptr ba]) (by simp) (by simp [go_sem]) ?_
    refine (HFAULT.out 4 (m2 : Int) w7 O7.out E7.out A7.out B7.out).mono ?_
    rintro e u' w' ⟨rfl, rfl, ho, he, ha, hb⟩
    have x0 := ho.cell 0 _ rfl
    have x1 := ho.cell 1 _ rfl
    have x2 := ho.cell 2 _ rfl
    have x3 := ho.cell 3 _ rfl
    have x4 := ho.cell 4 _ rfl
    have x5 := ho.cell 5 _ rfl
    have y0 := he.cell 0 _ rfl
    have z0 := ha.cell 0 _ rfl
    rw [HR.out]
    simp [Leaves, settle, results, Try.results74, go_sem, x0, x1, x2, x3, x4, x5, x5, y0, z0]
    exact ⟨by rw [HBO.out]; exact hb, _, ⟨rfl, rfl, rfl⟩, rfl⟩
  have d1 : decide ((m2 : Int) < (n : Int)) = false := decide_eq_false (by omega)
  have d2 : decide (m2 < n) = false := decide_eq_false ht
  have HR := Aside0.mk (show whole 81 4096 xs (pReq xs 4096) = Res.ok x m2 by
    rw [HW.out, HQ.out]
    show (if m2 < xs.length then Res.fail 4 (m2 : Int) else Res.ok x m2) = _
    rw [HLEN.out, if_neg ht])
  clear ht
  have c0 := R7.out.cell 0 _ rfl
  have c1 := R7.out.cell 1 _ rfl
  have c2 := R7.out.cell 2 _ rfl
  have c3 := R7.out.cell 3 _ rfl
  have c4 := R7.out.cell 4 _ rfl
  have c5 := R7.out.cell 5 _ rfl
  have z0 := O7.out.cell 0 _ rfl
  have z1 := O7.out.cell 1 _ rfl
  have z2 := O7.out.cell 2 _ rfl
  have z3 := O7.out.cell 3 _ rfl
  have z4 := O7.out.cell 4 _ rfl
  have z5 := O7.out.cell 5 _ rfl
  have f0 := O7.out.free 0
  have f1 := O7.out.free 1
  have f2 := O7.out.free 2
  have f3 := O7.out.free 3
  have f4 := O7.out.free 4
  have f5 := O7.out.free 5
  have y0 := E7.out.cell 0 _ rfl
  have y1 := E7.out.free 0
  have a0 := A7.out.cell 0 _ rfl
  have a1 := A7.out.free 0
  have hne1 : be ≠ bo := by have := HORD.out; omega
  have hne2 : ba ≠ bo := by have := HORD.out; omega
  have hne3 : ba ≠ be := by have := HORD.out; omega
  go_wp2_with fail
  clear c0 c1 c2 c3 c4 c5 z0 z1 z2 z3 z4 z5 f0 f1 f2 f3 f4 f5 y0 y1 a0 a1 d1 d2 hm7
  have q := O7.out.set 0 (.string x.f0)
  rw [show ([Value.string ⟨#[]⟩, .int .i64 0, .slice none 0 0, .string ⟨#[]⟩, .int .i64 0, .int .i64 0]).set 0 (.string x.f0) = [Value.string x.f0, .int .i64 0, .slice none 0 0, .string ⟨#[]⟩, .int .i64 0, .int .i64 0] from rfl] at q
  rw [q]
  have O8 := Aside0.mk (show Rt 40 bo [Value.string x.f0, .int .i64 0, .slice none 0 0, .string ⟨#[]⟩, .int .i64 0, .int .i64 0] (w7.setRow bo ([Value.string x.f0, .int .i64 0, .slice none 0 0, .string ⟨#[]⟩, .int .i64 0, .int .i64 0]).toArray) from O7.out.row _)
  have E8 := Aside0.mk (show Rt 22 be [.int .i64 0] (w7.setRow bo ([Value.string x.f0, .int .i64 0, .slice none 0 0, .string ⟨#[]⟩, .int .i64 0, .int .i64 0]).toArray) from (setRow_other _ _ _ _ hne1).trans E7.out)
  have A8 := Aside0.mk (show Rt 3 ba [.int .i64 0] (w7.setRow bo ([Value.string x.f0, .int .i64 0, .slice none 0 0, .string ⟨#[]⟩, .int .i64 0, .int .i64 0]).toArray) from (setRow_other _ _ _ _ hne2).trans A7.out)
  have Ll_8 := Aside0.mk (LN_alive.row Ll_7.out (show bo < bo + 4 by omega) ([Value.string x.f0, .int .i64 0, .slice none 0 0, .string ⟨#[]⟩, .int .i64 0, .int .i64 0]).toArray)
  have B8 := Aside0.mk (show Below bo W (w7.setRow bo ([Value.string x.f0, .int .i64 0, .slice none 0 0, .string ⟨#[]⟩, .int .i64 0, .int .i64 0]).toArray) from below_setRow' B7.out (Nat.le_refl _) _)
  clear q
  generalize w7.setRow bo ([Value.string x.f0, .int .i64 0, .slice none 0 0, .string ⟨#[]⟩, .int .i64 0, .int .i64 0]).toArray = w8 at *
  have q := O8.out.set 1 (.int .i64 x.f1)
  rw [show ([Value.string x.f0, .int .i64 0, .slice none 0 0, .string ⟨#[]⟩, .int .i64 0, .int .i64 0]).set 1 (.int .i64 x.f1) = [Value.string x.f0, .int .i64 x.f1, .slice none 0 0, .string ⟨#[]⟩, .int .i64 0, .int .i64 0] from rfl] at q
  rw [q]
  have O9 := Aside0.mk (show Rt 40 bo [Value.string x.f0, .int .i64 x.f1, .slice none 0 0, .string ⟨#[]⟩, .int .i64 0, .int .i64 0] (w8.setRow bo ([Value.string x.f0, .int .i64 x.f1, .slice none 0 0, .string ⟨#[]⟩, .int .i64 0, .int .i64 0]).toArray) from O8.out.row _)
  have E9 := Aside0.mk (show Rt 22 be [.int .i64 0] (w8.setRow bo ([Value.string x.f0, .int .i64 x.f1, .slice none 0 0, .string ⟨#[]⟩, .int .i64 0, .int .i64 0]).toArray) from (setRow_other _ _ _ _ hne1).trans E8.out)
  have A9 := Aside0.mk (show Rt 3 ba [.int .i64 0] (w8.setRow bo ([Value.string x.f0, .int .i64 x.f1, .slice none 0 0, .string ⟨#[]⟩, .int .i64 0, .int .i64 0]).toArray) from (setRow_other _ _ _ _ hne2).trans A8.out)
  have Ll_9 := Aside0.mk (LN_alive.row Ll_8.out (show bo < bo + 4 by omega) ([Value.string x.f0, .int .i64 x.f1, .slice none 0 0, .string ⟨#[]⟩, .int .i64 0, .int .i64 0]).toArray)
  have B9 := Aside0.mk (show Below bo W (w8.setRow bo ([Value.string x.f0, .int .i64 x.f1, .slice none 0 0, .string ⟨#[]⟩, .int .i64 0, .int .i64 0]).toArray) from below_setRow' B8.out (Nat.le_refl _) _)
  clear q
  generalize w8.setRow bo ([Value.string x.f0, .int .i64 x.f1, .slice none 0 0, .string ⟨#[]⟩, .int .i64 0, .int .i64 0]).toArray = w9 at *
  have q := O9.out.set 2 (.slice Al nl cl)
  rw [show ([Value.string x.f0, .int .i64 x.f1, .slice none 0 0, .string ⟨#[]⟩, .int .i64 0, .int .i64 0]).set 2 (.slice Al nl cl) = [Value.string x.f0, .int .i64 x.f1, .slice Al nl cl, .string ⟨#[]⟩, .int .i64 0, .int .i64 0] from rfl] at q
  rw [q]
  have O10 := Aside0.mk (show Rt 40 bo [Value.string x.f0, .int .i64 x.f1, .slice Al nl cl, .string ⟨#[]⟩, .int .i64 0, .int .i64 0] (w9.setRow bo ([Value.string x.f0, .int .i64 x.f1, .slice Al nl cl, .string ⟨#[]⟩, .int .i64 0, .int .i64 0]).toArray) from O9.out.row _)
  have E10 := Aside0.mk (show Rt 22 be [.int .i64 0] (w9.setRow bo ([Value.string x.f0, .int .i64 x.f1, .slice Al nl cl, .string ⟨#[]⟩, .int .i64 0, .int .i64 0]).toArray) from (setRow_other _ _ _ _ hne1).trans E9.out)
  have A10 := Aside0.mk (show Rt 3 ba [.int .i64 0] (w9.setRow bo ([Value.string x.f0, .int .i64 x.f1, .slice Al nl cl, .string ⟨#[]⟩, .int .i64 0, .int .i64 0]).toArray) from (setRow_other _ _ _ _ hne2).trans A9.out)
  have Ll_10 := Aside0.mk (LN_alive.row Ll_9.out (show bo < bo + 4 by omega) ([Value.string x.f0, .int .i64 x.f1, .slice Al nl cl, .string ⟨#[]⟩, .int .i64 0, .int .i64 0]).toArray)
  have B10 := Aside0.mk (show Below bo W (w9.setRow bo ([Value.string x.f0, .int .i64 x.f1, .slice Al nl cl, .string ⟨#[]⟩, .int .i64 0, .int .i64 0]).toArray) from below_setRow' B9.out (Nat.le_refl _) _)
  clear q
  generalize w9.setRow bo ([Value.string x.f0, .int .i64 x.f1, .slice Al nl cl, .string ⟨#[]⟩, .int .i64 0, .int .i64 0]).toArray = w10 at *
  have q := O10.out.set 3 (.string x.f3)
  rw [show ([Value.string x.f0, .int .i64 x.f1, .slice Al nl cl, .string ⟨#[]⟩, .int .i64 0, .int .i64 0]).set 3 (.string x.f3) = [Value.string x.f0, .int .i64 x.f1, .slice Al nl cl, .string x.f3, .int .i64 0, .int .i64 0] from rfl] at q
  rw [q]
  have O11 := Aside0.mk (show Rt 40 bo [Value.string x.f0, .int .i64 x.f1, .slice Al nl cl, .string x.f3, .int .i64 0, .int .i64 0] (w10.setRow bo ([Value.string x.f0, .int .i64 x.f1, .slice Al nl cl, .string x.f3, .int .i64 0, .int .i64 0]).toArray) from O10.out.row _)
  have E11 := Aside0.mk (show Rt 22 be [.int .i64 0] (w10.setRow bo ([Value.string x.f0, .int .i64 x.f1, .slice Al nl cl, .string x.f3, .int .i64 0, .int .i64 0]).toArray) from (setRow_other _ _ _ _ hne1).trans E10.out)
  have A11 := Aside0.mk (show Rt 3 ba [.int .i64 0] (w10.setRow bo ([Value.string x.f0, .int .i64 x.f1, .slice Al nl cl, .string x.f3, .int .i64 0, .int .i64 0]).toArray) from (setRow_other _ _ _ _ hne2).trans A10.out)
  have Ll_11 := Aside0.mk (LN_alive.row Ll_10.out (show bo < bo + 4 by omega) ([Value.string x.f0, .int .i64 x.f1, .slice Al nl cl, .string x.f3, .int .i64 0, .int .i64 0]).toArray)
  have B11 := Aside0.mk (show Below bo W (w10.setRow bo ([Value.string x.f0, .int .i64 x.f1, .slice Al nl cl, .string x.f3, .int .i64 0, .int .i64 0]).toArray) from below_setRow' B10.out (Nat.le_refl _) _)
  clear q
  generalize w10.setRow bo ([Value.string x.f0, .int .i64 x.f1, .slice Al nl cl, .string x.f3, .int .i64 0, .int .i64 0]).toArray = w11 at *
  have q := O11.out.set 4 (.int .i64 x.f4)
  rw [show ([Value.string x.f0, .int .i64 x.f1, .slice Al nl cl, .string x.f3, .int .i64 0, .int .i64 0]).set 4 (.int .i64 x.f4) = [Value.string x.f0, .int .i64 x.f1, .slice Al nl cl, .string x.f3, .int .i64 x.f4, .int .i64 0] from rfl] at q
  rw [q]
  have O12 := Aside0.mk (show Rt 40 bo [Value.string x.f0, .int .i64 x.f1, .slice Al nl cl, .string x.f3, .int .i64 x.f4, .int .i64 0] (w11.setRow bo ([Value.string x.f0, .int .i64 x.f1, .slice Al nl cl, .string x.f3, .int .i64 x.f4, .int .i64 0]).toArray) from O11.out.row _)
  have E12 := Aside0.mk (show Rt 22 be [.int .i64 0] (w11.setRow bo ([Value.string x.f0, .int .i64 x.f1, .slice Al nl cl, .string x.f3, .int .i64 x.f4, .int .i64 0]).toArray) from (setRow_other _ _ _ _ hne1).trans E11.out)
  have A12 := Aside0.mk (show Rt 3 ba [.int .i64 0] (w11.setRow bo ([Value.string x.f0, .int .i64 x.f1, .slice Al nl cl, .string x.f3, .int .i64 x.f4, .int .i64 0]).toArray) from (setRow_other _ _ _ _ hne2).trans A11.out)
  have Ll_12 := Aside0.mk (LN_alive.row Ll_11.out (show bo < bo + 4 by omega) ([Value.string x.f0, .int .i64 x.f1, .slice Al nl cl, .string x.f3, .int .i64 x.f4, .int .i64 0]).toArray)
  have B12 := Aside0.mk (show Below bo W (w11.setRow bo ([Value.string x.f0, .int .i64 x.f1, .slice Al nl cl, .string x.f3, .int .i64 x.f4, .int .i64 0]).toArray) from below_setRow' B11.out (Nat.le_refl _) _)
  clear q
  generalize w11.setRow bo ([Value.string x.f0, .int .i64 x.f1, .slice Al nl cl, .string x.f3, .int .i64 x.f4, .int .i64 0]).toArray = w12 at *
  have q := O12.out.set 5 (.int .i64 x.f5)
  rw [show ([Value.string x.f0, .int .i64 x.f1, .slice Al nl cl, .string x.f3, .int .i64 x.f4, .int .i64 0]).set 5 (.int .i64 x.f5) = [Value.string x.f0, .int .i64 x.f1, .slice Al nl cl, .string x.f3, .int .i64 x.f4, .int .i64 x.f5] from rfl] at q
  rw [q]
  have O13 := Aside0.mk (show Rt 40 bo [Value.string x.f0, .int .i64 x.f1, .slice Al nl cl, .string x.f3, .int .i64 x.f4, .int .i64 x.f5] (w12.setRow bo ([Value.string x.f0, .int .i64 x.f1, .slice Al nl cl, .string x.f3, .int .i64 x.f4, .int .i64 x.f5]).toArray) from O12.out.row _)
  have E13 := Aside0.mk (show Rt 22 be [.int .i64 0] (w12.setRow bo ([Value.string x.f0, .int .i64 x.f1, .slice Al nl cl, .string x.f3, .int .i64 x.f4, .int .i64 x.f5]).toArray) from (setRow_other _ _ _ _ hne1).trans E12.out)
  have A13 := Aside0.mk (show Rt 3 ba [.int .i64 0] (w12.setRow bo ([Value.string x.f0, .int .i64 x.f1, .slice Al nl cl, .string x.f3, .int .i64 x.f4, .int .i64 x.f5]).toArray) from (setRow_other _ _ _ _ hne2).trans A12.out)
  have Ll_13 := Aside0.mk (LN_alive.row Ll_12.out (show bo < bo + 4 by omega) ([Value.string x.f0, .int .i64 x.f1, .slice Al nl cl, .string x.f3, .int .i64 x.f4, .int .i64 x.f5]).toArray)
  have B13 := Aside0.mk (show Below bo W (w12.setRow bo ([Value.string x.f0, .int .i64 x.f1, .slice Al nl cl, .string x.f3, .int .i64 x.f4, .int .i64 x.f5]).toArray) from below_setRow' B12.out (Nat.le_refl _) _)
  clear q
  generalize w12.setRow bo ([Value.string x.f0, .int .i64 x.f1, .slice Al nl cl, .string x.f3, .int .i64 x.f4, .int .i64 x.f5]).toArray = w13 at *
  rw [E13.out.same 0 _ rfl, A13.out.same 0 _ rfl]
  refine leaves_cons (f := 123) (args := #[ptr bo, ptr be, ptr ba]) (by simp) (by simp [go_sem]) ?_
  refine (idle_req (bo := bo) (be := be) (ba := ba) w13).mono ?_
  rintro e u' w' ⟨rfl, rfl, hb⟩
  have ho := O13.out.below hb
  have he := E13.out.below hb
  have ha := A13.out.below hb
  have hl := LN_alive.below Ll_13.out hb
  have x0 := ho.cell 0 _ rfl
  have x1 := ho.cell 1 _ rfl
  have x2 := ho.cell 2 _ rfl
  have x3 := ho.cell 3 _ rfl
  have x4 := ho.cell 4 _ rfl
  have x5 := ho.cell 5 _ rfl
  have y0 := he.cell 0 _ rfl
  have z0 := ha.cell 0 _ rfl
  rw [HR.out]
  simp [Leaves, settle, results, Try.results74, go_sem, x0, x1, x2, x3, x4, x5, y0, z0]
  refine ⟨by rw [HBO.out]; exact B13.out.trans (hb.mono (by have := B13.out.size; have := HBO.out; omega)), _, ⟨rfl, rfl, rfl⟩, Al, nl, cl, rfl, LN_alive.lower hl (by have := HBO.out; omega)⟩
end Go.Proofs.Ytafmoglaockepaa.Cd
end
