/- What the codec writes and reads: texts of this session joined, with what is not needed left out. -/
import Derived.Test.YtafmoglaockepaaBa5
import Derived.Deep.RegionHeld3
import Derived.Deep.RegionLaw
import Derived.Test.YtafmoglaockepaaBa2
import Derived.Test.YtafmoglaockepaaBa3
import Derived.Test.YtafmoglaockepaaBa4
section
namespace Go.Proofs.Ytafmoglaockepaa.Cd
open Go Go.RowKit Go.Proofs.Ytafmoglaockepaa.Num Go.Proofs.Ytafmoglaockepaa.PG Go.Proofs.YtafmoglaockepaaW.PrintWords Go.Proofs.YtafmoglaockepaaW.PrintLast Go.Proofs.YtafmoglaockepaaW.PrintMore
set_option linter.unusedVariables false
set_option linter.unusedSimpArgs false
set_option maxHeartbeats 4000000
set_option maxRecDepth 100000
theorem read_record (A : Option Addr) (n c : Nat) (xs : List Int) (W : World) (hC : Kd.C (Kd.int .u8) W A n xs) (hnc : n ≤ c) (hb : IsBytes xs) (hbig : n < 1000000000) :
    Calls Try.prog 79 #[.slice A n c, .int .u8 83, .int .i64 4096, .func (.func 80) #[] #[]] W fun e w' => Below W.heap.size W w' ∧ ∃ v, e = .returned (.tuple #[v, .int .i64 (endOf (whole 83 4096 xs (pRec xs 4096))).1, .int .i64 (endOf (whole 83 4096 xs (pRec xs 4096))).2]) ∧ RdOut memRec zero_rec W.heap.size (whole 83 4096 xs (pRec xs 4096)) v w' := by
  have HC := Aside0.mk hC
  have HNC := Aside0.mk hnc
  have HBY := Aside0.mk hb
  have HBIG := Aside0.mk hbig
  have HLEN := Aside0.mk (show xs.length = n from Kd.C_len hC)
  have hmf : ∀ (fn : Fn) (first cap : Array Value) (w : World), (Instr.makeFunc fn first cap).run Try.prog w = .ok (.func fn first cap) w := fun _ _ _ _ => rfl
  clear hC hnc hb hbig
  obtain ⟨bo, hbo⟩ : ∃ bo, W.heap.size = bo := ⟨_, rfl⟩
  have HBO := Aside0.mk hbo
  clear hbo
  go_enter_defers Try.func79, Try.ntmps79
  go_upto_region 3 with fail
  have hb1 : Below W.heap.size W (W.alloc (.cells #[.int .i64 0, .string ⟨#[]⟩, .int .i64 0, .slice none 0 0, .string ⟨#[]⟩, .int .i64 0, .int .i64 0] 49)) := below_alloc (Below.refl _ _) _
  have o1 : Rt 49 W.heap.size zero_rec (W.alloc (.cells #[.int .i64 0, .string ⟨#[]⟩, .int .i64 0, .slice none 0 0, .string ⟨#[]⟩, .int .i64 0, .int .i64 0] 49)) := heap_alloc_new W _
  have s1 : (W.alloc (.cells #[.int .i64 0, .string ⟨#[]⟩, .int .i64 0, .slice none 0 0, .string ⟨#[]⟩, .int .i64 0, .int .i64 0] 49)).heap.size = W.heap.size + 1 := by simp
  generalize W.alloc (.cells #[.int .i64 0, .string ⟨#[]⟩, .int .i64 0, .slice none 0 0, .string ⟨#[]⟩, .int .i64 0, .int .i64 0] 49) = wa at *
  have hb2 : Below wa.heap.size wa (wa.alloc (.cells #[.int .i64 0] 22)) := below_alloc (Below.refl _ _) _
  have e2 : Rt 22 wa.heap.size [.int .i64 0] (wa.alloc (.cells #[.int .i64 0] 22)) := heap_alloc_new wa _
  have o2 := o1.below hb2
  have s2 : (wa.alloc (.cells #[.int .i64 0] 22)).heap.size = wa.heap.size + 1 := by simp
  have hc2 := hb1.trans (hb2.mono hb1.size)
  generalize wa.alloc (.cells #[.int .i64 0] 22) = wb at *
  have hb3 : Below wb.heap.size wb (wb.alloc (.cells #[.int .i64 0] 3)) := below_alloc (Below.refl _ _) _
  have a3 : Rt 3 wb.heap.size [.int .i64 0] (wb.alloc (.cells #[.int .i64 0] 3)) := heap_alloc_new wb _
  have o3 := o2.below hb3
  have e3 := e2.below hb3
  have s3 : (wb.alloc (.cells #[.int .i64 0] 3)).heap.size = wb.heap.size + 1 := by simp
  have hc3 := hc2.trans (hb3.mono hc2.size)
  generalize wb.alloc (.cells #[.int .i64 0] 3) = wc at *
  have hb4 : Below wc.heap.size wc (wc.alloc (.cells #[.slice A n c, .int .i64 0, .int .i64 4096] 158)) := below_alloc (Below.refl _ _) _
  have g4 : Rt 158 wc.heap.size [.slice A n c, .int .i64 0, .int .i64 4096] (wc.alloc (.cells #[.slice A n c, .int .i64 0, .int .i64 4096] 158)) := heap_alloc_new wc _
  have o4 := o3.below hb4
  have e4 := e3.below hb4
  have a4 := a3.below hb4
  have hc4 := hc3.trans (hb4.mono hc3.size)
  have s4 : (wc.alloc (.cells #[.slice A n c, .int .i64 0, .int .i64 4096] 158)).heap.size = wc.heap.size + 1 := by simp
  generalize wc.alloc (.cells #[.slice A n c, .int .i64 0, .int .i64 4096] 158) = w4 at *
  rw [s3, s2, s1] at g4 s4
  rw [s2, s1] at a4
  rw [s1] at e4
  obtain ⟨be, hbe⟩ : ∃ be, W.heap.size + 1 = be := ⟨_, rfl⟩
  rw [hbe] at e4 a4 g4 s4 ⊢
  obtain ⟨ba, hba⟩ : ∃ ba, be + 1 = ba := ⟨_, rfl⟩
  rw [hba] at a4 g4 s4 ⊢
  obtain ⟨g, hg⟩ : ∃ g, ba + 1 = g := ⟨_, rfl⟩
  rw [hg] at g4 s4 ⊢
  rw [HBO.out] at o4 hbe ⊢
  have O4 := Aside0.mk o4
  have E4 := Aside0.mk e4
  have A4 := Aside0.mk a4
  have G4 := Aside0.mk g4
  have B4 := Aside0.mk (show Below bo W w4 by rw [← HBO.out]; exact hc4)
  have HORD := Aside0.mk (show be = bo + 1 ∧ ba = bo + 2 ∧ g = bo + 3 ∧ w4.heap.size = bo + 4 by omega)
  clear hb1 o1 s1 hb2 e2 o2 s2 hc2 hb3 a3 o3 e3 s3 hc3 hb4 o4 e4 a4 hc4 s4 hbe hba hg g4 hmf
  have HFAULT := Aside0.mk (show ∀ (er p : Int) (w : World), Rt 49 bo zero_rec w → Rt 22 be [.int .i64 0] w → Rt 3 ba [.int .i64 0] w → Below bo W w → CallsD Try.prog 124 #[ptr bo, ptr be, ptr ba] (.panicking [{ v := fault er p, recovered := false }]) w fun e u' w' =>
      e = .returned (.tuple #[]) ∧ u' = .panicking [{ v := fault er p, recovered := true }] ∧ Rt 49 bo zero_rec w' ∧ Rt 22 be [.int .i64 er] w' ∧ Rt 3 ba [.int .i64 p] w' ∧ Below bo W w' from fun er p w ho he ha hb => by
    have := HORD.out
    refine (catch_rec er p [] w ho he ha (by omega) (by omega) (by omega)).mono ?_
    rintro e u' w' ⟨h1, h2, h3, h4, h5, _, h6⟩
    exact ⟨h1, h2, h3, h4, h5, hb.trans (h6 bo (by omega) (by omega) (by have := hb.size; have := HBO.out; omega))⟩)
  by_cases hl : 4096 < n
  · have d1 : decide ((4096 : Int) < (n : Int)) = true := decide_eq_true (by omega)
    have d2 : decide (4096 < n) = true := decide_eq_true hl
    have HR := Aside0.mk (show whole 83 4096 xs (pRec xs 4096) = Res.fail 1 0 by
      unfold whole
      rw [HLEN.out, if_pos hl])
    clear hl
    go_wp2_with fail
    refine leaves_cons (f := 124) (args := #[ptr bo, ptr be, ptr ba]) (by simp) (by simp [go_sem]) ?_
    refine (HFAULT.out 1 0 w4 O4.out E4.out A4.out B4.out).mono ?_
    rintro e u' w' ⟨rfl, rfl, ho, he, ha, hb⟩
    have x0 := ho.cell 0 _ rfl
    have x1 := ho.cell 1 _ rfl
    have x2 := ho.cell 2 _ rfl
    have x3 := ho.cell 3 _ rfl
    have x4 := ho.cell 4 _ rfl
    have x5 := ho.cell 5 _ rfl
    have x6 := ho.cell 6 _ rfl
    have y0 := he.cell 0 _ rfl
    have z0 := ha.cell 0 _ rfl
    rw [HR.out]
    simp [Leaves, settle, results, Try.results79, go_sem, x0, x1, x2, x3, x4, x5, x6, x5, x6, y0, z0]
    exact ⟨by rw [HBO.out]; exact hb, _, ⟨rfl, rfl, rfl⟩, rfl⟩
  have d1 : decide ((4096 : Int) < (n : Int)) = false := decide_eq_false (by omega)
  have d2 : decide (4096 < n) = false := decide_eq_false hl
  have HL := Aside0.mk hl
  clear hl
  rcases Nat.eq_zero_or_pos n with hz | hz
  · have HR := Aside0.mk (show whole 83 4096 xs (pRec xs 4096) = Res.fail 3 0 by
      unfold whole
      rw [HLEN.out, if_neg HL.out, if_pos hz])
    have d3 : ((n : Int) == 0) = true := by simpa using hz
    have d4 : decide (n = 0) = true := decide_eq_true hz
    have d5 : (n : Int) = 0 := by omega
    go_wp2_with fail
    refine leaves_cons (f := 124) (args := #[ptr bo, ptr be, ptr ba]) (by simp) (by simp [go_sem]) ?_
    refine (HFAULT.out 3 0 w4 O4.out E4.out A4.out B4.out).mono ?_
    rintro e u' w' ⟨rfl, rfl, ho, he, ha, hb⟩
    have x0 := ho.cell 0 _ rfl
    have x1 := ho.cell 1 _ rfl
    have x2 := ho.cell 2 _ rfl
    have x3 := ho.cell 3 _ rfl
    have x4 := ho.cell 4 _ rfl
    have x5 := ho.cell 5 _ rfl
    have x6 := ho.cell 6 _ rfl
    have y0 := he.cell 0 _ rfl
    have z0 := ha.cell 0 _ rfl
    rw [HR.out]
    simp [Leaves, settle, results, Try.results79, go_sem, x0, x1, x2, x3, x4, x5, x6, x5, x6, y0, z0]
    exact ⟨by rw [HBO.out]; exact hb, _, ⟨rfl, rfl, rfl⟩, rfl⟩
  have d3 : ((n : Int) == 0) = false := by simp; omega
  have d4 : decide (n = 0) = false := decide_eq_false (by omega)
  have HZ := Aside0.mk hz
  have i0 : (0 : Int) < (n : Int) := by omega
  have hCx := Kd.C_below HC.out (show Below W.heap.size W w4 by rw [HBO.out]; exact B4.out)
  obtain ⟨ad, rfl, hcell⟩ := (Kd.reads_of_C (d := (0 : Int)) (h1 := fun _ => rfl) hCx).2.2 hz
  have k0 := hcell 0 hz
  obtain ⟨x, hx⟩ : ∃ x, xs.getD 0 0 = x := ⟨_, rfl⟩
  rw [hx] at k0
  have HX := Aside0.mk (show xs.headD 0 = x by rw [← hx]; cases xs <;> rfl)
  have k1 : w4.cell? ad = some (.int .u8 x) := by
    have e : ad.add 0 = ad := by simp [Addr.add]
    rwa [e] at k0
  clear hz hCx hcell hx
  by_cases hk : x = 83
  rotate_left
  · have HR := Aside0.mk (show whole 83 4096 xs (pRec xs 4096) = Res.fail 90 0 by
      unfold whole
      rw [HLEN.out, if_neg HL.out, if_neg (by have := HZ.out; omega), HX.out, if_pos hk])
    have d5 : (x != 83) = true := by simpa using hk
    have d6 : (x == 83) = false := by simpa using hk
    have d7 : decide (x = 83) = false := decide_eq_false hk
    clear hk
    go_wp2_with fail
    refine leaves_cons (f := 124) (args := #[ptr bo, ptr be, ptr ba]) (by simp) (by simp [go_sem]) ?_
    refine (HFAULT.out 90 0 w4 O4.out E4.out A4.out B4.out).mono ?_
    rintro e u' w' ⟨rfl, rfl, ho, he, ha, hb⟩
    have x0 := ho.cell 0 _ rfl
    have x1 := ho.cell 1 _ rfl
    have x2 := ho.cell 2 _ rfl
    have x3 := ho.cell 3 _ rfl
    have x4 := ho.cell 4 _ rfl
    have x5 := ho.cell 5 _ rfl
    have x6 := ho.cell 6 _ rfl
    have y0 := he.cell 0 _ rfl
    have z0 := ha.cell 0 _ rfl
    rw [HR.out]
    simp [Leaves, settle, results, Try.results79, go_sem, x0, x1, x2, x3, x4, x5, x6, x5, x6, y0, z0]
    exact ⟨by rw [HBO.out]; exact hb, _, ⟨rfl, rfl, rfl⟩, rfl⟩
  subst hk
  have hg1 := G4.out.cell 1 _ rfl
  have fg1 := G4.out.free 1
  go_upto_region 10 with fail
  rw [G4.out.set 1 (.int .i64 1)]
  have hl1 : [Value.slice (some ad) n c, .int .i64 0, .int .i64 4096].set 1 (.int .i64 1) = [Value.slice (some ad) n c, .int .i64 1, .int .i64 4096] := rfl
  rw [hl1]
  have K4 : CrAt g bo (some ad) n c xs 0 4096 w4 := ⟨G4.out, fun W' hb => Kd.C_below HC.out (by rw [HBO.out]; exact B4.out.trans hb), by have := HORD.out; omega, HNC.out, Nat.zero_le _, HBIG.out, by decide, HBY.out⟩
  have hmv := K4.moved (m' := 1) HZ.out
  have e1 : (((1 : Nat) : Int)) = 1 := rfl
  have e2 : (((4096 : Nat) : Int)) = 4096 := rfl
  rw [e1, e2] at hmv
  have K5 := Aside0.mk hmv.1
  have B5 := Aside0.mk (B4.out.trans hmv.2.1)
  have O5 := Aside0.mk (show Rt 49 bo zero_rec (w4.setRow g [Value.slice (some ad) n c, .int .i64 1, .int .i64 4096].toArray) from (setRow_other _ _ _ _ (by have := HORD.out; omega)).trans O4.out)
  have E5 := Aside0.mk (show Rt 22 be [.int .i64 0] (w4.setRow g [Value.slice (some ad) n c, .int .i64 1, .int .i64 4096].toArray) from (setRow_other _ _ _ _ (by have := HORD.out; omega)).trans E4.out)
  have A5 := Aside0.mk (show Rt 3 ba [.int .i64 0] (w4.setRow g [Value.slice (some ad) n c, .int .i64 1, .int .i64 4096].toArray) from (setRow_other _ _ _ _ (by have := HORD.out; omega)).trans A4.out)
  have S5 := Aside0.mk (show bo + 4 ≤ (w4.setRow g [Value.slice (some ad) n c, .int .i64 1, .int .i64 4096].toArray).heap.size by rw [setRow_size]; have := HORD.out; omega)
  clear hmv K4 hl1 e1 e2 hg1 fg1 k0 k1 d1 d2 d3 d4 i0
  generalize w4.setRow g [Value.slice (some ad) n c, .int .i64 1, .int .i64 4096].toArray = w5 at *
  have HW := Aside0.mk (show whole 83 4096 xs (pRec xs 4096) = (pRec xs 4096 1).bind fun x n => if n < xs.length then .fail 4 (n : Int) else .ok x n by
    unfold whole
    rw [HLEN.out, if_neg HL.out, if_neg (by have := HZ.out; omega), HX.out, if_neg (by decide)])
  go_wp2_with fail
  go_at_call 80
  refine (r_record K5.out).mono ?_
  rintro e w6 ⟨hb, hp, ho⟩
  have O6 := Aside0.mk (show Rt 49 bo zero_rec w6 from (hp.2 bo O5.out.lt (by have := HORD.out; show bo ≠ g; omega)).trans O5.out)
  have E6 := Aside0.mk (show Rt 22 be [.int .i64 0] w6 from (hp.2 be E5.out.lt (by have := HORD.out; show be ≠ g; omega)).trans E5.out)
  have A6 := Aside0.mk (show Rt 3 ba [.int .i64 0] w6 from (hp.2 ba A5.out.lt (by have := HORD.out; show ba ≠ g; omega)).trans A5.out)
  have B6 := Aside0.mk (B5.out.trans hb)
  rcases hq : pRec xs 4096 1 with ⟨x, m2⟩ | ⟨er, p⟩
  rotate_left
  · rw [hq] at ho
    have ho : e = gaveUp er p := ho
    subst ho
    have HR := Aside0.mk (show whole 83 4096 xs (pRec xs 4096) = Res.fail er p by rw [HW.out, hq]; rfl)
    clear hb hp hq
    simp only [gaveUp]
    refine leaves_cons (f := 124) (args := #[ptr bo, ptr be, ptr ba]) (by simp) (by simp [go_sem]) ?_
    refine (HFAULT.out er p w6 O6.out E6.out A6.out B6.out).mono ?_
    rintro e u' w' ⟨rfl, rfl, ho, he, ha, hb⟩
    have x0 := ho.cell 0 _ rfl
    have x1 := ho.cell 1 _ rfl
    have x2 := ho.cell 2 _ rfl
    have x3 := ho.cell 3 _ rfl
    have x4 := ho.cell 4 _ rfl
    have x5 := ho.cell 5 _ rfl
    have x6 := ho.cell 6 _ rfl
    have y0 := he.cell 0 _ rfl
    have z0 := ha.cell 0 _ rfl
    rw [HR.out]
    simp [Leaves, settle, results, Try.results79, go_sem, x0, x1, x2, x3, x4, x5, x6, x5, x6, y0, z0]
    exact ⟨by rw [HBO.out]; exact hb, _, ⟨rfl, rfl, rfl⟩, rfl⟩
  rw [hq] at ho
  obtain ⟨v, he, ⟨Arq, nrq, crq, hv, hrq⟩, hk⟩ : ∃ v, e = .returned v ∧ memRec w5.heap.size x v w6 ∧ CrAt g bo (some ad) n c xs m2 4096 w6 := ho
  subst he hv
  have K6 := Aside0.mk hk
  have Lrq_6 := Aside0.mk (LN_alive.lower hrq S5.out)
  have HQ := Aside0.mk hq
  clear hb hp hq hrq hk
  try clear ho
  go_upto_region 11 with fail
  have hb7 : Below w6.heap.size w6 (w6.alloc (.cells #[.int .i64 x.f0, .string x.f1.f0, .int .i64 x.f1.f1, .slice Arq nrq crq, .string x.f1.f3, .int .i64 x.f1.f4, .int .i64 x.f1.f5] 49)) := below_alloc (Below.refl _ _) _
  have r7 : Rt 49 w6.heap.size [.int .i64 x.f0, .string x.f1.f0, .int .i64 x.f1.f1, .slice Arq nrq crq, .string x.f1.f3, .int .i64 x.f1.f4, .int .i64 x.f1.f5] (w6.alloc (.cells #[.int .i64 x.f0, .string x.f1.f0, .int .i64 x.f1.f1, .slice Arq nrq crq, .string x.f1.f3, .int .i64 x.f1.f4, .int .i64 x.f1.f5] 49)) := heap_alloc_new w6 _
  obtain ⟨bx, hbx⟩ : ∃ bx, w6.heap.size = bx := ⟨_, rfl⟩
  have O7 := Aside0.mk (O6.out.below hb7)
  have E7 := Aside0.mk (E6.out.below hb7)
  have A7 := Aside0.mk (A6.out.below hb7)
  have K7 := Aside0.mk (K6.out.below hb7)
  have Lrq_7 := Aside0.mk (LN_alive.below Lrq_6.out hb7)
  have B7 := Aside0.mk (B6.out.trans (hb7.mono (by have := B6.out.size; have := HBO.out; omega)))
  have B7' := B7.out
  rw [hbx] at r7 ⊢
  have R7 := Aside0.mk r7
  clear hb7 r7 hbx B7'
  generalize w6.alloc (.cells #[.int .i64 x.f0, .string x.f1.f0, .int .i64 x.f1.f1, .slice Arq nrq crq, .string x.f1.f3, .int .i64 x.f1.f4, .int .i64 x.f1.f5] 49) = w7 at *
  have hm7 := K7.out.row.cell 1 _ rfl
  by_cases ht : m2 < n
  · have d1 : decide ((m2 : Int) < (n : Int)) = true := decide_eq_true (by omega)
    have d2 : decide (m2 < n) = true := decide_eq_true ht
    have HR := Aside0.mk (show whole 83 4096 xs (pRec xs 4096) = Res.fail 4 (m2 : Int) by
      rw [HW.out, HQ.out]
      show (if m2 < xs.length then Res.fail 4 (m2 : Int) else Res.ok x m2) = _
      rw [HLEN.out, if_pos ht])
    clear ht
    go_wp2_with fail
    refine leaves_cons (f := 124) (args := #[ptr bo, ptr be, ptr ba]) (by simp) (by simp [go_sem]) ?_
    refine (HFAULT.out 4 (m2 : Int) w7 O7.out E7.out A7.out B7.out).mono ?_
    rintro e u' w' ⟨rfl, rfl, ho, he, ha, hb⟩
    have x0 := ho.cell 0 _ rfl
    have x1 := ho.cell 1 _ rfl
    have x2 := ho.cell 2 _ rfl
    have x3 := ho.cell 3 _ rfl
    have x4 := ho.cell 4 _ rfl
    have x5 := ho.cell 5 _ rfl
    have x6 := ho.cell 6 _ rfl
    have y0 := he.cell 0 _ rfl
    have z0 := ha.cell 0 _ rfl
    rw [HR.out]
    simp [Leaves, settle, results, Try.results79, go_sem, x0, x1, x2, x3, x4, x5, x6, x5, x6, y0, z0]
    exact ⟨by rw [HBO.out]; exact hb, _, ⟨rfl, rfl, rfl⟩, rfl⟩
  have d1 : decide ((m2 : Int) < (n : Int)) = false := decide_eq_false (by omega)
  have d2 : decide (m2 < n) = false := decide_eq_false ht
  have HR := Aside0.mk (show whole 83 4096 xs (pRec xs 4096) = Res.ok x m2 by
    rw [HW.out, HQ.out]
    show (if m2 < xs.length then Res.fail 4 (m2 : Int) else Res.ok x m2) = _
    rw [HLEN.out, if_neg ht])
  clear ht
  have c0 := R7.out.cell 0 _ rfl
  have c1 := R7.out.cell 1 _ rfl
  have c2 := R7.out.cell 2 _ rfl
  have c3 := R7.out.cell 3 _ rfl
  have c4 := R7.out.cell 4 _ rfl
  have c5 := R7.out.cell 5 _ rfl
  have c6 := R7.out.cell 6 _ rfl
  have z0 := O7.out.cell 0 _ rfl
  have z1 := O7.out.cell 1 _ rfl
  have z2 := O7.out.cell 2 _ rfl
  have z3 := O7.out.cell 3 _ rfl
  have z4 := O7.out.cell 4 _ rfl
  have z5 := O7.out.cell 5 _ rfl
  have z6 := O7.out.cell 6 _ rfl
  have f0 := O7.out.free 0
  have f1 := O7.out.free 1
  have f2 := O7.out.free 2
  have f3 := O7.out.free 3
  have f4 := O7.out.free 4
  have f5 := O7.out.free 5
  have f6 := O7.out.free 6
  have y0 := E7.out.cell 0 _ rfl
  have y1 := E7.out.free 0
  have a0 := A7.out.cell 0 _ rfl
  have a1 := A7.out.free 0
  have hne1 : be ≠ bo := by have := HORD.out; omega
  have hne2 : ba ≠ bo := by have := HORD.out; omega
  have hne3 : ba ≠ be := by have := HORD.out; omega
  go_wp2_with fail
  clear c0 c1 c2 c3 c4 c5 c6 z0 z1 z2 z3 z4 z5 z6 f0 f1 f2 f3 f4 f5 f6 y0 y1 a0 a1 d1 d2 hm7
  have q := O7.out.set 0 (.int .i64 x.f0)
  rw [show ([Value.int .i64 0, .string ⟨#[]⟩, .int .i64 0, .slice none 0 0, .string ⟨#[]⟩, .int .i64 0, .int .i64 0]).set 0 (.int .i64 x.f0) = [Value.int .i64 x.f0, .string ⟨#[]⟩, .int .i64 0, .slice none 0 0, .string ⟨#[]⟩, .int .i64 0, .int .i64 0] from rfl] at q
  rw [q]
  have O8 := Aside0.mk (show Rt 49 bo [Value.int .i64 x.f0, .string ⟨#[]⟩, .int .i64 0, .slice none 0 0, .string ⟨#[]⟩, .int .i64 0, .int .i64 0] (w7.setRow bo ([Value.int .i64 x.f0, .string ⟨#[]⟩, .int .i64 0, .slice none 0 0, .string ⟨#[]⟩, .int .i64 0, .int .i64 0]).toArray) from O7.out.row _)
  have E8 := Aside0.mk (show Rt 22 be [.int .i64 0] (w7.setRow bo ([Value.int .i64 x.f0, .string ⟨#[]⟩, .int .i64 0, .slice none 0 0, .string ⟨#[]⟩, .int .i64 0, .int .i64 0]).toArray) from (setRow_other _ _ _ _ hne1).trans E7.out)
  have A8 := Aside0.mk (show Rt 3 ba [.int .i64 0] (w7.setRow bo ([Value.int .i64 x.f0, .string ⟨#[]⟩, .int .i64 0, .slice none 0 0, .string ⟨#[]⟩, .int .i64 0, .int .i64 0]).toArray) from (setRow_other _ _ _ _ hne2).trans A7.out)
  have Lrq_8 := Aside0.mk (LN_alive.row Lrq_7.out (show bo < bo + 4 by omega) ([Value.int .i64 x.f0, .string ⟨#[]⟩, .int .i64 0, .slice none 0 0, .string ⟨#[]⟩, .int .i64 0, .int .i64 0]).toArray)
  have B8 := Aside0.mk (show Below bo W (w7.setRow bo ([Value.int .i64 x.f0, .string ⟨#[]⟩, .int .i64 0, .slice none 0 0, .string ⟨#[]⟩, .int .i64 0, .int .i64 0]).toArray) from below_setRow' B7.out (Nat.le_refl _) _)
  clear q
  generalize w7.setRow bo ([Value.int .i64 x.f0, .string ⟨#[]⟩, .int .i64 0, .slice none 0 0, .string ⟨#[]⟩, .int .i64 0, .int .i64 0]).toArray = w8 at *
  have q := O8.out.set 1 (.string x.f1.f0)
  rw [show ([Value.int .i64 x.f0, .string ⟨#[]⟩, .int .i64 0, .slice none 0 0, .string ⟨#[]⟩, .int .i64 0, .int .i64 0]).set 1 (.string x.f1.f0) = [Value.int .i64 x.f0, .string x.f1.f0, .int .i64 0, .slice none 0 0, .string ⟨#[]⟩, .int .i64 0, .int .i64 0] from rfl] at q
  rw [q]
  have O9 := Aside0.mk (show Rt 49 bo [Value.int .i64 x.f0, .string x.f1.f0, .int .i64 0, .slice none 0 0, .string ⟨#[]⟩, .int .i64 0, .int .i64 0] (w8.setRow bo ([Value.int .i64 x.f0, .string x.f1.f0, .int .i64 0, .slice none 0 0, .string ⟨#[]⟩, .int .i64 0, .int .i64 0]).toArray) from O8.out.row _)
  have E9 := Aside0.mk (show Rt 22 be [.int .i64 0] (w8.setRow bo ([Value.int .i64 x.f0, .string x.f1.f0, .int .i64 0, .slice none 0 0, .string ⟨#[]⟩, .int .i64 0, .int .i64 0]).toArray) from (setRow_other _ _ _ _ hne1).trans E8.out)
  have A9 := Aside0.mk (show Rt 3 ba [.int .i64 0] (w8.setRow bo ([Value.int .i64 x.f0, .string x.f1.f0, .int .i64 0, .slice none 0 0, .string ⟨#[]⟩, .int .i64 0, .int .i64 0]).toArray) from (setRow_other _ _ _ _ hne2).trans A8.out)
  have Lrq_9 := Aside0.mk (LN_alive.row Lrq_8.out (show bo < bo + 4 by omega) ([Value.int .i64 x.f0, .string x.f1.f0, .int .i64 0, .slice none 0 0, .string ⟨#[]⟩, .int .i64 0, .int .i64 0]).toArray)
  have B9 := Aside0.mk (show Below bo W (w8.setRow bo ([Value.int .i64 x.f0, .string x.f1.f0, .int .i64 0, .slice none 0 0, .string ⟨#[]⟩, .int .i64 0, .int .i64 0]).toArray) from below_setRow' B8.out (Nat.le_refl _) _)
  clear q
  generalize w8.setRow bo ([Value.int .i64 x.f0, .string x.f1.f0, .int .i64 0, .slice none 0 0, .string ⟨#[]⟩, .int .i64 0, .int .i64 0]).toArray = w9 at *
  have q := O9.out.set 2 (.int .i64 x.f1.f1)
  rw [show ([Value.int .i64 x.f0, .string x.f1.f0, .int .i64 0, .slice none 0 0, .string ⟨#[]⟩, .int .i64 0, .int .i64 0]).set 2 (.int .i64 x.f1.f1) = [Value.int .i64 x.f0, .string x.f1.f0, .int .i64 x.f1.f1, .slice none 0 0, .string ⟨#[]⟩, .int .i64 0, .int .i64 0] from rfl] at q
  rw [q]
  have O10 := Aside0.mk (show Rt 49 bo [Value.int .i64 x.f0, .string x.f1.f0, .int .i64 x.f1.f1, .slice none 0 0, .string ⟨#[]⟩, .int .i64 0, .int .i64 0] (w9.setRow bo ([Value.int .i64 x.f0, .string x.f1.f0, .int .i64 x.f1.f1, .slice none 0 0, .string ⟨#[]⟩, .int .i64 0, .int .i64 0]).toArray) from O9.out.row _)
  have E10 := Aside0.mk (show Rt 22 be [.int .i64 0] (w9.setRow bo ([Value.int .i64 x.f0, .string x.f1.f0, .int .i64 x.f1.f1, .slice none 0 0, .string ⟨#[]⟩, .int .i64 0, .int .i64 0]).toArray) from (setRow_other _ _ _ _ hne1).trans E9.out)
  have A10 := Aside0.mk (show Rt 3 ba [.int .i64 0] (w9.setRow bo ([Value.int .i64 x.f0, .string x.f1.f0, .int .i64 x.f1.f1, .slice none 0 0, .string ⟨#[]⟩, .int .i64 0, .int .i64 0]).toArray) from (setRow_other _ _ _ _ hne2).trans A9.out)
  have Lrq_10 := Aside0.mk (LN_alive.row Lrq_9.out (show bo < bo + 4 by omega) ([Value.int .i64 x.f0, .string x.f1.f0, .int .i64 x.f1.f1, .slice none 0 0, .string ⟨#[]⟩, .int .i64 0, .int .i64 0]).toArray)
  have B10 := Aside0.mk (show Below bo W (w9.setRow bo ([Value.int .i64 x.f0, .string x.f1.f0, .int .i64 x.f1.f1, .slice none 0 0, .string ⟨#[]⟩, .int .i64 0, .int .i64 0]).toArray) from below_setRow' B9.out (Nat.le_refl _) _)
  clear q
  generalize w9.setRow bo ([Value.int .i64 x.f0, .string x.f1.f0, .int .i64 x.f1.f1, .slice none 0 0, .string ⟨#[]⟩, .int .i64 0, .int .i64 0]).toArray = w10 at *
  have q := O10.out.set 3 (.slice Arq nrq crq)
  rw [show ([Value.int .i64 x.f0, .string x.f1.f0, .int .i64 x.f1.f1, .slice none 0 0, .string ⟨#[]⟩, .int .i64 0, .int .i64 0]).set 3 (.slice Arq nrq crq) = [Value.int .i64 x.f0, .string x.f1.f0, .int .i64 x.f1.f1, .slice Arq nrq crq, .string ⟨#[]⟩, .int .i64 0, .int .i64 0] from rfl] at q
  rw [q]
  have O11 := Aside0.mk (show Rt 49 bo [Value.int .i64 x.f0, .string x.f1.f0, .int .i64 x.f1.f1, .slice Arq nrq crq, .string ⟨#[]⟩, .int .i64 0, .int .i64 0] (w10.setRow bo ([Value.int .i64 x.f0, .string x.f1.f0, .int .i64 x.f1.f1, .slice Arq nrq crq, .string ⟨#[]⟩, .int .i64 0, .int .i64 0]).toArray) from O10.out.row _)
  have E11 := Aside0.mk (show Rt 22 be [.int .i64 0] (w10.setRow bo ([Value.int .i64 x.f0, .string x.f1.f0, .int .i64 x.f1.f1, .slice Arq nrq crq, .string ⟨#[]⟩, .int .i64 0, .int .i64 0]).toArray) from (setRow_other _ _ _ _ hne1).trans E10.out)
  have A11 := Aside0.mk (show Rt 3 ba [.int .i64 0] (w10.setRow bo ([Value.int .i64 x.f0, .string x.f1.f0, .int .i64 x.f1.f1, .slice Arq nrq crq, .string ⟨#[]⟩, .int .i64 0, .int .i64 0]).toArray) from (setRow_other _ _ _ _ hne2).trans A10.out)
  have Lrq_11 := Aside0.mk (LN_alive.row Lrq_10.out (show bo < bo + 4 by omega) ([Value.int .i64 x.f0, .string x.f1.f0, .int .i64 x.f1.f1, .slice Arq nrq crq, .string ⟨#[]⟩, .int .i64 0, .int .i64 0]).toArray)
  have B11 := Aside0.mk (show Below bo W (w10.setRow bo ([Value.int .i64 x.f0, .string x.f1.f0, .int .i64 x.f1.f1, .slice Arq nrq crq, .string ⟨#[]⟩, .int .i64 0, .int .i64 0]).toArray) from below_setRow' B10.out (Nat.le_refl _) _)
  clear q
  generalize w10.setRow bo ([Value.int .i64 x.f0, .string x.f1.f0, .int .i64 x.f1.f1, .slice Arq nrq crq, .string ⟨#[]⟩, .int .i64 0, .int .i64 0]).toArray = w11 at *
  have q := O11.out.set 4 (.string x.f1.f3)
  rw [show ([Value.int .i64 x.f0, .string x.f1.f0, .int .i64 x.f1.f1, .slice Arq nrq crq, .string ⟨#[]⟩, .int .i64 0, .int .i64 0]).set 4 (.string x.f1.f3) = [Value.int .i64 x.f0, .string x.f1.f0, .int .i64 x.f1.f1, .slice Arq nrq crq, .string x.f1.f3, .int .i64 0, .int .i64 0] from rfl] at q
  rw [q]
  have O12 := Aside0.mk (show Rt 49 bo [Value.int .i64 x.f0, .string x.f1.f0, .int .i64 x.f1.f1, .slice Arq nrq crq, .string x.f1.f3, .int .i64 0, .int .i64 0] (w11.setRow bo ([Value.int .i64 x.f0, .string x.f1.f0, .int .i64 x.f1.f1, .slice Arq nrq crq, .string x.f1.f3, .int .i64 0, .int .i64 0]).toArray) from O11.out.row _)
  have E12 := Aside0.mk (show Rt 22 be [.int .i64 0] (w11.setRow bo ([Value.int .i64 x.f0, .string x.f1.f0, .int .i64 x.f1.f1, .slice Arq nrq crq, .string x.f1.f3, .int .i64 0, .int .i64 0]).toArray) from (setRow_other _ _ _ _ hne1).trans E11.out)
  have A12 := Aside0.mk (show Rt 3 ba [.int .i64 0] (w11.setRow bo ([Value.int .i64 x.f0, .string x.f1.f0, .int .i64 x.f1.f1, .slice Arq nrq crq, .string x.f1.f3, .int .i64 0, .int .i64 0]).toArray) from (setRow_other _ _ _ _ hne2).trans A11.out)
  have Lrq_12 := Aside0.mk (LN_alive.row Lrq_11.out (show bo < bo + 4 by omega) ([Value.int .i64 x.f0, .string x.f1.f0, .int .i64 x.f1.f1, .slice Arq nrq crq, .string x.f1.f3, .int .i64 0, .int .i64 0]).toArray)
  have B12 := Aside0.mk (show Below bo W (w11.setRow bo ([Value.int .i64 x.f0, .string x.f1.f0, .int .i64 x.f1.f1, .slice Arq nrq crq, .string x.f1.f3, .int .i64 0, .int .i64 0]).toArray) from below_setRow' B11.out (Nat.le_refl _) _)
  clear q
  generalize w11.setRow bo ([Value.int .i64 x.f0, .string x.f1.f0, .int .i64 x.f1.f1, .slice Arq nrq crq, .string x.f1.f3, .int .i64 0, .int .i64 0]).toArray = w12 at *
  have q := O12.out.set 5 (.int .i64 x.f1.f4)
  rw [show ([Value.int .i64 x.f0, .string x.f1.f0, .int .i64 x.f1.f1, .slice Arq nrq crq, .string x.f1.f3, .int .i64 0, .int .i64 0]).set 5 (.int .i64 x.f1.f4) = [Value.int .i64 x.f0, .string x.f1.f0, .int .i64 x.f1.f1, .slice Arq nrq crq, .string x.f1.f3, .int .i64 x.f1.f4, .int .i64 0] from rfl] at q
  rw [q]
  have O13 := Aside0.mk (show Rt 49 bo [Value.int .i64 x.f0, .string x.f1.f0, .int .i64 x.f1.f1, .slice Arq nrq crq, .string x.f1.f3, .int .i64 x.f1.f4, .int .i64 0] (w12.setRow bo ([Value.int .i64 x.f0, .string x.f1.f0, .int .i64 x.f1.f1, .slice Arq nrq crq, .string x.f1.f3, .int .i64 x.f1.f4, .int .i64 0]).toArray) from O12.out.row _)
  have E13 := Aside0.mk (show Rt 22 be [.int .i64 0] (w12.setRow bo ([Value.int .i64 x.f0, .string x.f1.f0, .int .i64 x.f1.f1, .slice Arq nrq crq, .string x.f1.f3, .int .i64 x.f1.f4, .int .i64 0]).toArray) from (setRow_other _ _ _ _ hne1).trans E12.out)
  have A13 := Aside0.mk (show Rt 3 ba [.int .i64 0] (w12.setRow bo ([Value.int .i64 x.f0, .string x.f1.f0, .int .i64 x.f1.f1, .slice Arq nrq crq, .string x.f1.f3, .int .i64 x.f1.f4, .int .i64 0]).toArray) from (setRow_other _ _ _ _ hne2).trans A12.out)
  have Lrq_13 := Aside0.mk (LN_alive.row Lrq_12.out (show bo < bo + 4 by omega) ([Value.int .i64 x.f0, .string x.f1.f0, .int .i64 x.f1.f1, .slice Arq nrq crq, .string x.f1.f3, .int .i64 x.f1.f4, .int .i64 0]).toArray)
  have B13 := Aside0.mk (show Below bo W (w12.setRow bo ([Value.int .i64 x.f0, .string x.f1.f0, .int .i64 x.f1.f1, .slice Arq nrq crq, .string x.f1.f3, .int .i64 x.f1.f4, .int .i64 0]).toArray) from below_setRow' B12.out (Nat.le_refl _) _)
  clear q
  generalize w12.setRow bo ([Value.int .i64 x.f0, .string x.f1.f0, .int .i64 x.f1.f1, .slice Arq nrq crq, .string x.f1.f3, .int .i64 x.f1.f4, .int .i64 0]).toArray = w13 at *
  have q := O13.out.set 6 (.int .i64 x.f1.f5)
  rw [show ([Value.int .i64 x.f0, .string x.f1.f0, .int .i64 x.f1.f1, .slice Arq nrq crq, .string x.f1.f3, .int .i64 x.f1.f4, .int .i64 0]).set 6 (.int .i64 x.f1.f5) = [Value.int .i64 x.f0, .string x.f1.f0, .int .i64 x.f1.f1, .slice Arq nrq crq, .string x.f1.f3, .int .i64 x.f1.f4, .int .i64 x.f1.f5] from rfl] at q
  rw [q]
  have O14 := Aside0.mk (show Rt 49 bo [Value.int .i64 x.f0, .string x.f1.f0, .int .i64 x.f1.f1, .slice Arq nrq crq, .string x.f1.f3, .int .i64 x.f1.f4, .int .i64 x.f1.f5] (w13.setRow bo ([Value.int .i64 x.f0, .string x.f1.f0, .int .i64 x.f1.f1, .slice Arq nrq crq, .string x.f1.f3, .int .i64 x.f1.f4, .int .i64 x.f1.f5]).toArray) from O13.out.row _)
  have E14 := Aside0.mk (show Rt 22 be [.int .i64 0] (w13.setRow bo ([Value.int .i64 x.f0, .string x.f1.f0, .int .i64 x.f1.f1, .slice Arq nrq crq, .string x.f1.f3, .int .i64 x.f1.f4, .int .i64 x.f1.f5]).toArray) from (setRow_other _ _ _ _ hne1).trans E13.out)
  have A14 := Aside0.mk (show Rt 3 ba [.int .i64 0] (w13.setRow bo ([Value.int .i64 x.f0, .string x.f1.f0, .int .i64 x.f1.f1, .slice Arq nrq crq, .string x.f1.f3, .int .i64 x.f1.f4, .int .i64 x.f1.f5]).toArray) from (setRow_other _ _ _ _ hne2).trans A13.out)
  have Lrq_14 := Aside0.mk (LN_alive.row Lrq_13.out (show bo < bo + 4 by omega) ([Value.int .i64 x.f0, .string x.f1.f0, .int .i64 x.f1.f1, .slice Arq nrq crq, .string x.f1.f3, .int .i64 x.f1.f4, .int .i64 x.f1.f5]).toArray)
  have B14 := Aside0.mk (show Below bo W (w13.setRow bo ([Value.int .i64 x.f0, .string x.f1.f0, .int .i64 x.f1.f1, .slice Arq nrq crq, .string x.f1.f3, .int .i64 x.f1.f4, .int .i64 x.f1.f5]).toArray) from below_setRow' B13.out (Nat.le_refl _) _)
  clear q
  generalize w13.setRow bo ([Value.int .i64 x.f0, .string x.f1.f0, .int .i64 x.f1.f1, .slice Arq nrq crq, .string x.f1.f3, .int .i64 x.f1.f4, .int .i64 x.f1.f5]).toArray = w14 at *
  rw [E14.out.same 0 _ rfl, A14.out.same 0 _ rfl]
  refine leaves_cons (f := 124) (args := #[ptr bo, ptr be, ptr ba]) (by simp) (by simp [go_sem]) ?_
  refine (idle_rec (bo := bo) (be := be) (ba := ba) w14).mono ?_
  rintro e u' w' ⟨rfl, rfl, hb⟩
  have ho := O14.out.below hb
  have he := E14.out.below hb
  have ha := A14.out.below hb
  have hrq := LN_alive.below Lrq_14.out hb
  have x0 := ho.cell 0 _ rfl
  have x1 := ho.cell 1 _ rfl
  have x2 := ho.cell 2 _ rfl
  have x3 := ho.cell 3 _ rfl
  have x4 := ho.cell 4 _ rfl
  have x5 := ho.cell 5 _ rfl
  have x6 := ho.cell 6 _ rfl
  have y0 := he.cell 0 _ rfl
  have z0 := ha.cell 0 _ rfl
  rw [HR.out]
  simp [Leaves, settle, results, Try.results79, go_sem, x0, x1, x2, x3, x4, x5, x6, y0, z0]
  refine ⟨by rw [HBO.out]; exact B14.out.trans (hb.mono (by have := B14.out.size; have := HBO.out; omega)), _, ⟨rfl, rfl, rfl⟩, Arq, nrq, crq, rfl, LN_alive.lower hrq (by have := HBO.out; omega)⟩
def zeroD_rec : RecD := ⟨0, ⟨⟨#[]⟩, 0, [], ⟨#[]⟩, 0, 0⟩⟩
theorem enc_out_rec {S0 : Nat} {r : Res RecD} {v : Value} {w : World} (h : RdOut memRec zero_rec S0 r v w) : memRec S0 (outOr zeroD_rec r) v w := by
  cases r with
  | ok x n => exact h
  | fail e p =>
    have h : v = .agg zero_rec.toArray := h
    subst h
    exact ⟨none, 0, 0, rfl, Kd.R_nil _ _ _ _ _⟩
theorem Rt.full_rec {t b : Nat} {z0 z1 z2 z3 z4 z5 z6 : Value} {W : World} (h : Rt t b [z0, z1, z2, z3, z4, z5, z6] W) (a0 a1 a2 a3 a4 a5 a6 : Value) :
    (((((((W.setCell ⟨b, 0, none⟩ a0).setCell ⟨b, 1, none⟩ a1).setCell ⟨b, 2, none⟩ a2).setCell ⟨b, 3, none⟩ a3).setCell ⟨b, 4, none⟩ a4).setCell ⟨b, 5, none⟩ a5).setCell ⟨b, 6, none⟩ a6) = W.setRow b [a0, a1, a2, a3, a4, a5, a6].toArray := by
  rw [h.set 0 a0]
  have h0 : Rt t b [a0, z1, z2, z3, z4, z5, z6] (W.setRow b ([z0, z1, z2, z3, z4, z5, z6].set 0 a0).toArray) := h.row _
  rw [h0.set 1 a1, setRow_again]
  have h1 : Rt t b [a0, a1, z2, z3, z4, z5, z6] (W.setRow b ([a0, z1, z2, z3, z4, z5, z6].set 1 a1).toArray) := h.row _
  rw [h1.set 2 a2, setRow_again]
  have h2 : Rt t b [a0, a1, a2, z3, z4, z5, z6] (W.setRow b ([a0, a1, z2, z3, z4, z5, z6].set 2 a2).toArray) := h.row _
  rw [h2.set 3 a3, setRow_again]
  have h3 : Rt t b [a0, a1, a2, a3, z4, z5, z6] (W.setRow b ([a0, a1, a2, z3, z4, z5, z6].set 3 a3).toArray) := h.row _
  rw [h3.set 4 a4, setRow_again]
  have h4 : Rt t b [a0, a1, a2, a3, a4, z5, z6] (W.setRow b ([a0, a1, a2, a3, z4, z5, z6].set 4 a4).toArray) := h.row _
  rw [h4.set 5 a5, setRow_again]
  have h5 : Rt t b [a0, a1, a2, a3, a4, a5, z6] (W.setRow b ([a0, a1, a2, a3, a4, z5, z6].set 5 a5).toArray) := h.row _
  rw [h5.set 6 a6, setRow_again]
  rfl
theorem Record_at (A : Option Addr) (n c : Nat) (xs : List Int) (W : World) (hC : Kd.C (Kd.int .u8) W A n xs) (hnc : n ≤ c) (hb : IsBytes xs) (hbig : n < 1000000000) :
    Calls Try.prog 29 #[.slice A n c] W fun e w' => Below W.heap.size W w' ∧ ∃ v, e = .returned (.tuple #[v, .int .i64 (endOf (whole 83 4096 xs (pRec xs 4096))).1, .int .i64 (endOf (whole 83 4096 xs (pRec xs 4096))).2]) ∧ memRec W.heap.size (outOr zeroD_rec (whole 83 4096 xs (pRec xs 4096))) v w' := by
  have hb1 : Below W.heap.size W (W.alloc (.cells #[.int .i64 0, .string ⟨#[]⟩, .int .i64 0, .slice none 0 0, .string ⟨#[]⟩, .int .i64 0, .int .i64 0] 49)) := below_alloc (Below.refl _ _) _
  have r1 : Rt 49 W.heap.size zero_rec (W.alloc (.cells #[.int .i64 0, .string ⟨#[]⟩, .int .i64 0, .slice none 0 0, .string ⟨#[]⟩, .int .i64 0, .int .i64 0] 49)) := heap_alloc_new W _
  have hC1 := Kd.C_below hC hb1
  have HRD := Aside0.mk (read_record A n c xs (W.alloc (.cells #[.int .i64 0, .string ⟨#[]⟩, .int .i64 0, .slice none 0 0, .string ⟨#[]⟩, .int .i64 0, .int .i64 0] 49)) hC1 hnc hb hbig)
  generalize whole 83 4096 xs (pRec xs 4096) = rr at *
  have B1 := Aside0.mk hb1
  clear hC hC1 hnc hb hbig
  go_enter Try.func29, Try.ntmps29
  go_upto_region 1 with fail
  obtain ⟨b, hbe⟩ : ∃ b, W.heap.size = b := ⟨_, rfl⟩
  have HBE := Aside0.mk hbe
  rw [hbe] at r1 ⊢
  have R1 := Aside0.mk r1
  clear hb1 r1 hbe
  generalize W.alloc (.cells #[.int .i64 0, .string ⟨#[]⟩, .int .i64 0, .slice none 0 0, .string ⟨#[]⟩, .int .i64 0, .int .i64 0] 49) = w1 at *
  go_wp2_with fail
  go_at_call 79
  refine HRD.out.mono ?_
  rintro e w2 ⟨hb, v, rfl, ho⟩
  obtain ⟨Arq, nrq, crq, hv, hrq⟩ := enc_out_rec ho
  subst hv
  obtain ⟨x, hx⟩ : ∃ x, outOr zeroD_rec rr = x := ⟨_, rfl⟩
  obtain ⟨ec, hec⟩ : ∃ ec, (endOf rr).1 = ec := ⟨_, rfl⟩
  obtain ⟨ep, hep⟩ : ∃ ep, (endOf rr).2 = ep := ⟨_, rfl⟩
  rw [hx] at hrq ⊢
  rw [hec, hep]
  have HX := Aside0.mk (And.intro hx (And.intro hec hep))
  have R2 := Aside0.mk (R1.out.below hb)
  have Lrq_2 := Aside0.mk (LN_alive.lower hrq R1.out.lt)
  have B2 := Aside0.mk (show Below W.heap.size W w2 from B1.out.trans (hb.mono B1.out.size))
  clear hb ho hrq HRD hx hec hep
  have z0 := R2.out.cell 0 _ rfl
  have f0 := R2.out.free 0
  have z1 := R2.out.cell 1 _ rfl
  have f1 := R2.out.free 1
  have z2 := R2.out.cell 2 _ rfl
  have f2 := R2.out.free 2
  have z3 := R2.out.cell 3 _ rfl
  have f3 := R2.out.free 3
  have z4 := R2.out.cell 4 _ rfl
  have f4 := R2.out.free 4
  have z5 := R2.out.cell 5 _ rfl
  have f5 := R2.out.free 5
  have z6 := R2.out.cell 6 _ rfl
  have f6 := R2.out.free 6
  go_wp2_with fail
  rw [R2.out.full_rec]
  have R3 : Rt 49 b [.int .i64 x.f0, .string x.f1.f0, .int .i64 x.f1.f1, .slice Arq nrq crq, .string x.f1.f3, .int .i64 x.f1.f4, .int .i64 x.f1.f5] (w2.setRow b [Value.int .i64 x.f0, .string x.f1.f0, .int .i64 x.f1.f1, .slice Arq nrq crq, .string x.f1.f3, .int .i64 x.f1.f4, .int .i64 x.f1.f5].toArray) := R2.out.row _
  have Lrq_3 := LN_alive.row Lrq_2.out (Nat.lt_succ_self b) [Value.int .i64 x.f0, .string x.f1.f0, .int .i64 x.f1.f1, .slice Arq nrq crq, .string x.f1.f3, .int .i64 x.f1.f4, .int .i64 x.f1.f5].toArray
  have B3 : Below W.heap.size W (w2.setRow b [Value.int .i64 x.f0, .string x.f1.f0, .int .i64 x.f1.f1, .slice Arq nrq crq, .string x.f1.f3, .int .i64 x.f1.f4, .int .i64 x.f1.f5].toArray) := below_setRow' B2.out (Nat.le_of_eq HBE.out) _
  clear z0 f0 z1 f1 z2 f2 z3 f3 z4 f4 z5 f5 z6 f6
  generalize w2.setRow b [Value.int .i64 x.f0, .string x.f1.f0, .int .i64 x.f1.f1, .slice Arq nrq crq, .string x.f1.f3, .int .i64 x.f1.f4, .int .i64 x.f1.f5].toArray = w3 at *
  have x0 := R3.cell 0 _ rfl
  have x1 := R3.cell 1 _ rfl
  have x2 := R3.cell 2 _ rfl
  have x3 := R3.cell 3 _ rfl
  have x4 := R3.cell 4 _ rfl
  have x5 := R3.cell 5 _ rfl
  have x6 := R3.cell 6 _ rfl
  refine ⟨rfl, ?_⟩
  simp [results, Try.results29, go_sem, x0, x1, x2, x3, x4, x5, x6]
  refine ⟨B3, _, ⟨rfl, HX.out.2.1.symm, HX.out.2.2.symm⟩, ?_⟩
  rw [HX.out.1]
  exact ⟨Arq, nrq, crq, rfl, LN_alive.lower Lrq_3 (by have := HBE.out; omega)⟩
end Go.Proofs.Ytafmoglaockepaa.Cd
end
section
namespace Go.Proofs.Ytafmoglaockepaa.Cd
open Go Go.RowKit Go.Proofs.Ytafmoglaockepaa.Num Go.Proofs.Ytafmoglaockepaa.PG Go.Proofs.YtafmoglaockepaaW.PrintWords Go.Proofs.YtafmoglaockepaaW.PrintLast Go.Proofs.YtafmoglaockepaaW.PrintMore
set_option linter.unusedVariables false
set_option linter.unusedSimpArgs false
set_option maxHeartbeats 4000000
set_option maxRecDepth 100000
abbrev zero_st : List Value := [.int .i64 0, .int .i64 0, .int .i64 0, .slice none 0 0, .slice none 0 0, .slice none 0 0]
theorem catch_st {bo be ba : Nat} {ve va : Value} (er p : Int) (older : List PanicEntry) (w : World) (ho : Rt 58 bo zero_st w) (he : Rt 22 be [ve] w) (ha : Rt 3 ba [va] w) (h1 : bo ≠ be) (h2 : bo ≠ ba) (h3 : be ≠ ba) :
    CallsD Try.prog 128 #[ptr bo, ptr be, ptr ba] (.panicking ({ v := fault er p, recovered := false } :: older)) w fun e u' w' =>
      e = .returned (.tuple #[]) ∧ u' = .panicking ({ v := fault er p, recovered := true } :: older) ∧ Rt 58 bo zero_st w' ∧ Rt 22 be [.int .i64 er] w' ∧ Rt 3 ba [.int .i64 p] w' ∧ Kept w w' (fun j => j = bo ∨ j = be ∨ j = ba) ∧ ∀ B, B ≤ be → B ≤ ba → B ≤ w.heap.size → Below B w w' := by
  have HO := Aside0.mk ho
  have HE := Aside0.mk he
  have HA := Aside0.mk ha
  have hu155 := Try.underlying155
  clear ho he ha
  refine callsD_of_wpS Try.func128 rfl fun c₀ cs hu => ?_
  simp only [Try.ntmps128, List.size_toArray, List.length_cons, List.length_nil, Nat.reduceAdd, Nat.reduceSub, Array.replicate_succ, Array.replicate_zero, List.push_toArray, List.append_toArray, List.nil_append, List.cons_append]
  apply wpS_seq
  refine wpS_recovers (v := fault er p) (cs' := { c₀ with mode := .panicking ({ v := fault er p, recovered := true } :: older) } :: cs) (by rfl) (by simp [go_sem]) (by simp [recoverD, hu]) ?_ ?_
  · rintro ⟨a, w, u', h, _⟩
    cases h
  simp only [Act.put, List.setIfInBounds_toArray, List.set_cons_zero, List.set_cons_succ]
  unfold fault
  have hTA : ∀ v w, (Instr.typeAssert (.iface 155 v) 20 155 true).run Try.prog w = .ok (.tuple #[v, .bool true]) w := fun v w => by
    simp [Instr.typeAssert, run_underlying hu155]
  go_wp2_with fail
  simp only [Exit.thenS]
  refine wpS_of_wp ?_
  have hb1 : Below w.heap.size w (w.alloc (.cells #[.int .i64 er, .int .i64 p] 155)) := below_alloc (Below.refl _ _) _
  have hr3 : Rt 155 w.heap.size [.int .i64 er, .int .i64 p] (w.alloc (.cells #[.int .i64 er, .int .i64 p] 155)) := heap_alloc_new w _
  obtain ⟨b3, hb3⟩ : ∃ b3, w.heap.size = b3 := ⟨_, rfl⟩
  have HB3E := Aside0.mk hb3
  have O1 := Aside0.mk (HO.out.below hb1)
  have E1 := Aside0.mk (HE.out.below hb1)
  have A1 := Aside0.mk (HA.out.below hb1)
  have P1 := Aside0.mk (Kept.of_below hb1 (fun j => j = bo ∨ j = be ∨ j = ba))
  have W1 := Aside0.mk (show Below w.heap.size w (w.alloc (.cells #[.int .i64 er, .int .i64 p] 155)) from hb1)
  rw [hb3] at hr3 ⊢
  have R1 := Aside0.mk hr3
  clear hb1 hr3 hb3 hTA hu155 hu
  generalize w.alloc (.cells #[.int .i64 er, .int .i64 p] 155) = w1 at *
  go_upto_region 3 with fail
  have hb1 : Below w1.heap.size w1 (w1.alloc (.cells #[.int .i64 0, .int .i64 0, .int .i64 0, .slice none 0 0, .slice none 0 0, .slice none 0 0] 58)) := below_alloc (Below.refl _ _) _
  have hr5 : Rt 58 w1.heap.size zero_st (w1.alloc (.cells #[.int .i64 0, .int .i64 0, .int .i64 0, .slice none 0 0, .slice none 0 0, .slice none 0 0] 58)) := heap_alloc_new w1 _
  obtain ⟨b5, hb5⟩ : ∃ b5, w1.heap.size = b5 := ⟨_, rfl⟩
  have O2 := Aside0.mk (O1.out.below hb1)
  have E2 := Aside0.mk (E1.out.below hb1)
  have A2 := Aside0.mk (A1.out.below hb1)
  have R2 := Aside0.mk (R1.out.below hb1)
  have P2 := Aside0.mk (P1.out.below hb1)
  have W2 := Aside0.mk (W1.out.trans (hb1.mono W1.out.size))
  rw [hb5] at hr5 ⊢
  have Z2 := Aside0.mk hr5
  clear hb1 hr5 hb5 O1 E1 A1 R1 P1 W1
  generalize w1.alloc (.cells #[.int .i64 0, .int .i64 0, .int .i64 0, .slice none 0 0, .slice none 0 0, .slice none 0 0] 58) = w2 at *
  have MKS := Aside0.mk (show ∀ w' : World, (∀ j t (u : Array Value), w2.heap[j]? = some (Obj.cells u t (0, 0)) → t ≠ 22 → t ≠ 3 → w'.heap[j]? = w2.heap[j]?) → (fun w' : World => (w'.cell? ⟨b5, 0, none⟩ = some (.int .i64 0) ∧ w'.cell? ⟨b5, 1, none⟩ = some (.int .i64 0) ∧ w'.cell? ⟨b5, 2, none⟩ = some (.int .i64 0) ∧ w'.cell? ⟨b5, 3, none⟩ = some (.slice none 0 0) ∧ w'.cell? ⟨b5, 4, none⟩ = some (.slice none 0 0) ∧ w'.cell? ⟨b5, 5, none⟩ = some (.slice none 0 0)) ∧ w'.cell? ⟨b3, 0, none⟩ = some (.int .i64 er) ∧ w'.cell? ⟨b3, 1, none⟩ = some (.int .i64 p)) w' from fun w' hw => by
    have z : Rt 58 b5 zero_st w' := (hw b5 58 _ Z2.out (by decide) (by decide)).trans Z2.out
    have r : Rt 155 b3 [.int .i64 er, .int .i64 p] w' := (hw b3 155 _ R2.out (by decide) (by decide)).trans R2.out
    exact ⟨⟨z.cell 0 _ rfl, z.cell 1 _ rfl, z.cell 2 _ rfl, z.cell 3 _ rfl, z.cell 4 _ rfl, z.cell 5 _ rfl⟩, r.cell 0 _ rfl, r.cell 1 _ rfl⟩)
  refine wp_region_held_drew (S := fun w' : World => (w'.cell? ⟨b5, 0, none⟩ = some (.int .i64 0) ∧ w'.cell? ⟨b5, 1, none⟩ = some (.int .i64 0) ∧ w'.cell? ⟨b5, 2, none⟩ = some (.int .i64 0) ∧ w'.cell? ⟨b5, 3, none⟩ = some (.slice none 0 0) ∧ w'.cell? ⟨b5, 4, none⟩ = some (.slice none 0 0) ∧ w'.cell? ⟨b5, 5, none⟩ = some (.slice none 0 0)) ∧ w'.cell? ⟨b3, 0, none⟩ = some (.int .i64 er) ∧ w'.cell? ⟨b3, 1, none⟩ = some (.int .i64 p)) (by kernel_rfl) (MKS.out _ (fun _ _ _ _ _ _ => rfl)) (fun hHeld => ?_)
  refine wpAnyH_take (i := 0) (oi := { dst := some 12, op := Op.load 58 (Operand.tmp 5), type := 58, pos := "read.go:88", after := #[], guard := none }) (v := ?_) rfl (by kernel_rfl) (by kernel_rfl) (by kernel_rfl) (fun _ _ _ h => h) (Or.inl ⟨by rfl, ?_⟩) hHeld ?_
  rotate_left
  · intro w' hS; obtain ⟨⟨hS0, hS1, hS2, hS3, hS4, hS5⟩, hS6, hS7⟩ := hS; go_simp; all_goals (with_reducible rfl)
  (try simp only [Act.put, List.setIfInBounds_toArray, List.set_cons_zero, List.set_cons_succ])
  refine wpAnyH_take (i := 1) (oi := { dst := some 13, op := Op.fieldAddr 155 (Operand.tmp 3) 0, type := 0, pos := "read.go:88", after := #[{ on := 5, ground := Ground.gcOnly Departure.lateStores }], guard := none }) (v := ?_) rfl (by kernel_rfl) (by kernel_rfl) (by kernel_rfl) (fun _ _ _ h => h) (Or.inl ⟨by rfl, ?_⟩) hHeld ?_
  rotate_left
  · intro w' hS; obtain ⟨⟨hS0, hS1, hS2, hS3, hS4, hS5⟩, hS6, hS7⟩ := hS; go_simp; all_goals (with_reducible rfl)
  (try simp only [Act.put, List.setIfInBounds_toArray, List.set_cons_zero, List.set_cons_succ])
  refine wpAnyH_take (i := 2) (oi := { dst := some 14, op := Op.load 22 (Operand.tmp 13), type := 22, pos := "read.go:88", after := #[{ on := 1, ground := Ground.data }, { on := 5, ground := Ground.gcOnly Departure.lateStores }], guard := none }) (v := ?_) rfl (by kernel_rfl) (by kernel_rfl) (by kernel_rfl) (fun _ _ _ h => h) (Or.inl ⟨by rfl, ?_⟩) hHeld ?_
  rotate_left
  · intro w' hS; obtain ⟨⟨hS0, hS1, hS2, hS3, hS4, hS5⟩, hS6, hS7⟩ := hS; go_simp; all_goals (with_reducible rfl)
  (try simp only [Act.put, List.setIfInBounds_toArray, List.set_cons_zero, List.set_cons_succ])
  refine wpAnyH_take (i := 3) (oi := { dst := some 15, op := Op.fieldAddr 155 (Operand.tmp 3) 1, type := 0, pos := "read.go:88", after := #[{ on := 6, ground := Ground.gcOnly Departure.lateStores }], guard := none }) (v := ?_) rfl (by kernel_rfl) (by kernel_rfl) (by kernel_rfl) (fun _ _ _ h => h) (Or.inl ⟨by rfl, ?_⟩) hHeld ?_
  rotate_left
  · intro w' hS; obtain ⟨⟨hS0, hS1, hS2, hS3, hS4, hS5⟩, hS6, hS7⟩ := hS; go_simp; all_goals (with_reducible rfl)
  (try simp only [Act.put, List.setIfInBounds_toArray, List.set_cons_zero, List.set_cons_succ])
  refine wpAnyH_take (i := 4) (oi := { dst := some 16, op := Op.load 3 (Operand.tmp 15), type := 3, pos := "read.go:88", after := #[{ on := 3, ground := Ground.data }, { on := 6, ground := Ground.gcOnly Departure.lateStores }], guard := none }) (v := ?_) rfl (by kernel_rfl) (by kernel_rfl) (by kernel_rfl) (fun _ _ _ h => h) (Or.inl ⟨by rfl, ?_⟩) hHeld ?_
  rotate_left
  · intro w' hS; obtain ⟨⟨hS0, hS1, hS2, hS3, hS4, hS5⟩, hS6, hS7⟩ := hS; go_simp; all_goals (with_reducible rfl)
  (try simp only [Act.put, List.setIfInBounds_toArray, List.set_cons_zero, List.set_cons_succ])
  refine wpAnyH_ready (rs := [5]) (by kernel_rfl) (by simp) ?_
  refine AllReadyH.cons (o := { dst := none, op := Op.store 58 (Operand.tmp 0) (Operand.tmp 12), type := 0, pos := "read.go:88", after := #[{ on := 0, ground := Ground.data }, { on := 0, ground := Ground.phase }, { on := 1, ground := Ground.textOnly Departure.lateStores }, { on := 2, ground := Ground.textOnly Departure.lateStores }, { on := 3, ground := Ground.textOnly Departure.lateStores }, { on := 4, ground := Ground.textOnly Departure.lateStores }], guard := none }) rfl (fun K hK => ?_) AllReadyH.nil
  have d0 := O2.out.cell 0 _ rfl
  have d1 := O2.out.cell 1 _ rfl
  have d2 := O2.out.cell 2 _ rfl
  have d3 := O2.out.cell 3 _ rfl
  have d4 := O2.out.cell 4 _ rfl
  have d5 := O2.out.cell 5 _ rfl
  have f0 := O2.out.free 0
  have f1 := O2.out.free 1
  have f2 := O2.out.free 2
  have f3 := O2.out.free 3
  have f4 := O2.out.free 4
  have f5 := O2.out.free 5
  go_simp
  rw [O2.out.same 0 _ rfl, O2.out.same 1 _ rfl, O2.out.same 2 _ rfl, O2.out.same 3 _ rfl, O2.out.same 4 _ rfl, O2.out.same 5 _ rfl]
  clear d0 d1 d2 d3 d4 d5 f0 f1 f2 f3 f4 f5
  refine hK.out _ _ (MKS.out _ (fun _ _ _ _ _ _ => rfl)) (fun hHeld => ?_)
  clear hK K
  (try simp only [Act.put, List.setIfInBounds_toArray, List.set_cons_zero, List.set_cons_succ])
  refine wpAnyH_ready (rs := [6]) (by kernel_rfl) (by simp) ?_
  refine AllReadyH.cons (o := { dst := none, op := Op.store 22 (Operand.tmp 1) (Operand.tmp 14), type := 0, pos := "read.go:88", after := #[{ on := 2, ground := Ground.data }, { on := 5, ground := Ground.chain }, { on := 0, ground := Ground.phase }, { on := 1, ground := Ground.phase }, { on := 2, ground := Ground.phase }, { on := 3, ground := Ground.textOnly Departure.lateStores }, { on := 4, ground := Ground.textOnly Departure.lateStores }, { on := 5, ground := Ground.phase }], guard := none }) rfl (fun K hK => ?_) AllReadyH.nil
  have d0 := E2.out.cell 0 _ rfl
  have f0 := E2.out.free 0
  go_simp
  rw [E2.out.set 0 (.int .i64 er), show [ve].set 0 (.int .i64 er) = [Value.int .i64 er] from rfl]
  have E6 := Aside0.mk (show Rt 22 be [.int .i64 er] (w2.setRow be [Value.int .i64 er].toArray) from E2.out.row _)
  have A6 := Aside0.mk (show Rt 3 ba [va] (w2.setRow be [Value.int .i64 er].toArray) from (setRow_other _ _ _ _ (Ne.symm h3)).trans A2.out)
  clear d0 f0
  refine hK.out _ _ (MKS.out _ (fun j t u hj h22 h3' => setRow_other _ _ _ _ (fun e => h22 (by rw [e] at hj; exact blk_types hj E2.out)))) (fun hHeld => ?_)
  clear hK K
  (try simp only [Act.put, List.setIfInBounds_toArray, List.set_cons_zero, List.set_cons_succ])
  refine wpAnyH_ready (rs := [7]) (by kernel_rfl) (by simp) ?_
  refine AllReadyH.cons (o := { dst := none, op := Op.store 3 (Operand.tmp 2) (Operand.tmp 16), type := 0, pos := "read.go:88", after := #[{ on := 4, ground := Ground.data }, { on := 6, ground := Ground.chain }, { on := 0, ground := Ground.phase }, { on := 1, ground := Ground.phase }, { on := 2, ground := Ground.phase }, { on := 3, ground := Ground.phase }, { on := 4, ground := Ground.phase }, { on := 5, ground := Ground.phase }, { on := 6, ground := Ground.phase }], guard := none }) rfl (fun K hK => ?_) AllReadyH.nil
  have d0 := A6.out.cell 0 _ rfl
  have f0 := A6.out.free 0
  go_simp
  rw [A6.out.set 0 (.int .i64 p), show [va].set 0 (.int .i64 p) = [Value.int .i64 p] from rfl]
  have A7 := Aside0.mk (show Rt 3 ba [.int .i64 p] ((w2.setRow be [Value.int .i64 er].toArray).setRow ba [Value.int .i64 p].toArray) from A6.out.row _)
  have E7 := Aside0.mk (show Rt 22 be [.int .i64 er] ((w2.setRow be [Value.int .i64 er].toArray).setRow ba [Value.int .i64 p].toArray) from (setRow_other _ _ _ _ h3).trans E6.out)
  have O7 := Aside0.mk (show Rt 58 bo zero_st ((w2.setRow be [Value.int .i64 er].toArray).setRow ba [Value.int .i64 p].toArray) from (setRow_other _ _ _ _ h2).trans ((setRow_other _ _ _ _ h1).trans O2.out))
  have P7 := Aside0.mk (show Kept w ((w2.setRow be [Value.int .i64 er].toArray).setRow ba [Value.int .i64 p].toArray) (fun j => j = bo ∨ j = be ∨ j = ba) from ⟨by rw [setRow_size, setRow_size]; exact P2.out.1, fun j hj hn => (setRow_other _ _ _ _ (fun e => hn (.inr (.inr e)))).trans ((setRow_other _ _ _ _ (fun e => hn (.inr (.inl e)))).trans (P2.out.2 j hj hn))⟩)
  clear d0 f0
  refine hK.out _ _ (MKS.out _ (fun j t u hj h22 h3' => (setRow_other _ _ _ _ (fun e => h3' (by rw [e] at hj; exact blk_types hj A2.out))).trans (setRow_other _ _ _ _ (fun e => h22 (by rw [e] at hj; exact blk_types hj E2.out))))) (fun hHeld => ?_)
  clear hK K
  (try simp only [Act.put, List.setIfInBounds_toArray, List.set_cons_zero, List.set_cons_succ])
  refine wpAnyH_done (by kernel_rfl) ?_ _
  (try simp only [Act.put, List.setIfInBounds_toArray, List.set_cons_zero, List.set_cons_succ])
  try simp only [Exit.then]
  refine ⟨rfl, _, rfl, ?_⟩
  refine ⟨.tuple #[], by simp [results, Try.f128, Try.results128], rfl, rfl, O7.out, E7.out, A7.out, P7.out, fun B h1 h2 h3 => ?_⟩
  exact below_drew (below_setRow' (below_setRow' (W2.out.mono (by have := HB3E.out; omega)) h1 _) h2 _)
theorem idle_st {bo be ba : Nat} (w : World) :
    CallsD Try.prog 128 #[ptr bo, ptr be, ptr ba] .returning w fun e u' w' => e = .returned (.tuple #[]) ∧ u' = .returning ∧ Below w.heap.size w w' := by
  have hu155 := Try.underlying155
  refine callsD_of_wpS Try.func128 rfl fun c₀ cs hu => ?_
  simp only [Try.ntmps128, List.size_toArray, List.length_cons, List.length_nil, Nat.reduceAdd, Nat.reduceSub, Array.replicate_succ, Array.replicate_zero, List.push_toArray, List.append_toArray, List.nil_append, List.cons_append]
  apply wpS_seq
  refine wpS_recovers_none (by rfl) (by simp [go_sem]) (by simp [recoverD, hu]) ?_ ?_
  · rintro ⟨a, w, u', h, _⟩
    cases h
  simp only [Act.put, List.setIfInBounds_toArray, List.set_cons_zero, List.set_cons_succ]
  obtain ⟨i, hi, hz, _, _⟩ : ∃ i, Try.prog.info? 155 = some i ∧ i.zero = some (.agg #[.int .i64 0, .int .i64 0]) ∧ i.size = 2 ∧ True := by
    have h : (Try.prog.info? 155).map (fun i => (i.zero, i.size)) = some (some (.agg #[.int .i64 0, .int .i64 0]), 2) := by kernel_rfl
    obtain ⟨i, hi, he⟩ := Option.map_eq_some_iff.1 h
    simp only [Prod.mk.injEq] at he
    exact ⟨i, hi, he.1, he.2, trivial⟩
  have hTA : ∀ w, (Instr.typeAssert .nilIface 20 155 true).run Try.prog w = .ok (.tuple #[.agg #[.int .i64 0, .int .i64 0], .bool false]) w := fun w => by
    simp [Instr.typeAssert, run_underlying hu155, zeroValue, typeInfo, hi, hz]
  have hb1 : Below w.heap.size w (w.alloc (.cells #[.int .i64 0, .int .i64 0] 155)) := below_alloc (Below.refl _ _) _
  have HB := Aside0.mk hb1
  clear hb1
  go_wp2_with fail
  simp only [Exit.thenS]
  refine wpS_of_wp ?_
  go_wp2_with fail
  refine ⟨rfl, .returning, ?_, .tuple #[], by simp [results, Try.f128, Try.results128], rfl, rfl, HB.out⟩
  rw [← hu]
theorem read_state (A : Option Addr) (n c : Nat) (xs : List Int) (W : World) (hC : Kd.C (Kd.int .u8) W A n xs) (hnc : n ≤ c) (hb : IsBytes xs) (hbig : n < 1000000000) :
    Calls Try.prog 89 #[.slice A n c, .int .u8 84, .int .i64 131072, .func (.func 90) #[] #[]] W fun e w' => Below W.heap.size W w' ∧ ∃ v, e = .returned (.tuple #[v, .int .i64 (endOf (whole 84 131072 xs (pSt xs 131072))).1, .int .i64 (endOf (whole 84 131072 xs (pSt xs 131072))).2]) ∧ RdOut memSt zero_st W.heap.size (whole 84 131072 xs (pSt xs 131072)) v w' := by
  have HC := Aside0.mk hC
  have HNC := Aside0.mk hnc
  have HBY := Aside0.mk hb
  have HBIG := Aside0.mk hbig
  have HLEN := Aside0.mk (show xs.length = n from Kd.C_len hC)
  have hmf : ∀ (fn : Fn) (first cap : Array Value) (w : World), (Instr.makeFunc fn first cap).run Try.prog w = .ok (.func fn first cap) w := fun _ _ _ _ => rfl
  clear hC hnc hb hbig
  obtain ⟨bo, hbo⟩ : ∃ bo, W.heap.size = bo := ⟨_, rfl⟩
  have HBO := Aside0.mk hbo
  clear hbo
  go_enter_defers Try.func89, Try.ntmps89
  go_upto_region 3 with fail
  have hb1 : Below W.heap.size W (W.alloc (.cells #[.int .i64 0, .int .i64 0, .int .i64 0, .slice none 0 0, .slice none 0 0, .slice none 0 0] 58)) := below_alloc (Below.refl _ _) _
  have o1 : Rt 58 W.heap.size zero_st (W.alloc (.cells #[.int .i64 0, .int .i64 0, .int .i64 0, .slice none 0 0, .slice none 0 0, .slice none 0 0] 58)) := heap_alloc_new W _
  have s1 : (W.alloc (.cells #[.int .i64 0, .int .i64 0, .int .i64 0, .slice none 0 0, .slice none 0 0, .slice none 0 0] 58)).heap.size = W.heap.size + 1 := by simp
  generalize W.alloc (.cells #[.int .i64 0, .int .i64 0, .int .i64 0, .slice none 0 0, .slice none 0 0, .slice none 0 0] 58) = wa at *
  have hb2 : Below wa.heap.size wa (wa.alloc (.cells #[.int .i64 0] 22)) := below_alloc (Below.refl _ _) _
  have e2 : Rt 22 wa.heap.size [.int .i64 0] (wa.alloc (.cells #[.int .i64 0] 22)) := heap_alloc_new wa _
  have o2 := o1.below hb2
  have s2 : (wa.alloc (.cells #[.int .i64 0] 22)).heap.size = wa.heap.size + 1 := by simp
  have hc2 := hb1.trans (hb2.mono hb1.size)
  generalize wa.alloc (.cells #[.int .i64 0] 22) = wb at *
  have hb3 : Below wb.heap.size wb (wb.alloc (.cells #[.int .i64 0] 3)) := below_alloc (Below.refl _ _) _
  have a3 : Rt 3 wb.heap.size [.int .i64 0] (wb.alloc (.cells #[.int .i64 0] 3)) := heap_alloc_new wb _
  have o3 := o2.below hb3
  have e3 := e2.below hb3
  have s3 : (wb.alloc (.cells #[.int .i64 0] 3)).heap.size = wb.heap.size + 1 := by simp
  have hc3 := hc2.trans (hb3.mono hc2.size)
  generalize wb.alloc (.cells #[.int .i64 0] 3) = wc at *
  have hb4 : Below wc.heap.size wc (wc.alloc (.cells #[.slice A n c, .int .i64 0, .int .i64 131072] 158)) := below_alloc (Below.refl _ _) _
  have g4 : Rt 158 wc.heap.size [.slice A n c, .int .i64 0, .int .i64 131072] (wc.alloc (.cells #[.slice A n c, .int .i64 0, .int .i64 131072] 158)) := heap_alloc_new wc _
  have o4 := o3.below hb4
  have e4 := e3.below hb4
  have a4 := a3.below hb4
  have hc4 := hc3.trans (hb4.mono hc3.size)
  have s4 : (wc.alloc (.cells #[.slice A n c, .int .i64 0, .int .i64 131072] 158)).heap.size = wc.heap.size + 1 := by simp
  generalize wc.alloc (.cells #[.slice A n c, .int .i64 0, .int .i64 131072] 158) = w4 at *
  rw [s3, s2, s1] at g4 s4
  rw [s2, s1] at a4
  rw [s1] at e4
  obtain ⟨be, hbe⟩ : ∃ be, W.heap.size + 1 = be := ⟨_, rfl⟩
  rw [hbe] at e4 a4 g4 s4 ⊢
  obtain ⟨ba, hba⟩ : ∃ ba, be + 1 = ba := ⟨_, rfl⟩
  rw [hba] at a4 g4 s4 ⊢
  obtain ⟨g, hg⟩ : ∃ g, ba + 1 = g := ⟨_, rfl⟩
  rw [hg] at g4 s4 ⊢
  rw [HBO.out] at o4 hbe ⊢
  have O4 := Aside0.mk o4
  have E4 := Aside0.mk e4
  have A4 := Aside0.mk a4
  have G4 := Aside0.mk g4
  have B4 := Aside0.mk (show Below bo W w4 by rw [← HBO.out]; exact hc4)
  have HORD := Aside0.mk (show be = bo + 1 ∧ ba = bo + 2 ∧ g = bo + 3 ∧ w4.heap.size = bo + 4 by omega)
  clear hb1 o1 s1 hb2 e2 o2 s2 hc2 hb3 a3 o3 e3 s3 hc3 hb4 o4 e4 a4 hc4 s4 hbe hba hg g4 hmf
  have HFAULT := Aside0.mk (show ∀ (er p : Int) (w : World), Rt 58 bo zero_st w → Rt 22 be [.int .i64 0] w → Rt 3 ba [.int .i64 0] w → Below bo W w → CallsD Try.prog 128 #[ptr bo, ptr be, ptr ba] (.panicking [{ v := fault er p, recovered := false }]) w fun e u' w' =>
      e = .returned (.tuple #[]) ∧ u' = .panicking [{ v := fault er p, recovered := true }] ∧ Rt 58 bo zero_st w' ∧ Rt 22 be [.int .i64 er] w' ∧ Rt 3 ba [.int .i64 p] w' ∧ Below bo W w' from fun er p w ho he ha hb => by
    have := HORD.out
    refine (catch_st er p [] w ho he ha (by omega) (by omega) (by omega)).mono ?_
    rintro e u' w' ⟨h1, h2, h3, h4, h5, _, h6⟩
    exact ⟨h1, h2, h3, h4, h5, hb.trans (h6 bo (by omega) (by omega) (by have := hb.size; have := HBO.out; omega))⟩)
  by_cases hl : 131072 < n
  · have d1 : decide ((131072 : Int) < (n : Int)) = true := decide_eq_true (by omega)
    have d2 : decide (131072 < n) = true := decide_eq_true hl
    have HR := Aside0.mk (show whole 84 131072 xs (pSt xs 131072) = Res.fail 1 0 by
      unfold whole
      rw [HLEN.out, if_pos hl])
    clear hl
    go_wp2_with fail
    refine leaves_cons (f := 128) (args := #[ptr bo, ptr be, ptr ba]) (by simp) (by simp [go_sem]) ?_
    refine (HFAULT.out 1 0 w4 O4.out E4.out A4.out B4.out).mono ?_
    rintro e u' w' ⟨rfl, rfl, ho, he, ha, hb⟩
    have x0 := ho.cell 0 _ rfl
    have x1 := ho.cell 1 _ rfl
    have x2 := ho.cell 2 _ rfl
    have x3 := ho.cell 3 _ rfl
    have x4 := ho.cell 4 _ rfl
    have x5 := ho.cell 5 _ rfl
    have y0 := he.cell 0 _ rfl
    have z0 := ha.cell 0 _ rfl
    rw [HR.out]
    simp [Leaves, settle, results, Try.results89, go_sem, x0, x1, x2, x3, x4, x5, x5, y0, z0]
    exact ⟨by rw [HBO.out]; exact hb, _, ⟨rfl, rfl, rfl⟩, rfl⟩
  have d1 : decide ((131072 : Int) < (n : Int)) = false := decide_eq_false (by omega)
  have d2 : decide (131072 < n) = false := decide_eq_false hl
  have HL := Aside0.mk hl
  clear hl
  rcases Nat.eq_zero_or_pos n with hz | hz
  · have HR := Aside0.mk (show whole 84 131072 xs (pSt xs 131072) = Res.fail 3 0 by
      unfold whole
      rw [HLEN.out, if_neg HL.out, if_pos hz])
    have d3 : ((n : Int) == 0) = true := by simpa using hz
    have d4 : decide (n = 0) = true := decide_eq_true hz
    have d5 : (n : Int) = 0 := by omega
    go_wp2_with fail
    refine leaves_cons (f := 128) (args := #[ptr bo, ptr be, ptr ba]) (by simp) (by simp [go_sem]) ?_
    refine (HFAULT.out 3 0 w4 O4.out E4.out A4.out B4.out).mono ?_
    rintro e u' w' ⟨rfl, rfl, ho, he, ha, hb⟩
    have x0 := ho.cell 0 _ rfl
    have x1 := ho.cell 1 _ rfl
    have x2 := ho.cell 2 _ rfl
    have x3 := ho.cell 3 _ rfl
    have x4 := ho.cell 4 _ rfl
    have x5 := ho.cell 5 _ rfl
    have y0 := he.cell 0 _ rfl
    have z0 := ha.cell 0 _ rfl
    rw [HR.out]
    simp [Leaves, settle, results, Try.results89, go_sem, x0, x1, x2, x3, x4, x5, x5, y0, z0]
    exact ⟨by rw [HBO.out]; exact hb, _, ⟨rfl, rfl, rfl⟩, rfl⟩
  have d3 : ((n : Int) == 0) = false := by simp; omega
  have d4 : decide (n = 0) = false := decide_eq_false (by omega)
  have HZ := Aside0.mk hz
  have i0 : (0 : Int) < (n : Int) := by omega
  have hCx := Kd.C_below HC.out (show Below W.heap.size W w4 by rw [HBO.out]; exact B4.out)
  obtain ⟨ad, rfl, hcell⟩ := (Kd.reads_of_C (d := (0 : Int)) (h1 := fun _ => rfl) hCx).2.2 hz
  have k0 := hcell 0 hz
  obtain ⟨x, hx⟩ : ∃ x, xs.getD 0 0 = x := ⟨_, rfl⟩
  rw [hx] at k0
  have HX := Aside0.mk (show xs.headD 0 = x by rw [← hx]; cases xs <;> rfl)
  have k1 : w4.cell? ad = some (.int .u8 x) := by
    have e : ad.add 0 = ad := by simp [Addr.add]
    rwa [e] at k0
  clear hz hCx hcell hx
  by_cases hk : x = 84
  rotate_left
  · have HR := Aside0.mk (show whole 84 131072 xs (pSt xs 131072) = Res.fail 90 0 by
      unfold whole
      rw [HLEN.out, if_neg HL.out, if_neg (by have := HZ.out; omega), HX.out, if_pos hk])
    have d5 : (x != 84) = true := by simpa using hk
    have d6 : (x == 84) = false := by simpa using hk
    have d7 : decide (x = 84) = false := decide_eq_false hk
    clear hk
    go_wp2_with fail
    refine leaves_cons (f := 128) (args := #[ptr bo, ptr be, ptr ba]) (by simp) (by simp [go_sem]) ?_
    refine (HFAULT.out 90 0 w4 O4.out E4.out A4.out B4.out).mono ?_
    rintro e u' w' ⟨rfl, rfl, ho, he, ha, hb⟩
    have x0 := ho.cell 0 _ rfl
    have x1 := ho.cell 1 _ rfl
    have x2 := ho.cell 2 _ rfl
    have x3 := ho.cell 3 _ rfl
    have x4 := ho.cell 4 _ rfl
    have x5 := ho.cell 5 _ rfl
    have y0 := he.cell 0 _ rfl
    have z0 := ha.cell 0 _ rfl
    rw [HR.out]
    simp [Leaves, settle, results, Try.results89, go_sem, x0, x1, x2, x3, x4, x5, x5, y0, z0]
    exact ⟨by rw [HBO.out]; exact hb, _, ⟨rfl, rfl, rfl⟩, rfl⟩
  subst hk
  have hg1 := G4.out.cell 1 _ rfl
  have fg1 := G4.out.free 1
  go_upto_region 10 with fail
  rw [G4.out.set 1 (.int .i64 1)]
  have hl1 : [Value.slice (some ad) n c, .int .i64 0, .int .i64 131072].set 1 (.int .i64 1) = [Value.slice (some ad) n c, .int .i64 1, .int .i64 131072] := rfl
  rw [hl1]
  have K4 : CrAt g bo (some ad) n c xs 0 131072 w4 := ⟨G4.out, fun W' hb => Kd.C_below HC.out (by rw [HBO.out]; exact B4.out.trans hb), by have := HORD.out; omega, HNC.out, Nat.zero_le _, HBIG.out, by decide, HBY.out⟩
  have hmv := K4.moved (m' := 1) HZ.out
  have e1 : (((1 : Nat) : Int)) = 1 := rfl
  have e2 : (((131072 : Nat) : Int)) = 131072 := rfl
  rw [e1, e2] at hmv
  have K5 := Aside0.mk hmv.1
  have B5 := Aside0.mk (B4.out.trans hmv.2.1)
  have O5 := Aside0.mk (show Rt 58 bo zero_st (w4.setRow g [Value.slice (some ad) n c, .int .i64 1, .int .i64 131072].toArray) from (setRow_other _ _ _ _ (by have := HORD.out; omega)).trans O4.out)
  have E5 := Aside0.mk (show Rt 22 be [.int .i64 0] (w4.setRow g [Value.slice (some ad) n c, .int .i64 1, .int .i64 131072].toArray) from (setRow_other _ _ _ _ (by have := HORD.out; omega)).trans E4.out)
  have A5 := Aside0.mk (show Rt 3 ba [.int .i64 0] (w4.setRow g [Value.slice (some ad) n c, .int .i64 1, .int .i64 131072].toArray) from (setRow_other _ _ _ _ (by have := HORD.out; omega)).trans A4.out)
  have S5 := Aside0.mk (show bo + 4 ≤ (w4.setRow g [Value.slice (some ad) n c, .int .i64 1, .int .i64 131072].toArray).heap.size by rw [setRow_size]; have := HORD.out; omega)
  clear hmv K4 hl1 e1 e2 hg1 fg1 k0 k1 d1 d2 d3 d4 i0
  generalize w4.setRow g [Value.slice (some ad) n c, .int .i64 1, .int .i64 131072].toArray = w5 at *
  have HW := Aside0.mk (show whole 84 131072 xs (pSt xs 131072) = (pSt xs 131072 1).bind fun x n => if n < xs.length then .fail 4 (n : Int) else .ok x n by
    unfold whole
    rw [HLEN.out, if_neg HL.out, if_neg (by have := HZ.out; omega), HX.out, if_neg (by decide)])
  go_wp2_with fail
  go_at_call 90
  refine (r_state K5.out).mono ?_
  rintro e w6 ⟨hb, hp, ho⟩
  have O6 := Aside0.mk (show Rt 58 bo zero_st w6 from (hp.2 bo O5.out.lt (by have := HORD.out; show bo ≠ g; omega)).trans O5.out)
  have E6 := Aside0.mk (show Rt 22 be [.int .i64 0] w6 from (hp.2 be E5.out.lt (by have := HORD.out; show be ≠ g; omega)).trans E5.out)
  have A6 := Aside0.mk (show Rt 3 ba [.int .i64 0] w6 from (hp.2 ba A5.out.lt (by have := HORD.out; show ba ≠ g; omega)).trans A5.out)
  have B6 := Aside0.mk (B5.out.trans hb)
  rcases hq : pSt xs 131072 1 with ⟨x, m2⟩ | ⟨er, p⟩
  rotate_left
  · rw [hq] at ho
    have ho : e = gaveUp er p := ho
    subst ho
    have HR := Aside0.mk (show whole 84 131072 xs (pSt xs 131072) = Res.fail er p by rw [HW.out, hq]; rfl)
    clear hb hp hq
    simp only [gaveUp]
    refine leaves_cons (f := 128) (args := #[ptr bo, ptr be, ptr ba]) (by simp) (by simp [go_sem]) ?_
    refine (HFAULT.out er p w6 O6.out E6.out A6.out B6.out).mono ?_
    rintro e u' w' ⟨rfl, rfl, ho, he, ha, hb⟩
    have x0 := ho.cell 0 _ rfl
    have x1 := ho.cell 1 _ rfl
    have x2 := ho.cell 2 _ rfl
    have x3 := ho.cell 3 _ rfl
    have x4 := ho.cell 4 _ rfl
    have x5 := ho.cell 5 _ rfl
    have y0 := he.cell 0 _ rfl
    have z0 := ha.cell 0 _ rfl
    rw [HR.out]
    simp [Leaves, settle, results, Try.results89, go_sem, x0, x1, x2, x3, x4, x5, x5, y0, z0]
    exact ⟨by rw [HBO.out]; exact hb, _, ⟨rfl, rfl, rfl⟩, rfl⟩
  rw [hq] at ho
  obtain ⟨v, he, ⟨Al, nl, cl, Ah, nh, ch, Ad, nd, cd, hv, hl, hh, hd⟩, hk⟩ : ∃ v, e = .returned v ∧ memSt w5.heap.size x v w6 ∧ CrAt g bo (some ad) n c xs m2 131072 w6 := ho
  subst he hv
  have K6 := Aside0.mk hk
  have Ll_6 := Aside0.mk (LL_alive.lower hl S5.out)
  have Lh_6 := Aside0.mk (LH_alive.lower hh S5.out)
  have Ld_6 := Aside0.mk (LD_alive.lower hd S5.out)
  have HQ := Aside0.mk hq
  clear hb hp hq hl hh hd hk
  try clear ho
  go_upto_region 11 with fail
  have hb7 : Below w6.heap.size w6 (w6.alloc (.cells #[.int .i64 x.f0, .int .i64 x.f1, .int .i64 x.f2, .slice Al nl cl, .slice Ah nh ch, .slice Ad nd cd] 58)) := below_alloc (Below.refl _ _) _
  have r7 : Rt 58 w6.heap.size [.int .i64 x.f0, .int .i64 x.f1, .int .i64 x.f2, .slice Al nl cl, .slice Ah nh ch, .slice Ad nd cd] (w6.alloc (.cells #[.int .i64 x.f0, .int .i64 x.f1, .int .i64 x.f2, .slice Al nl cl, .slice Ah nh ch, .slice Ad nd cd] 58)) := heap_alloc_new w6 _
  obtain ⟨bx, hbx⟩ : ∃ bx, w6.heap.size = bx := ⟨_, rfl⟩
  have O7 := Aside0.mk (O6.out.below hb7)
  have E7 := Aside0.mk (E6.out.below hb7)
  have A7 := Aside0.mk (A6.out.below hb7)
  have K7 := Aside0.mk (K6.out.below hb7)
  have Ll_7 := Aside0.mk (LL_alive.below Ll_6.out hb7)
  have Lh_7 := Aside0.mk (LH_alive.below Lh_6.out hb7)
  have Ld_7 := Aside0.mk (LD_alive.below Ld_6.out hb7)
  have B7 := Aside0.mk (B6.out.trans (hb7.mono (by have := B6.out.size; have := HBO.out; omega)))
  have B7' := B7.out
  rw [hbx] at r7 ⊢
  have R7 := Aside0.mk r7
  clear hb7 r7 hbx B7'
  generalize w6.alloc (.cells #[.int .i64 x.f0, .int .i64 x.f1, .int .i64 x.f2, .slice Al nl cl, .slice Ah nh ch, .slice Ad nd cd] 58) = w7 at *
  have hm7 := K7.out.row.cell 1 _ rfl
  by_cases ht : m2 < n
  · have d1 : decide ((m2 : Int) < (n : Int)) = true := decide_eq_true (by omega)
    have d2 : decide (m2 < n) = true := decide_eq_true ht
    have HR := Aside0.mk (show whole 84 131072 xs (pSt xs 131072) = Res.fail 4 (m2 : Int) by
      rw [HW.out, HQ.out]
      show (if m2 < xs.length then Res.fail 4 (m2 : Int) else Res.ok x m2) = _
      rw [HLEN.out, if_pos ht])
    clear ht
    go_wp2_with fail
    refine leaves_cons (f := 128) (args := #[ptr bo, ptr be, ptr ba]) (by simp) (by simp [go_sem]) ?_
    refine (HFAULT.out 4 (m2 : Int) w7 O7.out E7.out A7.out B7.out).mono ?_
    rintro e u' w' ⟨rfl, rfl, ho, he, ha, hb⟩
    have x0 := ho.cell 0 _ rfl
    have x1 := ho.cell 1 _ rfl
    have x2 := ho.cell 2 _ rfl
    have x3 := ho.cell 3 _ rfl
    have x4 := ho.cell 4 _ rfl
    have x5 := ho.cell 5 _ rfl
    have y0 := he.cell 0 _ rfl
    have z0 := ha.cell 0 _ rfl
    rw [HR.out]
    simp [Leaves, settle, results, Try.results89, go_sem, x0, x1, x2, x3, x4, x5, x5, y0, z0]
    exact ⟨by rw [HBO.out]; exact hb, _, ⟨rfl, rfl, rfl⟩, rfl⟩
  have d1 : decide ((m2 : Int) < (n : Int)) = false := decide_eq_false (by omega)
  have d2 : decide (m2 < n) = false := decide_eq_false ht
  have HR := Aside0.mk (show whole 84 131072 xs (pSt xs 131072) = Res.ok x m2 by
    rw [HW.out, HQ.out]
    show (if m2 < xs.length then Res.fail 4 (m2 : Int) else Res.ok x m2) = _
    rw [HLEN.out, if_neg ht])
  clear ht
  have c0 := R7.out.cell 0 _ rfl
  have c1 := R7.out.cell 1 _ rfl
  have c2 := R7.out.cell 2 _ rfl
  have c3 := R7.out.cell 3 _ rfl
  have c4 := R7.out.cell 4 _ rfl
  have c5 := R7.out.cell 5 _ rfl
  have z0 := O7.out.cell 0 _ rfl
  have z1 := O7.out.cell 1 _ rfl
  have z2 := O7.out.cell 2 _ rfl
  have z3 := O7.out.cell 3 _ rfl
  have z4 := O7.out.cell 4 _ rfl
  have z5 := O7.out.cell 5 _ rfl
  have f0 := O7.out.free 0
  have f1 := O7.out.free 1
  have f2 := O7.out.free 2
  have f3 := O7.out.free 3
  have f4 := O7.out.free 4
  have f5 := O7.out.free 5
  have y0 := E7.out.cell 0 _ rfl
  have y1 := E7.out.free 0
  have a0 := A7.out.cell 0 _ rfl
  have a1 := A7.out.free 0
  have hne1 : be ≠ bo := by have := HORD.out; omega
  have hne2 : ba ≠ bo := by have := HORD.out; omega
  have hne3 : ba ≠ be := by have := HORD.out; omega
  go_wp2_with fail
  clear c0 c1 c2 c3 c4 c5 z0 z1 z2 z3 z4 z5 f0 f1 f2 f3 f4 f5 y0 y1 a0 a1 d1 d2 hm7
  have q := O7.out.set 0 (.int .i64 x.f0)
  rw [show ([Value.int .i64 0, .int .i64 0, .int .i64 0, .slice none 0 0, .slice none 0 0, .slice none 0 0]).set 0 (.int .i64 x.f0) = [Value.int .i64 x.f0, .int .i64 0, .int .i64 0, .slice none 0 0, .slice none 0 0, .slice none 0 0] from rfl] at q
  rw [q]
  have O8 := Aside0.mk (show Rt 58 bo [Value.int .i64 x.f0, .int .i64 0, .int .i64 0, .slice none 0 0, .slice none 0 0, .slice none 0 0] (w7.setRow bo ([Value.int .i64 x.f0, .int .i64 0, .int .i64 0, .slice none 0 0, .slice none 0 0, .slice none 0 0]).toArray) from O7.out.row _)
  have E8 := Aside0.mk (show Rt 22 be [.int .i64 0] (w7.setRow bo ([Value.int .i64 x.f0, .int .i64 0, .int .i64 0, .slice none 0 0, .slice none 0 0, .slice none 0 0]).toArray) from (setRow_other _ _ _ _ hne1).trans E7.out)
  have A8 := Aside0.mk (show Rt 3 ba [.int .i64 0] (w7.setRow bo ([Value.int .i64 x.f0, .int .i64 0, .int .i64 0, .slice none 0 0, .slice none 0 0, .slice none 0 0]).toArray) from (setRow_other _ _ _ _ hne2).trans A7.out)
  have Ll_8 := Aside0.mk (LL_alive.row Ll_7.out (show bo < bo + 4 by omega) ([Value.int .i64 x.f0, .int .i64 0, .int .i64 0, .slice none 0 0, .slice none 0 0, .slice none 0 0]).toArray)
  have Lh_8 := Aside0.mk (LH_alive.row Lh_7.out (show bo < bo + 4 by omega) ([Value.int .i64 x.f0, .int .i64 0, .int .i64 0, .slice none 0 0, .slice none 0 0, .slice none 0 0]).toArray)
  have Ld_8 := Aside0.mk (LD_alive.row Ld_7.out (show bo < bo + 4 by omega) ([Value.int .i64 x.f0, .int .i64 0, .int .i64 0, .slice none 0 0, .slice none 0 0, .slice none 0 0]).toArray)
  have B8 := Aside0.mk (show Below bo W (w7.setRow bo ([Value.int .i64 x.f0, .int .i64 0, .int .i64 0, .slice none 0 0, .slice none 0 0, .slice none 0 0]).toArray) from below_setRow' B7.out (Nat.le_refl _) _)
  clear q
  generalize w7.setRow bo ([Value.int .i64 x.f0, .int .i64 0, .int .i64 0, .slice none 0 0, .slice none 0 0, .slice none 0 0]).toArray = w8 at *
  have q := O8.out.set 1 (.int .i64 x.f1)
  rw [show ([Value.int .i64 x.f0, .int .i64 0, .int .i64 0, .slice none 0 0, .slice none 0 0, .slice none 0 0]).set 1 (.int .i64 x.f1) = [Value.int .i64 x.f0, .int .i64 x.f1, .int .i64 0, .slice none 0 0, .slice none 0 0, .slice none 0 0] from rfl] at q
  rw [q]
  have O9 := Aside0.mk (show Rt 58 bo [Value.int .i64 x.f0, .int .i64 x.f1, .int .i64 0, .slice none 0 0, .slice none 0 0, .slice none 0 0] (w8.setRow bo ([Value.int .i64 x.f0, .int .i64 x.f1, .int .i64 0, .slice none 0 0, .slice none 0 0, .slice none 0 0]).toArray) from O8.out.row _)
  have E9 := Aside0.mk (show Rt 22 be [.int .i64 0] (w8.setRow bo ([Value.int .i64 x.f0, .int .i64 x.f1, .int .i64 0, .slice none 0 0, .slice none 0 0, .slice none 0 0]).toArray) from (setRow_other _ _ _ _ hne1).trans E8.out)
  have A9 := Aside0.mk (show Rt 3 ba [.int .i64 0] (w8.setRow bo ([Value.int .i64 x.f0, .int .i64 x.f1, .int .i64 0, .slice none 0 0, .slice none 0 0, .slice none 0 0]).toArray) from (setRow_other _ _ _ _ hne2).trans A8.out)
  have Ll_9 := Aside0.mk (LL_alive.row Ll_8.out (show bo < bo + 4 by omega) ([Value.int .i64 x.f0, .int .i64 x.f1, .int .i64 0, .slice none 0 0, .slice none 0 0, .slice none 0 0]).toArray)
  have Lh_9 := Aside0.mk (LH_alive.row Lh_8.out (show bo < bo + 4 by omega) ([Value.int .i64 x.f0, .int .i64 x.f1, .int .i64 0, .slice none 0 0, .slice none 0 0, .slice none 0 0]).toArray)
  have Ld_9 := Aside0.mk (LD_alive.row Ld_8.out (show bo < bo + 4 by omega) ([Value.int .i64 x.f0, .int .i64 x.f1, .int .i64 0, .slice none 0 0, .slice none 0 0, .slice none 0 0]).toArray)
  have B9 := Aside0.mk (show Below bo W (w8.setRow bo ([Value.int .i64 x.f0, .int .i64 x.f1, .int .i64 0, .slice none 0 0, .slice none 0 0, .slice none 0 0]).toArray) from below_setRow' B8.out (Nat.le_refl _) _)
  clear q
  generalize w8.setRow bo ([Value.int .i64 x.f0, .int .i64 x.f1, .int .i64 0, .slice none 0 0, .slice none 0 0, .slice none 0 0]).toArray = w9 at *
  have q := O9.out.set 2 (.int .i64 x.f2)
  rw [show ([Value.int .i64 x.f0, .int .i64 x.f1, .int .i64 0, .slice none 0 0, .slice none 0 0, .slice none 0 0]).set 2 (.int .i64 x.f2) = [Value.int .i64 x.f0, .int .i64 x.f1, .int .i64 x.f2, .slice none 0 0, .slice none 0 0, .slice none 0 0] from rfl] at q
  rw [q]
  have O10 := Aside0.mk (show Rt 58 bo [Value.int .i64 x.f0, .int .i64 x.f1, .int .i64 x.f2, .slice none 0 0, .slice none 0 0, .slice none 0 0] (w9.setRow bo ([Value.int .i64 x.f0, .int .i64 x.f1, .int .i64 x.f2, .slice none 0 0, .slice none 0 0, .slice none 0 0]).toArray) from O9.out.row _)
  have E10 := Aside0.mk (show Rt 22 be [.int .i64 0] (w9.setRow bo ([Value.int .i64 x.f0, .int .i64 x.f1, .int .i64 x.f2, .slice none 0 0, .slice none 0 0, .slice none 0 0]).toArray) from (setRow_other _ _ _ _ hne1).trans E9.out)
  have A10 := Aside0.mk (show Rt 3 ba [.int .i64 0] (w9.setRow bo ([Value.int .i64 x.f0, .int .i64 x.f1, .int .i64 x.f2, .slice none 0 0, .slice none 0 0, .slice none 0 0]).toArray) from (setRow_other _ _ _ _ hne2).trans A9.out)
  have Ll_10 := Aside0.mk (LL_alive.row Ll_9.out (show bo < bo + 4 by omega) ([Value.int .i64 x.f0, .int .i64 x.f1, .int .i64 x.f2, .slice none 0 0, .slice none 0 0, .slice none 0 0]).toArray)
  have Lh_10 := Aside0.mk (LH_alive.row Lh_9.out (show bo < bo + 4 by omega) ([Value.int .i64 x.f0, .int .i64 x.f1, .int .i64 x.f2, .slice none 0 0, .slice none 0 0, .slice none 0 0]).toArray)
  have Ld_10 := Aside0.mk (LD_alive.row Ld_9.out (show bo < bo + 4 by omega) ([Value.int .i64 x.f0, .int .i64 x.f1, .int .i64 x.f2, .slice none 0 0, .slice none 0 0, .slice none 0 0]).toArray)
  have B10 := Aside0.mk (show Below bo W (w9.setRow bo ([Value.int .i64 x.f0, .int .i64 x.f1, .int .i64 x.f2, .slice none 0 0, .slice none 0 0, .slice none 0 0]).toArray) from below_setRow' B9.out (Nat.le_refl _) _)
  clear q
  generalize w9.setRow bo ([Value.int .i64 x.f0, .int .i64 x.f1, .int .i64 x.f2, .slice none 0 0, .slice none 0 0, .slice none 0 0]).toArray = w10 at *
  have q := O10.out.set 3 (.slice Al nl cl)
  rw [show ([Value.int .i64 x.f0, .int .i64 x.f1, .int .i64 x.f2, .slice none 0 0, .slice none 0 0, .slice none 0 0]).set 3 (.slice Al nl cl) = [Value.int .i64 x.f0, .int .i64 x.f1, .int .i64 x.f2, .slice Al nl cl, .slice none 0 0, .slice none 0 0] from rfl] at q
  rw [q]
  have O11 := Aside0.mk (show Rt 58 bo [Value.int .i64 x.f0, .int .i64 x.f1, .int .i64 x.f2, .slice Al nl cl, .slice none 0 0, .slice none 0 0] (w10.setRow bo ([Value.int .i64 x.f0, .int .i64 x.f1, .int .i64 x.f2, .slice Al nl cl, .slice none 0 0, .slice none 0 0]).toArray) from O10.out.row _)
  have E11 := Aside0.mk (show Rt 22 be [.int .i64 0] (w10.setRow bo ([Value.int .i64 x.f0, .int .i64 x.f1, .int .i64 x.f2, .slice Al nl cl, .slice none 0 0, .slice none 0 0]).toArray) from (setRow_other _ _ _ _ hne1).trans E10.out)
  have A11 := Aside0.mk (show Rt 3 ba [.int .i64 0] (w10.setRow bo ([Value.int .i64 x.f0, .int .i64 x.f1, .int .i64 x.f2, .slice Al nl cl, .slice none 0 0, .slice none 0 0]).toArray) from (setRow_other _ _ _ _ hne2).trans A10.out)
  have Ll_11 := Aside0.mk (LL_alive.row Ll_10.out (show bo < bo + 4 by omega) ([Value.int .i64 x.f0, .int .i64 x.f1, .int .i64 x.f2, .slice Al nl cl, .slice none 0 0, .slice none 0 0]).toArray)
  have Lh_11 := Aside0.mk (LH_alive.row Lh_10.out (show bo < bo + 4 by omega) ([Value.int .i64 x.f0, .int .i64 x.f1, .int .i64 x.f2, .slice Al nl cl, .slice none 0 0, .slice none 0 0]).toArray)
  have Ld_11 := Aside0.mk (LD_alive.row Ld_10.out (show bo < bo + 4 by omega) ([Value.int .i64 x.f0, .int .i64 x.f1, .int .i64 x.f2, .slice Al nl cl, .slice none 0 0, .slice none 0 0]).toArray)
  have B11 := Aside0.mk (show Below bo W (w10.setRow bo ([Value.int .i64 x.f0, .int .i64 x.f1, .int .i64 x.f2, .slice Al nl cl, .slice none 0 0, .slice none 0 0]).toArray) from below_setRow' B10.out (Nat.le_refl _) _)
  clear q
  generalize w10.setRow bo ([Value.int .i64 x.f0, .int .i64 x.f1, .int .i64 x.f2, .slice Al nl cl, .slice none 0 0, .slice none 0 0]).toArray = w11 at *
  have q := O11.out.set 4 (.slice Ah nh ch)
  rw [show ([Value.int .i64 x.f0, .int .i64 x.f1, .int .i64 x.f2, .slice Al nl cl, .slice none 0 0, .slice none 0 0]).set 4 (.slice Ah nh ch) = [Value.int .i64 x.f0, .int .i64 x.f1, .int .i64 x.f2, .slice Al nl cl, .slice Ah nh ch, .slice none 0 0] from rfl] at q
  rw [q]
  have O12 := Aside0.mk (show Rt 58 bo [Value.int .i64 x.f0, .int .i64 x.f1, .int .i64 x.f2, .slice Al nl cl, .slice Ah nh ch, .slice none 0 0] (w11.setRow bo ([Value.int .i64 x.f0, .int .i64 x.f1, .int .i64 x.f2, .slice Al nl cl, .slice Ah nh ch, .slice none 0 0]).toArray) from O11.out.row _)
  have E12 := Aside0.mk (show Rt 22 be [.int .i64 0] (w11.setRow bo ([Value.int .i64 x.f0, .int .i64 x.f1, .int .i64 x.f2, .slice Al nl cl, .slice Ah nh ch, .slice none 0 0]).toArray) from (setRow_other _ _ _ _ hne1).trans E11.out)
  have A12 := Aside0.mk (show Rt 3 ba [.int .i64 0] (w11.setRow bo ([Value.int .i64 x.f0, .int .i64 x.f1, .int .i64 x.f2, .slice Al nl cl, .slice Ah nh ch, .slice none 0 0]).toArray) from (setRow_other _ _ _ _ hne2).trans A11.out)
  have Ll_12 := Aside0.mk (LL_alive.row Ll_11.out (show bo < bo + 4 by omega) ([Value.int .i64 x.f0, .int .i64 x.f1, .int .i64 x.f2, .slice Al nl cl, .slice Ah nh ch, .slice none 0 0]).toArray)
  have Lh_12 := Aside0.mk (LH_alive.row Lh_11.out (show bo < bo + 4 by omega) ([Value.int .i64 x.f0, .int .i64 x.f1, .int .i64 x.f2, .slice Al nl cl, .slice Ah nh ch, .slice none 0 0]).toArray)
  have Ld_12 := Aside0.mk (LD_alive.row Ld_11.out (show bo < bo + 4 by omega) ([Value.int .i64 x.f0, .int .i64 x.f1, .int .i64 x.f2, .slice Al nl cl, .slice Ah nh ch, .slice none 0 0]).toArray)
  have B12 := Aside0.mk (show Below bo W (w11.setRow bo ([Value.int .i64 x.f0, .int .i64 x.f1, .int .i64 x.f2, .slice Al nl cl, .slice Ah nh ch, .slice none 0 0]).toArray) from below_setRow' B11.out (Nat.le_refl _) _)
  clear q
  generalize w11.setRow bo ([Value.int .i64 x.f0, .int .i64 x.f1, .int .i64 x.f2, .slice Al nl cl, .slice Ah nh ch, .slice none 0 0]).toArray = w12 at *
  have q := O12.out.set 5 (.slice Ad nd cd)
  rw [show ([Value.int .i64 x.f0, .int .i64 x.f1, .int .i64 x.f2, .slice Al nl cl, .slice Ah nh ch, .slice none 0 0]).set 5 (.slice Ad nd cd) = [Value.int .i64 x.f0, .int .i64 x.f1, .int .i64 x.f2, .slice Al nl cl, .slice Ah nh ch, .slice Ad nd cd] from rfl] at q
  rw [q]
  have O13 := Aside0.mk (show Rt 58 bo [Value.int .i64 x.f0, .int .i64 x.f1, .int .i64 x.f2, .slice Al nl cl, .slice Ah nh ch, .slice Ad nd cd] (w12.setRow bo ([Value.int .i64 x.f0, .int .i64 x.f1, .int .i64 x.f2, .slice Al nl cl, .slice Ah nh ch, .slice Ad nd cd]).toArray) from O12.out.row _)
  have E13 := Aside0.mk (show Rt 22 be [.int .i64 0] (w12.setRow bo ([Value.int .i64 x.f0, .int .i64 x.f1, .int .i64 x.f2, .slice Al nl cl, .slice Ah nh ch, .slice Ad nd cd]).toArray) from (setRow_other _ _ _ _ hne1).trans E12.out)
  have A13 := Aside0.mk (show Rt 3 ba [.int .i64 0] (w12.setRow bo ([Value.int .i64 x.f0, .int .i64 x.f1, .int .i64 x.f2, .slice Al nl cl, .slice Ah nh ch, .slice Ad nd cd]).toArray) from (setRow_other _ _ _ _ hne2).trans A12.out)
  have Ll_13 := Aside0.mk (LL_alive.row Ll_12.out (show bo < bo + 4 by omega) ([Value.int .i64 x.f0, .int .i64 x.f1, .int .i64 x.f2, .slice Al nl cl, .slice Ah nh ch, .slice Ad nd cd]).toArray)
  have Lh_13 := Aside0.mk (LH_alive.row Lh_12.out (show bo < bo + 4 by omega) ([Value.int .i64 x.f0, .int .i64 x.f1, .int .i64 x.f2, .slice Al nl cl, .slice Ah nh ch, .slice Ad nd cd]).toArray)
  have Ld_13 := Aside0.mk (LD_alive.row Ld_12.out (show bo < bo + 4 by omega) ([Value.int .i64 x.f0, .int .i64 x.f1, .int .i64 x.f2, .slice Al nl cl, .slice Ah nh ch, .slice Ad nd cd]).toArray)
  have B13 := Aside0.mk (show Below bo W (w12.setRow bo ([Value.int .i64 x.f0, .int .i64 x.f1, .int .i64 x.f2, .slice Al nl cl, .slice Ah nh ch, .slice Ad nd cd]).toArray) from below_setRow' B12.out (Nat.le_refl _) _)
  clear q
  generalize w12.setRow bo ([Value.int .i64 x.f0, .int .i64 x.f1, .int .i64 x.f2, .slice Al nl cl, .slice Ah nh ch, .slice Ad nd cd]).toArray = w13 at *
  rw [E13.out.same 0 _ rfl, A13.out.same 0 _ rfl]
  refine leaves_cons (f := 128) (args := #[ptr bo, ptr be, ptr ba]) (by simp) (by simp [go_sem]) ?_
  refine (idle_st (bo := bo) (be := be) (ba := ba) w13).mono ?_
  rintro e u' w' ⟨rfl, rfl, hb⟩
  have ho := O13.out.below hb
  have he := E13.out.below hb
  have ha := A13.out.below hb
  have hl := LL_alive.below Ll_13.out hb
  have hh := LH_alive.below Lh_13.out hb
  have hd := LD_alive.below Ld_13.out hb
  have x0 := ho.cell 0 _ rfl
  have x1 := ho.cell 1 _ rfl
  have x2 := ho.cell 2 _ rfl
  have x3 := ho.cell 3 _ rfl
  have x4 := ho.cell 4 _ rfl
  have x5 := ho.cell 5 _ rfl
  have y0 := he.cell 0 _ rfl
  have z0 := ha.cell 0 _ rfl
  rw [HR.out]
  simp [Leaves, settle, results, Try.results89, go_sem, x0, x1, x2, x3, x4, x5, y0, z0]
  refine ⟨by rw [HBO.out]; exact B13.out.trans (hb.mono (by have := B13.out.size; have := HBO.out; omega)), _, ⟨rfl, rfl, rfl⟩, Al, nl, cl, Ah, nh, ch, Ad, nd, cd, rfl, LL_alive.lower hl (by have := HBO.out; omega), LH_alive.lower hh (by have := HBO.out; omega), LD_alive.lower hd (by have := HBO.out; omega)⟩
end Go.Proofs.Ytafmoglaockepaa.Cd
end
section
namespace Go.Proofs.Ytafmoglaockepaa.Cd
open Go Go.RowKit Go.Proofs.Ytafmoglaockepaa.Num Go.Proofs.Ytafmoglaockepaa.PG Go.Proofs.YtafmoglaockepaaW.PrintWords Go.Proofs.YtafmoglaockepaaW.PrintLast Go.Proofs.YtafmoglaockepaaW.PrintMore
set_option linter.unusedVariables false
set_option linter.unusedSimpArgs false
set_option maxHeartbeats 4000000
set_option maxRecDepth 100000
def zeroD_st : StD := ⟨0, 0, 0, [], [], []⟩
theorem enc_out_st {S0 : Nat} {r : Res StD} {v : Value} {w : World} (h : RdOut memSt zero_st S0 r v w) : memSt S0 (outOr zeroD_st r) v w := by
  cases r with
  | ok x n => exact h
  | fail e p =>
    have h : v = .agg zero_st.toArray := h
    subst h
    exact ⟨none, 0, 0, none, 0, 0, none, 0, 0, rfl, Kd.R_nil _ _ _ _ _, Kd.R_nil _ _ _ _ _, Kd.R_nil _ _ _ _ _⟩
theorem Rt.full_st {t b : Nat} {z0 z1 z2 z3 z4 z5 : Value} {W : World} (h : Rt t b [z0, z1, z2, z3, z4, z5] W) (a0 a1 a2 a3 a4 a5 : Value) :
    ((((((W.setCell ⟨b, 0, none⟩ a0).setCell ⟨b, 1, none⟩ a1).setCell ⟨b, 2, none⟩ a2).setCell ⟨b, 3, none⟩ a3).setCell ⟨b, 4, none⟩ a4).setCell ⟨b, 5, none⟩ a5) = W.setRow b [a0, a1, a2, a3, a4, a5].toArray := by
  rw [h.set 0 a0]
  have h0 : Rt t b [a0, z1, z2, z3, z4, z5] (W.setRow b ([z0, z1, z2, z3, z4, z5].set 0 a0).toArray) := h.row _
  rw [h0.set 1 a1, setRow_again]
  have h1 : Rt t b [a0, a1, z2, z3, z4, z5] (W.setRow b ([a0, z1, z2, z3, z4, z5].set 1 a1).toArray) := h.row _
  rw [h1.set 2 a2, setRow_again]
  have h2 : Rt t b [a0, a1, a2, z3, z4, z5] (W.setRow b ([a0, a1, z2, z3, z4, z5].set 2 a2).toArray) := h.row _
  rw [h2.set 3 a3, setRow_again]
  have h3 : Rt t b [a0, a1, a2, a3, z4, z5] (W.setRow b ([a0, a1, a2, z3, z4, z5].set 3 a3).toArray) := h.row _
  rw [h3.set 4 a4, setRow_again]
  have h4 : Rt t b [a0, a1, a2, a3, a4, z5] (W.setRow b ([a0, a1, a2, a3, z4, z5].set 4 a4).toArray) := h.row _
  rw [h4.set 5 a5, setRow_again]
  rfl
theorem State_at (A : Option Addr) (n c : Nat) (xs : List Int) (W : World) (hC : Kd.C (Kd.int .u8) W A n xs) (hnc : n ≤ c) (hb : IsBytes xs) (hbig : n < 1000000000) :
    Calls Try.prog 37 #[.slice A n c] W fun e w' => Below W.heap.size W w' ∧ ∃ v, e = .returned (.tuple #[v, .int .i64 (endOf (whole 84 131072 xs (pSt xs 131072))).1, .int .i64 (endOf (whole 84 131072 xs (pSt xs 131072))).2]) ∧ memSt W.heap.size (outOr zeroD_st (whole 84 131072 xs (pSt xs 131072))) v w' := by
  have hb1 : Below W.heap.size W (W.alloc (.cells #[.int .i64 0, .int .i64 0, .int .i64 0, .slice none 0 0, .slice none 0 0, .slice none 0 0] 58)) := below_alloc (Below.refl _ _) _
  have r1 : Rt 58 W.heap.size zero_st (W.alloc (.cells #[.int .i64 0, .int .i64 0, .int .i64 0, .slice none 0 0, .slice none 0 0, .slice none 0 0] 58)) := heap_alloc_new W _
  have hC1 := Kd.C_below hC hb1
  have HRD := Aside0.mk (read_state A n c xs (W.alloc (.cells #[.int .i64 0, .int .i64 0, .int .i64 0, .slice none 0 0, .slice none 0 0, .slice none 0 0] 58)) hC1 hnc hb hbig)
  generalize whole 84 131072 xs (pSt xs 131072) = rr at *
  have B1 := Aside0.mk hb1
  clear hC hC1 hnc hb hbig
  go_enter Try.func37, Try.ntmps37
  go_upto_region 1 with fail
  obtain ⟨b, hbe⟩ : ∃ b, W.heap.size = b := ⟨_, rfl⟩
  have HBE := Aside0.mk hbe
  rw [hbe] at r1 ⊢
  have R1 := Aside0.mk r1
  clear hb1 r1 hbe
  generalize W.alloc (.cells #[.int .i64 0, .int .i64 0, .int .i64 0, .slice none 0 0, .slice none 0 0, .slice none 0 0] 58) = w1 at *
  go_wp2_with fail
  go_at_call 89
  refine HRD.out.mono ?_
  rintro e w2 ⟨hb, v, rfl, ho⟩
  obtain ⟨Al, nl, cl, Ah, nh, ch, Ad, nd, cd, hv, hl, hh, hd⟩ := enc_out_st ho
  subst hv
  obtain ⟨x, hx⟩ : ∃ x, outOr zeroD_st rr = x := ⟨_, rfl⟩
  obtain ⟨ec, hec⟩ : ∃ ec, (endOf rr).1 = ec := ⟨_, rfl⟩
  obtain ⟨ep, hep⟩ : ∃ ep, (endOf rr).2 = ep := ⟨_, rfl⟩
  rw [hx] at hl hh hd ⊢
  rw [hec, hep]
  have HX := Aside0.mk (And.intro hx (And.intro hec hep))
  have R2 := Aside0.mk (R1.out.below hb)
  have Ll_2 := Aside0.mk (LL_alive.lower hl R1.out.lt)
  have Lh_2 := Aside0.mk (LH_alive.lower hh R1.out.lt)
  have Ld_2 := Aside0.mk (LD_alive.lower hd R1.out.lt)
  have B2 := Aside0.mk (show Below W.heap.size W w2 from B1.out.trans (hb.mono B1.out.size))
  clear hb ho hl hh hd HRD hx hec hep
  have z0 := R2.out.cell 0 _ rfl
  have f0 := R2.out.free 0
  have z1 := R2.out.cell 1 _ rfl
  have f1 := R2.out.free 1
  have z2 := R2.out.cell 2 _ rfl
  have f2 := R2.out.free 2
  have z3 := R2.out.cell 3 _ rfl
  have f3 := R2.out.free 3
  have z4 := R2.out.cell 4 _ rfl
  have f4 := R2.out.free 4
  have z5 := R2.out.cell 5 _ rfl
  have f5 := R2.out.free 5
  go_wp2_with fail
  rw [R2.out.full_st]
  have R3 : Rt 58 b [.int .i64 x.f0, .int .i64 x.f1, .int .i64 x.f2, .slice Al nl cl, .slice Ah nh ch, .slice Ad nd cd] (w2.setRow b [Value.int .i64 x.f0, .int .i64 x.f1, .int .i64 x.f2, .slice Al nl cl, .slice Ah nh ch, .slice Ad nd cd].toArray) := R2.out.row _
  have Ll_3 := LL_alive.row Ll_2.out (Nat.lt_succ_self b) [Value.int .i64 x.f0, .int .i64 x.f1, .int .i64 x.f2, .slice Al nl cl, .slice Ah nh ch, .slice Ad nd cd].toArray
  have Lh_3 := LH_alive.row Lh_2.out (Nat.lt_succ_self b) [Value.int .i64 x.f0, .int .i64 x.f1, .int .i64 x.f2, .slice Al nl cl, .slice Ah nh ch, .slice Ad nd cd].toArray
  have Ld_3 := LD_alive.row Ld_2.out (Nat.lt_succ_self b) [Value.int .i64 x.f0, .int .i64 x.f1, .int .i64 x.f2, .slice Al nl cl, .slice Ah nh ch, .slice Ad nd cd].toArray
  have B3 : Below W.heap.size W (w2.setRow b [Value.int .i64 x.f0, .int .i64 x.f1, .int .i64 x.f2, .slice Al nl cl, .slice Ah nh ch, .slice Ad nd cd].toArray) := below_setRow' B2.out (Nat.le_of_eq HBE.out) _
  clear z0 f0 z1 f1 z2 f2 z3 f3 z4 f4 z5 f5
  generalize w2.setRow b [Value.int .i64 x.f0, .int .i64 x.f1, .int .i64 x.f2, .slice Al nl cl, .slice Ah nh ch, .slice Ad nd cd].toArray = w3 at *
  have x0 := R3.cell 0 _ rfl
  have x1 := R3.cell 1 _ rfl
  have x2 := R3.cell 2 _ rfl
  have x3 := R3.cell 3 _ rfl
  have x4 := R3.cell 4 _ rfl
  have x5 := R3.cell 5 _ rfl
  refine ⟨rfl, ?_⟩
  simp [results, Try.results37, go_sem, x0, x1, x2, x3, x4, x5]
  refine ⟨B3, _, ⟨rfl, HX.out.2.1.symm, HX.out.2.2.symm⟩, ?_⟩
  rw [HX.out.1]
  exact ⟨Al, nl, cl, Ah, nh, ch, Ad, nd, cd, rfl, LL_alive.lower Ll_3 (by have := HBE.out; omega), LH_alive.lower Lh_3 (by have := HBE.out; omega), LD_alive.lower Ld_3 (by have := HBE.out; omega)⟩
end Go.Proofs.Ytafmoglaockepaa.Cd
end
section
namespace Go.Proofs.Ytafmoglaockepaa.Cd
open Go Go.RowKit Go.Proofs.Ytafmoglaockepaa.Num Go.Proofs.Ytafmoglaockepaa.PG Go.Proofs.YtafmoglaockepaaW.PrintWords Go.Proofs.YtafmoglaockepaaW.PrintLast Go.Proofs.YtafmoglaockepaaW.PrintMore
set_option linter.unusedVariables false
set_option linter.unusedSimpArgs false
variable {xs : List Int} {most : Nat}
theorem pRec_enc (hm : most < 18446744073709551616) (x : RecD) (hf : ReqFit most x.f1) (h0 : Int64 x.f0) (ho : ReqOk x.f1) (n : Nat) (t : List Int) (h : xs.drop n = encC x ++ t) : pRec xs most n = .ok x (n + (encC x).length) := by
  unfold encC at h ⊢
  rw [List.append_assoc] at h
  unfold pRec
  rw [pI_enc xs n x.f0 _ h h0]
  simp only [Res.bind]
  rw [pReq_enc hm x.f1 hf ho _ t (drop_next h)]
  simp only [List.length_append, Nat.add_assoc]
def HeldFit (most : Nat) (x : S121) : Prop := x.f0.size ≤ most ∧ LinFit most x.f1
theorem pHeld_enc (hm : most < 18446744073709551616) (x : S121) (hf : HeldFit most x) (ho : HeldOk x) (n : Nat) (t : List Int) (h : xs.drop n = encH x ++ t) : pHeld xs most n = .ok x (n + (encH x).length) := by
  unfold encH at h ⊢
  rw [List.append_assoc, List.append_assoc] at h
  have h1 := drop_next h
  have h2 := drop_next h1
  unfold pHeld
  rw [pT_enc xs most n x.f0 _ h hf.1 hm]
  simp only [Res.bind]
  rw [pLines_enc hm x.f1 hf.2 ho.1 _ _ h1]
  simp only [Res.bind]
  rw [pI_enc xs _ x.f2 t h2 ho.2]
  simp only [List.length_append, Nat.add_assoc]
theorem pDone_enc (hm : most < 18446744073709551616) (x : S123) (hf : ReqFit most x.f0) (ho : DoneOk x) (n : Nat) (t : List Int) (h : xs.drop n = encD x ++ t) : pDone xs most n = .ok x (n + (encD x).length) := by
  unfold encD at h ⊢
  rw [List.append_assoc] at h
  unfold pDone
  rw [pReq_enc hm x.f0 hf ho.1 n _ h]
  simp only [Res.bind]
  rw [pI_enc xs _ x.f1 t (drop_next h) ho.2]
  simp only [List.length_append, Nat.add_assoc]
def LevFit (most : Nat) (l : List S28) : Prop := l.length ≤ most ∧ ∀ x ∈ l, x.f0.size ≤ most
theorem pLevels_enc (hm : most < 18446744073709551616) (l : List S28) (hf : LevFit most l) (ho : LevOk l) (n : Nat) (t : List Int) (h : xs.drop n = (encU l.length ++ encLs l) ++ t) : pList xs most (pLevel xs most) n = .ok l (n + (encU l.length ++ encLs l).length) := by
  rw [List.append_assoc] at h
  rw [pList_enc (encE := encL) l n t (fun x hx n t h => pLevel_enc hm x (hf.2 x hx) (ho x hx) n t h) hf.1 hm h, List.length_append, Nat.add_assoc]
  rfl
theorem pReply_enc (hm : most < 18446744073709551616) (x : RepD) (f0 : x.id.size ≤ most) (f3 : LevFit most x.levs) (h1 : Int64 x.er) (h2 : Int64 x.line) (h4 : Int64 x.now) (ho : LevOk x.levs) (n : Nat) (t : List Int) (h : xs.drop n = encReply x.id x.er x.line x.levs x.now ++ t) : pReply xs most n = .ok x (n + (encReply x.id x.er x.line x.levs x.now).length) := by
  unfold encReply at h ⊢
  simp only [List.append_assoc] at h
  have g1 := drop_next h
  have g2 := drop_next g1
  have g3 := drop_next g2
  rw [← List.append_assoc (encU x.levs.length)] at g3
  have g4 := drop_next g3
  unfold pReply
  rw [pT_enc xs most n x.id _ h f0 hm]
  simp only [Res.bind]
  rw [pI_enc xs _ x.er _ g1 h1]
  simp only [Res.bind]
  rw [pI_enc xs _ x.line _ g2 h2]
  simp only [Res.bind]
  rw [pLevels_enc hm x.levs f3 ho _ _ g3]
  simp only [Res.bind]
  rw [pI_enc xs _ x.now t g4 h4]
  simp only [List.length_append, Nat.add_assoc]
def StFit (most : Nat) (x : StD) : Prop := LevFit most x.f3 ∧ (x.f4.length ≤ most ∧ ∀ y ∈ x.f4, HeldFit most y) ∧ (x.f5.length ≤ most ∧ ∀ y ∈ x.f5, ReqFit most y.f0)
theorem pSt_enc (hm : most < 18446744073709551616) (x : StD) (hf : StFit most x) (h0 : Int64 x.f0) (h1 : Int64 x.f1) (h2 : Int64 x.f2) (h3 : LevOk x.f3) (h4 : HeldsOk x.f4) (h5 : DonesOk x.f5) (n : Nat) (t : List Int) (h : xs.drop n = encS x ++ t) : pSt xs most n = .ok x (n + (encS x).length) := by
  obtain ⟨f3, f4, f5⟩ := hf
  unfold encS at h ⊢
  simp only [List.append_assoc] at h
  have g1 := drop_next h
  have g2 := drop_next g1
  have g3 := drop_next g2
  rw [← List.append_assoc (encU x.f3.length)] at g3
  have g4 := drop_next g3
  rw [← List.append_assoc (encU x.f4.length)] at g4
  have g5 := drop_next g4
  have e4 : pList xs most (pHeld xs most) _ = _ := pList_enc (encE := encH) x.f4 _ _ (fun y hy n t h => pHeld_enc hm y (f4.2 y hy) (h4 y hy) n t h) f4.1 hm (by rw [List.append_assoc] at g4; exact g4)
  have e5 : pList xs most (pDone xs most) _ = _ := pList_enc (encE := encD) x.f5 _ _ (fun y hy n t h => pDone_enc hm y (f5.2 y hy) (h5 y hy) n t h) f5.1 hm g5
  unfold pSt
  rw [pI_enc xs n x.f0 _ h h0]
  simp only [Res.bind]
  rw [pI_enc xs _ x.f1 _ g1 h1]
  simp only [Res.bind]
  rw [pI_enc xs _ x.f2 _ g2 h2]
  simp only [Res.bind]
  rw [pLevels_enc hm x.f3 f3 h3 _ _ g3]
  simp only [Res.bind]
  rw [e4]
  simp only [Res.bind]
  rw [show ∀ a b c : Nat, a + b + c = a + (b + c) from Nat.add_assoc, ← List.length_append]
  show (pList xs most (pDone xs most) _).bind _ = _
  rw [show x.f4.flatMap encH = encHs x.f4 from rfl, e5]
  simp only [Res.bind, List.length_append, Nat.add_assoc]
  rfl
end Go.Proofs.Ytafmoglaockepaa.Cd
end
section
namespace Go.Proofs.Ytafmoglaockepaa.Cd
open Go Go.RowKit Go.Proofs.Ytafmoglaockepaa.Num Go.Proofs.Ytafmoglaockepaa.PG Go.Proofs.YtafmoglaockepaaW.PrintWords Go.Proofs.YtafmoglaockepaaW.PrintLast Go.Proofs.YtafmoglaockepaaW.PrintMore
set_option linter.unusedVariables false
set_option linter.unusedSimpArgs false
theorem enc_pos (f n : Nat) (h : 0 < f) : 1 ≤ (enc f n).length := by
  cases f with
  | zero => omega
  | succ f =>
    rw [enc]
    split
    · simp
    · simp
theorem encT_size (s : ByteArray) : s.size + 1 ≤ (encT s).length := by
  unfold encT
  have := enc_pos 10 s.size (by decide)
  have h2 : (bytesOf s).length = s.size := bytesOf_length s
  rw [List.length_append]
  omega
theorem flat_mem {α : Type} {e : α → List Int} : ∀ {l : List α} {x : α}, x ∈ l → (e x).length ≤ (l.flatMap e).length
  | y :: l, x, h => by
    rw [List.flatMap_cons, List.length_append]
    rcases List.mem_cons.1 h with rfl | h
    · omega
    · have := flat_mem (e := e) h
      omega
theorem flat_count {α : Type} {e : α → List Int} (h : ∀ x, 1 ≤ (e x).length) : ∀ l : List α, l.length ≤ (l.flatMap e).length
  | [] => by simp
  | x :: l => by
    have := flat_count h l
    have := h x
    rw [List.flatMap_cons, List.length_append, List.length_cons]
    omega
theorem encN_size (x : S110) : x.f0.size + 1 ≤ (encN x).length := by
  have := encT_size x.f0
  unfold encN
  rw [List.length_append]
  omega
theorem encL_size (x : S28) : x.f0.size + 1 ≤ (encL x).length := by
  have := encT_size x.f0
  unfold encL
  rw [List.length_append]
  omega
theorem linFit_of {most : Nat} {l : List S110} (h : (encU l.length ++ encNs l).length ≤ most) : LinFit most l := by
  rw [List.length_append] at h
  unfold encNs at h
  refine ⟨?_, fun x hx => ?_⟩
  · have := flat_count (e := encN) (fun x => by have := encN_size x; omega) l
    omega
  · have := flat_mem (e := encN) hx
    have := encN_size x
    omega
theorem levFit_of {most : Nat} {l : List S28} (h : (encU l.length ++ encLs l).length ≤ most) : LevFit most l := by
  rw [List.length_append] at h
  unfold encLs at h
  refine ⟨?_, fun x hx => ?_⟩
  · have := flat_count (e := encL) (fun x => by have := encL_size x; omega) l
    omega
  · have := flat_mem (e := encL) hx
    have := encL_size x
    omega
theorem reqFit_of {most : Nat} {q : S40} (h : (encQ q).length ≤ most) : ReqFit most q := by
  have h0 := encT_size q.f0
  have h3 := encT_size q.f3
  unfold encQ encReq at h
  simp only [List.length_append] at h
  exact ⟨by omega, linFit_of (by rw [List.length_append]; omega), by omega⟩
theorem heldFit_of {most : Nat} {x : S121} (h : (encH x).length ≤ most) : HeldFit most x := by
  have h0 := encT_size x.f0
  unfold encH at h
  simp only [List.length_append] at h
  exact ⟨by omega, linFit_of (by rw [List.length_append]; omega)⟩
theorem encD_ge (x : S123) : (encQ x.f0).length ≤ (encD x).length := by
  unfold encD
  rw [List.length_append]
  omega
theorem stFit_of {most : Nat} {x : StD} (h : (encS x).length ≤ most) : StFit most x := by
  unfold encS at h
  simp only [List.length_append] at h
  refine ⟨levFit_of (by rw [List.length_append]; omega), ⟨?_, fun y hy => ?_⟩, ⟨?_, fun y hy => ?_⟩⟩
  · have := flat_count (e := encH) (fun x => by have := encT_size x.f0; unfold encH; rw [List.length_append]; omega) x.f4
    unfold encHs at h
    omega
  · have := flat_mem (e := encH) hy
    unfold encHs at h
    exact heldFit_of (by omega)
  · have := flat_count (e := encD) (fun x => by have := encT_size x.f0.f0; have := encD_ge x; unfold encQ encReq at this; rw [List.length_append] at this; omega) x.f5
    unfold encDs at h
    omega
  · have := flat_mem (e := encD) hy
    have := encD_ge y
    unfold encDs at h
    exact reqFit_of (by omega)
theorem whole_enc {α : Type} {key : Int} {most : Nat} {b : List Int} {p : Nat → Res α} {x : α} (hl : (key :: b).length ≤ most) (hp : p 1 = .ok x (1 + b.length)) : whole key most (key :: b) p = .ok x (1 + b.length) := by
  unfold whole
  rw [if_neg (by omega), if_neg (by simp), if_neg (by simp), hp]
  simp only [Res.bind]
  rw [if_neg (by simp only [List.length_cons]; omega)]
theorem drop1 (key : Int) (b : List Int) : (key :: b).drop 1 = b ++ [] := by simp
theorem back_req (q : S40) (ho : ReqOk q) (h : (81 :: encQ q).length ≤ 4096) : whole 81 4096 (81 :: encQ q) (pReq (81 :: encQ q) 4096) = .ok q (1 + (encQ q).length) :=
  whole_enc h (pReq_enc (by decide) q (reqFit_of (by rw [List.length_cons] at h; omega)) ho 1 [] (drop1 ..))
theorem back_rec (x : RecD) (h0 : Int64 x.f0) (ho : ReqOk x.f1) (h : (83 :: encC x).length ≤ 4096) : whole 83 4096 (83 :: encC x) (pRec (83 :: encC x) 4096) = .ok x (1 + (encC x).length) :=
  whole_enc h (pRec_enc (by decide) x (reqFit_of (by unfold encC at h; rw [List.length_cons, List.length_append] at h; omega)) h0 ho 1 [] (drop1 ..))
theorem back_reply (x : RepD) (h1 : Int64 x.er) (h2 : Int64 x.line) (h4 : Int64 x.now) (ho : LevOk x.levs) (h : (82 :: encReply x.id x.er x.line x.levs x.now).length ≤ 4096) :
    whole 82 4096 (82 :: encReply x.id x.er x.line x.levs x.now) (pReply (82 :: encReply x.id x.er x.line x.levs x.now) 4096) = .ok x (1 + (encReply x.id x.er x.line x.levs x.now).length) := by
  have g := h
  have h0 := encT_size x.id
  unfold encReply at g
  simp only [List.length_cons, List.length_append] at g
  exact whole_enc h (pReply_enc (by decide) x (by omega) (levFit_of (by rw [List.length_append]; omega)) h1 h2 h4 ho 1 [] (drop1 ..))
theorem back_st (x : StD) (h0 : Int64 x.f0) (h1 : Int64 x.f1) (h2 : Int64 x.f2) (h3 : LevOk x.f3) (h4 : HeldsOk x.f4) (h5 : DonesOk x.f5) (h : (84 :: encS x).length ≤ 131072) :
    whole 84 131072 (84 :: encS x) (pSt (84 :: encS x) 131072) = .ok x (1 + (encS x).length) :=
  whole_enc h (pSt_enc (by decide) x (stFit_of (by rw [List.length_cons] at h; omega)) h0 h1 h2 h3 h4 h5 1 [] (drop1 ..))
theorem back_of {α : Type} {key : Int} {most : Nat} {b : List Int} {p : List Int → Nat → Res α} {x z : α} (hb : (key :: b).length ≤ most → whole key most (key :: b) (p (key :: b)) = .ok x (1 + b.length)) :
    (putCode most (key :: b) = 0 ∧ (putOut most (key :: b)).length ≤ most ∧ endOf (whole key most (putOut most (key :: b)) (p (putOut most (key :: b)))) = (0, 0) ∧ outOr z (whole key most (putOut most (key :: b)) (p (putOut most (key :: b)))) = x)
    ∨ (putCode most (key :: b) = 1 ∧ putOut most (key :: b) = [] ∧ endOf (whole key most (putOut most (key :: b)) (p (putOut most (key :: b)))) = (3, 0) ∧ outOr z (whole key most (putOut most (key :: b)) (p (putOut most (key :: b)))) = z) := by
  unfold putCode putOut
  by_cases h : most < (key :: b).length
  · right
    rw [if_pos h, if_pos h]
    have : whole key most [] (p []) = .fail 3 0 := by
      unfold whole
      rw [if_neg (by simp), if_pos (by simp)]
    rw [this]
    exact ⟨rfl, rfl, rfl, rfl⟩
  · left
    rw [if_neg h, if_neg h, hb (by omega)]
    exact ⟨rfl, by omega, rfl, rfl⟩
end Go.Proofs.Ytafmoglaockepaa.Cd
end
section
namespace Go.Proofs.Ytafmoglaockepaa.Cd
open Go Go.RowKit Go.Proofs.Ytafmoglaockepaa.Num Go.Proofs.Ytafmoglaockepaa.PG Go.Proofs.YtafmoglaockepaaW.PrintWords Go.Proofs.YtafmoglaockepaaW.PrintLast Go.Proofs.YtafmoglaockepaaW.PrintMore
set_option linter.unusedVariables false
set_option linter.unusedSimpArgs false
set_option maxHeartbeats 4000000
set_option maxRecDepth 100000
structure QAt (g B : Nat) (A : Option Addr) (n c : Nat) (xs : List Int) (most m : Nat) (e p : Int) (W : World) : Prop where
  row : Rt 137 g [Value.slice A n c, .int .i64 (m : Int), .int .i64 (most : Int), .int .i64 e, .int .i64 p] W
  foot : ∀ W', Below B W W' → Kd.C (Kd.int .u8) W' A n xs
  b : B ≤ g
  nc : n ≤ c
  le : e = 0 → m ≤ n
  big : n < 1000000000
  mb : most < 1000000000
  by_ : IsBytes xs
def QSt {α : Type} (g B : Nat) (A : Option Addr) (n c : Nat) (xs : List Int) (most : Nat) (r : Res α) (W : World) : Prop :=
  match r with
  | .ok _ m => QAt g B A n c xs most m 0 0 W
  | .fail e p => e ≠ 0 ∧ ∃ m, QAt g B A n c xs most m e p W
variable {g B : Nat} {A : Option Addr} {n c : Nat} {xs : List Int} {most : Nat}
theorem QAt.len {m : Nat} {e p : Int} {W : World} (k : QAt g B A n c xs most m e p W) : xs.length = n := Kd.C_len (k.foot W (Below.refl _ _))
theorem QAt.size {m : Nat} {e p : Int} {W : World} (k : QAt g B A n c xs most m e p W) : B ≤ W.heap.size := Nat.le_of_lt (Nat.lt_of_le_of_lt k.b k.row.lt)
theorem QAt.aside {m : Nat} {e p : Int} {W W' : World} (k : QAt g B A n c xs most m e p W) (hb : Below B W W') (hg : W'.heap[g]? = W.heap[g]?) : QAt g B A n c xs most m e p W' :=
  { k with row := hg.trans k.row, foot := fun W2 hb2 => k.foot W2 (hb.trans hb2) }
theorem QAt.below {m : Nat} {e p : Int} {W W' : World} (k : QAt g B A n c xs most m e p W) (hb : Below W.heap.size W W') : QAt g B A n c xs most m e p W' := k.aside (hb.mono k.size) (hb.block g k.row.lt)
theorem QAt.put {m : Nat} {e p : Int} {W : World} (k : QAt g B A n c xs most m e p W) (m' : Nat) (e' p' : Int) (h : e' = 0 → m' ≤ n) :
    QAt g B A n c xs most m' e' p' (W.setRow g [Value.slice A n c, .int .i64 (m' : Int), .int .i64 (most : Int), .int .i64 e', .int .i64 p'].toArray) ∧ Below B W (W.setRow g [Value.slice A n c, .int .i64 (m' : Int), .int .i64 (most : Int), .int .i64 e', .int .i64 p'].toArray) ∧ Kept W (W.setRow g [Value.slice A n c, .int .i64 (m' : Int), .int .i64 (most : Int), .int .i64 e', .int .i64 p'].toArray) (fun j => j = g) := by
  have hb : Below B W (W.setRow g [Value.slice A n c, .int .i64 (m' : Int), .int .i64 (most : Int), .int .i64 e', .int .i64 p'].toArray) := below_setRow' (Below.refl _ _) k.b _
  refine ⟨{ k with row := k.row.row _, foot := fun W2 hb2 => k.foot W2 (hb.trans hb2), le := h }, hb, ?_⟩
  exact ⟨by rw [setRow_size]; exact Nat.le_refl _, fun j hj hn => setRow_other _ _ _ _ hn⟩
theorem QAt.rest {m : Nat} {W : World} {p : Int} (k : QAt g B A n c xs most m 0 p W) {W' : World} (hb : Below B W W') : Kd.C (Kd.int .u8) W' (if c = m then A else A.map (·.add m)) (xs.drop m).length (xs.drop m) := by
  have hl := k.len
  have hC := k.foot W' hb
  rw [← hl] at hC
  have h1 := k.le rfl
  have h2 := k.nc
  have := Kd.C_drop (m := m) (c := c) hC (by omega) (by omega)
  rwa [show m * (Kd.int .u8).sz = m from Nat.mul_one m] at this
theorem QAt.dl {m : Nat} {e p : Int} {W : World} (k : QAt g B A n c xs most m e p W) : (xs.drop m).length = n - m := by rw [List.length_drop, k.len]
theorem QSt.aside {α : Type} {r : Res α} {W W' : World} (k : QSt g B A n c xs most r W) (hb : Below B W W') (hg : W'.heap[g]? = W.heap[g]?) : QSt g B A n c xs most r W' := by
  cases r with
  | ok x m => exact QAt.aside k hb hg
  | fail e p => exact ⟨k.1, k.2.choose, k.2.choose_spec.aside hb hg⟩
theorem QSt.lt {α : Type} {r : Res α} {W : World} (k : QSt g B A n c xs most r W) : g < W.heap.size := by
  cases r with
  | ok x m => exact (QAt.row k).lt
  | fail e p => exact k.2.choose_spec.row.lt
theorem QSt.b {α : Type} {r : Res α} {W : World} (k : QSt g B A n c xs most r W) : B ≤ g := by
  cases r with
  | ok x m => exact (QAt.b k)
  | fail e p => exact k.2.choose_spec.b
theorem QSt.size {α : Type} {r : Res α} {W : World} (k : QSt g B A n c xs most r W) : B ≤ W.heap.size := Nat.le_of_lt (Nat.lt_of_le_of_lt k.b k.lt)
theorem QSt.below {α : Type} {r : Res α} {W W' : World} (k : QSt g B A n c xs most r W) (hb : Below W.heap.size W W') : QSt g B A n c xs most r W' := k.aside (hb.mono k.size) (hb.block g k.lt)
end Go.Proofs.Ytafmoglaockepaa.Cd
end
section
namespace Go.Proofs.Ytafmoglaockepaa.Cd
open Go Go.RowKit Go.Proofs.Ytafmoglaockepaa.Num Go.Proofs.Ytafmoglaockepaa.PG Go.Proofs.YtafmoglaockepaaW.PrintWords Go.Proofs.YtafmoglaockepaaW.PrintLast Go.Proofs.YtafmoglaockepaaW.PrintMore
set_option linter.unusedVariables false
set_option linter.unusedSimpArgs false
set_option maxHeartbeats 4000000
set_option maxRecDepth 100000
variable {g B : Nat} {A : Option Addr} {n c : Nat} {xs : List Int} {most : Nat}
def Res.shape {α : Type} : Res α → Res Unit
  | .ok _ m => .ok () m
  | .fail e p => .fail e p
end Go.Proofs.Ytafmoglaockepaa.Cd
end
section
namespace Go.Proofs.Ytafmoglaockepaa.Cd
open Go Go.RowKit Go.Proofs.Ytafmoglaockepaa.Num Go.Proofs.Ytafmoglaockepaa.PG Go.Proofs.YtafmoglaockepaaW.PrintWords Go.Proofs.YtafmoglaockepaaW.PrintLast Go.Proofs.YtafmoglaockepaaW.PrintMore
set_option linter.unusedVariables false
set_option linter.unusedSimpArgs false
set_option maxHeartbeats 4000000
set_option maxRecDepth 100000
theorem read_request (A : Option Addr) (n c : Nat) (xs : List Int) (W : World) (hC : Kd.C (Kd.int .u8) W A n xs) (hnc : n ≤ c) (hb : IsBytes xs) (hbig : n < 1000000000) :
    Calls Try.prog 74 #[.slice A n c, .int .u8 81, .int .i64 4096, .func (.func 75) #[] #[]] W fun e w' => Below W.heap.size W w' ∧ ∃ v, e = .returned (.tuple #[v, .int .i64 (endOf (whole 81 4096 xs (pReq xs 4096))).1, .int .i64 (endOf (whole 81 4096 xs (pReq xs 4096))).2]) ∧ RdOut memReq zero_req W.heap.size (whole 81 4096 xs (pReq xs 4096)) v w' := by
  have HC := Aside0.mk hC
  have HNC := Aside0.mk hnc
  have HBY := Aside0.mk hb
  have HBIG := Aside0.mk hbig
  have HLEN := Aside0.mk (show xs.length = n from Kd.C_len hC)
  have hmf : ∀ (fn : Fn) (first cap : Array Value) (w : World), (Instr.makeFunc fn first cap).run Try.prog w = .ok (.func fn first cap) w := fun _ _ _ _ => rfl
  clear hC hnc hb hbig
  obtain ⟨bo, hbo⟩ : ∃ bo, W.heap.size = bo := ⟨_, rfl⟩
  have HBO := Aside0.mk hbo
  clear hbo
  go_enter_defers Try.func74, Try.ntmps74
  go_upto_region 3 with fail
  have hb1 : Below W.heap.size W (W.alloc (.cells #[.string ⟨#[]⟩, .int .i64 0, .slice none 0 0, .string ⟨#[]⟩, .int .i64 0, .int .i64 0] 40)) := below_alloc (Below.refl _ _) _
  have o1 : Rt 40 W.heap.size zero_req (W.alloc (.cells #[.string ⟨#[]⟩, .int .i64 0, .slice none 0 0, .string ⟨#[]⟩, .int .i64 0, .int .i64 0] 40)) := heap_alloc_new W _
  have s1 : (W.alloc (.cells #[.string ⟨#[]⟩, .int .i64 0, .slice none 0 0, .string ⟨#[]⟩, .int .i64 0, .int .i64 0] 40)).heap.size = W.heap.size + 1 := by simp
  generalize W.alloc (.cells #[.string ⟨#[]⟩, .int .i64 0, .slice none 0 0, .string ⟨#[]⟩, .int .i64 0, .int .i64 0] 40) = wa at *
  have hb2 : Below wa.heap.size wa (wa.alloc (.cells #[.int .i64 0] 22)) := below_alloc (Below.refl _ _) _
  have e2 : Rt 22 wa.heap.size [.int .i64 0] (wa.alloc (.cells #[.int .i64 0] 22)) := heap_alloc_new wa _
  have o2 := o1.below hb2
  have s2 : (wa.alloc (.cells #[.int .i64 0] 22)).heap.size = wa.heap.size + 1 := by simp
  have hc2 := hb1.trans (hb2.mono hb1.size)
  generalize wa.alloc (.cells #[.int .i64 0] 22) = wb at *
  have hb3 : Below wb.heap.size wb (wb.alloc (.cells #[.int .i64 0] 3)) := below_alloc (Below.refl _ _) _
  have a3 : Rt 3 wb.heap.size [.int .i64 0] (wb.alloc (.cells #[.int .i64 0] 3)) := heap_alloc_new wb _
  have o3 := o2.below hb3
  have e3 := e2.below hb3
  have s3 : (wb.alloc (.cells #[.int .i64 0] 3)).heap.size = wb.heap.size + 1 := by simp
  have hc3 := hc2.trans (hb3.mono hc2.size)
  generalize wb.alloc (.cells #[.int .i64 0] 3) = wc at *
  have hb4 : Below wc.heap.size wc (wc.alloc (.cells #[.slice A n c, .int .i64 0, .int .i64 4096] 158)) := below_alloc (Below.refl _ _) _
  have g4 : Rt 158 wc.heap.size [.slice A n c, .int .i64 0, .int .i64 4096] (wc.alloc (.cells #[.slice A n c, .int .i64 0, .int .i64 4096] 158)) := heap_alloc_new wc _
  have o4 := o3.below hb4
  have e4 := e3.below hb4
  have a4 := a3.below hb4
  have hc4 := hc3.trans (hb4.mono hc3.size)
  have s4 : (wc.alloc (.cells #[.slice A n c, .int .i64 0, .int .i64 4096] 158)).heap.size = wc.heap.size + 1 := by simp
  generalize wc.alloc (.cells #[.slice A n c, .int .i64 0, .int .i64 4096] 158) = w4 at *
  rw [s3, s2, s1] at g4 s4
  rw [s2, s1] at a4
  rw [s1] at e4
  obtain ⟨be, hbe⟩ : ∃ be, W.heap.size + 1 = be := ⟨_, rfl⟩
  rw [hbe] at e4 a4 g4 s4 ⊢
  obtain ⟨ba, hba⟩ : ∃ ba, be + 1 = ba := ⟨_, rfl⟩
  rw [hba] at a4 g4 s4 ⊢
  obtain ⟨g, hg⟩ : ∃ g, ba + 1 = g := ⟨_, rfl⟩
  rw [hg] at g4 s4 ⊢
  rw [HBO.out] at o4 hbe ⊢
  have O4 := Aside0.mk o4
  have E4 := Aside0.mk e4
  have A4 := Aside0.mk a4
  have G4 := Aside0.mk g4
  have B4 := Aside0.mk (show Below bo W w4 by rw [← HBO.out]; exact hc4)
  have HORD := Aside0.mk (show be = bo + 1 ∧ ba = bo + 2 ∧ g = bo + 3 ∧ w4.heap.size = bo + 4 by omega)
  clear hb1 o1 s1 hb2 e2 o2 s2 hc2 hb3 a3 o3 e3 s3 hc3 hb4 o4 e4 a4 hc4 s4 hbe hba hg g4 hmf
  have HFAULT := Aside0.mk (show ∀ (er p : Int) (w : World), Rt 40 bo zero_req w → Rt 22 be [.int .i64 0] w → Rt 3 ba [.int .i64 0] w → Below bo W w → CallsD Try.prog 123 #[ptr bo, ptr be, ptr ba] (.panicking [{ v := fault er p, recovered := false }]) w fun e u' w' =>
      e = .returned (.tuple #[]) ∧ u' = .panicking [{ v := fault er p, recovered := true }] ∧ Rt 40 bo zero_req w' ∧ Rt 22 be [.int .i64 er] w' ∧ Rt 3 ba [.int .i64 p] w' ∧ Below bo W w' from fun er p w ho he ha hb => by
    have := HORD.out
    refine (catch_req er p [] w ho he ha (by omega) (by omega) (by omega)).mono ?_
    rintro e u' w' ⟨h1, h2, h3, h4, h5, _, h6⟩
    exact ⟨h1, h2, h3, h4, h5, hb.trans (h6 bo (by omega) (by omega) (by have := hb.size; have := HBO.out; omega))⟩)
  by_cases hl : 4096 < n
  · have d1 : decide ((4096 : Int) < (n : Int)) = true := decide_eq_true (by omega)
    have d2 : decide (4096 < n) = true := decide_eq_true hl
    have HR := Aside0.mk (show whole 81 4096 xs (pReq xs 4096) = Res.fail 1 0 by
      unfold whole
      rw [HLEN.out, if_pos hl])
    clear hl
    go_wp2_with fail
    refine leaves_cons (f := 123) (args := #[ptr bo, ptr be, ptr ba]) (by simp) (by simp [go_sem]) ?_
    refine (HFAULT.out 1 0 w4 O4.out E4.out A4.out B4.out).mono ?_
    rintro e u' w' ⟨rfl, rfl, ho, he, ha, hb⟩
    have x0 := ho.cell 0 _ rfl
    have x1 := ho.cell 1 _ rfl
    have x2 := ho.cell 2 _ rfl
    have x3 := ho.cell 3 _ rfl
    have x4 := ho.cell 4 _ rfl
    have x5 := ho.cell 5 _ rfl
    have y0 := he.cell 0 _ rfl
    have z0 := ha.cell 0 _ rfl
    rw [HR.out]
    simp [Leaves, settle, results, Try.results74, go_sem, x0, x1, x2, x3, x4, x5, x5, y0, z0]
    exact ⟨by rw [HBO.out]; exact hb, _, ⟨rfl, rfl, rfl⟩, rfl⟩
  have d1 : decide ((4096 : Int) < (n : Int)) = false := decide_eq_false (by omega)
  have d2 : decide (4096 < n) = false := decide_eq_false hl
  have HL := Aside0.mk hl
  clear hl
  rcases Nat.eq_zero_or_pos n with hz | hz
  · have HR := Aside0.mk (show whole 81 4096 xs (pReq xs 4096) = Res.fail 3 0 by
      unfold whole
      rw [HLEN.out, if_neg HL.out, if_pos hz])
    have d3 : ((n : Int) == 0) = true := by simpa using hz
    have d4 : decide (n = 0) = true := decide_eq_true hz
    have d5 : (n : Int) = 0 := by omega
    go_wp2_with fail
    refine leaves_cons (f := 123) (args := #[ptr bo, ptr be, ptr ba]) (by simp) (by simp [go_sem]) ?_
    refine (HFAULT.out 3 0 w4 O4.out E4.out A4.out B4.out).mono ?_
    rintro e u' w' ⟨rfl, rfl, ho, he, ha, hb⟩
    have x0 := ho.cell 0 _ rfl
    have x1 := ho.cell 1 _ rfl
    have x2 := ho.cell 2 _ rfl
    have x3 := ho.cell 3 _ rfl
    have x4 := ho.cell 4 _ rfl
    have x5 := ho.cell 5 _ rfl
    have y0 := he.cell 0 _ rfl
    have z0 := ha.cell 0 _ rfl
    rw [HR.out]
    simp [Leaves, settle, results, Try.results74, go_sem, x0, x1, x2, x3, x4, x5, x5, y0, z0]
    exact ⟨by rw [HBO.out]; exact hb, _, ⟨rfl, rfl, rfl⟩, rfl⟩
  have d3 : ((n : Int) == 0) = false := by simp; omega
  have d4 : decide (n = 0) = false := decide_eq_false (by omega)
  have HZ := Aside0.mk hz
  have i0 : (0 : Int) < (n : Int) := by omega
  have hCx := Kd.C_below HC.out (show Below W.heap.size W w4 by rw [HBO.out]; exact B4.out)
  obtain ⟨ad, rfl, hcell⟩ := (Kd.reads_of_C (d := (0 : Int)) (h1 := fun _ => rfl) hCx).2.2 hz
  have k0 := hcell 0 hz
  obtain ⟨x, hx⟩ : ∃ x, xs.getD 0 0 = x := ⟨_, rfl⟩
  rw [hx] at k0
  have HX := Aside0.mk (show xs.headD 0 = x by rw [← hx]; cases xs <;> rfl)
  have k1 : w4.cell? ad = some (.int .u8 x) := by
    have e : ad.add 0 = ad := by simp [Addr.add]
    rwa [e] at k0
  clear hz hCx hcell hx
  by_cases hk : x = 81
  rotate_left
  · have HR := Aside0.mk (show whole 81 4096 xs (pReq xs 4096) = Res.fail 90 0 by
      unfold whole
      rw [HLEN.out, if_neg HL.out, if_neg (by have := HZ.out; omega), HX.out, if_pos hk])
    have d5 : (x != 81) = true := by simpa using hk
    have d6 : (x == 81) = false := by simpa using hk
    have d7 : decide (x = 81) = false := decide_eq_false hk
    clear hk
    go_wp2_with fail
    refine leaves_cons (f := 123) (args := #[ptr bo, ptr be, ptr ba]) (by simp) (by simp [go_sem]) ?_
    refine (HFAULT.out 90 0 w4 O4.out E4.out A4.out B4.out).mono ?_
    rintro e u' w' ⟨rfl, rfl, ho, he, ha, hb⟩
    have x0 := ho.cell 0 _ rfl
    have x1 := ho.cell 1 _ rfl
    have x2 := ho.cell 2 _ rfl
    have x3 := ho.cell 3 _ rfl
    have x4 := ho.cell 4 _ rfl
    have x5 := ho.cell 5 _ rfl
    have y0 := he.cell 0 _ rfl
    have z0 := ha.cell 0 _ rfl
    rw [HR.out]
    simp [Leaves, settle, results, Try.results74, go_sem, x0, x1, x2, x3, x4, x5, x5, y0, z0]
    exact ⟨by rw [HBO.out]; exact hb, _, ⟨rfl, rfl, rfl⟩, rfl⟩
  subst hk
  have hg1 := G4.out.cell 1 _ rfl
  have fg1 := G4.out.free 1
  go_upto_region 10 with fail
  rw [G4.out.set 1 (.int .i64 1)]
  have hl1 : [Value.slice (some ad) n c, .int .i64 0, .int .i64 4096].set 1 (.int .i64 1) = [Value.slice (some ad) n c, .int .i64 1, .int .i64 4096] := rfl
  rw [hl1]
  have K4 : CrAt g bo (some ad) n c xs 0 4096 w4 := ⟨G4.out, fun W' hb => Kd.C_below HC.out (by rw [HBO.out]; exact B4.out.trans hb), by have := HORD.out; omega, HNC.out, Nat.zero_le _, HBIG.out, by decide, HBY.out⟩
  have hmv := K4.moved (m' := 1) HZ.out
  have e1 : (((1 : Nat) : Int)) = 1 := rfl
  have e2 : (((4096 : Nat) : Int)) = 4096 := rfl
  rw [e1, e2] at hmv
  have K5 := Aside0.mk hmv.1
  have B5 := Aside0.mk (B4.out.trans hmv.2.1)
  have O5 := Aside0.mk (show Rt 40 bo zero_req (w4.setRow g [Value.slice (some ad) n c, .int .i64 1, .int .i64 4096].toArray) from (setRow_other _ _ _ _ (by have := HORD.out; omega)).trans O4.out)
  have E5 := Aside0.mk (show Rt 22 be [.int .i64 0] (w4.setRow g [Value.slice (some ad) n c, .int .i64 1, .int .i64 4096].toArray) from (setRow_other _ _ _ _ (by have := HORD.out; omega)).trans E4.out)
  have A5 := Aside0.mk (show Rt 3 ba [.int .i64 0] (w4.setRow g [Value.slice (some ad) n c, .int .i64 1, .int .i64 4096].toArray) from (setRow_other _ _ _ _ (by have := HORD.out; omega)).trans A4.out)
  have S5 := Aside0.mk (show bo + 4 ≤ (w4.setRow g [Value.slice (some ad) n c, .int .i64 1, .int .i64 4096].toArray).heap.size by rw [setRow_size]; have := HORD.out; omega)
  clear hmv K4 hl1 e1 e2 hg1 fg1 k0 k1 d1 d2 d3 d4 i0
  generalize w4.setRow g [Value.slice (some ad) n c, .int .i64 1, .int .i64 4096].toArray = w5 at *
  have HW := Aside0.mk (show whole 81 4096 xs (pReq xs 4096) = (pReq xs 4096 1).bind fun x n => if n < xs.length then .fail 4 (n : Int) else .ok x n by
    unfold whole
    rw [HLEN.out, if_neg HL.out, if_neg (by have := HZ.out; omega), HX.out, if_neg (by decide)])
  go_wp2_with fail
  go_at_call 75
  refine (r_request K5.out).mono ?_
  rintro e w6 ⟨hb, hp, ho⟩
  have O6 := Aside0.mk (show Rt 40 bo zero_req w6 from (hp.2 bo O5.out.lt (by have := HORD.out; show bo ≠ g; omega)).trans O5.out)
  have E6 := Aside0.mk (show Rt 22 be [.int .i64 0] w6 from (hp.2 be E5.out.lt (by have := HORD.out; show be ≠ g; omega)).trans E5.out)
  have A6 := Aside0.mk (show Rt 3 ba [.int .i64 0] w6 from (hp.2 ba A5.out.lt (by have := HORD.out; show ba ≠ g; omega)).trans A5.out)
  have B6 := Aside0.mk (B5.out.trans hb)
  rcases hq : pReq xs 4096 1 with ⟨x, m2⟩ | ⟨er, p⟩
  rotate_left
  · rw [hq] at ho
    have ho : e = gaveUp er p := ho
    subst ho
    have HR := Aside0.mk (show whole 81 4096 xs (pReq xs 4096) = Res.fail er p by rw [HW.out, hq]; rfl)
    clear hb hp hq
    simp only [gaveUp]
    refine leaves_cons (f := 123) (args := #[ptr bo, ptr be, ptr ba]) (by simp) (by simp [go_sem]) ?_
    refine (HFAULT.out er p w6 O6.out E6.out A6.out B6.out).mono ?_
    rintro e u' w' ⟨rfl, rfl, ho, he, ha, hb⟩
    have x0 := ho.cell 0 _ rfl
    have x1 := ho.cell 1 _ rfl
    have x2 := ho.cell 2 _ rfl
    have x3 := ho.cell 3 _ rfl
    have x4 := ho.cell 4 _ rfl
    have x5 := ho.cell 5 _ rfl
    have y0 := he.cell 0 _ rfl
    have z0 := ha.cell 0 _ rfl
    rw [HR.out]
    simp [Leaves, settle, results, Try.results74, go_sem, x0, x1, x2, x3, x4, x5, x5, y0, z0]
    exact ⟨by rw [HBO.out]; exact hb, _, ⟨rfl, rfl, rfl⟩, rfl⟩
  rw [hq] at ho
  obtain ⟨v, he, ⟨Al, nl, cl, hv, hl⟩, hk⟩ : ∃ v, e = .returned v ∧ memReq w5.heap.size x v w6 ∧ CrAt g bo (some ad) n c xs m2 4096 w6 := ho
  subst he hv
  have K6 := Aside0.mk hk
  have Ll_6 := Aside0.mk (LN_alive.lower hl S5.out)
  have HQ := Aside0.mk hq
  clear hb hp hq hl hk
  try clear ho
  go_upto_region 11 with fail
  have hb7 : Below w6.heap.size w6 (w6.alloc (.cells #[.string x.f0, .int .i64 x.f1, .slice Al nl cl, .string x.f3, .int .i64 x.f4, .int .i64 x.f5] 40)) := below_alloc (Below.refl _ _) _
  have r7 : Rt 40 w6.heap.size [.string x.f0, .int .i64 x.f1, .slice Al nl cl, .string x.f3, .int .i64 x.f4, .int .i64 x.f5] (w6.alloc (.cells #[.string x.f0, .int .i64 x.f1, .slice Al nl cl, .string x.f3, .int .i64 x.f4, .int .i64 x.f5] 40)) := heap_alloc_new w6 _
  obtain ⟨bx, hbx⟩ : ∃ bx, w6.heap.size = bx := ⟨_, rfl⟩
  have O7 := Aside0.mk (O6.out.below hb7)
  have E7 := Aside0.mk (E6.out.below hb7)
  have A7 := Aside0.mk (A6.out.below hb7)
  have K7 := Aside0.mk (K6.out.below hb7)
  have Ll_7 := Aside0.mk (LN_alive.below Ll_6.out hb7)
  have B7 := Aside0.mk (B6.out.trans (hb7.mono (by have := B6.out.size; have := HBO.out; omega)))
  have B7' := B7.out
  rw [hbx] at r7 ⊢
  have R7 := Aside0.mk r7
  clear hb7 r7 hbx B7'
  generalize w6.alloc (.cells #[.string x.f0, .int .i64 x.f1, .slice Al nl cl, .string x.f3, .int .i64 x.f4, .int .i64 x.f5] 40) = w7 at *
  have hm7 := K7.out.row.cell 1 _ rfl
  by_cases ht : m2 < n
  · have d1 : decide ((m2 : Int) < (n : Int)) = true := decide_eq_true (by omega)
    have d2 : decide (m2 < n) = true := decide_eq_true ht
    have HR := Aside0.mk (show whole 81 4096 xs (pReq xs 4096) = Res.fail 4 (m2 : Int) by
      rw [HW.out, HQ.out]
      show (if m2 < xs.length then Res.fail 4 (m2 : Int) else Res.ok x m2) = _
      rw [HLEN.out, if_pos ht])
    clear ht
    go_wp2_with fail
    refine leaves_cons (f := 123) (args := #[ptr bo, ptr be, ptr ba]) (by simp) (by simp [go_sem]) ?_
    refine (HFAULT.out 4 (m2 : Int) w7 O7.out E7.out A7.out B7.out).mono ?_
    rintro e u' w' ⟨rfl, rfl, ho, he, ha, hb⟩
    have x0 := ho.cell 0 _ rfl
    have x1 := ho.cell 1 _ rfl
    have x2 := ho.cell 2 _ rfl
    have x3 := ho.cell 3 _ rfl
    have x4 := ho.cell 4 _ rfl
    have x5 := ho.cell 5 _ rfl
    have y0 := he.cell 0 _ rfl
    have z0 := ha.cell 0 _ rfl
    rw [HR.out]
    simp [Leaves, settle, results, Try.results74, go_sem, x0, x1, x2, x3, x4, x5, x5, y0, z0]
    exact ⟨by rw [HBO.out]; exact hb, _, ⟨rfl, rfl, rfl⟩, rfl⟩
  have d1 : decide ((m2 : Int) < (n : Int)) = false := decide_eq_false (by omega)
  have d2 : decide (m2 < n) = false := decide_eq_false ht
  have HR := Aside0.mk (show whole 81 4096 xs (pReq xs 4096) = Res.ok x m2 by
    rw [HW.out, HQ.out]
    show (if m2 < xs.length then Res.fail 4 (m2 : Int) else Res.ok x m2) = _
    rw [HLEN.out, if_neg ht])
  clear ht
  have c0 := R7.out.cell 0 _ rfl
  have c1 := R7.out.cell 1 _ rfl
  have c2 := R7.out.cell 2 _ rfl
  have c3 := R7.out.cell 3 _ rfl
  have c4 := R7.out.cell 4 _ rfl
  have c5 := R7.out.cell 5 _ rfl
  have z0 := O7.out.cell 0 _ rfl
  have z1 := O7.out.cell 1 _ rfl
  have z2 := O7.out.cell 2 _ rfl
  have z3 := O7.out.cell 3 _ rfl
  have z4 := O7.out.cell 4 _ rfl
  have z5 := O7.out.cell 5 _ rfl
  have f0 := O7.out.free 0
  have f1 := O7.out.free 1
  have f2 := O7.out.free 2
  have f3 := O7.out.free 3
  have f4 := O7.out.free 4
  have f5 := O7.out.free 5
  have y0 := E7.out.cell 0 _ rfl
  have y1 := E7.out.free 0
  have a0 := A7.out.cell 0 _ rfl
  have a1 := A7.out.free 0
  have hne1 : be ≠ bo := by have := HORD.out; omega
  have hne2 : ba ≠ bo := by have := HORD.out; omega
  have hne3 : ba ≠ be := by have := HORD.out; omega
  go_wp2_with fail
  clear c0 c1 c2 c3 c4 c5 z0 z1 z2 z3 z4 z5 f0 f1 f2 f3 f4 f5 y0 y1 a0 a1 d1 d2 hm7
  have q := O7.out.set 0 (.string x.f0)
  rw [show ([Value.string ⟨#[]⟩, .int .i64 0, .slice none 0 0, .string ⟨#[]⟩, .int .i64 0, .int .i64 0]).set 0 (.string x.f0) = [Value.string x.f0, .int .i64 0, .slice none 0 0, .string ⟨#[]⟩, .int .i64 0, .int .i64 0] from rfl] at q
  rw [q]
  have O8 := Aside0.mk (show Rt 40 bo [Value.string x.f0, .int .i64 0, .slice none 0 0, .string ⟨#[]⟩, .int .i64 0, .int .i64 0] (w7.setRow bo ([Value.string x.f0, .int .i64 0, .slice none 0 0, .string ⟨#[]⟩, .int .i64 0, .int .i64 0]).toArray) from O7.out.row _)
  have E8 := Aside0.mk (show Rt 22 be [.int .i64 0] (w7.setRow bo ([Value.string x.f0, .int .i64 0, .slice none 0 0, .string ⟨#[]⟩, .int .i64 0, .int .i64 0]).toArray) from (setRow_other _ _ _ _ hne1).trans E7.out)
  have A8 := Aside0.mk (show Rt 3 ba [.int .i64 0] (w7.setRow bo ([Value.string x.f0, .int .i64 0, .slice none 0 0, .string ⟨#[]⟩, .int .i64 0, .int .i64 0]).toArray) from (setRow_other _ _ _ _ hne2).trans A7.out)
  have Ll_8 := Aside0.mk (LN_alive.row Ll_7.out (show bo < bo + 4 by omega) ([Value.string x.f0, .int .i64 0, .slice none 0 0, .string ⟨#[]⟩, .int .i64 0, .int .i64 0]).toArray)
  have B8 := Aside0.mk (show Below bo W (w7.setRow bo ([Value.string x.f0, .int .i64 0, .slice none 0 0, .string ⟨#[]⟩, .int .i64 0, .int .i64 0]).toArray) from below_setRow' B7.out (Nat.le_refl _) _)
  clear q
  generalize w7.setRow bo ([Value.string x.f0, .int .i64 0, .slice none 0 0, .string ⟨#[]⟩, .int .i64 0, .int .i64 0]).toArray = w8 at *
  have q := O8.out.set 1 (.int .i64 x.f1)
  rw [show ([Value.string x.f0, .int .i64 0, .slice none 0 0, .string ⟨#[]⟩, .int .i64 0, .int .i64 0]).set 1 (.int .i64 x.f1) = [Value.string x.f0, .int .i64 x.f1, .slice none 0 0, .string ⟨#[]⟩, .int .i64 0, .int .i64 0] from rfl] at q
  rw [q]
  have O9 := Aside0.mk (show Rt 40 bo [Value.string x.f0, .int .i64 x.f1, .slice none 0 0, .string ⟨#[]⟩, .int .i64 0, .int .i64 0] (w8.setRow bo ([Value.string x.f0, .int .i64 x.f1, .slice none 0 0, .string ⟨#[]⟩, .int .i64 0, .int .i64 0]).toArray) from O8.out.row _)
  have E9 := Aside0.mk (show Rt 22 be [.int .i64 0] (w8.setRow bo ([Value.string x.f0, .int .i64 x.f1, .slice none 0 0, .string ⟨#[]⟩, .int .i64 0, .int .i64 0]).toArray) from (setRow_other _ _ _ _ hne1).trans E8.out)
  have A9 := Aside0.mk (show Rt 3 ba [.int .i64 0] (w8.setRow bo ([Value.string x.f0, .int .i64 x.f1, .slice none 0 0, .string ⟨#[]⟩, .int .i64 0, .int .i64 0]).toArray) from (setRow_other _ _ _ _ hne2).trans A8.out)
  have Ll_9 := Aside0.mk (LN_alive.row Ll_8.out (show bo < bo + 4 by omega) ([Value.string x.f0, .int .i64 x.f1, .slice none 0 0, .string ⟨#[]⟩, .int .i64 0, .int .i64 0]).toArray)
  have B9 := Aside0.mk (show Below bo W (w8.setRow bo ([Value.string x.f0, .int .i64 x.f1, .slice none 0 0, .string ⟨#[]⟩, .int .i64 0, .int .i64 0]).toArray) from below_setRow' B8.out (Nat.le_refl _) _)
  clear q
  generalize w8.setRow bo ([Value.string x.f0, .int .i64 x.f1, .slice none 0 0, .string ⟨#[]⟩, .int .i64 0, .int .i64 0]).toArray = w9 at *
  have q := O9.out.set 2 (.slice Al nl cl)
  rw [show ([Value.string x.f0, .int .i64 x.f1, .slice none 0 0, .string ⟨#[]⟩, .int .i64 0, .int .i64 0]).set 2 (.slice Al nl cl) = [Value.string x.f0, .int .i64 x.f1, .slice Al nl cl, .string ⟨#[]⟩, .int .i64 0, .int .i64 0] from rfl] at q
  rw [q]
  have O10 := Aside0.mk (show Rt 40 bo [Value.string x.f0, .int .i64 x.f1, .slice Al nl cl, .string ⟨#[]⟩, .int .i64 0, .int .i64 0] (w9.setRow bo ([Value.string x.f0, .int .i64 x.f1, .slice Al nl cl, .string ⟨#[]⟩, .int .i64 0, .int .i64 0]).toArray) from O9.out.row _)
  have E10 := Aside0.mk (show Rt 22 be [.int .i64 0] (w9.setRow bo ([Value.string x.f0, .int .i64 x.f1, .slice Al nl cl, .string ⟨#[]⟩, .int .i64 0, .int .i64 0]).toArray) from (setRow_other _ _ _ _ hne1).trans E9.out)
  have A10 := Aside0.mk (show Rt 3 ba [.int .i64 0] (w9.setRow bo ([Value.string x.f0, .int .i64 x.f1, .slice Al nl cl, .string ⟨#[]⟩, .int .i64 0, .int .i64 0]).toArray) from (setRow_other _ _ _ _ hne2).trans A9.out)
  have Ll_10 := Aside0.mk (LN_alive.row Ll_9.out (show bo < bo + 4 by omega) ([Value.string x.f0, .int .i64 x.f1, .slice Al nl cl, .string ⟨#[]⟩, .int .i64 0, .int .i64 0]).toArray)
  have B10 := Aside0.mk (show Below bo W (w9.setRow bo ([Value.string x.f0, .int .i64 x.f1, .slice Al nl cl, .string ⟨#[]⟩, .int .i64 0, .int .i64 0]).toArray) from below_setRow' B9.out (Nat.le_refl _) _)
  clear q
  generalize w9.setRow bo ([Value.string x.f0, .int .i64 x.f1, .slice Al nl cl, .string ⟨#[]⟩, .int .i64 0, .int .i64 0]).toArray = w10 at *
  have q := O10.out.set 3 (.string x.f3)
  rw [show ([Value.string x.f0, .int .i64 x.f1, .slice Al nl cl, .string ⟨#[]⟩, .int .i64 0, .int .i64 0]).set 3 (.string x.f3) = [Value.string x.f0, .int .i64 x.f1, .slice Al nl cl, .string x.f3, .int .i64 0, .int .i64 0] from rfl] at q
  rw [q]
  have O11 := Aside0.mk (show Rt 40 bo [Value.string x.f0, .int .i64 x.f1, .slice Al nl cl, .string x.f3, .int .i64 0, .int .i64 0] (w10.setRow bo ([Value.string x.f0, .int .i64 x.f1, .slice Al nl cl, .string x.f3, .int .i64 0, .int .i64 0]).toArray) from O10.out.row _)
  have E11 := Aside0.mk (show Rt 22 be [.int .i64 0] (w10.setRow bo ([Value.string x.f0, .int .i64 x.f1, .slice Al nl cl, .string x.f3, .int .i64 0, .int .i64 0]).toArray) from (setRow_other _ _ _ _ hne1).trans E10.out)
  have A11 := Aside0.mk (show Rt 3 ba [.int .i64 0] (w10.setRow bo ([Value.string x.f0, .int .i64 x.f1, .slice Al nl cl, .string x.f3, .int .i64 0, .int .i64 0]).toArray) from (setRow_other _ _ _ _ hne2).trans A10.out)
  have Ll_11 := Aside0.mk (LN_alive.row Ll_10.out (show bo < bo + 4 by omega) ([Value.string x.f0, .int .i64 x.f1, .slice Al nl cl, .string x.f3, .int .i64 0, .int .i64 0]).toArray)
  have B11 := Aside0.mk (show Below bo W (w10.setRow bo ([Value.string x.f0, .int .i64 x.f1, .slice Al nl cl, .string x.f3, .int .i64 0, .int .i64 0]).toArray) from below_setRow' B10.out (Nat.le_refl _) _)
  clear q
  generalize w10.setRow bo ([Value.string x.f0, .int .i64 x.f1, .slice Al nl cl, .string x.f3, .int .i64 0, .int .i64 0]).toArray = w11 at *
  have q := O11.out.set 4 (.int .i64 x.f4)
  rw [show ([Value.string x.f0, .int .i64 x.f1, .slice Al nl cl, .string x.f3, .int .i64 0, .int .i64 0]).set 4 (.int .i64 x.f4) = [Value.string x.f0, .int .i64 x.f1, .slice Al nl cl, .string x.f3, .int .i64 x.f4, .int .i64 0] from rfl] at q
  rw [q]
  have O12 := Aside0.mk (show Rt 40 bo [Value.string x.f0, .int .i64 x.f1, .slice Al nl cl, .string x.f3, .int .i64 x.f4, .int .i64 0] (w11.setRow bo ([Value.string x.f0, .int .i64 x.f1, .slice Al nl cl, .string x.f3, .int .i64 x.f4, .int .i64 0]).toArray) from O11.out.row _)
  have E12 := Aside0.mk (show Rt 22 be [.int .i64 0] (w11.setRow bo ([Value.string x.f0, .int .i64 x.f1, .slice Al nl cl, .string x.f3, .int .i64 x.f4, .int .i64 0]).toArray) from (setRow_other _ _ _ _ hne1).trans E11.out)
  have A12 := Aside0.mk (show Rt 3 ba [.int .i64 0] (w11.setRow bo ([Value.string x.f0, .int .i64 x.f1, .slice Al nl cl, .string x.f3, .int .i64 x.f4, .int .i64 0]).toArray) from (setRow_other _ _ _ _ hne2).trans A11.out)
  have Ll_12 := Aside0.mk (LN_alive.row Ll_11.out (show bo < bo + 4 by omega) ([Value.string x.f0, .int .i64 x.f1, .slice Al nl cl, .string x.f3, .int .i64 x.f4, .int .i64 0]).toArray)
  have B12 := Aside0.mk (show Below bo W (w11.setRow bo ([Value.string x.f0, .int .i64 x.f1, .slice Al nl cl, .string x.f3, .int .i64 x.f4, .int .i64 0]).toArray) from below_setRow' B11.out (Nat.le_refl _) _)
  clear q
  generalize w11.setRow bo ([Value.string x.f0, .int .i64 x.f1, .slice Al nl cl, .string x.f3, .int .i64 x.f4, .int .i64 0]).toArray = w12 at *
  have q := O12.out.set 5 (.int .i64 x.f5)
  rw [show ([Value.string x.f0, .int .i64 x.f1, .slice Al nl cl, .string x.f3, .int .i64 x.f4, .int .i64 0]).set 5 (.int .i64 x.f5) = [Value.string x.f0, .int .i64 x.f1, .slice Al nl cl, .string x.f3, .int .i64 x.f4, .int .i64 x.f5] from rfl] at q
  rw [q]
  have O13 := Aside0.mk (show Rt 40 bo [Value.string x.f0, .int .i64 x.f1, .slice Al nl cl, .string x.f3, .int .i64 x.f4, .int .i64 x.f5] (w12.setRow bo ([Value.string x.f0, .int .i64 x.f1, .slice Al nl cl, .string x.f3, .int .i64 x.f4, .int .i64 x.f5]).toArray) from O12.out.row _)
  have E13 := Aside0.mk (show Rt 22 be [.int .i64 0] (w12.setRow bo ([Value.string x.f0, .int .i64 x.f1, .slice Al nl cl, .string x.f3, .int .i64 x.f4, .int .i64 x.f5]).toArray) from (setRow_other _ _ _ _ hne1).trans E12.out)
  have A13 := Aside0.mk (show Rt 3 ba [.int .i64 0] (w12.setRow bo ([Value.string x.f0, .int .i64 x.f1, .slice Al nl cl, .string x.f3, .int .i64 x.f4, .int .i64 x.f5]).toArray) from (setRow_other _ _ _ _ hne2).trans A12.out)
  have Ll_13 := Aside0.mk (LN_alive.row Ll_12.out (show bo < bo + 4 by omega) ([Value.string x.f0, .int .i64 x.f1, .slice Al nl cl, .string x.f3, .int .i64 x.f4, .int .i64 x.f5]).toArray)
  have B13 := Aside0.mk (show Below bo W (w12.setRow bo ([Value.string x.f0, .int .i64 x.f1, .slice Al nl cl, .string x.f3, .int .i64 x.f4, .int .i64 x.f5]).toArray) from below_setRow' B12.out (Nat.le_refl _) _)
  clear q
  generalize w12.setRow bo ([Value.string x.f0, .int .i64 x.f1, .slice Al nl cl, .string x.f3, .int .i64 x.f4, .int .i64 x.f5]).toArray = w13 at *
  rw [E13.out.same 0 _ rfl, A13.out.same 0 _ rfl]
  refine leaves_cons (f := 123) (args := #[ptr bo, ptr be, ptr ba]) (by simp) (by simp [go_sem]) ?_
  refine (idle_req (bo := bo) (be := be) (ba := ba) w13).mono ?_
  rintro e u' w' ⟨rfl, rfl, hb⟩
  have ho := O13.out.below hb
  have he := E13.out.below hb
  have ha := A13.out.below hb
  have hl := LN_alive.below Ll_13.out hb
  have x0 := ho.cell 0 _ rfl
  have x1 := ho.cell 1 _ rfl
  have x2 := ho.cell 2 _ rfl
  have x3 := ho.cell 3 _ rfl
  have x4 := ho.cell 4 _ rfl
  have x5 := ho.cell 5 _ rfl
  have y0 := he.cell 0 _ rfl
  have z0 := ha.cell 0 _ rfl
  rw [HR.out]
  simp [Leaves, settle, results, Try.results74, go_sem, x0, x1, x2, x3, x4, x5, y0, z0]
  refine ⟨by rw [HBO.out]; exact B13.out.trans (hb.mono (by have := B13.out.size; have := HBO.out; omega)), _, ⟨rfl, rfl, rfl⟩, Al, nl, cl, rfl, LN_alive.lower hl (by have := HBO.out; omega)⟩
end Go.Proofs.Ytafmoglaockepaa.Cd
end
section
namespace Go.Proofs.Ytafmoglaockepaa.Cd
open Go Go.RowKit Go.Proofs.Ytafmoglaockepaa.Num Go.Proofs.Ytafmoglaockepaa.PG Go.Proofs.YtafmoglaockepaaW.PrintWords Go.Proofs.YtafmoglaockepaaW.PrintLast Go.Proofs.YtafmoglaockepaaW.PrintMore
set_option linter.unusedVariables false
set_option linter.unusedSimpArgs false
set_option maxHeartbeats 4000000
set_option maxRecDepth 100000
def zeroD_req : S40 := ⟨⟨#[]⟩, 0, [], ⟨#[]⟩, 0, 0⟩
theorem enc_out_req {S0 : Nat} {r : Res S40} {v : Value} {w : World} (h : RdOut memReq zero_req S0 r v w) : memReq S0 (outOr zeroD_req r) v w := by
  cases r with
  | ok x n => exact h
  | fail e p =>
    have h : v = .agg zero_req.toArray := h
    subst h
    exact ⟨none, 0, 0, rfl, Kd.R_nil _ _ _ _ _⟩
theorem Rt.full_req {t b : Nat} {z0 z1 z2 z3 z4 z5 : Value} {W : World} (h : Rt t b [z0, z1, z2, z3, z4, z5] W) (a0 a1 a2 a3 a4 a5 : Value) :
    ((((((W.setCell ⟨b, 0, none⟩ a0).setCell ⟨b, 1, none⟩ a1).setCell ⟨b, 2, none⟩ a2).setCell ⟨b, 3, none⟩ a3).setCell ⟨b, 4, none⟩ a4).setCell ⟨b, 5, none⟩ a5) = W.setRow b [a0, a1, a2, a3, a4, a5].toArray := by
  rw [h.set 0 a0]
  have h0 : Rt t b [a0, z1, z2, z3, z4, z5] (W.setRow b ([z0, z1, z2, z3, z4, z5].set 0 a0).toArray) := h.row _
  rw [h0.set 1 a1, setRow_again]
  have h1 : Rt t b [a0, a1, z2, z3, z4, z5] (W.setRow b ([a0, z1, z2, z3, z4, z5].set 1 a1).toArray) := h.row _
  rw [h1.set 2 a2, setRow_again]
  have h2 : Rt t b [a0, a1, a2, z3, z4, z5] (W.setRow b ([a0, a1, z2, z3, z4, z5].set 2 a2).toArray) := h.row _
  rw [h2.set 3 a3, setRow_again]
  have h3 : Rt t b [a0, a1, a2, a3, z4, z5] (W.setRow b ([a0, a1, a2, z3, z4, z5].set 3 a3).toArray) := h.row _
  rw [h3.set 4 a4, setRow_again]
  have h4 : Rt t b [a0, a1, a2, a3, a4, z5] (W.setRow b ([a0, a1, a2, a3, z4, z5].set 4 a4).toArray) := h.row _
  rw [h4.set 5 a5, setRow_again]
  rfl
theorem Request_at (A : Option Addr) (n c : Nat) (xs : List Int) (W : World) (hC : Kd.C (Kd.int .u8) W A n xs) (hnc : n ≤ c) (hb : IsBytes xs) (hbig : n < 1000000000) :
    Calls Try.prog 24 #[.slice A n c] W fun e w' => Below W.heap.size W w' ∧ ∃ v, e = .returned (.tuple #[v, .int .i64 (endOf (whole 81 4096 xs (pReq xs 4096))).1, .int .i64 (endOf (whole 81 4096 xs (pReq xs 4096))).2]) ∧ memReq W.heap.size (outOr zeroD_req (whole 81 4096 xs (pReq xs 4096))) v w' := by
  have hb1 : Below W.heap.size W (W.alloc (.cells #[.string ⟨#[]⟩, .int .i64 0, .slice none 0 0, .string ⟨#[]⟩, .int .i64 0, .int .i64 0] 40)) := below_alloc (Below.refl _ _) _
  have r1 : Rt 40 W.heap.size zero_req (W.alloc (.cells #[.string ⟨#[]⟩, .int .i64 0, .slice none 0 0, .string ⟨#[]⟩, .int .i64 0, .int .i64 0] 40)) := heap_alloc_new W _
  have hC1 := Kd.C_below hC hb1
  have HRD := Aside0.mk (read_request A n c xs (W.alloc (.cells #[.string ⟨#[]⟩, .int .i64 0, .slice none 0 0, .string ⟨#[]⟩, .int .i64 0, .int .i64 0] 40)) hC1 hnc hb hbig)
  generalize whole 81 4096 xs (pReq xs 4096) = rr at *
  have B1 := Aside0.mk hb1
  clear hC hC1 hnc hb hbig
  go_enter Try.func24, Try.ntmps24
  go_upto_region 1 with fail
  obtain ⟨b, hbe⟩ : ∃ b, W.heap.size = b := ⟨_, rfl⟩
  have HBE := Aside0.mk hbe
  rw [hbe] at r1 ⊢
  have R1 := Aside0.mk r1
  clear hb1 r1 hbe
  generalize W.alloc (.cells #[.string ⟨#[]⟩, .int .i64 0, .slice none 0 0, .string ⟨#[]⟩, .int .i64 0, .int .i64 0] 40) = w1 at *
  go_wp2_with fail
  go_at_call 74
  refine HRD.out.mono ?_
  rintro e w2 ⟨hb, v, rfl, ho⟩
  obtain ⟨Al, nl, cl, hv, hl⟩ := enc_out_req ho
  subst hv
  obtain ⟨x, hx⟩ : ∃ x, outOr zeroD_req rr = x := ⟨_, rfl⟩
  obtain ⟨ec, hec⟩ : ∃ ec, (endOf rr).1 = ec := ⟨_, rfl⟩
  obtain ⟨ep, hep⟩ : ∃ ep, (endOf rr).2 = ep := ⟨_, rfl⟩
  rw [hx] at hl ⊢
  rw [hec, hep]
  have HX := Aside0.mk (And.intro hx (And.intro hec hep))
  have R2 := Aside0.mk (R1.out.below hb)
  have Ll_2 := Aside0.mk (LN_alive.lower hl R1.out.lt)
  have B2 := Aside0.mk (show Below W.heap.size W w2 from B1.out.trans (hb.mono B1.out.size))
  clear hb ho hl HRD hx hec hep
  have z0 := R2.out.cell 0 _ rfl
  have f0 := R2.out.free 0
  have z1 := R2.out.cell 1 _ rfl
  have f1 := R2.out.free 1
  have z2 := R2.out.cell 2 _ rfl
  have f2 := R2.out.free 2
  have z3 := R2.out.cell 3 _ rfl
  have f3 := R2.out.free 3
  have z4 := R2.out.cell 4 _ rfl
  have f4 := R2.out.free 4
  have z5 := R2.out.cell 5 _ rfl
  have f5 := R2.out.free 5
  go_wp2_with fail
  rw [R2.out.full_req]
  have R3 : Rt 40 b [.string x.f0, .int .i64 x.f1, .slice Al nl cl, .string x.f3, .int .i64 x.f4, .int .i64 x.f5] (w2.setRow b [Value.string x.f0, .int .i64 x.f1, .slice Al nl cl, .string x.f3, .int .i64 x.f4, .int .i64 x.f5].toArray) := R2.out.row _
  have Ll_3 := LN_alive.row Ll_2.out (Nat.lt_succ_self b) [Value.string x.f0, .int .i64 x.f1, .slice Al nl cl, .string x.f3, .int .i64 x.f4, .int .i64 x.f5].toArray
  have B3 : Below W.heap.size W (w2.setRow b [Value.string x.f0, .int .i64 x.f1, .slice Al nl cl, .string x.f3, .int .i64 x.f4, .int .i64 x.f5].toArray) := below_setRow' B2.out (Nat.le_of_eq HBE.out) _
  clear z0 f0 z1 f1 z2 f2 z3 f3 z4 f4 z5 f5
  generalize w2.setRow b [Value.string x.f0, .int .i64 x.f1, .slice Al nl cl, .string x.f3, .int .i64 x.f4, .int .i64 x.f5].toArray = w3 at *
  have x0 := R3.cell 0 _ rfl
  have x1 := R3.cell 1 _ rfl
  have x2 := R3.cell 2 _ rfl
  have x3 := R3.cell 3 _ rfl
  have x4 := R3.cell 4 _ rfl
  have x5 := R3.cell 5 _ rfl
  refine ⟨rfl, ?_⟩
  simp [results, Try.results24, go_sem, x0, x1, x2, x3, x4, x5]
  refine ⟨B3, _, ⟨rfl, HX.out.2.1.symm, HX.out.2.2.symm⟩, ?_⟩
  rw [HX.out.1]
  exact ⟨Al, nl, cl, rfl, LN_alive.lower Ll_3 (by have := HBE.out; omega)⟩
end Go.Proofs.Ytafmoglaockepaa.Cd
end
section
namespace Go.Proofs.Ytafmoglaockepaa.Cd
open Go Go.RowKit Go.Proofs.Ytafmoglaockepaa.Mine Go.Proofs.Ytafmoglaockepaa.Num Go.Proofs.Ytafmoglaockepaa.PG Go.Proofs.YtafmoglaockepaaW.PrintWords Go.Proofs.YtafmoglaockepaaW.PrintLast Go.Proofs.YtafmoglaockepaaW.PrintMore
set_option linter.unusedVariables false
set_option linter.unusedSimpArgs false
set_option maxHeartbeats 4000000
set_option maxRecDepth 100000
theorem sameLevels_l0 (l : List S28) (hl : l.length ≤ 9223372036854775807) : ∀ d i : Nat, i + d = l.length → larderref09_SameLevels.l0 (d + 1) l l (i : Int) = some true
  | 0, i, h => by
    unfold larderref09_SameLevels.l0
    rw [if_neg (by omega)]
  | d + 1, i, h => by
    unfold larderref09_SameLevels.l0
    rw [if_pos (by omega), if_pos (by omega), if_pos (by omega), w64n (by omega), sameLevels_l0 l hl d (i + 1) (by omega)]
    simp
theorem sameLevels_ok (l : List S28) (hl : l.length ≤ 9223372036854775807) : larderref09_SameLevels.f (l.length + 1) l l = some true := by
  unfold larderref09_SameLevels.f
  rw [if_pos rfl]
  exact sameLevels_l0 l hl l.length 0 (by omega)
theorem sameReply_ok (id : ByteArray) (er line : Int) (l : List S28) (now : Int) (hl : l.length ≤ 9223372036854775807) : larderref09_SameReply.f (l.length + 1) id er line l now id er line l now = some true := by
  unfold larderref09_SameReply.f
  rw [if_pos rfl, if_pos rfl, if_pos rfl, sameLevels_ok l hl, Option.bind_some, if_pos rfl]
  simp
def sumL (l : List S28) : Nat := (l.map fun x => 3 + x.f0.size).sum
theorem sumL_count : ∀ l : List S28, 3 * l.length ≤ sumL l
  | [] => by simp [sumL]
  | x :: l => by
    have := sumL_count l
    simp only [sumL, List.map_cons, List.sum_cons, List.length_cons] at this ⊢
    omega
theorem bulkL_sum : ∀ l : List S28, bulkL l ≤ 10 * sumL l
  | [] => by simp [bulkL, sumL]
  | x :: l => by
    have := bulkL_sum l
    simp only [sumL, bulkL, List.map_cons, List.sum_cons] at this ⊢
    omega
end Go.Proofs.Ytafmoglaockepaa.Cd
end
section
namespace Go.Proofs.Ytafmoglaockepaa.Cd
open Go Go.RowKit Go.Proofs.Ytafmoglaockepaa.Num Go.Proofs.Ytafmoglaockepaa.PG Go.Proofs.YtafmoglaockepaaW.PrintWords Go.Proofs.YtafmoglaockepaaW.PrintLast Go.Proofs.YtafmoglaockepaaW.PrintMore
set_option linter.unusedVariables false
set_option linter.unusedSimpArgs false
set_option maxHeartbeats 4000000
set_option maxRecDepth 100000
theorem sameLines_l0 (l : List S110) (hl : l.length ≤ 9223372036854775807) : ∀ d i k : Nat, d + 1 ≤ k → i + d = l.length → larderref09_SameLines.l0 k l l (i : Int) = some true
  | 0, i, k, hk, h => by
    obtain ⟨k, rfl⟩ : ∃ q, k = q + 1 := ⟨k - 1, by omega⟩
    unfold larderref09_SameLines.l0
    rw [if_neg (by omega)]
  | d + 1, i, k, hk, h => by
    obtain ⟨k, rfl⟩ : ∃ q, k = q + 1 := ⟨k - 1, by omega⟩
    unfold larderref09_SameLines.l0
    rw [if_pos (by omega), if_pos (by omega), if_pos (by omega), w64n (by omega), sameLines_l0 l hl d (i + 1) k (by omega) (by omega)]
    simp
theorem sameLines_ok (l : List S110) (hl : l.length ≤ 9223372036854775807) (k : Nat) (hk : l.length + 1 ≤ k) : larderref09_SameLines.f k l l = some true := by
  unfold larderref09_SameLines.f
  rw [if_pos rfl]
  exact sameLines_l0 l hl l.length 0 k hk (by omega)
theorem sameRequest_ok (q : S40) (hl : q.f2.length ≤ 9223372036854775807) (k : Nat) (hk : q.f2.length + 1 ≤ k) : larderref09_SameRequest.f k q.f0 q.f1 q.f2 q.f3 q.f4 q.f5 q.f0 q.f1 q.f2 q.f3 q.f4 q.f5 = some true := by
  unfold larderref09_SameRequest.f
  rw [if_pos rfl, if_pos rfl, sameLines_ok q.f2 hl k hk, Option.bind_some, if_pos rfl, if_pos rfl, if_pos rfl]
  simp
def sumN (l : List S110) : Nat := (l.map fun x => 2 + x.f0.size).sum
def sumQ (q : S40) : Nat := q.f0.size + q.f3.size + sumN q.f2
theorem sumN_count : ∀ l : List S110, 2 * l.length ≤ sumN l
  | [] => by simp [sumN]
  | x :: l => by
    have := sumN_count l
    simp only [sumN, List.map_cons, List.sum_cons, List.length_cons] at this ⊢
    omega
theorem sumN_cons (x : S110) (l : List S110) : sumN (x :: l) = 2 + x.f0.size + sumN l := by simp [sumN]
theorem bulkN_sum : ∀ l : List S110, bulkN l ≤ 10 * sumN l
  | [] => by simp [bulkN, sumN]
  | x :: l => by
    have := bulkN_sum l
    simp only [sumN, bulkN, List.map_cons, List.sum_cons] at this ⊢
    omega
theorem bulkQ_sum (q : S40) : bulkQ q ≤ 60 + 10 * sumQ q := by
  have := bulkN_sum q.f2
  unfold bulkQ sumQ
  omega
theorem weight_l0 (l : List S110) (z0 : ByteArray) (z1 : Int) (z3 : ByteArray) (z4 z5 : Int) (hll : l.length < 9223372036854775807) : ∀ (d i k s : Nat), d + 1 ≤ k → i + d = l.length → s + sumN (l.drop i) < 9223372036854775807 → larderlaw09_weight.l0 k (s : Int) (i : Int) z0 z1 l z3 z4 z5 = some ((s + sumN (l.drop i) : Nat) : Int)
  | 0, i, k, s, hk, h, hb => by
    obtain ⟨k, rfl⟩ : ∃ q, k = q + 1 := ⟨k - 1, by omega⟩
    unfold larderlaw09_weight.l0
    rw [if_neg (by omega), List.drop_of_length_le (by omega)]
    simp [sumN]
  | d + 1, i, k, s, hk, h, hb => by
    obtain ⟨k, rfl⟩ : ∃ q, k = q + 1 := ⟨k - 1, by omega⟩
    obtain ⟨x, hx⟩ : ∃ x, l[i]? = some x := ⟨_, List.getElem?_eq_getElem (by omega)⟩
    have he := drop_at hx
    rw [he, sumN_cons] at hb
    have ih := weight_l0 l z0 z1 z3 z4 z5 hll d (i + 1) k (s + 2 + x.f0.size) (by omega) (by omega) (by omega)
    have w1 : wrap64 ((s : Int) + 2) = ((s + 2 : Nat) : Int) := by unfold wrap64; omega
    have w2 : wrap64 (((s + 2 : Nat) : Int) + (x.f0.size : Int)) = ((s + 2 + x.f0.size : Nat) : Int) := by unfold wrap64; omega
    unfold larderlaw09_weight.l0
    rw [if_pos (by omega), if_pos (by omega), rd110 hx, w1, w2, w64n (by omega), ih, he, sumN_cons]
    congr 2
    omega
theorem weight_ok (q : S40) (hb : sumQ q < 9223372036854775807) (k : Nat) (hk : q.f2.length + 1 ≤ k) : larderlaw09_weight.f k q.f0 q.f1 q.f2 q.f3 q.f4 q.f5 = some (sumQ q : Int) := by
  have hc := sumN_count q.f2
  have hq : sumQ q = q.f0.size + q.f3.size + sumN q.f2 := rfl
  have := weight_l0 q.f2 q.f0 q.f1 q.f3 q.f4 q.f5 (by omega) q.f2.length 0 k (q.f0.size + q.f3.size) hk (by omega) (by rw [List.drop_zero]; omega)
  rw [List.drop_zero] at this
  have e0 : ((0 : Nat) : Int) = 0 := rfl
  rw [e0] at this
  unfold larderlaw09_weight.f
  rw [show wrap64 ((q.f0.size : Int) + (q.f3.size : Int)) = ((q.f0.size + q.f3.size : Nat) : Int) by unfold wrap64; omega, this, hq]
end Go.Proofs.Ytafmoglaockepaa.Cd
end
section
namespace Go.Proofs.Ytafmoglaockepaa.Cd
open Go Go.RowKit Go.Proofs.Ytafmoglaockepaa.Mine Go.Proofs.Ytafmoglaockepaa.Num Go.Proofs.Ytafmoglaockepaa.PG Go.Proofs.YtafmoglaockepaaW.PrintWords Go.Proofs.YtafmoglaockepaaW.PrintLast Go.Proofs.YtafmoglaockepaaW.PrintMore
set_option linter.unusedVariables false
set_option linter.unusedSimpArgs false
set_option maxHeartbeats 4000000
set_option maxRecDepth 100000
def exQ : S40 := ⟨{ data := #[114] }, 1, [⟨{ data := #[97] }, 5⟩], ⟨#[]⟩, 0, 0⟩
theorem exQ_bytes : 81 :: encQ exQ = [81, 1, 114, 2, 1, 1, 97, 10, 0, 0, 0] := by decide +kernel
theorem exQ_ok : ReqOk exQ := by
  refine ⟨⟨by decide, by decide⟩, fun x hx => ?_, ⟨by decide, by decide⟩, ⟨by decide, by decide⟩⟩
  have : x = ⟨{ data := #[97] }, 5⟩ := by simpa [exQ] using hx
  subst this
  exact ⟨by decide, by decide⟩
theorem C_line (W : World) (x : S110) (W' : World) (hb : Below (W.heap.size + 1) (W.alloc (.cells #[.string x.f0, .int .i64 x.f1] 110)) W') : Kd.C k110 W' (some ⟨W.heap.size, 0, none⟩) [x].length [x] := by
  have r : Rt 110 W.heap.size [.string x.f0, .int .i64 x.f1] (W.alloc (.cells #[.string x.f0, .int .i64 x.f1] 110)) := heap_alloc_new W _
  have r2 : Rt 110 W.heap.size [.string x.f0, .int .i64 x.f1] W' := (hb.block _ (Nat.lt_succ_self _)).trans r
  refine ⟨rfl, by simp, fun _ => ⟨_, rfl, fun j p hj => ?_⟩⟩
  have hj0 : j = 0 := by
    have := (List.getElem?_eq_some_iff.1 hj).1
    simp at this
    exact this
  subst hj0
  have : x = p := by simpa using hj
  subst this
  refine ⟨_, rfl, k110_mk _ _, fun i u hi => ?_⟩
  have h2 := r2.cell i u hi
  rcases i with _ | i <;> simpa [Addr.add] using h2
theorem works_at (W : World) : Calls Try.prog 39 #[] W fun e w' => e = .returned (.bool true) ∧ Below W.heap.size W w' := by
  have B1 := Aside0.mk (show Below W.heap.size W (W.alloc (.cells #[.string { data := #[97] }, .int .i64 5] 110)) from below_alloc (Below.refl _ _) _)
  have hc0 := C_line W ⟨{ data := #[97] }, 5⟩
  have hs1 : (W.alloc (.cells #[.string { data := #[97] }, .int .i64 5] 110)).heap.size = W.heap.size + 1 := Array.size_push ..
  go_enter Try.func39, Try.ntmps39
  go_upto_region 2 with fail
  obtain ⟨b0, hb0⟩ : ∃ b, W.heap.size = b := ⟨_, rfl⟩
  have HB0 := Aside0.mk hb0
  rw [hb0] at hs1 hc0 ⊢
  generalize W.alloc (.cells #[.string { data := #[97] }, .int .i64 5] 110) = w0 at *
  have hb1 : Below w0.heap.size w0 (w0.alloc (.cells #[.string { data := #[114] }, .int .i64 1, .slice (some ⟨b0, 0, none⟩) 1 1, .string { data := #[] }, .int .i64 0, .int .i64 0] 40)) := below_alloc (Below.refl _ _) _
  have r1 : Rt 40 w0.heap.size [.string { data := #[114] }, .int .i64 1, .slice (some ⟨b0, 0, none⟩) 1 1, .string { data := #[] }, .int .i64 0, .int .i64 0] (w0.alloc (.cells #[.string { data := #[114] }, .int .i64 1, .slice (some ⟨b0, 0, none⟩) 1 1, .string { data := #[] }, .int .i64 0, .int .i64 0] 40)) := heap_alloc_new w0 _
  rw [hs1] at hb1 r1
  have R1 := Aside0.mk r1
  have X1 := Aside0.mk hb1
  have HC := Aside0.mk hc0
  have B1' := Aside0.mk (show Below W.heap.size W (w0.alloc (.cells #[.string { data := #[114] }, .int .i64 1, .slice (some ⟨b0, 0, none⟩) 1 1, .string { data := #[] }, .int .i64 0, .int .i64 0] 40)) from B1.out.trans (hb1.mono (by omega)))
  clear hb0 hc0 hb1 r1 hs1 B1
  generalize w0.alloc (.cells #[.string { data := #[114] }, .int .i64 1, .slice (some ⟨b0, 0, none⟩) 1 1, .string { data := #[] }, .int .i64 0, .int .i64 0] 40) = w1 at *
  have HPR := Aside0.mk (PutRequest_at exQ.f0 exQ.f1 (some ⟨b0, 0, none⟩) exQ.f2.length 1 exQ.f2 exQ.f3 exQ.f4 exQ.f5 w1 (HC.out _ X1.out) exQ_ok.2.1 exQ_ok.1 exQ_ok.2.2.1 exQ_ok.2.2.2 (by decide))
  rw [show encReq exQ.f0 exQ.f1 exQ.f2 exQ.f3 exQ.f4 exQ.f5 = encQ exQ from rfl, exQ_bytes] at HPR
  have o0 := R1.out.cell 0 _ rfl
  have o1 := R1.out.cell 1 _ rfl
  have o2 := R1.out.cell 2 _ rfl
  have o3 := R1.out.cell 3 _ rfl
  have o4 := R1.out.cell 4 _ rfl
  have o5 := R1.out.cell 5 _ rfl
  go_wp2_with fail
  go_at_call 21
  refine HPR.out.mono ?_
  rintro e w2 ⟨v, rfl, hR, hb⟩
  obtain ⟨Ap, cp, rfl, hcp, hPC⟩ := Kd.R_reads hR
  rw [show putOut 4096 [81, 1, 114, 2, 1, 1, 97, 10, 0, 0, 0] = [81, 1, 114, 2, 1, 1, 97, 10, 0, 0, 0] from rfl] at hcp hPC ⊢
  rw [show putCode 4096 [81, 1, 114, 2, 1, 1, 97, 10, 0, 0, 0] = 0 from rfl]
  have HRA := Aside0.mk (Request_at Ap _ cp _ w2 hPC hcp (by intro x hx; simp at hx; omega) (by decide))
  have HBK := back_req exQ exQ_ok (by decide +kernel)
  rw [exQ_bytes] at HBK
  rw [HBK] at HRA
  simp only [outOr, endOf] at HRA
  obtain ⟨P, hP⟩ : ∃ P : List Int, [81, 1, 114, 2, 1, 1, 97, 10, 0, 0, 0] = P := ⟨_, rfl⟩
  have HP := Aside0.mk hP
  rw [hP] at hcp hPC HRA ⊢
  have B2 := Aside0.mk (B1'.out.trans (hb.mono (by have := R1.out.lt; have := HB0.out; omega)))
  have R2 := Aside0.mk (R1.out.below hb)
  have CO2 := Aside0.mk (Kd.C_below (HC.out _ X1.out) hb)
  have CP2 := Aside0.mk hPC
  clear hR hb hcp hPC hP HBK HPR o0 o1 o2 o3 o4 o5
  go_wp2_with fail
  go_at_call 24
  refine HRA.out.mono ?_
  rintro e w3 ⟨hb, v, rfl, A5, n5, c5, rfl, hR5⟩
  obtain ⟨A5', c5', e5, hc5, hC5⟩ := Kd.R_reads hR5
  injection e5 with e1 e2 e3
  subst e1 e2 e3
  have hb3 : Below w3.heap.size w3 (w3.alloc (.cells #[.string exQ.f0, .int .i64 exQ.f1, .slice A5 exQ.f2.length c5, .string exQ.f3, .int .i64 exQ.f4, .int .i64 exQ.f5] 40)) := below_alloc (Below.refl _ _) _
  have r3 : Rt 40 w3.heap.size [.string exQ.f0, .int .i64 exQ.f1, .slice A5 exQ.f2.length c5, .string exQ.f3, .int .i64 exQ.f4, .int .i64 exQ.f5] (w3.alloc (.cells #[.string exQ.f0, .int .i64 exQ.f1, .slice A5 exQ.f2.length c5, .string exQ.f3, .int .i64 exQ.f4, .int .i64 exQ.f5] 40)) := heap_alloc_new w3 _
  have hb4 := hb.trans (hb3.mono hb.size)
  have R4 := Aside0.mk (R2.out.below hb4)
  have B4 := Aside0.mk (B2.out.trans (hb4.mono (by have := R2.out.lt; have := HB0.out; omega)))
  have CO4 := Aside0.mk (Kd.C_below CO2.out hb4)
  have CP4 := Aside0.mk (Kd.C_below CP2.out hb4)
  have C54 := Aside0.mk (show Kd.C k110 _ A5 exQ.f2.length exQ.f2 from Kd.C_below hC5 hb3)
  have HC5 := Aside0.mk (show exQ.f2.length ≤ c5 from hc5)
  go_upto_region 4 with fail
  obtain ⟨b5, hb5⟩ : ∃ b, w3.heap.size = b := ⟨_, rfl⟩
  rw [hb5] at r3 ⊢
  have R5 := Aside0.mk r3
  clear hb hb3 hb4 r3 hC5 hc5 hR5 hb5 HRA
  generalize w3.alloc (.cells #[.string exQ.f0, .int .i64 exQ.f1, .slice A5 exQ.f2.length c5, .string exQ.f3, .int .i64 exQ.f4, .int .i64 exQ.f5] 40) = w4 at *
  have HSR := Aside0.mk (larderref09_SameRequest.calls (exQ.f2.length + 1) exQ.f0 exQ.f1 A5 c5 exQ.f2 exQ.f3 exQ.f4 exQ.f5 exQ.f0 exQ.f1 (some ⟨b0, 0, none⟩) 1 exQ.f2 exQ.f3 exQ.f4 exQ.f5 true w4 C54.out HC5.out CO4.out (by decide) (sameRequest_ok exQ (by decide) _ (Nat.le_refl _)))
  have s1 : (convert 26 9 (.slice Ap P.length cp)).run Try.prog w4 = .ok (.string (strOfNums P)) w4 := Kd.C_string Try.underlying26 Try.underlying5 Try.underlying9 CP4.out
  have t1 : ((strOfNums P).toList == [81, 1, 114, 2, 1, 1, 97, 10, 0, 0, 0]) = true := by rw [← HP.out]; decide +kernel
  have t2 : ((strOfNums P).toList = [81, 1, 114, 2, 1, 1, 97, 10, 0, 0, 0]) = True := eq_true (by simpa using t1)
  have q0 := R5.out.cell 0 _ rfl
  have q1 := R5.out.cell 1 _ rfl
  have q2 := R5.out.cell 2 _ rfl
  have q3 := R5.out.cell 3 _ rfl
  have q4 := R5.out.cell 4 _ rfl
  have q5 := R5.out.cell 5 _ rfl
  have o0 := R4.out.cell 0 _ rfl
  have o1 := R4.out.cell 1 _ rfl
  have o2 := R4.out.cell 2 _ rfl
  have o3 := R4.out.cell 3 _ rfl
  have o4 := R4.out.cell 4 _ rfl
  have o5 := R4.out.cell 5 _ rfl
  go_wp2_with fail
  go_at_call 26
  refine HSR.out.mono ?_
  rintro e w5 ⟨rfl, hb⟩
  have B5 := Aside0.mk (B4.out.trans (hb.mono (by have := R4.out.lt; have := HB0.out; omega)))
  clear hb
  go_wp2_with fail
  go_ret
  rw [← HB0.out] at *
  exact ⟨rfl, B5.out⟩
end Go.Proofs.Ytafmoglaockepaa.Cd
end
section
namespace Go.Proofs.Ytafmoglaockepaa.Cd
open Go Go.RowKit Go.Proofs.Ytafmoglaockepaa.Num Go.Proofs.Ytafmoglaockepaa.PG Go.Proofs.YtafmoglaockepaaW.PrintWords Go.Proofs.YtafmoglaockepaaW.PrintLast Go.Proofs.YtafmoglaockepaaW.PrintMore
set_option linter.unusedVariables false
set_option linter.unusedSimpArgs false
theorem isBytes_enc : ∀ f n, IsBytes (enc f n)
  | 0, n => by rw [enc]; intro x hx; simp at hx
  | f + 1, n => by
    rw [enc]
    intro x hx
    split at hx
    · simp at hx
      omega
    · rcases List.mem_cons.1 hx with rfl | hx
      · omega
      · exact isBytes_enc f _ x hx
theorem isBytes_app {a b : List Int} (ha : IsBytes a) (hb : IsBytes b) : IsBytes (a ++ b) := fun x hx => by
  rcases List.mem_append.1 hx with h | h
  · exact ha x h
  · exact hb x h
theorem isBytes_of_str (s : ByteArray) : IsBytes (bytesOf s) := by
  intro x hx
  unfold bytesOf at hx
  obtain ⟨u, _, rfl⟩ := List.mem_map.1 hx
  have := u.toNat_lt
  omega
theorem isBytes_T (s : ByteArray) : IsBytes (encT s) := isBytes_app (isBytes_enc _ _) (isBytes_of_str s)
theorem isBytes_I (a : Int) : IsBytes (encI a) := isBytes_enc _ _
theorem isBytes_U (a : Nat) : IsBytes (encU a) := isBytes_enc _ _
theorem isBytes_flat {α : Type} {e : α → List Int} (h : ∀ x, IsBytes (e x)) (l : List α) : IsBytes (l.flatMap e) := fun x hx => by
  obtain ⟨a, _, ha⟩ := List.mem_flatMap.1 hx
  exact h a x ha
theorem isBytes_N (x : S110) : IsBytes (encN x) := isBytes_app (isBytes_T _) (isBytes_I _)
theorem isBytes_L (x : S28) : IsBytes (encL x) := isBytes_app (isBytes_T _) (isBytes_app (isBytes_I _) (isBytes_I _))
theorem isBytes_Ns (l : List S110) : IsBytes (encU l.length ++ encNs l) := isBytes_app (isBytes_U _) (isBytes_flat isBytes_N l)
theorem isBytes_Ls (l : List S28) : IsBytes (encU l.length ++ encLs l) := isBytes_app (isBytes_U _) (isBytes_flat isBytes_L l)
theorem isBytes_Q (q : S40) : IsBytes (encQ q) := isBytes_app (isBytes_T _) (isBytes_app (isBytes_I _) (isBytes_app (isBytes_Ns _) (isBytes_app (isBytes_T _) (isBytes_app (isBytes_I _) (isBytes_I _)))))
theorem isBytes_C (x : RecD) : IsBytes (encC x) := isBytes_app (isBytes_I _) (isBytes_Q _)
theorem isBytes_H (x : S121) : IsBytes (encH x) := isBytes_app (isBytes_T _) (isBytes_app (isBytes_Ns _) (isBytes_I _))
theorem isBytes_D (x : S123) : IsBytes (encD x) := isBytes_app (isBytes_Q _) (isBytes_I _)
theorem isBytes_P (id : ByteArray) (er line : Int) (l : List S28) (now : Int) : IsBytes (encReply id er line l now) := isBytes_app (isBytes_T _) (isBytes_app (isBytes_I _) (isBytes_app (isBytes_I _) (isBytes_app (isBytes_Ls _) (isBytes_I _))))
theorem isBytes_S (x : StD) : IsBytes (encS x) := isBytes_app (isBytes_I _) (isBytes_app (isBytes_I _) (isBytes_app (isBytes_I _) (isBytes_app (isBytes_Ls _) (isBytes_app (isBytes_app (isBytes_U _) (isBytes_flat isBytes_H _)) (isBytes_app (isBytes_U _) (isBytes_flat isBytes_D _))))))
theorem isBytes_key {k : Int} (h : 0 ≤ k ∧ k < 256) {b : List Int} (hb : IsBytes b) : IsBytes (k :: b) := fun x hx => by
  rcases List.mem_cons.1 hx with rfl | hx
  · exact h
  · exact hb x hx
theorem back_walk0 {α : Type} {key : Int} {most : Nat} {b : List Int} (p : List Int → Nat → Res α) {x : α} (z : α) (hk : 0 ≤ key ∧ key < 256) (hm : most < 1000000000) (hby : IsBytes b) (hb : (key :: b).length ≤ most → whole key most (key :: b) (p (key :: b)) = .ok x (1 + b.length)) :
    ∃ (P : List Int) (ec g1 g2 : Int) (y : α), putOut most (key :: b) = P ∧ putCode most (key :: b) = ec ∧ IsBytes P ∧ P.length < 1000000000 ∧ (endOf (whole key most P (p P))).1 = g1 ∧ (endOf (whole key most P (p P))).2 = g2 ∧ outOr z (whole key most P (p P)) = y ∧
    ((0 = ec ∧ 0 = g1 ∧ 0 = g2 ∧ x = y ∧ key :: b = P ∧ P.length ≤ most) ∨ (1 = ec ∧ 3 = g1 ∧ 0 = g2 ∧ z = y ∧ [] = P)) := by
  refine ⟨_, _, _, _, _, rfl, rfl, ?_, ?_, rfl, rfl, rfl, ?_⟩
  · unfold putOut
    split
    · intro x hx; simp at hx
    · exact isBytes_key hk hby
  · unfold putOut
    split
    · simp
    · omega
  · rcases back_of (p := p) (z := z) hb with ⟨e1, e2, e3, e4⟩ | ⟨e1, e2, e3, e4⟩
    · left
      rw [e1, e3, e4]
      refine ⟨rfl, rfl, rfl, rfl, ?_, e2⟩
      unfold putCode at e1
      unfold putOut
      apply Eq.symm
      split
      · next h => rw [if_pos h] at e1; simp at e1
      · rfl
    · right
      rw [e1, e3, e4]
      exact ⟨rfl, rfl, rfl, rfl, e2.symm⟩
theorem outD_eq (r : Res RepD) : outD r = outOr zeroD r := by cases r <;> rfl
end Go.Proofs.Ytafmoglaockepaa.Cd
end
section
-- Written by a program of this session (wip/pp), out of the translation.
namespace Go.Proofs.Ytafmoglaockepaa.PG
open Go.RowKit Go.Proofs.Ytafmoglaockepaa.Mine Go.Proofs.YtafmoglaockepaaW.PrintWords Go.Proofs.YtafmoglaockepaaW.PrintLast Go.Proofs.YtafmoglaockepaaW.PrintMore
attribute [local go_sem] max2_int min2_int max_two min_two max_three min_three max_four min_four   -- for this text's walks alone
set_option linter.unusedVariables false
set_option linter.unusedSimpArgs false
end Go.Proofs.Ytafmoglaockepaa.PG
end
