/- disk.New, walked. -/
import Derived.Test.YtpaonoaedjkekaaDoorDkAt
import Derived.Laws.IdiomCopy
namespace Go.Proofs.YtpaonoaedjkekaaDoor.Dk
open Go Go.RowKit Go.Proofs.YtpaonoaedjkekaaDoor.PD Go.Proofs.YtpaonoaedjkekaaDoorW.PrintWords Go.Proofs.YtpaonoaedjkekaaDoorW.PrintLast Go.Proofs.YtpaonoaedjkekaaDoorW.PrintMore
set_option linter.unusedVariables false
set_option linter.unusedSimpArgs false
set_option maxHeartbeats 4000000
set_option maxRecDepth 100000
theorem size5' : (Tryd.prog.info? 5).map (·.size) = some 1 := by kernel_rfl
theorem infoParts {i : Nat} {z : Value} {s b : Nat} (h : (Tryd.prog.info? i).map (fun i => (i.zero, i.size, i.bytes)) = some (some z, s, b)) : ∃ t, Tryd.prog.info? i = some t ∧ t.zero = some z ∧ t.size = s ∧ t.bytes = b := by
  obtain ⟨t, h1, h2⟩ := Option.map_eq_some_iff.1 h
  simp only [Prod.mk.injEq] at h2
  exact ⟨t, h1, h2.1, h2.2.1, h2.2.2⟩
/-- What a disk of n bytes is made of. -/
def padded (xs : List Int) (n : Nat) : List Int := xs ++ List.replicate (n - xs.length) 0
theorem padded_len {xs : List Int} {n : Nat} (h : xs.length ≤ n) : (padded xs n).length = n := by simp [padded]; omega
theorem new_at (A : Option Addr) (m c k : Nat) (xs : List Int) (w : World) (hC : Kd.C (Kd.int .u8) w A m xs) (h1 : 1 ≤ k) (h2 : k ≤ 4096) (hm : m ≤ 128 * k) :
    Calls Tryd.prog 25 #[.slice A m c, .int .i64 (k : Int)] w fun e w' => ∃ h : Hd, e = .returned (.tuple #[ptr h.D, .int .i64 0]) ∧ h.n = 128 * k ∧ DkAt h w.heap.size (padded xs (128 * k)) (padded xs (128 * k)) (.slice none 0 0) [] w' ∧ Below w.heap.size w w' := by
  have HC := Aside0.mk hC
  have hxl := Kd.C_len hC
  have HX := Aside0.mk hxl
  clear hC hxl
  have e1 : wrap64 ((k : Int) * 128) = ((128 * k : Nat) : Int) := by unfold wrap64; omega
  have c1 : ¬ ((k : Int) < 1) := by omega
  have c2 : ¬ (4096 < (k : Int)) := by omega
  have c3 : ¬ (((128 * k : Nat) : Int) < (m : Int)) := by omega
  obtain ⟨i0, hi0, hz0', hsz0, hby'⟩ := infoParts info5'
  have hmk := run_make (P := Tryd.prog) w 29 5 i0 (.int .u8 0) Tryd.underlying29 hi0 hz0' .i64 .i64 ((128 * k : Nat) : Int) ((128 * k : Nat) : Int) (by omega) (by omega) (by rw [hby']; omega) (by omega)
  rw [hsz0, Nat.mul_one, show ((128 * k : Nat) : Int) = (k : Int) * 128 by omega, show ((k : Int) * 128).toNat = 128 * k by omega] at hmk
  have HMK := Aside0.mk hmk
  clear hmk hi0
  go_enter Tryd.func25, Tryd.ntmps25
  go_wp2_with fail
  rw [HMK.out]
  simp only [Result.andThen_ok, Oper.upon_value]
  have hM := Mem.made w (128 * k) (madeCells (Value.int .u8 0).cells (128 * k)) (by rw [show (Value.int .u8 0).cells = #[Value.int .u8 0] from rfl, toList_madeCells_one]; simp [cellsB])
  have hs1 : (w.alloc (.cells (madeCells (Value.int .u8 0).cells (128 * k)) 5)).heap.size = w.heap.size + 1 := by simp
  have hb1 : Below w.heap.size w (w.alloc (.cells (madeCells (Value.int .u8 0).cells (128 * k)) 5)) := below_alloc (Below.refl _ _) _
  generalize w.alloc (.cells (madeCells (Value.int .u8 0).cells (128 * k)) 5) = w1 at *
  obtain ⟨g, hg⟩ : ∃ g, w.heap.size = g := ⟨_, rfl⟩
  obtain ⟨N, hN⟩ : ∃ N, 128 * k = N := ⟨_, rfl⟩
  have HG := Aside0.mk hg
  have HN := Aside0.mk hN
  rw [hg] at hM hs1 hb1 ⊢
  rw [hN] at hM hm ⊢
  have hN1 : 0 < N := by omega
  have hN2 : N ≤ 524288 := by omega
  have hr2 : Rt 77 w1.heap.size [sl g N N, .slice none 0 0, .slice none 0 0] (w1.alloc (.cells #[sl g N N, .slice none 0 0, .slice none 0 0] 77)) := heap_alloc_new w1 _
  have hM2 : Mem (w1.alloc (.cells #[sl g N N, .slice none 0 0, .slice none 0 0] 77)) g (List.replicate N 0) := hM.below (below_alloc (Below.refl _ _) _)
  have hb2 : Below g w (w1.alloc (.cells #[sl g N N, .slice none 0 0, .slice none 0 0] 77)) := hb1.alloc (by omega) _
  have hgD : g ≠ w1.heap.size := by omega
  have hgD' : g ≤ w1.heap.size := by omega
  have hC2 : Kd.C (Kd.int .u8) (w1.alloc (.cells #[sl g N N, .slice none 0 0, .slice none 0 0] 77)) A m xs := Kd.C_below HC.out (hg ▸ hb2)
  obtain ⟨cs, hcp, hM3⟩ := Mem.copy (P := Tryd.prog) (dT := 29) (sT := 29) (ty := 3) Tryd.underlying29 size5' hM2 0 m N N c A hC2 hm (by rw [List.length_replicate]; omega)
  have e3 : List.take 0 (List.replicate N (0 : Int)) ++ xs ++ List.drop (0 + m) (List.replicate N 0) = padded xs N := by
    rw [List.take_zero, List.nil_append, Nat.zero_add, List.drop_replicate]
    unfold padded
    rw [HX.out]
  rw [e3] at hM3
  have HCP := Aside0.mk hcp
  have hr3 : Rt 77 w1.heap.size [sl g N N, .slice none 0 0, .slice none 0 0] ((w1.alloc (.cells #[sl g N N, .slice none 0 0, .slice none 0 0] 77)).setRow g cs) := (setRow_other _ g _ cs (Ne.symm hgD)).trans hr2
  have hb3 := below_setRow' hb2 (Nat.le_refl g) cs
  have HM := Aside0.mk hM3
  have HR := Aside0.mk hr3
  have HB := Aside0.mk hb3
  have HGD := Aside0.mk hgD'
  clear HMK hM hb1 hs1 hM2 hb2 hC2 hcp hM3 hr2 hr3 hb3 e3 e1 HC
  clear hgD hgD' hg hN
  go_wp2_with fail
  rw [HCP.out]
  simp only [Result.andThen_ok, Oper.upon_value]
  generalize (w1.alloc (.cells #[sl g N N, .slice none 0 0, .slice none 0 0] 77)).setRow g cs = w3 at *
  generalize w1.heap.size = D at *
  have hpl : (padded xs N).length = N := padded_len (by rw [HX.out]; exact hm)
  have hC3 := HM.out.all (by rw [hpl]; omega)
  rw [hpl] at hC3
  have c0 := HR.out.cell 0 _ rfl
  have HC3 := Aside0.mk hC3
  clear hC3 HCP
  go_wp2_with fail
  go_at_call 39
  refine (clone_at _ N N (padded xs N) w3 HC3.out hN1 (by omega)).mono ?_
  rintro e w4 ⟨gs, c', rfl, hM4, hgs, hc', hb4⟩
  have hr4 : Rt 77 D _ w4 := (hb4.block D HR.out.lt).trans HR.out
  have f1 := hr4.free 1
  have c1 := hr4.cell 1 _ rfl
  have hb := HB.out.trans (hb4.mono (by rw [← HG.out]; exact HB.out.size))
  have HK := Aside0.mk (show g ≠ gs ∧ g ≠ D ∧ gs ≠ D ∧ g ≤ gs ∧ N ≤ c' from by
    have q1 := HM.out.lt
    have q2 := HR.out.lt
    have q3 := HM.out.dne HR.out (by decide)
    refine ⟨by omega, q3, by omega, by omega, hc'⟩)
  have HM5 := Aside0.mk (HM.out.below hb4)
  have HR4 := Aside0.mk hr4
  have HM4 := Aside0.mk hM4
  have HB4 := Aside0.mk hb
  clear hM4 hgs hc' hb4 hr4 hb c0 HR HM HB
  go_wp2_with fail
  go_ret2
  rw [HR4.out.set 1]
  obtain ⟨k1, k2, k3, k4, k5⟩ := HK.out
  have hgD := HGD.out
  have e1 := HN.out
  have e2 := HG.out
  subst e1
  subst e2
  refine ⟨⟨D, w.heap.size, gs, 128 * k, 128 * k, c'⟩, rfl, rfl, ⟨HR4.out.row _, ?_, ?_, Kd.R_nil _ _ _ _ _, hpl, hpl, hgD, Nat.le_refl _, k4, k1, Nat.le_refl _, k5, hN2, hN1, by simp⟩, below_setRow' HB4.out hgD _⟩
  · exact HM5.out.move (setRow_other _ _ _ _ k2)
  · exact HM4.out.move (setRow_other _ _ _ _ k3)
end Go.Proofs.YtpaonoaedjkekaaDoor.Dk
