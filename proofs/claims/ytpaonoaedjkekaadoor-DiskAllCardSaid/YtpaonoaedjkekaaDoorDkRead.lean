/- (*disk.Disk).Read and Image, walked. -/
import Derived.Test.YtpaonoaedjkekaaDoorDkLaid
namespace Go.Proofs.YtpaonoaedjkekaaDoor.Dk
open Go Go.RowKit Go.Proofs.YtpaonoaedjkekaaDoor.PD Go.Proofs.YtpaonoaedjkekaaDoorW.PrintWords Go.Proofs.YtpaonoaedjkekaaDoorW.PrintLast Go.Proofs.YtpaonoaedjkekaaDoorW.PrintMore
set_option linter.unusedVariables false
set_option linter.unusedSimpArgs false
set_option maxHeartbeats 4000000
set_option maxRecDepth 100000
theorem image_at {h : Hd} {B : Nat} {fs ss : List Int} {vo : Value} {ops : List (Int × List Int)} {W : World} (k : DkAt h B fs ss vo ops W) :
    Calls Tryd.prog 20 #[ptr h.D] W fun e w' => ∃ g c', e = .returned (.slice (some ⟨g, 0, none⟩) h.n c') ∧ Mem w' g ss ∧ W.heap.size ≤ g ∧ h.n ≤ c' ∧ Below W.heap.size W w' := by
  have K := Aside0.mk k
  have c1 := k.row.cell 1 _ rfl
  have HC := Aside0.mk (show Kd.C (Kd.int .u8) W (some ⟨h.gs, 0, none⟩) h.n ss from by
    have := k.s.all (by have := k.ls; have := k.big; omega)
    rwa [k.ls] at this)
  clear k
  go_enter Tryd.func20, Tryd.ntmps20
  go_wp2_with fail
  go_at_call 39
  refine (clone_at _ h.n h.cs ss W HC.out K.out.pos (by have := K.out.big; omega)).mono ?_
  rintro e w1 ⟨g, cg, rfl, hM, hg, hcg, hb⟩
  have HR := Aside0.mk (show Mem w1 g ss ∧ W.heap.size ≤ g ∧ h.n ≤ cg ∧ Below W.heap.size W w1 from ⟨hM, hg, hcg, hb⟩)
  clear hM hg hcg hb
  go_wp2_with fail
  go_ret
  exact ⟨g, cg, rfl, HR.out⟩
/-- A sector of an image. -/
def sectorL (im : List Int) (n : Nat) : List Int := (im.drop (128 * n)).take 128
theorem read_at {h : Hd} {B : Nat} {fs ss : List Int} {vo : Value} {ops : List (Int × List Int)} {W : World} (k : DkAt h B fs ss vo ops W) (n : Nat) (hn : 128 * n + 128 ≤ h.n) :
    Calls Tryd.prog 23 #[ptr h.D, .int .i64 (n : Int)] W fun e w' => ∃ g c', e = .returned (.tuple #[.slice (some ⟨g, 0, none⟩) 128 c', .int .i64 0]) ∧ Mem w' g (sectorL ss n) ∧ W.heap.size ≤ g ∧ 128 ≤ c' ∧ Below W.heap.size W w' := by
  have K := Aside0.mk k
  have c1 := k.row.cell 1 _ rfl
  have hC : Kd.C (Kd.int .u8) W (some ⟨h.gs, 128 * n, none⟩) 128 (sectorL ss n) := k.s.sub (128 * n) 128 (by rw [k.ls]; exact hn) (by decide)
  have HC := Aside0.mk hC
  have HN := Aside0.mk hn
  obtain ⟨q, hq⟩ : ∃ q, h.n / 128 = q := ⟨_, rfl⟩
  have n1 : ¬ ((n : Int) < 0) := by omega
  have n2 : ¬ ((q : Int) ≤ (n : Int)) := by omega
  have HQ := Aside0.mk hq
  clear k hC hn hq
  go_enter Tryd.func23, Tryd.ntmps23
  go_wp2_with (first
    | (go_at_call 19; refine (sectors_at K.out q HQ.out).mono ?_; rintro e w' ⟨rfl, hw⟩; subst w')
    | (go_at_call 38; refine (part_at h.gs h.n h.cs n _ HN.out K.out.cs (by have := K.out.big; omega)).mono ?_; rintro e w' ⟨rfl, hw⟩; subst w'))
  go_at_call 39
  refine (clone_at _ 128 128 (sectorL ss n) W HC.out (by decide) (by decide)).mono ?_
  rintro e w1 ⟨g, cg, rfl, hM, hg, hcg, hb⟩
  have HR := Aside0.mk (show Mem w1 g (sectorL ss n) ∧ W.heap.size ≤ g ∧ 128 ≤ cg ∧ Below W.heap.size W w1 from ⟨hM, hg, hcg, hb⟩)
  clear hM hg hcg hb
  go_wp2_with fail
  go_ret2
  exact ⟨g, cg, rfl, HR.out⟩
end Go.Proofs.YtpaonoaedjkekaaDoor.Dk
