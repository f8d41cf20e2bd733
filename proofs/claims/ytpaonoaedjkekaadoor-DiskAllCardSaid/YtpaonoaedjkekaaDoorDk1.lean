/- The disk's small functions, walked: slices.Clone, part, full, all. -/
import Derived.Test.YtpaonoaedjkekaaDoorDkMem
import Derived.Test.YtpaonoaedjkekaaDoorPDx0
import Derived.Test.YtpaonoaedjkekaaDoorPDx1
import Derived.Laws.CopyOwn
namespace Go.Proofs.YtpaonoaedjkekaaDoor.Dk
open Go Go.RowKit Go.Proofs.YtpaonoaedjkekaaDoor.PD Go.Proofs.YtpaonoaedjkekaaDoorW.PrintWords Go.Proofs.YtpaonoaedjkekaaDoorW.PrintLast Go.Proofs.YtpaonoaedjkekaaDoorW.PrintMore
set_option linter.unusedVariables false
set_option linter.unusedSimpArgs false
set_option maxHeartbeats 4000000
set_option maxRecDepth 100000
theorem info5' : (Tryd.prog.info? 5).map (fun i => (i.zero, i.size, i.bytes)) = some (some (.int .u8 0), 1, 1) := by kernel_rfl
theorem clone_at (ad : Addr) (n c : Nat) (xs : List Int) (w : World) (hC : Kd.C (Kd.int .u8) w (some ad) n xs) (hn : 0 < n) (hn2 : n < 140737488355328) :
    Calls Tryd.prog 39 #[.slice (some ad) n c] w fun e w' => ∃ g c', e = .returned (.slice (some ⟨g, 0, none⟩) n c') ∧ Mem w' g xs ∧ w.heap.size ≤ g ∧ n ≤ c' ∧ Below w.heap.size w w' := by
  have HC := Aside0.mk hC
  have hxl : xs.length = n := Kd.C_len hC
  have HX := Aside0.mk hxl
  have HN := Aside0.mk hn
  have HE := Aside0.mk (show (Kd.int .u8).R 5 (w.alloc (.cells #[] 5)) w.heap.size (fun _ => True) (.slice (some ⟨w.heap.size, 0, none⟩) 0 0) ([] : List Int) from
    Kd.R_of_own (World.ownsRow_made w #[] 0 (Nat.le_refl _) (by decide) rfl) (fun _ _ => trivial))
  clear hC hxl
  have hq := fun w : World => Lib.run_eql_slice_nil (P := Tryd.prog) w 29 5 (some ad) n c 0 0 Tryd.underlying29
  go_enter Tryd.func39, Tryd.ntmps39
  go_wp2_with (first | (
    (with_reducible refine gate_builtin (b := .append) (xs := #[.tmp 5, .tmp 6]) rfl ?_)
    at_builtin
    refine Kd.R_append_rows (Kd.int .u8) (Rr := (Kd.int .u8).K (w.alloc (.cells #[] 5))) (w0 := w) w.heap.size rfl (.tmp 5) (.tmp 6) 29 5 (.int .u8 0) 1 rfl Tryd.underlying29 info5' rfl (by decide) (by decide) (.slice (some ⟨w.heap.size, 0, none⟩) 0 0) [] xs (some ad) n c (fun _ => True) (fun _ => False) rfl rfl HE.out (Kd.C_alloc HC.out _) (fun _ _ h => h) (fun _ h => h.elim) (fun _ _ => trivial) (below_alloc (Below.refl _ _) _) (by simp) (by simp; omega) ?_
    intro v1 w1 ho hb hg hat
    rw [List.nil_append] at ho
    obtain ⟨g, c', ev, hm, hB, _, hle⟩ := Mem.of_R ho (by rw [HX.out]; exact HN.out)
    rw [HX.out] at ev hle
    subst ev
    have HR := Aside0.mk (show Mem w1 g xs ∧ w.heap.size ≤ g ∧ n ≤ c' ∧ Below w.heap.size w w1 from ⟨hm, hB, hle, hb⟩)
    clear ho hb hg hat hm hB hle))
  go_ret
  exact ⟨g, c', rfl, HR.out.1, HR.out.2.1, HR.out.2.2.1, HR.out.2.2.2⟩
/-- part(image, k): a sector of an image. -/
theorem part_at (g n c k : Nat) (w : World) (hk : 128 * k + 128 ≤ n) (hnc : n ≤ c) (hn : n < 140737488355328) :
    Calls Tryd.prog 38 #[.slice (some ⟨g, 0, none⟩) n c, .int .i64 (k : Int)] w fun e w' => e = .returned (.slice (some ⟨g, 128 * k, none⟩) 128 128) ∧ w' = w := by
  have h1 : wrap64 ((k : Int) * 128) = ((128 * k : Nat) : Int) := by unfold wrap64; omega
  have h2 : wrap64 ((k : Int) + 1) = ((k + 1 : Nat) : Int) := by unfold wrap64; omega
  have h3 : wrap64 (((k + 1 : Nat) : Int) * 128) = ((128 * k + 128 : Nat) : Int) := by unfold wrap64; omega
  go_enter Tryd.func38, Tryd.ntmps38
  go_wp2_with fail
  go_ret
  refine ⟨?_, rfl⟩
  rw [show k * 128 = 128 * k from by omega, show (k + 1) * 128 - 128 * k = 128 from by omega]
  rfl
end Go.Proofs.YtpaonoaedjkekaaDoor.Dk
