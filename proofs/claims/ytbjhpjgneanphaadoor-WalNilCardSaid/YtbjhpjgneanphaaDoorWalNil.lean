/- What larderlaw10.WalNil computes, walked: true, and the world as it was; no conditions. -/
import Derived.Test.YtbjhpjgneanphaaDoorProg
import Derived.WalkKit
import Derived.ProofKit
import Derived.Below
import Derived.Deep.Draws
namespace Go.Proofs.YtbjhpjgneanphaaDoor.Nil
open Go Go.RowKit
set_option linter.unusedVariables false
set_option linter.unusedSimpArgs false
set_option maxHeartbeats 4000000
set_option maxRecDepth 100000
theorem c18 (w : World) : Calls Tryd.prog 18 #[.pointer none] w fun e w' => e = .returned (.tuple #[.int .i64 0, .int .i64 0]) ∧ w' = w := by
  go_enter Tryd.func18, Tryd.ntmps18
  go_wp2
  refine bodyPost_ret (v := .tuple #[.int .i64 0, .int .i64 0]) (by simp [results, Tryd.f18, go_sem]) rfl ?_
  exact ⟨rfl, rfl⟩
theorem c19 (w : World) : Calls Tryd.prog 19 #[.pointer none] w fun e w' => e = .returned (.tuple #[.int .i64 0, .int .i64 0]) ∧ w' = w := by
  go_enter Tryd.func19, Tryd.ntmps19
  go_wp2
  refine bodyPost_ret (v := .tuple #[.int .i64 0, .int .i64 0]) (by simp [results, Tryd.f19, go_sem]) rfl ?_
  exact ⟨rfl, rfl⟩
theorem c20 (w : World) : Calls Tryd.prog 20 #[.pointer none] w fun e w' => e = .returned (.tuple #[.bool false, .int .i64 0]) ∧ w' = w := by
  go_enter Tryd.func20, Tryd.ntmps20
  go_wp2
  refine bodyPost_ret (v := .tuple #[.bool false, .int .i64 0]) (by simp [results, Tryd.f20, go_sem]) rfl ?_
  exact ⟨rfl, rfl⟩
theorem c21 (w : World) : Calls Tryd.prog 21 #[.pointer none, .int .i64 1] w fun e w' => e = .returned (.int .i64 0) ∧ w' = w := by
  go_enter Tryd.func21, Tryd.ntmps21
  go_wp2
  go_ret
  exact ⟨rfl, rfl⟩
theorem c22 (w : World) : Calls Tryd.prog 22 #[.pointer none, .int .i64 0, .int .i64 1, .slice none 0 0] w fun e w' => e = .returned (.int .i64 0) ∧ w' = w := by
  go_enter Tryd.func22, Tryd.ntmps22
  go_wp2
  go_ret
  exact ⟨rfl, rfl⟩
theorem c23 (w : World) : Calls Tryd.prog 23 #[.pointer none] w fun e w' => e = .returned (.int .i64 0) ∧ w' = w := by
  go_enter Tryd.func23, Tryd.ntmps23
  go_wp2
  go_ret
  exact ⟨rfl, rfl⟩
theorem c24 (w : World) : Calls Tryd.prog 24 #[.pointer none] w fun e w' => e = .returned (.int .i64 0) ∧ w' = w := by
  go_enter Tryd.func24, Tryd.ntmps24
  go_wp2
  go_ret
  exact ⟨rfl, rfl⟩
theorem c25 (w : World) : Calls Tryd.prog 25 #[.pointer none] w fun e w' => e = .returned (.int .i64 0) ∧ w' = w := by
  go_enter Tryd.func25, Tryd.ntmps25
  go_wp2
  go_ret
  exact ⟨rfl, rfl⟩
theorem c26 (w : World) : Calls Tryd.prog 26 #[.pointer none] w fun e w' => e = .returned (.int .i64 0) ∧ w' = w := by
  go_enter Tryd.func26, Tryd.ntmps26
  go_wp2
  go_ret
  exact ⟨rfl, rfl⟩
theorem c27 (w : World) : Calls Tryd.prog 27 #[.pointer none] w fun e w' => e = .returned (.int .i64 0) ∧ w' = w := by
  go_enter Tryd.func27, Tryd.ntmps27
  go_wp2
  go_ret
  exact ⟨rfl, rfl⟩
theorem c28 (w : World) : Calls Tryd.prog 28 #[.pointer none] w fun e w' => e = .returned (.int .i64 0) ∧ w' = w := by
  go_enter Tryd.func28, Tryd.ntmps28
  go_wp2
  go_ret
  exact ⟨rfl, rfl⟩
theorem c29 (w : World) : Calls Tryd.prog 29 #[.pointer none, .int .i64 0, .int .i64 1, .int .i64 1, .int .i64 0, .int .i64 1] w fun e w' => e = .returned (.tuple #[.pointer none, .int .i64 2]) ∧ w' = w := by
  go_enter Tryd.func29, Tryd.ntmps29
  go_wp2
  refine bodyPost_ret (v := .tuple #[.pointer none, .int .i64 2]) (by simp [results, Tryd.f29, go_sem]) rfl ?_
  exact ⟨rfl, rfl⟩
theorem c30 (w : World) : Calls Tryd.prog 30 #[.pointer none, .int .i64 0, .int .i64 1, .int .i64 1, .int .i64 0] w fun e w' => e = .returned (.tuple #[.slice none 0 0, .int .i64 0, .int .i64 2]) ∧ w' = w := by
  go_enter Tryd.func30, Tryd.ntmps30
  go_wp2
  refine bodyPost_ret (v := .tuple #[.slice none 0 0, .int .i64 0, .int .i64 2]) (by simp [results, Tryd.f30, go_sem]) rfl ?_
  exact ⟨rfl, rfl⟩
theorem nil_walk (w : World) : Calls Tryd.prog 4 #[] w fun e w' => e = .returned (.bool true) ∧ Below w.heap.size w w' := by
  go_enter Tryd.func4, Tryd.ntmps4
  go_wp2_with (first | (go_at_call 18; refine (c18 _).mono ?_; rintro e w' ⟨rfl, rfl⟩) | (go_at_call 19; refine (c19 _).mono ?_; rintro e w' ⟨rfl, rfl⟩) | (go_at_call 20; refine (c20 _).mono ?_; rintro e w' ⟨rfl, rfl⟩) | (go_at_call 21; refine (c21 _).mono ?_; rintro e w' ⟨rfl, rfl⟩) | (go_at_call 22; refine (c22 _).mono ?_; rintro e w' ⟨rfl, rfl⟩) | (go_at_call 23; refine (c23 _).mono ?_; rintro e w' ⟨rfl, rfl⟩) | (go_at_call 24; refine (c24 _).mono ?_; rintro e w' ⟨rfl, rfl⟩) | (go_at_call 25; refine (c25 _).mono ?_; rintro e w' ⟨rfl, rfl⟩) | (go_at_call 26; refine (c26 _).mono ?_; rintro e w' ⟨rfl, rfl⟩) | (go_at_call 27; refine (c27 _).mono ?_; rintro e w' ⟨rfl, rfl⟩) | (go_at_call 28; refine (c28 _).mono ?_; rintro e w' ⟨rfl, rfl⟩) | (go_at_call 29; refine (c29 _).mono ?_; rintro e w' ⟨rfl, rfl⟩) | (go_at_call 30; refine (c30 _).mono ?_; rintro e w' ⟨rfl, rfl⟩))
  go_ret
  exact ⟨rfl, Below.refl _ _⟩
end Go.Proofs.YtbjhpjgneanphaaDoor.Nil
