/- (*disk.Disk).Choices, walked up to the iterator that it hands out. -/
import Derived.Test.YtpaonoaedjkekaaDoorDkP
namespace Go.Proofs.YtpaonoaedjkekaaDoor.Dk
open Go Go.RowKit Go.Proofs.YtpaonoaedjkekaaDoor.PD Go.Proofs.YtpaonoaedjkekaaDoorW.PrintWords Go.Proofs.YtpaonoaedjkekaaDoorW.PrintLast Go.Proofs.YtpaonoaedjkekaaDoorW.PrintMore
set_option linter.unusedVariables false
set_option linter.unusedSimpArgs false
set_option maxHeartbeats 4000000
set_option maxRecDepth 100000
/-- The places of a number's ones, rising. -/
def placesL (m : Nat) : List Int := ((List.range 10).filter fun k => m.testBit k).map fun (k : Nat) => (k : Int)
theorem places_end (m k : Nat) (hk : k ≤ 10) (h : m >>> k = 0) : ((List.range k).filter fun i => m.testBit i).map (fun (i : Nat) => (i : Int)) = placesL m := by
  unfold placesL
  obtain ⟨d, hd⟩ : ∃ d, 10 = k + d := ⟨10 - k, by omega⟩
  rw [hd, List.range_add, List.filter_append, show List.filter (fun i => m.testBit i) (List.map (fun x => k + x) (List.range d)) = [] from ?_, List.append_nil]
  rw [List.filter_eq_nil_iff]
  intro x hx
  obtain ⟨y, _, rfl⟩ := List.mem_map.1 hx
  have : (m >>> k).testBit y = false := by rw [h]; simp
  rw [Nat.testBit_shiftRight] at this
  rw [this]; simp
theorem shr_nat (m k : Nat) (hk : k ≤ 64) : shr .i64 (m : Int) (k : Int) = ((m >>> k : Nat) : Int) := by
  have e : shr .i64 (m : Int) (k : Int) = (m : Int) / 2 ^ min (k : Int).toNat 64 := rfl
  rw [e, Int.toNat_natCast, Nat.min_eq_left hk, Nat.shiftRight_eq_div_pow]
  norm_cast
theorem and_one (z : Nat) (h : z < 1024) : bits .and .i64 (z : Int) 1 = ((z % 2 : Nat) : Int) := by
  have : ∀ m : Fin 1024, bits .and .i64 ((m.val : Nat) : Int) 1 = ((m.val % 2 : Nat) : Int) := by decide +kernel
  exact this ⟨z, h⟩
theorem testBit_shift (m k : Nat) : m.testBit k = decide ((m >>> k) % 2 = 1) := by
  rw [Nat.testBit_eq_decide_div_mod_eq, Nat.shiftRight_eq_div_pow]
theorem shr_lt {m k : Nat} (hm : m < 1024) : m >>> k < 1024 := Nat.lt_of_le_of_lt (Nat.shiftRight_le m k) hm
theorem shr_pos {m k : Nat} (hm : m < 1024) (h : 0 < m >>> k) : k < 10 := by
  rcases Nat.lt_or_ge k 10 with h1 | h1
  · exact h1
  · exfalso
    have : m >>> k = 0 := by
      rw [Nat.shiftRight_eq_div_pow]
      exact Nat.div_eq_of_lt (Nat.lt_of_lt_of_le hm (Nat.pow_le_pow_right (by decide) h1 : 2 ^ 10 ≤ 2 ^ k))
    omega
theorem places_at (m : Nat) (hm : m < 1024) (W : World) : Calls Tryd.prog 41 #[.int .i64 (m : Int)] W fun e w' => ∃ v, e = .returned v ∧ Kd.R (Kd.int .i64) 3 w' W.heap.size (fun _ => True) v (placesL m) ∧ Below W.heap.size W w' := by
  go_enter Tryd.func41, Tryd.ntmps41
  go_wp2_with fail
  go_loopw [3, 4] (fun l p wr => ∃ k : Nat, p = .int .i64 (k : Int) ∧ Aside0 (k ≤ 10) ∧ Aside0 (Kd.R (Kd.int .i64) 3 wr W.heap.size (fun _ => True) l (((List.range k).filter fun i => m.testBit i).map fun (i : Nat) => (i : Int))) ∧ Aside0 (Below W.heap.size W wr)) (fun _ p _ => 10 - (intOf p).toNat)
  · exact ⟨0, rfl, ⟨by decide⟩, ⟨Kd.R_nil _ _ _ _ _⟩, ⟨Below.refl _ _⟩⟩
  · obtain ⟨k, rfl, HK, HR, HB⟩ := hrel
    have hk0 : (0 : Int) ≤ (k : Int) := by omega
    have hs := shr_nat m k (by have := HK.out; omega)
    have hs2 : (m : Int) / 2 ^ min (k : Int).toNat 64 = ((m >>> k : Nat) : Int) := hs
    have hs3 : (m : Int) / 2 ^ min k 64 = ((m >>> k : Nat) : Int) := by rw [← Int.toNat_natCast k]; exact hs
    obtain ⟨z, hz⟩ : ∃ z, m >>> k = z := ⟨_, rfl⟩
    have hs4 : (m : Int) / 2 ^ k = ((m >>> k : Nat) : Int) := by rw [Nat.min_eq_left (show k ≤ 64 by have := HK.out; omega)] at hs3; exact hs3
    rw [hz] at hs hs2 hs3 hs4
    have HZ := Aside0.mk hz
    clear hz
    by_cases hz0 : 0 < z
    · have c1 : decide (0 < (z : Int)) = true := decide_eq_true (by omega)
      have c2 : decide (0 < z) = true := decide_eq_true hz0
      have hk10 : k < 10 := shr_pos hm (by rw [HZ.out]; exact hz0)
      have hw1 : IntKind.i64.wrap ((k : Int) + 1) = ((k + 1 : Nat) : Int) := by rw [IntWalk.i64_in _ (by omega)]; omega
      have hand := and_one z (by rw [← HZ.out]; exact shr_lt hm)
      have htb := testBit_shift m k
      rw [HZ.out] at htb
      by_cases hbit : z % 2 = 1
      · rw [hbit] at hand
        have hand : bits .and .i64 (z : Int) 1 = 1 := hand
        have HT := Aside0.mk (show ((List.range (k + 1)).filter fun i => m.testBit i).map (fun (i : Nat) => (i : Int)) = ((List.range k).filter fun i => m.testBit i).map (fun (i : Nat) => (i : Int)) ++ [(k : Int)] from by
          rw [List.range_succ, List.filter_append, List.filter_cons, htb, decide_eq_true hbit]
          simp)
        have HLN := Aside0.mk (show (((List.range k).filter fun i => m.testBit i).map (fun (i : Nat) => (i : Int))).length ≤ 10 from by
          rw [List.length_map]
          exact Nat.le_trans (List.length_filter_le _ _) (by rw [List.length_range]; omega))
        clear htb hbit
        go_wp2_with (first | (
          (with_reducible refine gate_builtin (b := .append) (xs := #[.tmp 16, .tmp 18]) rfl ?_)
          at_builtin
          refine Kd.R_append (Kd.int .i64) (w0 := W) W.heap.size rfl (.tmp 16) (.tmp 18) 23 3 (.int .i64 0) 8 rfl Tryd.underlying23 info3' rfl (by decide) (by omega) _ _ (k : Int) [.int .i64 (k : Int)] (fun _ => True) (fun _ => False) rfl rfl rfl (fun _ hk => hk.elim) (fun _ _ => trivial) HR.out HB.out HB.out.size (by have := HLN.out; omega) ?_
          intro v1 w8 ho hb hg hat
          have HO := Aside0.mk ho
          have HB8 := Aside0.mk hb
          clear ho hb hg hat))
        refine ⟨⟨k + 1, congrArg (Value.int .i64) (by omega), ⟨hk10⟩, ⟨?_⟩, HB8⟩, ?_⟩
        · rw [HT.out]
          exact HO.out
        · simp only [intOf]
          omega
      · have hz2 : z % 2 = 0 := by omega
        rw [hz2] at hand
        have hand : bits .and .i64 (z : Int) 1 = 0 := hand
        have HT := Aside0.mk (show ((List.range (k + 1)).filter fun i => m.testBit i).map (fun (i : Nat) => (i : Int)) = ((List.range k).filter fun i => m.testBit i).map (fun (i : Nat) => (i : Int)) from by
          rw [List.range_succ, List.filter_append, List.filter_cons, htb, decide_eq_false hbit]
          simp)
        clear htb hbit hz2
        go_wp2_with fail
        refine ⟨⟨k + 1, congrArg (Value.int .i64) (by omega), ⟨hk10⟩, ⟨?_⟩, HB⟩, ?_⟩
        · rw [HT.out]
          exact HR.out
        · simp only [intOf]
          omega
    · have c1 : decide (0 < (z : Int)) = false := decide_eq_false (by omega)
      have c2 : decide (0 < z) = false := decide_eq_false hz0
      go_wp2_with fail
      go_ret
      refine ⟨_, rfl, ?_, HB.out⟩
      rw [← places_end m k HK.out (by rw [HZ.out]; omega)]
      exact HR.out
theorem choices_calls {h : Hd} {B : Nat} {fs ss : List Int} {A : Option Addr} {c : Nat} {ops : List (Int × List Int)} {W : World} (k : DkAt h B fs ss (.slice A ops.length c) ops W) (hF : Fl W) (h0 : 0 < W.heap.size) (n : Nat) (hn : n ≤ ops.length) :
    Calls Tryd.prog 30 #[ptr h.D, .int .i64 (n : Int)] W fun e w' => e = .returned (.func (.func 40) #[] #[ptr W.heap.size]) ∧ w'.cell? ⟨W.heap.size, 0, none⟩ = some (.int .i64 ((n - looseN ops n : Nat) : Int)) ∧ Below W.heap.size W w' := by
  have hlo := looseN_le ops n
  obtain ⟨lo, hlo2⟩ : ∃ lo, looseN ops n = lo := ⟨_, rfl⟩
  rw [hlo2] at hlo ⊢
  have HLO := Aside0.mk hlo2
  have HL := Aside0.mk k.few
  have HN := Aside0.mk hn
  have n1 : (0 : Int) ≤ (n : Int) := by omega
  have n2 : (n : Int) ≤ (ops.length : Int) := by omega
  have hsub : wrap64 ((n : Int) - (lo : Int)) = ((n - lo : Nat) : Int) := by unfold wrap64; have := k.few; omega
  have k1 := k.stay (below_alloc (Below.refl _ _) (.cells #[.int .i64 (-1)] 3))
  have HF1 := hF.below h0 (below_alloc (Below.refl _ _) (.cells #[.int .i64 (-1)] 3))
  have hr1 : Rt 3 W.heap.size [.int .i64 (-1)] (W.alloc (.cells #[.int .i64 (-1)] 3)) := heap_alloc_new W _
  have hb1 : Below W.heap.size W (W.alloc (.cells #[.int .i64 (-1)] 3)) := below_alloc (Below.refl _ _) _
  go_enter Tryd.func30, Tryd.ntmps30
  go_upto_region 2 with fail
  obtain ⟨g, hg⟩ : ∃ g, W.heap.size = g := ⟨_, rfl⟩
  have HG := Aside0.mk hg
  rw [hg] at hr1 ⊢
  generalize W.alloc (.cells #[.int .i64 (-1)] 3) = w1 at *
  have K1 := Aside0.mk k1
  have HF := Aside0.mk HF1
  have HR1 := Aside0.mk hr1
  have HB1 := Aside0.mk hb1
  have c2 := k1.row.cell 2 _ rfl
  clear k k1 hF HF1 hr1 hb1 hg h0 hn hlo hlo2
  go_wp2_with fail
  go_at_call 36
  refine (loose_at K1.out HF.out n HN.out).mono ?_
  rw [HLO.out]
  rintro e w2 ⟨rfl, q, rfl⟩
  have HR2 := Aside0.mk (show Rt 3 g [.int .i64 (-1)] (w1.drewN q) from HR1.out)
  have HB2 := Aside0.mk (show Below W.heap.size W (w1.drewN q) from HB1.out.trans ((pw_below_drewN (Below.refl _ _) q).mono HB1.out.size))
  have cg := HR2.out.cell 0 _ rfl
  have fg := HR2.out.free 0
  generalize w1.drewN q = w2 at *
  go_wp2_with fail
  go_ret
  refine ⟨by rw [HG.out]; rfl, ?_, HB2.out.setCell (p := ⟨g, 0, none⟩) (Nat.le_of_eq HG.out) _⟩
  rw [HR2.out.set 0, HG.out]
  exact (HR2.out.row _).cell 0 _ (by simp [hsub])
end Go.Proofs.YtpaonoaedjkekaaDoor.Dk
