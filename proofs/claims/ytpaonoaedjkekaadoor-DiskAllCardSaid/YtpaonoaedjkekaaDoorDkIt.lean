/- The iterator that (*disk.Disk).Choices hands out, walked. -/
import Derived.Test.YtpaonoaedjkekaaDoorDkCh
import Derived.Test.YtpaonoaedjkekaaDoorDkSeq
import Derived.TacticsInMore
import Derived.RegionIn
import Derived.LoopNIn
import Derived.LoopIn
namespace Go.Proofs.YtpaonoaedjkekaaDoor.Dk
open Go Go.RowKit Go.Proofs.SeqWith Go.Proofs.YtpaonoaedjkekaaDoor.PD Go.Proofs.YtpaonoaedjkekaaDoorW.PrintWords Go.Proofs.YtpaonoaedjkekaaDoorW.PrintLast Go.Proofs.YtpaonoaedjkekaaDoorW.PrintMore
set_option linter.unusedVariables false
set_option linter.unusedSimpArgs false
set_option maxHeartbeats 4000000
set_option maxRecDepth 100000
abbrev Ck := List Int × Int × Int
def keepC (m : Nat) : Ck := (placesL m, -1, 0)
def tornC (t m : Nat) : Ck := (placesL m, (t : Int), 64)
/-- The choices with one torn write, up to a number. -/
def tornsL (k t : Nat) : List Ck := (List.range t).flatMap fun i => ((List.range (2 ^ k)).filter fun m => !m.testBit i).map (tornC i)
def choicesL (k : Nat) : List Ck := if 10 < k then [] else (List.range (2 ^ k)).map keepC ++ tornsL k k
theorem tornsL_succ (k t : Nat) : tornsL k (t + 1) = tornsL k t ++ ((List.range (2 ^ k)).filter fun m => !m.testBit t).map (tornC t) := by
  unfold tornsL; rw [List.range_succ, List.flatMap_append]; simp
theorem range_pre {m n : Nat} (h : m ≤ n) : List.range m <+: List.range n := by
  obtain ⟨d, rfl⟩ : ∃ d, n = m + d := ⟨n - m, by omega⟩
  rw [List.range_add]
  exact List.prefix_append _ _
theorem tornsL_pre {k s t : Nat} (h : s ≤ t) : tornsL k s <+: tornsL k t := by
  obtain ⟨r, hr⟩ := range_pre h
  unfold tornsL
  rw [← hr, List.flatMap_append]
  exact List.prefix_append _ _
theorem keep_pre {k m : Nat} (hk : k ≤ 10) (hm : m < 2 ^ k) : (List.range m).map keepC ++ [keepC m] <+: choicesL k := by
  have e : (List.range m).map keepC ++ [keepC m] = (List.range (m + 1)).map keepC := by rw [List.range_succ, List.map_append]; rfl
  unfold choicesL
  rw [if_neg (by omega), e]
  exact (List.IsPrefix.map keepC (range_pre hm)).trans (List.prefix_append _ _)
theorem torn_pre {k t m : Nat} (hk : k ≤ 10) (ht : t < k) (hm : m < 2 ^ k) (hb : m.testBit t = false) :
    (List.range (2 ^ k)).map keepC ++ tornsL k t ++ ((List.range m).filter fun m => !m.testBit t).map (tornC t) ++ [tornC t m] <+: choicesL k := by
  have e : ((List.range m).filter fun m => !m.testBit t).map (tornC t) ++ [tornC t m] = ((List.range (m + 1)).filter fun m => !m.testBit t).map (tornC t) := by
    rw [List.range_succ, List.filter_append, List.map_append]
    simp [hb]
  unfold choicesL
  rw [if_neg (by omega), List.append_assoc, e, List.append_assoc]
  refine (List.prefix_append_right_inj _).2 ?_
  refine List.IsPrefix.trans ?_ (tornsL_pre (k := k) (show t + 1 ≤ k from ht))
  rw [tornsL_succ]
  exact (List.prefix_append_right_inj _).2 (List.IsPrefix.map _ (List.IsPrefix.filter _ (range_pre hm)))
abbrev El := Value × Ck
abbrev encs (x : El) : Array Value := #[.agg #[x.1, .int .i64 x.2.2.1, .int .i64 x.2.2.2]]
def key (x : El) : Ck := x.2
/-- With an element comes: it is the next choice, and its slice is a row of its own that reads its kept writes. -/
def With (B : Nat) (fs : List Ck) (pre : List El) (x : El) (W : World) : Prop :=
  (pre ++ [x]).map key <+: fs ∧ Kd.R (Kd.int .i64) 3 W B (fun _ => True) x.1 x.2.1
theorem two_pow (k : Nat) (h : k ≤ 10) : wrap64 (2 ^ min k 64) = ((2 ^ k : Nat) : Int) := by
  have : ∀ k : Fin 11, wrap64 (2 ^ min k.val 64) = ((2 ^ k.val : Nat) : Int) := by decide +kernel
  exact this ⟨k, by omega⟩
theorem choices_seq (n : Nat) (hn : 1 ≤ n) (g k : Nat) (w : World) (hg : g < w.heap.size) (hbox : w.cell? ⟨g, 0, none⟩ = some (.int .i64 (k : Int))) :
    SeqWith Fence.wide n Tryd.prog 40 #[ptr g] encs (With w.heap.size (choicesL k)) (Below w.heap.size) (fun xs => xs.map key = choicesL k) (fun _ => True) w := fun lp J Jx W hW hJ hY h0 => by
  have HX := Aside0.mk hbox
  have HW := Aside0.mk hW
  have H0 := Aside0.mk h0
  have hc : W.cell? ⟨g, 0, none⟩ = some (.int .i64 (k : Int)) := (hW.cell (p := ⟨g, 0, none⟩) hg).trans hbox
  clear hbox hW h0
  have k0 : ¬ ((k : Int) < 0) := by omega
  refine callsIn_of_wp Tryd.func40 rfl trivial ?_ rfl
  simp only [Tryd.ntmps40, List.size_toArray, List.length_cons, List.length_nil, Nat.reduceAdd, Nat.reduceSub, Array.replicate_succ, Array.replicate_zero, List.push_toArray, List.append_toArray, List.nil_append, List.cons_append]
  by_cases hk : 10 < k
  · have k1 : decide ((10 : Int) < (k : Int)) = true := decide_eq_true (by omega)
    have k2 : decide (10 < k) = true := decide_eq_true hk
    have HK := Aside0.mk hk
    clear hk
    gi_wp2
    refine bodyPost_ret (results_none rfl _ _ _) rfl ?_
    exact ⟨⟨_, rfl⟩, .inl ⟨[], by unfold choicesL; rw [if_pos HK.out]; rfl, H0.out⟩⟩
  · have k1 : decide ((10 : Int) < (k : Int)) = false := decide_eq_false (by omega)
    have k2 : decide (10 < k) = false := decide_eq_false hk
    have HK := Aside0.mk (show k ≤ 10 by omega)
    obtain ⟨T, hT⟩ : ∃ T, 2 ^ k = T := ⟨_, rfl⟩
    have HT := Aside0.mk hT
    have hs2 := two_pow k (by omega)
    rw [hT] at hs2
    have HS2 := Aside0.mk hs2
    have HTS := Aside0.mk (show T ≤ 1024 from by rw [← hT]; exact Nat.pow_le_pow_right (by decide) (by omega : k ≤ 10))
    clear hk hT
    gi_wp2
    clear hs2
    gi_loopw [14] (fun p wr => ∃ (m : Nat) (pre : List El), p = .int .i64 (m : Int) ∧ Aside0 (m ≤ T) ∧ Aside0 (pre.map key = (List.range m).map keepC) ∧ Aside0 (J pre wr) ∧ Aside0 (Below w.heap.size w wr)) (fun p _ => T - (intOf p).toNat)
    case atStart => exact ⟨0, [], rfl, ⟨Nat.zero_le _⟩, ⟨rfl⟩, H0, HW⟩
    case round =>
      obtain ⟨m, pre, rfl, HM, HP, HJ, HB⟩ := hrel
      by_cases cm : m < T
      · have cm1 : decide ((m : Int) < (T : Int)) = true := decide_eq_true (by omega)
        have cm2 : decide (m < T) = true := decide_eq_true cm
        have hw1 : IntKind.i64.wrap ((m : Int) + 1) = ((m + 1 : Nat) : Int) := by rw [IntWalk.i64_in _ (by have := HTS.out; omega)]; omega
        gi_wp2_with fail
        refine ⟨trivial, ?_⟩
        gi_at_call 41
        refine (callsIn_wide.2 (places_at m (by have := HTS.out; omega) wr)).mono ?_
        rintro e W2 ⟨v, rfl, hR, hB2⟩
        have HJ2 := Aside0.mk (hJ pre wr W2 none HJ.out (grown_of_below hB2 none) (fun r e => by cases e))
        have HB2 := Aside0.mk (HB.out.trans (hB2.mono HB.out.size))
        have HPX := Aside0.mk (show ∀ v : Value, (pre ++ [((v, keepC m) : El)]).map key = (List.range (m + 1)).map keepC from fun v => by
          rw [List.map_append, HP.out, List.range_succ, List.map_append]; rfl)
        obtain ⟨Av, cv, rfl⟩ := Kd.R_slice hR
        obtain ⟨fn, tmps, assign, body, hy, hRo⟩ := hY pre (.slice Av (placesL m).length cv, keepC m) W2 HJ2.out ⟨by
          have := keep_pre (k := k) (m := m) HK.out (by rw [HT.out]; exact cm)
          rw [List.map_append, HP.out]
          exact this, Kd.R_lower hR HB.out.size⟩
        dsimp only [encs, keepC] at hy
        clear hB2 HB HJ hR
        gi_wp2
        refine hRo.mono ?_
        rintro e W3 (⟨rfl, hJ3, hk3⟩ | ⟨rfl, hJx3⟩)
        · gi_wp2
          go_roundw
          case rel => exact ⟨m + 1, pre ++ [(.slice Av (placesL m).length cv, keepC m)], congrArg (Value.int .i64) (by omega), ⟨cm⟩, ⟨HPX.out _⟩, ⟨hJ3⟩, ⟨HB2.out.trans hk3⟩⟩
          case measure => simp only [intOf]; omega
        · gi_wp2
          refine bodyPost_ret (results_none rfl _ _ _) rfl ?_
          exact ⟨⟨_, rfl⟩, .inr ⟨_, trivial, hJx3⟩⟩
      · have cm1 : decide ((m : Int) < (T : Int)) = false := decide_eq_false (by omega)
        have cm2 : decide (m < T) = false := decide_eq_false cm
        have hc : wr.cell? ⟨g, 0, none⟩ = some (.int .i64 (k : Int)) := (HB.out.cell (p := ⟨g, 0, none⟩) hg).trans HX.out
        have HPA := Aside0.mk (show pre.map key = (List.range T).map keepC from by
          rw [HP.out, show m = T by have := HM.out; omega])
        gi_wp2
        clear hc HM HP
        gi_loopw [25] (fun p wr => ∃ (t : Nat) (pre : List El), p = .int .i64 (t : Int) ∧ Aside0 (t ≤ k) ∧ Aside0 (pre.map key = (List.range T).map keepC ++ tornsL k t) ∧ Aside0 (J pre wr) ∧ Aside0 (Below w.heap.size w wr)) (fun p _ => k - (intOf p).toNat)
        case atStart => exact ⟨0, pre, rfl, ⟨Nat.zero_le _⟩, ⟨by rw [HPA.out]; simp [tornsL]⟩, HJ, HB⟩
        case round =>
          clear HPA HJ HB
          obtain ⟨t, pre, rfl, HM, HP, HJ, HB⟩ := hrel
          have hc : wr.cell? ⟨g, 0, none⟩ = some (.int .i64 (k : Int)) := (HB.out.cell (p := ⟨g, 0, none⟩) hg).trans HX.out
          by_cases ct : t < k
          · have ct1 : decide ((t : Int) < (k : Int)) = true := decide_eq_true (by omega)
            have ct2 : decide (t < k) = true := decide_eq_true ct
            have hwt : IntKind.i64.wrap ((t : Int) + 1) = ((t + 1 : Nat) : Int) := by rw [IntWalk.i64_in _ (by have := HK.out; omega)]; omega
            gi_wp2
            rw [HS2.out]
            clear hc
            gi_loopw [30] (fun p wr => ∃ (m : Nat) (pre : List El), p = .int .i64 (m : Int) ∧ Aside0 (m ≤ T) ∧ Aside0 (pre.map key = (List.range T).map keepC ++ tornsL k t ++ ((List.range m).filter fun m => !m.testBit t).map (tornC t)) ∧ Aside0 (J pre wr) ∧ Aside0 (Below w.heap.size w wr)) (fun p _ => T - (intOf p).toNat)
            case atStart => exact ⟨0, pre, rfl, ⟨Nat.zero_le _⟩, ⟨by rw [HP.out]; simp⟩, HJ, HB⟩
            case round =>
              clear HP HJ HB
              obtain ⟨m, pre, rfl, HMm, HP, HJ, HB⟩ := hrel
              by_cases cm' : m < T
              · have cm1 : decide ((m : Int) < (T : Int)) = true := decide_eq_true (by omega)
                have cm2 : decide (m < T) = true := decide_eq_true cm'
                have hw1 : IntKind.i64.wrap ((m : Int) + 1) = ((m + 1 : Nat) : Int) := by rw [IntWalk.i64_in _ (by have := HTS.out; omega)]; omega
                have ht0 : (0 : Int) ≤ (t : Int) := by omega
                have hs := shr_nat m t (by have := HK.out; omega)
                have hs2 : (m : Int) / 2 ^ min (t : Int).toNat 64 = ((m >>> t : Nat) : Int) := hs
                have hs3 : (m : Int) / 2 ^ min t 64 = ((m >>> t : Nat) : Int) := by rw [← Int.toNat_natCast t]; exact hs
                have hs4 : (m : Int) / 2 ^ t = ((m >>> t : Nat) : Int) := by rw [Nat.min_eq_left (show t ≤ 64 by have := HK.out; omega)] at hs3; exact hs3
                have hand := and_one (m >>> t) (shr_lt (by have := HTS.out; omega))
                have htb := testBit_shift m t
                obtain ⟨z, hz⟩ : ∃ z, m >>> t = z := ⟨_, rfl⟩
                rw [hz] at hs hs2 hs3 hs4 hand htb
                clear hz
                by_cases hbit : z % 2 = 1
                · rw [hbit] at hand
                  have hand : bits .and .i64 (z : Int) 1 = 1 := hand
                  have HTB := Aside0.mk (show m.testBit t = true by rw [htb, decide_eq_true hbit])
                  clear htb hbit
                  gi_wp2
                  refine ⟨trivial, ?_⟩
                  gi_wp2
                  refine ⟨fun _ h => (by cases h), ?_⟩
                  gi_wp2
                  go_roundw
                  case rel =>
                    refine ⟨m + 1, pre, congrArg (Value.int .i64) (by omega), ⟨cm'⟩, ⟨?_⟩, HJ, HB⟩
                    rw [HP.out, List.range_succ, List.filter_append]
                    simp [HTB.out]
                  case measure => simp only [intOf]; omega
                · rw [show z % 2 = 0 by omega] at hand
                  have hand : bits .and .i64 (z : Int) 1 = 0 := hand
                  have HTB := Aside0.mk (show m.testBit t = false by rw [htb, decide_eq_false hbit])
                  clear htb hbit
                  gi_wp2_with fail
                  refine ⟨trivial, ?_⟩
                  gi_at_call 41
                  refine (callsIn_wide.2 (places_at m (by have := HTS.out; omega) wr)).mono ?_
                  rintro e W2 ⟨v, rfl, hR, hB2⟩
                  have HJ2 := Aside0.mk (hJ pre wr W2 none HJ.out (grown_of_below hB2 none) (fun r e => by cases e))
                  have HB2 := Aside0.mk (HB.out.trans (hB2.mono HB.out.size))
                  have HPX := Aside0.mk (show ∀ v : Value, (pre ++ [((v, tornC t m) : El)]).map key = (List.range T).map keepC ++ tornsL k t ++ ((List.range (m + 1)).filter fun m => !m.testBit t).map (tornC t) from fun v => by
                    rw [List.map_append, HP.out, List.range_succ, List.filter_append, List.map_append, List.append_assoc]
                    simp [HTB.out, key])
                  obtain ⟨Av, cv, rfl⟩ := Kd.R_slice hR
                  obtain ⟨fn, tmps, assign, body, hy, hRo⟩ := hY pre (.slice Av (placesL m).length cv, tornC t m) W2 HJ2.out ⟨by
                    have := torn_pre (k := k) (t := t) (m := m) HK.out ct (by rw [HT.out]; exact cm') HTB.out
                    rw [HT.out] at this
                    rw [List.map_append, HP.out]
                    exact this, Kd.R_lower hR HB.out.size⟩
                  dsimp only [encs, tornC] at hy
                  clear hB2 HB HJ hR
                  gi_wp2
                  refine hRo.mono ?_
                  rintro e W3 (⟨rfl, hJ3, hk3⟩ | ⟨rfl, hJx3⟩)
                  · gi_wp2
                    go_roundw
                    case rel => exact ⟨m + 1, pre ++ [(.slice Av (placesL m).length cv, tornC t m)], congrArg (Value.int .i64) (by omega), ⟨cm'⟩, ⟨HPX.out _⟩, ⟨hJ3⟩, ⟨HB2.out.trans hk3⟩⟩
                    case measure => simp only [intOf]; omega
                  · gi_wp2
                    refine bodyPost_ret (results_none rfl _ _ _) rfl ?_
                    exact ⟨⟨_, rfl⟩, .inr ⟨_, trivial, hJx3⟩⟩
              · have cm1 : decide ((m : Int) < (T : Int)) = false := decide_eq_false (by omega)
                have cm2 : decide (m < T) = false := decide_eq_false cm'
                gi_wp2
                go_roundw
                case rel =>
                  refine ⟨t + 1, pre, congrArg (Value.int .i64) (by omega), ⟨ct⟩, ⟨?_⟩, HJ, HB⟩
                  rw [HP.out, tornsL_succ, HT.out, show m = T by have := HMm.out; omega, List.append_assoc]
                case measure => simp only [intOf]; omega
          · have ct1 : decide ((t : Int) < (k : Int)) = false := decide_eq_false (by omega)
            have ct2 : decide (t < k) = false := decide_eq_false ct
            gi_wp2
            go_end0
            refine ⟨⟨_, rfl⟩, .inl ⟨pre, ?_, HJ.out⟩⟩
            have htk : t = k := by have := HM.out; omega
            show pre.map key = choicesL k
            rw [HP.out]
            unfold choicesL
            rw [if_neg (by have := HK.out; omega), htk, HT.out]
end Go.Proofs.YtpaonoaedjkekaaDoor.Dk
