/- The document's disk: Choices, walked. (The text of its two kinds of rounds is printed by gen_rch.py.) A region that draws its order and only reads, in a round of a range over a function. A region in a round of a range over a function, walked as outside: where it defers nothing. What goes with a range over the choices: the round's choice, a row of choices. The choices at any number, on both disks. -/
import Derived.Test.YtpaonoaedjkekaaDoorPl6
import Derived.Test.YtpaonoaedjkekaaDoorPl3
import Derived.Sort.QuietTacIn
import Derived.RangeFuncCalls
import Derived.OrdersHeld
import Derived.Tactics
import Derived.Deep.RegionHeld
import Derived.Deep.RegionHeld3
import Derived.Test.YtpaonoaedjkekaaDoorPl4
import Derived.RangeFuncBound
import Derived.Sort.CutIn
import Derived.RangeFuncLeaves
import Derived.Deep.RegionLaw
import Derived.Test.YtpaonoaedjkekaaDoorPl9
namespace Go.Proofs.YtpaonoaedjkekaaDoor.Dk
open Go Go.RowKit Go.Proofs.YtpaonoaedjkekaaDoor.PD Go.Proofs.YtpaonoaedjkekaaDoorW.PrintWords Go.Proofs.YtpaonoaedjkekaaDoorW.PrintLast Go.Proofs.YtpaonoaedjkekaaDoorW.PrintMore
set_option linter.unusedVariables false
set_option linter.unusedSimpArgs false
set_option maxHeartbeats 4000000
set_option maxRecDepth 100000
abbrev kck : Kd Ck := Kd.pair (Kd.slice 3 (Kd.int .i64)) (Kd.pair (Kd.int .i64) (Kd.int .i64))
theorem info34' : (Tryd.prog.info? 34).map (fun i => (i.zero, i.size, i.bytes)) = some (some (.agg #[.slice none 0 0, .int .i64 0, .int .i64 0]), 3, 40) := by kernel_rfl
/-- The choices of a round: the numbers below m. -/
def rowL : Nat → Nat → List Ck
  | 0, m => (List.range m).map keepC
  | t + 1, m => ((List.range m).filter fun m => !m.testBit t).map (tornC t)
def doneL (k T : Nat) : List Ck := (List.range T).flatMap fun t => rowL t (2 ^ k)
theorem doneL_succ (k T : Nat) : doneL k (T + 1) = doneL k T ++ rowL T (2 ^ k) := by
  unfold doneL; rw [List.range_succ, List.flatMap_append]; simp
theorem doneL_torns (k : Nat) : ∀ t, doneL k (t + 1) = (List.range (2 ^ k)).map keepC ++ tornsL k t
  | 0 => by rw [doneL_succ]; simp [doneL, tornsL, rowL]
  | t + 1 => by rw [doneL_succ, doneL_torns k t, tornsL_succ, List.append_assoc]; rfl
theorem rowL_len (T m : Nat) : (rowL T m).length ≤ m := by
  cases T with
  | zero => simp [rowL]
  | succ t => rw [rowL, List.length_map]; exact Nat.le_trans (List.length_filter_le _ _) (by rw [List.length_range]; exact Nat.le_refl _)
theorem doneL_len (k : Nat) : ∀ T, (doneL k T).length ≤ T * 2 ^ k
  | 0 => by simp [doneL]
  | T + 1 => by
    rw [doneL_succ, List.length_append, Nat.succ_mul]
    exact Nat.add_le_add (doneL_len k T) (rowL_len T _)
theorem pow10 (k : Nat) (h : k ≤ 10) : 2 ^ k ≤ 1024 := Nat.pow_le_pow_right (by decide) h
/-- The places of the ones among the first. -/
def bitsL (m i : Nat) : List Int := ((List.range i).filter fun j => m.testBit j).map fun (j : Nat) => (j : Int)
theorem bitsL_succ (m i : Nat) : bitsL m (i + 1) = if m.testBit i = true then bitsL m i ++ [(i : Int)] else bitsL m i := by
  unfold bitsL
  rw [List.range_succ, List.filter_append, List.filter_cons]
  split <;> simp_all
theorem bitsL_len (m i : Nat) : (bitsL m i).length ≤ i := by
  unfold bitsL
  rw [List.length_map]
  exact Nat.le_trans (List.length_filter_le _ _) (by rw [List.length_range]; exact Nat.le_refl _)
theorem bitsL_all (m k : Nat) (hk : k ≤ 10) (hm : m < 2 ^ k) : bitsL m k = placesL m := places_end m k hk (by rw [Nat.shiftRight_eq_div_pow]; exact Nat.div_eq_of_lt hm)
theorem rchoices_none {r : Rd} {B : Nat} {ok : Nat → Prop} {fs : List Int} {A : Option Addr} {c : Nat} {ops : List (Int × List Int)} {W : World} (k : RfAt r B ok fs (.slice A ops.length c) ops W) (N : Int) (hN : N < 0 ∨ (ops.length : Int) < N) :
    Calls Tryd.prog 55 #[ptr r.D, .int .i64 N] W fun e w' => e = .returned (.slice none 0 0) ∧ w' = W := by
  have cd := k.row.cell 1 _ rfl
  have h' : decide (N < 0) = true ∨ (decide (N < 0) = false ∧ decide ((ops.length : Int) < N) = true) := by
    rcases Int.lt_or_le N 0 with h0 | h0
    · exact .inl (decide_eq_true h0)
    · exact .inr ⟨decide_eq_false (by omega), decide_eq_true (by omega)⟩
  clear k hN
  rcases h' with h1 | ⟨h1, h2⟩
  all_goals
    go_enter Tryd.func55, Tryd.ntmps55
    go_wp2_with fail
    go_ret
    exact ⟨rfl, rfl⟩
theorem rchoices_at {r : Rd} {B : Nat} {ok : Nat → Prop} {fs : List Int} {A : Option Addr} {c : Nat} {ops : List (Int × List Int)} {W : World} (k : RfAt r B ok fs (.slice A ops.length c) ops W) (hO : Oks r.n ops) (n : Nat) (hn : n ≤ ops.length) :
    Calls Tryd.prog 55 #[ptr r.D, .int .i64 (n : Int)] W fun e w' => ∃ v, e = .returned v ∧ kck.R 34 w' W.heap.size (fun _ => True) v (choicesL (n - looseN ops n)) ∧ Below W.heap.size W w' := by
  have HQ := Aside0.mk (rloose_at k hO n hn)
  have cd := k.row.cell 1 _ rfl
  have hll := looseN_le ops n
  have hfew := k.few
  obtain ⟨lo, hlo⟩ : ∃ lo, looseN ops n = lo := ⟨_, rfl⟩
  rw [hlo] at hll HQ ⊢
  obtain ⟨K, hK⟩ : ∃ K, n - lo = K := ⟨_, rfl⟩
  rw [hK]
  have hsub : wrap64 ((n : Int) - (lo : Int)) = (K : Int) := by unfold wrap64; omega
  have n1 : ¬ ((n : Int) < 0) := by omega
  have n2 : ¬ ((ops.length : Int) < (n : Int)) := by omega
  clear k hO hn hlo hll hfew hK
  rcases Nat.lt_or_ge 10 K with h10 | h10
  · have g1 : decide ((10 : Int) < (K : Int)) = true := decide_eq_true (by omega)
    have e0 : choicesL K = [] := if_pos h10
    rw [e0]
    clear h10 e0
    go_enter Tryd.func55, Tryd.ntmps55
    go_wp2_with (go_at_call 56; refine HQ.out.mono ?_; rintro e w' ⟨rfl, hw⟩; subst w')
    go_ret
    exact ⟨_, rfl, Kd.R_nil _ _ _ _ _, Below.refl _ _⟩
  have g1 : decide ((10 : Int) < (K : Int)) = false := decide_eq_false (by omega)
  have H10 := Aside0.mk h10
  have hp10 := pow10 K h10
  obtain ⟨Z, hZ⟩ : ∃ Z, 2 ^ K = Z := ⟨_, rfl⟩
  have hsh := two_pow K h10
  have hsh2 : IntKind.i64.wrap (2 ^ min K 64) = ((2 ^ K : Nat) : Int) := (i64_w _).trans hsh
  rw [hZ] at hsh hsh2 hp10
  have HZ := Aside0.mk hZ
  have HP10 := Aside0.mk hp10
  clear h10 hp10 hZ
  go_enter Tryd.func55, Tryd.ntmps55
  go_upto_region 5 with (go_at_call 56; refine HQ.out.mono ?_; rintro e w' ⟨rfl, hw⟩; subst w')
  rw [hsub]
  clear hsub
  go_wp2_with fail
  clear n1 n2 g1 cd
  go_loopw [5, 7, 8, 9, 10] (fun l p _ _ _ wr => ∃ T : Nat, p = .int .i64 ((T : Int) - 1) ∧ Aside0 (T ≤ K + 1) ∧ Aside0 (kck.R 34 wr W.heap.size (fun _ => True) l (doneL K T)) ∧ Aside0 (Below W.heap.size W wr)) (fun _ p _ _ _ _ => (K : Int).toNat + 1 - (intOf p + 1).toNat)
  · exact ⟨0, rfl, ⟨Nat.zero_le _⟩, ⟨Kd.R_nil _ _ _ _ _⟩, ⟨Below.refl _ _⟩⟩
  · obtain ⟨T, rfl, HT, HRl, HBr⟩ := hrel
    obtain ⟨l, rfl⟩ : ∃ l, u5 = l := ⟨_, rfl⟩
    rcases Nat.lt_or_ge T (K + 1) with ci | ci
    · rcases T with _ | t
      · -- nothing torn
        have ct : decide ((-1 : Int) < (K : Int)) = true := decide_eq_true (by omega)
        rw [show ((0 : Nat) : Int) - 1 = -1 from rfl]
        go_wp2_with fail
        clear ct
        go_loopw [5, 8, 9, 10] (fun l p _ _ wr => ∃ m : Nat, p = .int .i64 (m : Int) ∧ Aside0 (m ≤ Z) ∧ Aside0 (kck.R 34 wr W.heap.size (fun _ => True) l (doneL K 0 ++ rowL 0 m)) ∧ Aside0 (Below W.heap.size W wr)) (fun _ p _ _ _ => Z - (intOf p).toNat)
        · exact ⟨0, rfl, ⟨Nat.zero_le _⟩, ⟨by rw [show rowL 0 0 = [] from rfl, List.append_nil]; exact HRl.out⟩, HBr⟩
        · obtain ⟨m, rfl, HM, HRm, HBm⟩ := hrel
          obtain ⟨l, rfl⟩ : ∃ l, u5 = l := ⟨_, rfl⟩
          by_cases cm : m < Z
          · have cm1 : decide ((m : Int) < (Z : Int)) = true := decide_eq_true (by omega)
            have hwm : IntKind.i64.wrap ((m : Int) + 1) = ((m + 1 : Nat) : Int) := by rw [IntWalk.i64_in _ (by have := HP10.out; omega)]; omega
            have HM10 := Aside0.mk (show m < 1024 by have := HP10.out; omega)
            have HROW := Aside0.mk (show rowL 0 (m + 1) = rowL 0 m ++ [keepC m] by
              simp [rowL, List.range_succ])
            go_upto_region 17 with fail
            obtain ⟨wo, rfl⟩ : ∃ wo, wo = wr := ⟨_, rfl⟩
            have HRW := Aside0.mk HRm.out
            have HBW := Aside0.mk HBm.out
            have hr9 : Rt 34 wo.heap.size [.slice none 0 0, .int .i64 (-1), .int .i64 0] (wo.alloc (.cells #[.slice none 0 0, .int .i64 (-1), .int .i64 0] 34)) := heap_alloc_new wo _
            have hb9 : Below wo.heap.size wo (wo.alloc (.cells #[.slice none 0 0, .int .i64 (-1), .int .i64 0] 34)) := below_alloc (Below.refl _ _) _
            obtain ⟨b9, hb9e⟩ : ∃ b9, wo.heap.size = b9 := ⟨_, rfl⟩
            have HB9E := Aside0.mk hb9e
            rw [hb9e] at hr9 hb9 ⊢
            generalize wo.alloc (.cells #[.slice none 0 0, .int .i64 (-1), .int .i64 0] 34) = w1 at *
            have HR9 := Aside0.mk hr9
            have HB9 := Aside0.mk hb9
            clear hr9 hb9 hb9e HRm HBm HRl HBr
            go_wp2_with fail
            go_loopw [10] (fun p wq => ∃ i : Nat, p = .int .i64 (i : Int) ∧ Aside0 (i ≤ K) ∧ Aside0 (Below b9 wo wq) ∧ ∃ (Av : Option Addr) (cv : Nat), Aside0 (Rt 34 b9 [.slice Av (bitsL m i).length cv, .int .i64 (-1), .int .i64 0] wq) ∧ Aside0 (Kd.R (Kd.int .i64) 3 wq b9 (fun _ => True) (.slice Av (bitsL m i).length cv) (bitsL m i))) (fun p _ => K - (intOf p).toNat)
            · exact ⟨0, rfl, ⟨Nat.zero_le _⟩, HB9, none, 0, HR9, ⟨Kd.R_nil _ _ _ _ _⟩⟩
            · obtain ⟨i, rfl, HI, HBq, Av, cv, HRq, HVq⟩ := hrel
              by_cases cik : i < K
              · have ci1 : decide ((i : Int) < (K : Int)) = true := decide_eq_true (by omega)
                have ci2 : decide (i < K) = true := decide_eq_true cik
                have i64 : i ≤ 64 := by have := H10.out; omega
                have hwi : IntKind.i64.wrap ((i : Int) + 1) = ((i + 1 : Nat) : Int) := by rw [IntWalk.i64_in _ (by omega)]; omega
                obtain ⟨y, hy⟩ : ∃ y, m >>> i = y := ⟨_, rfl⟩
                have js := shr_nat m i i64
                have js3 : (m : Int) / 2 ^ min i 64 = ((m >>> i : Nat) : Int) := by rw [← Int.toNat_natCast i]; exact js
                have js4 : (m : Int) / 2 ^ i = ((m >>> i : Nat) : Int) := by rw [Nat.min_eq_left i64] at js3; exact js3
                have jand := and_one y (by rw [← hy]; exact shr_lt HM10.out)
                have jtb := testBit_shift m i
                rw [hy] at js js3 js4 jtb
                have JTB := Aside0.mk jtb
                have HLN := Aside0.mk (bitsL_len m i)
                have q0 := HRq.out.cell 0 _ rfl
                have i0' : (0 : Int) ≤ (i : Int) := by omega
                clear jtb hy i64
                by_cases jbit : y % 2 = 1
                · rw [jbit] at jand
                  have jand : bits .and .i64 (y : Int) 1 = 1 := jand
                  have JB := Aside0.mk (show bitsL m (i + 1) = bitsL m i ++ [(i : Int)] by rw [bitsL_succ, if_pos (by rw [JTB.out]; exact decide_eq_true jbit)])
                  clear jbit
                  go_wp2_with (first | (
                    (with_reducible refine gate_builtin (b := .append) (xs := #[.tmp 71, .tmp 73]) rfl ?_)
                    at_builtin
                    refine Kd.R_append (Kd.int .i64) (w0 := wo) b9 rfl (.tmp 71) (.tmp 73) 23 3 (.int .i64 0) 8 rfl Tryd.underlying23 info3' rfl (by decide) (by omega) _ _ (i : Int) [.int .i64 (i : Int)] (fun _ => True) (fun _ => False) rfl rfl rfl (fun _ hk => hk.elim) (fun _ _ => trivial) HVq.out HBq.out (Nat.le_trans (Nat.le_of_eq HB9E.out.symm) HBq.out.size) (by have := HLN.out; have := H10.out; omega) ?_
                    intro v1 w8 ho hb hg hat
                    have hr8 : Rt 34 b9 [.slice Av (bitsL m i).length cv, .int .i64 (-1), .int .i64 0] w8 := (hg.block _ HRq.out.lt (Kd.R_ne HVq.out HRq.out (by decide))).trans HRq.out
                    rw [← JB.out] at ho
                    obtain ⟨Aw, cw, ew⟩ := Kd.R_slice ho
                    subst ew
                    have HO := Aside0.mk ho
                    have HB8 := Aside0.mk hb
                    have HR8 := Aside0.mk hr8
                    have e8 := hr8.cell 0 _ rfl
                    have f8 := hr8.free 0
                    clear ho hb hg hat hr8 q0))
                  rw [HR8.out.set 0]
                  refine ⟨⟨i + 1, rfl, ⟨cik⟩, ⟨below_setRow' HB8.out (Nat.le_refl _) _⟩, Aw, cw, ⟨HR8.out.row _⟩, ⟨?_⟩⟩, ?_⟩
                  · exact Kd.R_mono (Kd.R_step (Kd.R_types HO.out HR8.out (by intro q hq; simp [Kd.int, Kd.scalar] at hq; omega)) (fun j hj _ => setRow_other _ _ _ _ hj.2)) (fun _ _ => trivial)
                  · simp only [intOf]
                    omega
                · have jb2 : y % 2 = 0 := by omega
                  rw [jb2] at jand
                  have jand : bits .and .i64 (y : Int) 1 = 0 := jand
                  have JB := Aside0.mk (show bitsL m (i + 1) = bitsL m i by rw [bitsL_succ, if_neg (by rw [JTB.out]; simpa using jbit)])
                  clear jbit jb2
                  go_wp2_with fail
                  refine ⟨⟨i + 1, rfl, ⟨cik⟩, HBq, Av, cv, ?_, ?_⟩, ?_⟩
                  · rw [JB.out]; exact HRq
                  · rw [JB.out]; exact HVq
                  · simp only [intOf]
                    omega
              · have ci1 : decide ((i : Int) < (K : Int)) = false := decide_eq_false (by omega)
                have ci2 : decide (i < K) = false := decide_eq_false cik
                have eik : i = K := by have := HI.out; omega
                have HPL := Aside0.mk (show bitsL m i = placesL m by rw [eik]; exact bitsL_all m K H10.out (by rw [HZ.out]; exact cm))
                rw [HPL.out] at HRq HVq
                have q0 := HRq.out.cell 0 _ rfl
                have q1 := HRq.out.cell 1 _ rfl
                have q2 := HRq.out.cell 2 _ rfl
                clear eik
                have HBQ2 := Aside0.mk (show Below W.heap.size W wr from HBW.out.trans (HBq.out.mono (by have := HB9E.out; have := HBW.out.size; omega)))
                have HRl := Aside0.mk (Kd.R_below HRW.out (HB9E.out.symm ▸ HBq.out : Below wo.heap.size wo wr))
                obtain ⟨Al, cl, el⟩ := Kd.R_slice HRl.out
                obtain ⟨LL, hLL⟩ : ∃ LL, (doneL K 0 ++ rowL 0 m) = LL := ⟨_, rfl⟩
                have HLL := Aside0.mk (show LL.length ≤ 20000 by
                  have h1 := doneL_len K 0
                  have h2 := rowL_len 0 m
                  have h3 := HP10.out
                  have h4 := H10.out
                  rw [HZ.out] at h1
                  have h5 : 0 * Z ≤ 11 * 1024 := Nat.mul_le_mul (by omega) h3
                  rw [← hLL, List.length_append]
                  omega)
                rw [hLL] at el
                have HLE := Aside0.mk hLL
                have HOLD := Aside0.mk (show ∀ k, u5.ownBlock = some k → k < b9 from fun k hk => by have := Kd.R_lt HRW.out k hk; have := HB9E.out; omega)
                subst el
                rw [hLL] at HRl
                clear hLL
                go_wp2_with (first | (
                  (with_reducible refine gate_builtin (b := .append) (xs := #[.tmp 76, .tmp 78]) rfl ?_)
                  at_builtin
                  go_loud (refine Kd.R_append kck (w0 := W) W.heap.size rfl (.tmp 76) (.tmp 78) 57 34 (.agg #[.slice none 0 0, .int .i64 0, .int .i64 0]) 40 rfl Tryd.underlying57 info34' rfl (by decide) (by decide) _ _ (keepC m : Ck) [.slice Av (placesL m).length cv, .int .i64 (-1), .int .i64 0] (fun _ => True) (fun k => b9 ≤ k) rfl rfl ⟨[.slice Av (placesL m).length cv], [.int .i64 (-1), .int .i64 0], rfl, ⟨_, rfl, Kd.R_lower (Kd.R_mono (Kd.R_bound HVq.out) (fun _ hk => hk.2.1)) (by have := HB9E.out; have := HBW.out.size; omega)⟩, ⟨[.int .i64 (-1)], [.int .i64 0], rfl, rfl, rfl⟩⟩ (fun k hk => ⟨trivial, fun e => by have := HOLD.out k e.symm; omega⟩) (fun _ _ => trivial) HRl.out HBQ2.out HBQ2.out.size (by have := HLL.out; omega) ?_)
                  intro v1 w8 ho hb hg hat
                  have HO := Aside0.mk ho
                  have HB8 := Aside0.mk hb
                  clear ho hb hg hat))
                refine ⟨⟨m + 1, rfl, ⟨cm⟩, ⟨?_⟩, HB8⟩, ?_⟩
                · rw [HROW.out, ← List.append_assoc, HLE.out]
                  exact HO.out
                · simp only [intOf]
                  omega
          · have cm1 : decide ((m : Int) < (Z : Int)) = false := decide_eq_false (by omega)
            have HM2 := Aside0.mk (show kck.R 34 wr W.heap.size (fun _ => True) u5 (doneL K 1) by
              rw [doneL_succ, HZ.out, show Z = m from by have := HM.out; omega]
              exact HRm.out)
            go_wp2_with fail
            refine ⟨⟨1, by first | rfl | exact congrArg (Value.int .i64) (by omega), ⟨by omega⟩, HM2, HBm⟩, ?_⟩
            simp only [intOf]
            omega
      · -- one torn
        have ct : decide ((t : Int) < (K : Int)) = true := decide_eq_true (by omega)
        have ct2 : decide (t < K) = true := decide_eq_true (by omega)
        have et : ((t + 1 : Nat) : Int) - 1 = (t : Int) := by omega
        rw [et]
        have t0 : (0 : Int) ≤ (t : Int) := by omega
        have t64 : t ≤ 64 := by have := H10.out; omega
        clear et
        go_wp2_with fail
        clear ct ct2
        go_loopw [5, 8, 9, 10] (fun l p _ _ wr => ∃ m : Nat, p = .int .i64 (m : Int) ∧ Aside0 (m ≤ Z) ∧ Aside0 (kck.R 34 wr W.heap.size (fun _ => True) l (doneL K (t + 1) ++ rowL (t + 1) m)) ∧ Aside0 (Below W.heap.size W wr)) (fun _ p _ _ _ => Z - (intOf p).toNat)
        · exact ⟨0, rfl, ⟨Nat.zero_le _⟩, ⟨by rw [show rowL (t + 1) 0 = [] from rfl, List.append_nil]; exact HRl.out⟩, HBr⟩
        · obtain ⟨m, rfl, HM, HRm, HBm⟩ := hrel
          obtain ⟨l, rfl⟩ : ∃ l, u5 = l := ⟨_, rfl⟩
          by_cases cm : m < Z
          · have cm1 : decide ((m : Int) < (Z : Int)) = true := decide_eq_true (by omega)
            have hwm : IntKind.i64.wrap ((m : Int) + 1) = ((m + 1 : Nat) : Int) := by rw [IntWalk.i64_in _ (by have := HP10.out; omega)]; omega
            have HM10 := Aside0.mk (show m < 1024 by have := HP10.out; omega)
            obtain ⟨z, hz⟩ : ∃ z, m >>> t = z := ⟨_, rfl⟩
            have hs := shr_nat m t t64
            have hs3 : (m : Int) / 2 ^ min t 64 = ((m >>> t : Nat) : Int) := by rw [← Int.toNat_natCast t]; exact hs
            have hs4 : (m : Int) / 2 ^ t = ((m >>> t : Nat) : Int) := by rw [Nat.min_eq_left t64] at hs3; exact hs3
            have hand := and_one z (by rw [← hz]; exact shr_lt HM10.out)
            have htb := testBit_shift m t
            rw [hz] at hs hs3 hs4 htb
            have HTB := Aside0.mk htb
            clear htb hz
            by_cases hbit : z % 2 = 1
            · rw [hbit] at hand
              have hand : bits .and .i64 (z : Int) 1 = 1 := hand
              have HB1 := Aside0.mk hbit
              clear hbit
              go_wp2_with fail
              refine ⟨⟨m + 1, rfl, ⟨cm⟩, ⟨?_⟩, HBm⟩, ?_⟩
              · have e : rowL (t + 1) (m + 1) = rowL (t + 1) m := by
                  have hb : m.testBit t = true := by rw [HTB.out, HB1.out]; rfl
                  simp [rowL, List.range_succ, List.filter_append, hb]
                rw [e]
                exact HRm.out
              · simp only [intOf]
                omega
            · have hz2 : z % 2 = 0 := by omega
              rw [hz2] at hand
              have hand : bits .and .i64 (z : Int) 1 = 0 := hand
              have HB1 := Aside0.mk hbit
              clear hbit hz2
              have HROW := Aside0.mk (show rowL (t + 1) (m + 1) = rowL (t + 1) m ++ [tornC t m] by
                have hb : m.testBit t = false := by rw [HTB.out]; exact decide_eq_false HB1.out
                simp [rowL, List.range_succ, List.filter_append, hb])
              go_upto_region 17 with fail
              obtain ⟨wo, rfl⟩ : ∃ wo, wo = wr := ⟨_, rfl⟩
              have HRW := Aside0.mk HRm.out
              have HBW := Aside0.mk HBm.out
              have hr9 : Rt 34 wo.heap.size [.slice none 0 0, .int .i64 (t : Int), .int .i64 64] (wo.alloc (.cells #[.slice none 0 0, .int .i64 (t : Int), .int .i64 64] 34)) := heap_alloc_new wo _
              have hb9 : Below wo.heap.size wo (wo.alloc (.cells #[.slice none 0 0, .int .i64 (t : Int), .int .i64 64] 34)) := below_alloc (Below.refl _ _) _
              obtain ⟨b9, hb9e⟩ : ∃ b9, wo.heap.size = b9 := ⟨_, rfl⟩
              have HB9E := Aside0.mk hb9e
              rw [hb9e] at hr9 hb9 ⊢
              generalize wo.alloc (.cells #[.slice none 0 0, .int .i64 (t : Int), .int .i64 64] 34) = w1 at *
              have HR9 := Aside0.mk hr9
              have HB9 := Aside0.mk hb9
              clear hr9 hb9 hb9e HRm HBm HRl HBr hs hs3 hs4 hand
              go_wp2_with fail
              go_loopw [10] (fun p wq => ∃ i : Nat, p = .int .i64 (i : Int) ∧ Aside0 (i ≤ K) ∧ Aside0 (Below b9 wo wq) ∧ ∃ (Av : Option Addr) (cv : Nat), Aside0 (Rt 34 b9 [.slice Av (bitsL m i).length cv, .int .i64 (t : Int), .int .i64 64] wq) ∧ Aside0 (Kd.R (Kd.int .i64) 3 wq b9 (fun _ => True) (.slice Av (bitsL m i).length cv) (bitsL m i))) (fun p _ => K - (intOf p).toNat)
              · exact ⟨0, rfl, ⟨Nat.zero_le _⟩, HB9, none, 0, HR9, ⟨Kd.R_nil _ _ _ _ _⟩⟩
              · obtain ⟨i, rfl, HI, HBq, Av, cv, HRq, HVq⟩ := hrel
                by_cases cik : i < K
                · have ci1 : decide ((i : Int) < (K : Int)) = true := decide_eq_true (by omega)
                  have ci2 : decide (i < K) = true := decide_eq_true cik
                  have i64 : i ≤ 64 := by have := H10.out; omega
                  have hwi : IntKind.i64.wrap ((i : Int) + 1) = ((i + 1 : Nat) : Int) := by rw [IntWalk.i64_in _ (by omega)]; omega
                  obtain ⟨y, hy⟩ : ∃ y, m >>> i = y := ⟨_, rfl⟩
                  have js := shr_nat m i i64
                  have js3 : (m : Int) / 2 ^ min i 64 = ((m >>> i : Nat) : Int) := by rw [← Int.toNat_natCast i]; exact js
                  have js4 : (m : Int) / 2 ^ i = ((m >>> i : Nat) : Int) := by rw [Nat.min_eq_left i64] at js3; exact js3
                  have jand := and_one y (by rw [← hy]; exact shr_lt HM10.out)
                  have jtb := testBit_shift m i
                  rw [hy] at js js3 js4 jtb
                  have JTB := Aside0.mk jtb
                  have HLN := Aside0.mk (bitsL_len m i)
                  have q0 := HRq.out.cell 0 _ rfl
                  have i0' : (0 : Int) ≤ (i : Int) := by omega
                  clear jtb hy i64
                  by_cases jbit : y % 2 = 1
                  · rw [jbit] at jand
                    have jand : bits .and .i64 (y : Int) 1 = 1 := jand
                    have JB := Aside0.mk (show bitsL m (i + 1) = bitsL m i ++ [(i : Int)] by rw [bitsL_succ, if_pos (by rw [JTB.out]; exact decide_eq_true jbit)])
                    clear jbit
                    go_wp2_with (first | (
                      (with_reducible refine gate_builtin (b := .append) (xs := #[.tmp 71, .tmp 73]) rfl ?_)
                      at_builtin
                      refine Kd.R_append (Kd.int .i64) (w0 := wo) b9 rfl (.tmp 71) (.tmp 73) 23 3 (.int .i64 0) 8 rfl Tryd.underlying23 info3' rfl (by decide) (by omega) _ _ (i : Int) [.int .i64 (i : Int)] (fun _ => True) (fun _ => False) rfl rfl rfl (fun _ hk => hk.elim) (fun _ _ => trivial) HVq.out HBq.out (Nat.le_trans (Nat.le_of_eq HB9E.out.symm) HBq.out.size) (by have := HLN.out; have := H10.out; omega) ?_
                      intro v1 w8 ho hb hg hat
                      have hr8 : Rt 34 b9 [.slice Av (bitsL m i).length cv, .int .i64 (t : Int), .int .i64 64] w8 := (hg.block _ HRq.out.lt (Kd.R_ne HVq.out HRq.out (by decide))).trans HRq.out
                      rw [← JB.out] at ho
                      obtain ⟨Aw, cw, ew⟩ := Kd.R_slice ho
                      subst ew
                      have HO := Aside0.mk ho
                      have HB8 := Aside0.mk hb
                      have HR8 := Aside0.mk hr8
                      have e8 := hr8.cell 0 _ rfl
                      have f8 := hr8.free 0
                      clear ho hb hg hat hr8 q0))
                    rw [HR8.out.set 0]
                    refine ⟨⟨i + 1, rfl, ⟨cik⟩, ⟨below_setRow' HB8.out (Nat.le_refl _) _⟩, Aw, cw, ⟨HR8.out.row _⟩, ⟨?_⟩⟩, ?_⟩
                    · exact Kd.R_mono (Kd.R_step (Kd.R_types HO.out HR8.out (by intro q hq; simp [Kd.int, Kd.scalar] at hq; omega)) (fun j hj _ => setRow_other _ _ _ _ hj.2)) (fun _ _ => trivial)
                    · simp only [intOf]
                      omega
                  · have jb2 : y % 2 = 0 := by omega
                    rw [jb2] at jand
                    have jand : bits .and .i64 (y : Int) 1 = 0 := jand
                    have JB := Aside0.mk (show bitsL m (i + 1) = bitsL m i by rw [bitsL_succ, if_neg (by rw [JTB.out]; simpa using jbit)])
                    clear jbit jb2
                    go_wp2_with fail
                    refine ⟨⟨i + 1, rfl, ⟨cik⟩, HBq, Av, cv, ?_, ?_⟩, ?_⟩
                    · rw [JB.out]; exact HRq
                    · rw [JB.out]; exact HVq
                    · simp only [intOf]
                      omega
                · have ci1 : decide ((i : Int) < (K : Int)) = false := decide_eq_false (by omega)
                  have ci2 : decide (i < K) = false := decide_eq_false cik
                  have eik : i = K := by have := HI.out; omega
                  have HPL := Aside0.mk (show bitsL m i = placesL m by rw [eik]; exact bitsL_all m K H10.out (by rw [HZ.out]; exact cm))
                  rw [HPL.out] at HRq HVq
                  have q0 := HRq.out.cell 0 _ rfl
                  have q1 := HRq.out.cell 1 _ rfl
                  have q2 := HRq.out.cell 2 _ rfl
                  clear eik
                  have HBQ2 := Aside0.mk (show Below W.heap.size W wr from HBW.out.trans (HBq.out.mono (by have := HB9E.out; have := HBW.out.size; omega)))
                  have HRl := Aside0.mk (Kd.R_below HRW.out (HB9E.out.symm ▸ HBq.out : Below wo.heap.size wo wr))
                  obtain ⟨Al, cl, el⟩ := Kd.R_slice HRl.out
                  obtain ⟨LL, hLL⟩ : ∃ LL, (doneL K (t + 1) ++ rowL (t + 1) m) = LL := ⟨_, rfl⟩
                  have HLL := Aside0.mk (show LL.length ≤ 20000 by
                    have h1 := doneL_len K (t + 1)
                    have h2 := rowL_len (t + 1) m
                    have h3 := HP10.out
                    have h4 := H10.out
                    rw [HZ.out] at h1
                    have h5 : (t + 1) * Z ≤ 11 * 1024 := Nat.mul_le_mul (by omega) h3
                    rw [← hLL, List.length_append]
                    omega)
                  rw [hLL] at el
                  have HLE := Aside0.mk hLL
                  have HOLD := Aside0.mk (show ∀ k, u5.ownBlock = some k → k < b9 from fun k hk => by have := Kd.R_lt HRW.out k hk; have := HB9E.out; omega)
                  subst el
                  rw [hLL] at HRl
                  clear hLL
                  go_wp2_with (first | (
                    (with_reducible refine gate_builtin (b := .append) (xs := #[.tmp 76, .tmp 78]) rfl ?_)
                    at_builtin
                    go_loud (refine Kd.R_append kck (w0 := W) W.heap.size rfl (.tmp 76) (.tmp 78) 57 34 (.agg #[.slice none 0 0, .int .i64 0, .int .i64 0]) 40 rfl Tryd.underlying57 info34' rfl (by decide) (by decide) _ _ (tornC t m : Ck) [.slice Av (placesL m).length cv, .int .i64 (t : Int), .int .i64 64] (fun _ => True) (fun k => b9 ≤ k) rfl rfl ⟨[.slice Av (placesL m).length cv], [.int .i64 (t : Int), .int .i64 64], rfl, ⟨_, rfl, Kd.R_lower (Kd.R_mono (Kd.R_bound HVq.out) (fun _ hk => hk.2.1)) (by have := HB9E.out; have := HBW.out.size; omega)⟩, ⟨[.int .i64 (t : Int)], [.int .i64 64], rfl, rfl, rfl⟩⟩ (fun k hk => ⟨trivial, fun e => by have := HOLD.out k e.symm; omega⟩) (fun _ _ => trivial) HRl.out HBQ2.out HBQ2.out.size (by have := HLL.out; omega) ?_)
                    intro v1 w8 ho hb hg hat
                    have HO := Aside0.mk ho
                    have HB8 := Aside0.mk hb
                    clear ho hb hg hat))
                  refine ⟨⟨m + 1, rfl, ⟨cm⟩, ⟨?_⟩, HB8⟩, ?_⟩
                  · rw [HROW.out, ← List.append_assoc, HLE.out]
                    exact HO.out
                  · simp only [intOf]
                    omega
          · have cm1 : decide ((m : Int) < (Z : Int)) = false := decide_eq_false (by omega)
            have HM2 := Aside0.mk (show kck.R 34 wr W.heap.size (fun _ => True) u5 (doneL K (t + 1 + 1)) by
              rw [doneL_succ, HZ.out, show Z = m from by have := HM.out; omega]
              exact HRm.out)
            go_wp2_with fail
            refine ⟨⟨(t + 1 + 1), by first | rfl | exact congrArg (Value.int .i64) (by omega), ⟨by omega⟩, HM2, HBm⟩, ?_⟩
            simp only [intOf]
            omega
    · have et : T = K + 1 := by have := HT.out; omega
      have ct : decide ((T : Int) - 1 < (K : Int)) = false := decide_eq_false (by omega)
      go_wp2_with fail
      go_ret
      refine ⟨_, rfl, ?_, HBr.out⟩
      have := HRl.out
      rw [et, doneL_torns] at this
      rw [choicesL, if_neg (by have := H10.out; omega)]
      exact this
end Go.Proofs.YtpaonoaedjkekaaDoor.Dk
namespace Go.Proofs.QuietRound
open Go
set_option linter.unusedVariables false
section
variable {F : Fence} {n : Nat} {P : Program} {ops : Array Oper} {Q : Exit → Act → World → Prop}
theorem oper_round {o : Oper} {a : Act} {w : World} {K : Act → World → Prop} (l : Nat) (hro : F.round = none) (hd : ∀ c, o.op ≠ .defer c) (h : o.wpIn F n P a w K Q) : o.wpIn (F.inRound l) n P a w K Q := by
  unfold Oper.wpIn at *
  refine ⟨h.1, ?_⟩
  have h := h.2
  rw [Fence.inRound_round, Oper.semAt_eq _ _ _ hd]
  rw [hro, Oper.semAt_none] at h
  exact h
theorem ops_round (l : Nat) (hro : F.round = none) (hd : ∀ (j : Nat) (o : Oper), ops[j]? = some o → ∀ c, o.op ≠ .defer c) : ∀ (is : List Nat) (a : Act) (w : World), wpOpsIn F n P ops Q is a w → wpOpsIn (F.inRound l) n P ops Q is a w
  | [], a, w, h => h
  | i :: rest, a, w, h => by
    rw [wpOpsIn_cons] at h ⊢
    unfold wpOpIn at *
    split
    · rename_i ho
      simp only [ho] at h
      exact ops_round l hro hd rest a w h
    · rename_i o ho
      simp only [ho] at h
      split
      · rename_i hw
        simp only [hw, if_true] at h
        exact oper_round l hro (hd i o ho) (Oper.wpIn_mono (fun a w => ops_round l hro hd rest a w) h)
      · rename_i hw
        simp only [hw] at h
        exact ⟨h.1, ops_round l hro hd rest _ w h.2⟩
/-- A region that draws its order and only reads, in a round of a range over a function: walked once, in the order of the text. -/
theorem region_quiet_round {id : Nat} {a : Act} {w : World} {l : List Oper} (r : Nat) (hro : F.round = none) (hm : P.follows .mixedOrders = true) (hB : Region.lexB .any l.toArray = true) (hd : ∀ (j : Nat) (o : Oper), l.toArray[j]? = some o → ∀ c, o.op ≠ .defer c)
    (h : wpQuietIn F n P l.toArray (fun w' => ∃ n, w' = w.drewN n) (fun a' => ∀ w', (∃ n, w' = w.drewN n) → Q .normal a' w') l a) : (Code.region id l.toArray true).wpIn (F.inRound r) n P Q a w := by
  simp only [Region.lexB, Bool.and_eq_true] at hB
  refine wpIn_region_draw fun t => ?_
  simp only [Region.schedule, hm, Bool.true_or, if_true]
  refine ops_round r hro hd _ _ _ (wpAnyIn_sound l.toArray.size t _ a _ ?_)
  refine wpAnyIn_of_quiet (C := fun w' => ∃ n, w' = w.drewN n) (Q := fun a' => ∀ w', (∃ n, w' = w.drewN n) → Q .normal a' w') hro (fun _ w' hw' h => h w' hw') _ _ _ _ ⟨1, rfl⟩ ?_
  have := wpAnyQIn_lex (F := F) (n := n) (P := P) (C := fun w' => ∃ n, w' = w.drewN n) (md := .any) hB.1 l 0 (Array.replicate l.toArray.size false) a (by simp) (by simpa using hB.2) h
  simpa using this
theorem no_defers {l : List Oper} (h : l.all (fun o => match o.op with | .defer _ => false | _ => true) = true) : ∀ (j : Nat) (o : Oper), l.toArray[j]? = some o → ∀ c, o.op ≠ .defer c := by
  intro j o ho c hc
  have h1 : o ∈ l := by
    rw [List.getElem?_toArray] at ho
    exact List.mem_of_getElem? ho
  have h2 := List.all_eq_true.1 h o h1
  rw [hc] at h2
  simp at h2
end
end Go.Proofs.QuietRound
namespace Go.Proofs.QuietRound
open Go
set_option linter.unusedVariables false
section
variable {n : Nat} {P : Program} {ops : Array Oper} {Q : Exit → Act → World → Prop} {S : World → Prop}
theorem rowsIn_wide {row : String} {args : Array Value} {w : World} {R : Value → World → Prop} (h : Rows P row args w R) : RowsIn Fence.wide n P row args w R :=
  fun c cs _ => let ⟨v, w', r, s⟩ := h c cs; ⟨v, w', r, stepsIn_wide.2 s⟩
theorem upon_wide {o : Oper} {a : Act} {K : Act → World → Prop} {r : Result Next} (h : o.upon P a K Q r) : o.uponIn Fence.wide n P a K Q r := by
  cases r with
  | ok v w' =>
    cases v with
    | value v => exact h
    | skip => exact h
    | defer d => exact h
    | enter f args =>
      rw [Oper.upon_enter] at h
      rw [Oper.uponIn_enter]
      refine ⟨fun hs => by simp [Fence.wide] at hs, (callsIn_wide.2 h).mono ?_⟩
      intro e w' he
      cases e <;> exact he
    | row row args => exact ⟨fun hs => by simp [Fence.wide] at hs, rowsIn_wide h⟩
    | _ => exact (False.elim h)
  | halt x w' =>
    cases x with
    | panic v => exact h
    | _ => exact (False.elim h)
theorem ops_plain_round (r : Nat) (hlo : ¬ LetsOut Q) (hd : ∀ (j : Nat) (o : Oper), ops[j]? = some o → ∀ c, o.op ≠ .defer c) : ∀ (is : List Nat) (a : Act) (w : World), wpOps P ops Q is a w → wpOpsIn (Fence.wide.inRound r) n P ops Q is a w
  | [], a, w, h => h
  | i :: rest, a, w, h => by
    unfold wpOps at h
    unfold wpOpsIn
    split
    · rename_i ho
      simp only [ho] at h
      exact ops_plain_round r hlo hd rest a w h
    · rename_i o ho
      simp only [ho] at h
      split
      · rename_i hw
        simp only [hw, if_true] at h
        have h := h.resolve_right (fun e => hlo e.2)
        refine oper_round r rfl (hd i o ho) (Oper.wpIn_mono (fun a w => ops_plain_round r hlo hd rest a w) ?_)
        unfold Oper.wp at h
        refine ⟨fun _ _ => trivial, ?_⟩
        rw [show (Fence.wide).round = none from rfl, Oper.semAt_none]
        exact upon_wide h
      · rename_i hw
        simp only [hw] at h
        exact ⟨fun _ _ => trivial, ops_plain_round r hlo hd rest _ w h⟩
/-- A region that draws its order, in a round, walked as outside, with a fact S that holds behind every operation. -/
theorem region_held_round {id : Nat} {a : Act} {w : World} (r : Nat) (hm : P.follows .mixedOrders = true) (hlo : ¬ LetsOut Q) (hd : ∀ (j : Nat) (o : Oper), ops[j]? = some o → ∀ c, o.op ≠ .defer c) (hS : S w.drew)
    (h : S w.drew → wpAnyH P .any ops Q S ops.size (Array.replicate ops.size false) a w.drew) : (Code.region id ops true).wpIn (Fence.wide.inRound r) n P Q a w := by
  refine wpIn_region_draw fun t => ?_
  simp only [Region.schedule, hm, Bool.true_or, if_true]
  exact ops_plain_round r hlo hd _ _ _ (wpAny_sound ops.size t _ a _ (wpAny_of_held _ _ _ _ (h hS)))
/-- A region in the order of the text, in a round, walked as outside. -/
theorem region_list_round {id : Nat} {l : List Oper} {a : Act} {w : World} (r : Nat) (hlo : ¬ LetsOut Q) (hd : ∀ (j : Nat) (o : Oper), l.toArray[j]? = some o → ∀ c, o.op ≠ .defer c) (h : wpList P l.toArray Q l a w) : (Code.region id l.toArray false).wpIn (Fence.wide.inRound r) n P Q a w :=
  wpIn_region (ops_plain_round r hlo hd _ _ _ (by rw [List.size_toArray, List.range_eq_range', wpOps_eq_wpList l 0 (by simp)]; exact h))
/-- Q, where what is walked ends as it should. -/
def Calm (Q : Exit → Act → World → Prop) : Exit → Act → World → Prop
  | .normal, a, w => Q .normal a w
  | _, _, _ => False
theorem Calm.normal {a : Act} {w : World} (h : Q .normal a w) : Calm Q .normal a w := h
theorem Calm.imp : ∀ (e : Exit) (a : Act) (w : World), Calm Q e a w → Q e a w := fun e a w h => by cases e <;> first | exact h | exact (h : False).elim
theorem calm_lets : ¬ LetsOut (Calm Q) := fun ⟨_, _, h⟩ => h
theorem region_held_round_np {id : Nat} {a : Act} {w : World} (r : Nat) (hm : P.follows .mixedOrders = true) (hd : ∀ (j : Nat) (o : Oper), ops[j]? = some o → ∀ c, o.op ≠ .defer c) (hS : S w.drew)
    (h : S w.drew → wpAnyH P .any ops (Calm Q) S ops.size (Array.replicate ops.size false) a w.drew) : (Code.region id ops true).wpIn (Fence.wide.inRound r) n P Q a w :=
  wpIn_mono (region_held_round r hm calm_lets hd hS h) Calm.imp
theorem region_list_round_np {id : Nat} {l : List Oper} {a : Act} {w : World} (r : Nat) (hd : ∀ (j : Nat) (o : Oper), l.toArray[j]? = some o → ∀ c, o.op ≠ .defer c) (h : wpList P l.toArray (Calm Q) l a w) : (Code.region id l.toArray false).wpIn (Fence.wide.inRound r) n P Q a w :=
  wpIn_mono (region_list_round r calm_lets hd h) Calm.imp
end
end Go.Proofs.QuietRound
namespace Go.Proofs.YtpaonoaedjkekaaDoor.Dk
open Go Go.RowKit Go.Proofs.SeqWith Go.Proofs.YtpaonoaedjkekaaDoor.PD Go.Proofs.YtpaonoaedjkekaaDoorW.PrintWords Go.Proofs.YtpaonoaedjkekaaDoorW.PrintLast Go.Proofs.YtpaonoaedjkekaaDoorW.PrintMore
set_option linter.unusedVariables false
set_option linter.unusedSimpArgs false
set_option maxHeartbeats 4000000
set_option maxRecDepth 100000
abbrev k34 : Kd Ck := Kd.pair (Kd.slice 3 (Kd.int .i64)) (Kd.pair (Kd.int .i64) (Kd.int .i64))
theorem run_eql_func_nil' {P : Program} (w : World) {t : TypeId} {a b c} (fn : Fn) (x y : Array Value) (ht : P.underlying t = some (.func a b c)) :
    (binOp .eql t (.func fn x y) .nilFunc).run P w = .ok (.bool false) w := by
  have h : ∀ d : Nat, (Op.equalIn (d + 1) t (.func fn x y) .nilFunc).run P w = .ok false w := fun d => by
    simp [Op.equalIn, run_underlying ht]
  simp only [binOp]
  simp [Op.equal, Op.maxDepth, h 9999]
theorem size34' : (Tryd.prog.info? 34).map (·.size) = some 3 := by kernel_rfl
theorem info34 : (Tryd.prog.info? 34).map (fun i => (i.zero, i.size, i.bytes)) = some (some (.agg #[.slice none 0 0, .int .i64 0, .int .i64 0]), 3, 40) := by kernel_rfl
theorem alloc34 (v : Value) (W : World) : (Instr.alloc 34 true v).run Tryd.prog W = .ok (ptr W.heap.size) (W.alloc (.cells [.slice none 0 0, .int .i64 0, .int .i64 0].toArray 34)) := by
  obtain ⟨i, hi, hz, _, _⟩ := infoParts info34
  cases v <;> simp [Instr.alloc, zeroValue, typeInfo, hi, hz, newVar, newRow, Value.cells]
theorem fill_n (s : Nat) (hs0 : 0 < s) (cells0 : Array Value) (h0 : cells0.size = s) (cs : List Value) (hl : cs.length = s) : Instr.fill (fun i => some (i * s, s)) cells0 [(0, .agg cs.toArray)] = some cs.toArray := by
  obtain ⟨r, hr, hs, hk⟩ := Great.fill_dense (s := s) hs0 [.agg cs.toArray] 0 cells0 (fun v hv => by rw [List.mem_singleton.1 hv]; simp [Value.cells, hl]) (by simp [h0])
  have e : r = cs.toArray := by
    apply Array.ext_getElem?
    intro k
    rw [hk k]
    by_cases hk1 : k < s
    · rw [if_pos (by simp; omega), Nat.div_eq_of_lt hk1, Nat.mod_eq_of_lt hk1]
      simp [Value.cells]
    · rw [if_neg (by simp; omega), Array.getElem?_eq_none (by omega), Array.getElem?_eq_none (by rw [List.size_toArray]; omega)]
  exact hr.trans (congrArg some e)
theorem slice_op34 (cs : List Value) (hl : cs.length = 3) (W : World) : (Instr.buildSlice 57 1 #[(0, .agg cs.toArray)]).run Tryd.prog W = .ok (.slice (some ⟨W.heap.size, 0, none⟩) 1 1) (W.alloc (.cells cs.toArray 34)) := by
  obtain ⟨i, hi, hz, hsz, _⟩ := infoParts info34
  refine run_buildSlice (P := Tryd.prog) W 57 34 1 _ _ i _ Tryd.underlying57 hi hz (by rw [hsz]; decide) (by rw [hsz]; decide) ?_
  rw [hsz]
  exact fill_n 3 (by decide) _ (by simp) _ hl
theorem step_slice {P : Program} {ops : Array Oper} {rest : List Oper} {o : Oper} {a : Act} {w w' : World} {Q : Exit → Act → World → Prop} (hg : o.guard = none) (t : TypeId) (n : Nat) (parts : Array (Nat × Operand)) (ho : o.op = .buildSlice t n parts) (v : Value) (parts' : Array (Nat × Value)) (hp : (parts.map fun (i, x) => (i, a.eval x)) = parts')
    (hrun : (Instr.buildSlice t n parts').run P w = .ok v w') (h : wpList P ops Q rest (a.put o.dst v) w') : wpList P ops Q (o :: rest) a w :=
  wpList_plain hg fun K hK => wp_runSlice t n parts ho v parts' hp hrun (hK _ _ h)
/-- A choice of a row of them. -/
theorem seen_at {W : World} {base : Nat} {ok : Nat → Prop} {A : Option Addr} {n c : Nat} {xs : List Ck} (h : Kd.R k34 34 W base ok (.slice A n c) xs) (i : Nat) (ck : Ck) (hi : xs[i]? = some ck) :
    ∃ go Ak ckp, A = some ⟨go, 0, none⟩ ∧ n ≤ c ∧ ck.1.length ≤ ckp ∧ Kd.C (Kd.int .i64) W Ak ck.1.length ck.1 ∧ W.cell? ⟨go, i * 3, none⟩ = some (.slice Ak ck.1.length ckp) ∧ W.cell? ⟨go, i * 3 + 1, none⟩ = some (.int .i64 ck.2.1) ∧ W.cell? ⟨go, i * 3 + 2, none⟩ = some (.int .i64 ck.2.2) := by
  obtain ⟨hok, inner, ho, hr⟩ := h
  have hlt : i < xs.length := (List.getElem?_eq_some_iff.1 hi).1
  have hsz : k34.sz = 3 := rfl
  have hm := k34.K_of_M (hr.2 i ck hi)
  obtain ⟨c0, c1, hcs, ⟨Ak, ckp, h0, hle, hC⟩, c2, c3, h1, h2, h3⟩ := hm
  have h2 : c2 = [Value.int .i64 ck.2.1] := h2
  have h3 : c3 = [Value.int .i64 ck.2.2] := h3
  have hcs : (inner.drop (i * 3)).take 3 = [.slice Ak ck.1.length ckp, .int .i64 ck.2.1, .int .i64 ck.2.2] := by rw [← hsz, hcs, h0, h1, h2, h3]; rfl
  rcases ho.2 with ⟨_, hz⟩ | ⟨g, cap, cur, e, hB, hh, hc, _, _, ht⟩
  · omega
  · injection e with e1 e2 e3
    have hcell : ∀ j v, [Value.slice Ak ck.1.length ckp, .int .i64 ck.2.1, .int .i64 ck.2.2][j]? = some v → W.cell? ⟨g, i * 3 + j, none⟩ = some v := fun j v hj => by
      rw [cell_of_row W g _ cur 34 (0, 0) hh, ← Array.getElem?_toList]
      rw [← hcs, List.getElem?_take, List.getElem?_drop] at hj
      by_cases hj2 : j < 3
      · rw [if_pos hj2] at hj
        rw [← ht, List.getElem?_take] at hj
        split at hj
        · exact hj
        · cases hj
      · rw [if_neg hj2] at hj; cases hj
    exact ⟨g, Ak, ckp, e1, by omega, hle, hC, hcell 0 _ rfl, hcell 1 _ rfl, hcell 2 _ rfl⟩
theorem R_from {α : Type} {d : Kd α} {e base B : Nat} {v : Value} {xs : List α} {A W : World} {row : Option Nat} (h : Kd.R d e A base (fun _ => True) v xs) (hg : A.grownBy W row) (hr : ∀ r, row = some r → B ≤ r ∧ ∃ o : Obj, A.heap[r]? = some o ∧ o.isCells = false) : Kd.R d e W base (fun _ => True) v xs :=
  Kd.R_mono (Kd.R_step (Kd.R_bound h) (fun k hk hlt => hg.block k hlt (fun er => by
    obtain ⟨_, _, _, q, _, cells, hc⟩ := hk
    obtain ⟨_, o, ho, hn⟩ := hr k er.symm
    rw [hc] at ho
    obtain rfl := Option.some.inj ho
    cases hn))) (fun _ _ => trivial)
theorem Rt_from {t b B : Nat} {vs : List Value} {A W : World} {row : Option Nat} (h : Rt t b vs A) (hg : A.grownBy W row) (hr : ∀ r, row = some r → B ≤ r ∧ ∃ o : Obj, A.heap[r]? = some o ∧ o.isCells = false) : Rt t b vs W :=
  (hg.block b h.lt (fun er => by
    obtain ⟨_, o, ho, hn⟩ := hr b er.symm
    rw [show A.heap[b]? = _ from h] at ho
    obtain rfl := Option.some.inj ho
    cases hn)).trans h
/-- A slice variable and its row. -/
def Held (b base : Nat) (ks : List Ck) (W : World) : Prop := ∃ v, Rt 57 b [v] W ∧ Kd.R k34 34 W base (fun _ => True) v ks
theorem held_own (b base B : Nat) : OwnFrom B (fun (pre : List El) W => Held b base (pre.map key) W) := fun s A W row ⟨v, h1, h2⟩ hg hr => ⟨v, Rt_from h1 hg hr, R_from h2 hg hr⟩
theorem with_own (C : Nat) (fs : List Ck) (B : Nat) (pre : List El) : OwnFrom B (With C fs pre) := fun x A W row ⟨h1, h2⟩ hg hr => ⟨h1, R_from h2 hg hr⟩
/-- The round's own choice, in its variable. -/
def Cur (b : Nat) (x : El) (W : World) : Prop := Rt 34 b [x.1, .int .i64 x.2.2.1, .int .i64 x.2.2.2] W
theorem cur_own (B b : Nat) (x : El) : OwnFrom B (fun (_ : Unit) W => Cur b x W) := fun _ A W row h hg hr => Rt_from h hg hr
theorem KeepsOthers.of_setRow {t g : Nat} {vs : List Value} {W : World} (h : Rt t g vs W) (us : List Value) : KeepsOthers W (W.setRow g us.toArray) :=
  ⟨by rw [setRow_size]; exact Nat.le_refl _, fun k o hk ho => by
    by_cases e : k = g
    · subst e
      rw [show W.heap[k]? = _ from h] at hk
      obtain rfl := Option.some.inj hk
      cases ho
    · exact (setRow_other _ _ _ _ e).trans hk⟩
theorem e34 : ∀ q, q ∈ 34 :: k34.E → q ≠ 57 := by
  intro q hq
  have : k34.E = [3] := rfl
  rw [this] at hq
  simp at hq
  omega
end Go.Proofs.YtpaonoaedjkekaaDoor.Dk
namespace Go.Proofs.YtpaonoaedjkekaaDoor.Dk
open Go Go.RowKit Go.Proofs.SeqWith Go.Proofs.YtpaonoaedjkekaaDoor.PD Go.Proofs.YtpaonoaedjkekaaDoorW.PrintWords Go.Proofs.YtpaonoaedjkekaaDoorW.PrintLast Go.Proofs.YtpaonoaedjkekaaDoorW.PrintMore
set_option linter.unusedVariables false
set_option linter.unusedSimpArgs false
set_option maxHeartbeats 4000000
set_option maxRecDepth 100000
/-- How many loose writes a choice goes over: -1 where there is no such moment. -/
def chN (ops : List (Int × List Int)) (N : Int) : Int := if N < 0 ∨ (ops.length : Int) < N then -1 else ((N.toNat - looseN ops N.toNat : Nat) : Int)
def chL (z : Int) : List Ck := if z < 0 then [] else choicesL z.toNat
theorem choices_any {h : Hd} {B : Nat} {fs ss : List Int} {A : Option Addr} {c : Nat} {ops : List (Int × List Int)} {W : World} (k : DkAt h B fs ss (.slice A ops.length c) ops W) (hF : Fl W) (h0 : 0 < W.heap.size) (N : Int) :
    Calls Tryd.prog 30 #[ptr h.D, .int .i64 N] W fun e w' => e = .returned (.func (.func 40) #[] #[ptr W.heap.size]) ∧ w'.cell? ⟨W.heap.size, 0, none⟩ = some (.int .i64 (chN ops N)) ∧ Below W.heap.size W w' := by
  by_cases hN : N < 0 ∨ (ops.length : Int) < N
  · have e : chN ops N = -1 := if_pos hN
    rw [e]
    have hr1 : Rt 3 W.heap.size [.int .i64 (-1)] (W.alloc (.cells #[.int .i64 (-1)] 3)) := heap_alloc_new W _
    have hb1 : Below W.heap.size W (W.alloc (.cells #[.int .i64 (-1)] 3)) := below_alloc (Below.refl _ _) _
    have HR1 := Aside0.mk hr1
    have HB1 := Aside0.mk hb1
    have k1 := k.stay hb1
    have c2 := k1.row.cell 2 _ rfl
    have h' : decide (0 ≤ N) = false ∨ (decide (0 ≤ N) = true ∧ decide (N ≤ (ops.length : Int)) = false) := by
      rcases Int.lt_or_le N 0 with h0 | h0
      · exact .inl (decide_eq_false (by omega))
      · exact .inr ⟨decide_eq_true h0, decide_eq_false (by omega)⟩
    clear k hN e hr1 hb1 k1 hF h0
    rcases h' with h1 | ⟨h1, h2⟩
    all_goals
      go_enter Tryd.func30, Tryd.ntmps30
      go_wp2_with fail
      go_ret
      exact ⟨rfl, HR1.out.cell 0 _ rfl, HB1.out⟩
  · obtain ⟨n, rfl⟩ : ∃ n : Nat, N = (n : Int) := ⟨N.toNat, by omega⟩
    have e : chN ops n = ((n - looseN ops n : Nat) : Int) := if_neg hN
    rw [e]
    exact choices_calls k hF h0 n (by omega)
theorem rchoices_any {r : Rd} {B : Nat} {ok : Nat → Prop} {fs : List Int} {A : Option Addr} {c : Nat} {ops : List (Int × List Int)} {W : World} (k : RfAt r B ok fs (.slice A ops.length c) ops W) (hO : Oks r.n ops) (N : Int) :
    Calls Tryd.prog 55 #[ptr r.D, .int .i64 N] W fun e w' => ∃ v, e = .returned v ∧ kck.R 34 w' W.heap.size (fun _ => True) v (chL (chN ops N)) ∧ Below W.heap.size W w' := by
  by_cases hN : N < 0 ∨ (ops.length : Int) < N
  · have e : chN ops N = -1 := if_pos hN
    rw [e]
    refine (rchoices_none k N hN).mono ?_
    rintro _ w' ⟨rfl, rfl⟩
    exact ⟨_, rfl, Kd.R_nil _ _ _ _ _, Below.refl _ _⟩
  · obtain ⟨n, rfl⟩ : ∃ n : Nat, N = (n : Int) := ⟨N.toNat, by omega⟩
    have e : chN ops n = ((n - looseN ops n : Nat) : Int) := if_neg hN
    have e2 : chL (((n - looseN ops n : Nat) : Int)) = choicesL (n - looseN ops n) := by
      unfold chL
      rw [if_neg (by omega), Int.toNat_natCast]
    rw [e, e2]
    exact rchoices_at k hO n (by omega)
theorem choices_seq_any (n : Nat) (hn : 1 ≤ n) (g : Nat) (z : Int) (w : World) (hg : g < w.heap.size) (hbox : w.cell? ⟨g, 0, none⟩ = some (.int .i64 z)) :
    SeqWith Fence.wide n Tryd.prog 40 #[ptr g] encs (With w.heap.size (chL z)) (Below w.heap.size) (fun xs => xs.map key = chL z) (fun _ => True) w := by
  by_cases hz : z < 0
  · have e : chL z = [] := if_pos hz
    rw [e]
    exact fun lp J Jx W hW hJ hY h0 => by
      have H0 := Aside0.mk h0
      have hc : W.cell? ⟨g, 0, none⟩ = some (.int .i64 z) := (hW.cell (p := ⟨g, 0, none⟩) hg).trans hbox
      have k0 : decide (z < 0) = true := decide_eq_true hz
      clear hbox hW h0 hJ hY e
      refine callsIn_of_wp Tryd.func40 rfl trivial ?_ rfl
      simp only [Tryd.ntmps40, List.size_toArray, List.length_cons, List.length_nil, Nat.reduceAdd, Nat.reduceSub, Array.replicate_succ, Array.replicate_zero, List.push_toArray, List.append_toArray, List.nil_append, List.cons_append]
      gi_wp2
      refine bodyPost_ret (results_none rfl _ _ _) rfl ?_
      exact ⟨⟨_, rfl⟩, .inl ⟨[], rfl, H0.out⟩⟩
  · obtain ⟨k, rfl⟩ : ∃ k : Nat, z = (k : Int) := ⟨z.toNat, by omega⟩
    have e : chL (k : Int) = choicesL k := by
      unfold chL
      rw [if_neg hz, Int.toNat_natCast]
    rw [e]
    exact choices_seq n hn g k w hg hbox
theorem chL_keep (z : Int) : ∀ c ∈ chL z, c.1.length ≤ 10 := by
  intro c hm
  unfold chL at hm
  split at hm
  · cases hm
  · unfold choicesL at hm
    split at hm
    · cases hm
    have hl : ∀ m, (placesL m).length ≤ 10 := fun m => by
      unfold placesL
      rw [List.length_map]
      exact Nat.le_trans (List.length_filter_le _ _) (by simp)
    rcases List.mem_append.1 hm with hm | hm
    · obtain ⟨m, _, rfl⟩ := List.mem_map.1 hm
      exact hl m
    · obtain ⟨j, _, hm⟩ := List.mem_flatMap.1 hm
      obtain ⟨m, _, rfl⟩ := List.mem_map.1 hm
      exact hl m
theorem chL_len (z : Int) : (chL z).length ≤ 20000 := by
  unfold chL
  split
  · exact Nat.zero_le _
  · unfold choicesL
    split
    · exact Nat.zero_le _
    · rename_i h
      have h2 : 2 ^ z.toNat ≤ 1024 := pow10 _ (by omega)
      have h3 := doneL_len z.toNat (z.toNat + 1)
      rw [doneL_torns] at h3
      have h4 : (z.toNat + 1) * 2 ^ z.toNat ≤ 11 * 1024 := Nat.mul_le_mul (by omega) h2
      omega
/-- The entries that ranges over a function lay. -/
def ent (D : Nat) : Deferred := { target := .collected D, args := #[] }
def Marked (Ds : List Nat) (W : World) : Prop := Ds.Nodup ∧ ∀ D ∈ Ds, W.heap[D]? = some (.deferred (some []))
theorem Marked.kept {Ds : List Nat} {W W' : World} (h : Marked Ds W) (k : KeepsOthers W W') : Marked Ds W' := ⟨h.1, fun D hD => k.same _ _ (h.2 D hD) rfl⟩
theorem Marked.below {Ds : List Nat} {W W' : World} {B : Nat} (h : Marked Ds W) (k : Below B W W') (hB : ∀ D ∈ Ds, D < B) : Marked Ds W' :=
  ⟨h.1, fun D hD => (k.block D (hB D hD)).trans (h.2 D hD)⟩
theorem Marked.more {Ds : List Nat} {W : World} (h : Marked Ds W) {D : Nat} (hD : W.heap[D]? = some (.deferred (some []))) (hn : ∀ E ∈ Ds, E < D) : Marked (D :: Ds) W :=
  ⟨List.nodup_cons.2 ⟨fun hm => Nat.lt_irrefl _ (hn D hm), h.1⟩, fun E hE => by
    rcases List.mem_cons.1 hE with rfl | hE
    · exact hD
    · exact h.2 E hE⟩
theorem leaves_marks {F : Fence} {n : Nat} {P : Program} {fn : Func} {tmps : Array Value} {R : Ending → World → Prop} (B : Nat) : ∀ (Ds : List Nat) (W : World), Marked Ds W → (∀ D ∈ Ds, B ≤ D) → B ≤ W.heap.size →
    (∀ W', (∀ a v, W.cell? a = some v → W'.cell? a = some v) → Below B W W' → LeavesInM F n P fn tmps R [] .returning W') → LeavesInM F n P fn tmps R (Ds.map ent) .returning W
  | [], W, hM, hB, _, h => h W (fun _ _ h => h) (Below.refl _ _)
  | D :: Ds, W, hM, hB, hs, h => by
    have hD := hM.2 D (List.mem_cons_self ..)
    have hnd := List.nodup_cons.1 hM.1
    refine ⟨by simp, .inl ⟨D, W.putObj D (.deferred none), rfl, run_takeDeferred hD, ?_⟩⟩
    refine leaves_marks B Ds _ ⟨hnd.2, fun E hE => ?_⟩ (fun E hE => hB E (List.mem_cons_of_mem _ hE)) (by simpa [World.putObj] using hs) (fun W' h1 h2 => ?_)
    · rw [World.putObj_heap_other (fun e => hnd.1 (by cases e; exact hE))]
      exact hM.2 E (List.mem_cons_of_mem _ hE)
    · refine h W' (fun a v hv => h1 a v (Go.cell_kept hv (grownBy_putObj' W D (.deferred none)) (fun r e => by cases e; exact ⟨_, hD, rfl⟩))) (Below.trans ?_ h2)
      exact (Below.refl B W).grown (grownBy_putObj' W D (.deferred none)) hs (fun k e => by cases e; exact hB D (List.mem_cons_self ..))
end Go.Proofs.YtpaonoaedjkekaaDoor.Dk
