/- (*disk.Disk).At, walked: what a crash leaves. -/
import Derived.Test.YtpaonoaedjkekaaDoorDkP
namespace Go.Proofs.YtpaonoaedjkekaaDoor.Dk
open Go Go.RowKit Go.Proofs.YtpaonoaedjkekaaDoor.PD Go.Proofs.YtpaonoaedjkekaaDoorW.PrintWords Go.Proofs.YtpaonoaedjkekaaDoorW.PrintLast Go.Proofs.YtpaonoaedjkekaaDoorW.PrintMore
set_option linter.unusedVariables false
set_option linter.unusedSimpArgs false
set_option maxHeartbeats 4000000
set_option maxRecDepth 100000
theorem info4' : (Tryd.prog.info? 4).map (fun i => (i.zero, i.size, i.bytes)) = some (some (.bool false), 1, 1) := by kernel_rfl
/-- A loose write laid over an image behind a crash. -/
def layC (keep : List Int) (torn : Int) (y : Nat) (im : List Int) (k : Nat) (op : Int × List Int) : List Int :=
  if (k : Int) ∈ keep then im.take (128 * op.1.toNat) ++ op.2 ++ im.drop (128 * op.1.toNat + 128)
  else if (k : Int) = torn then im.take (128 * op.1.toNat) ++ op.2.take y ++ im.drop (128 * op.1.toNat + y) else im
def crashL (keep : List Int) (torn : Int) (y : Nat) : List Int → Nat → List (Int × List Int) → List Int
  | im, _, [] => im
  | im, k, op :: ops => crashL keep torn y (layC keep torn y im k op) (k + 1) ops
/-- The image that a crash behind n operations leaves. -/
def atL (fs : List Int) (ops : List (Int × List Int)) (n : Nat) (keep : List Int) (torn : Int) (y : Nat) : List Int :=
  crashL keep torn y (behindL fs (ops.take (looseN ops n))) 0 ((ops.drop (looseN ops n)).take (n - looseN ops n))
theorem crashL_snoc (keep : List Int) (torn : Int) (y : Nat) (op : Int × List Int) : ∀ (l : List (Int × List Int)) (im : List Int) (k : Nat), crashL keep torn y im k (l ++ [op]) = layC keep torn y (crashL keep torn y im k l) (k + l.length) op
  | [], _, _ => rfl
  | o :: l, im, k => by
    have := crashL_snoc keep torn y op l (layC keep torn y im k o) (k + 1)
    simp only [List.cons_append, crashL, this, List.length_cons]
    rw [Nat.add_assoc, Nat.add_comm 1]
theorem layC_len {n : Nat} {keep : List Int} {torn : Int} {y : Nat} (hy : y ≤ 128) {im : List Int} {k : Nat} {op : Int × List Int} (hl : im.length = n) (h2 : op.2.length = 128) (h : ∃ s : Nat, op.1 = (s : Int) ∧ 128 * s + 128 ≤ n) : (layC keep torn y im k op).length = n := by
  obtain ⟨s, e, hs⟩ := h
  unfold layC
  rw [e, Int.toNat_natCast]
  split
  · simp only [List.length_append, List.length_take, List.length_drop, hl, h2]; omega
  · split
    · simp only [List.length_append, List.length_take, List.length_drop, hl, h2]; omega
    · exact hl
/-- Behind the barrier there is no flush. -/
theorem loose_none (ops : List (Int × List Int)) : ∀ (n i : Nat), looseN ops n ≤ i → i < n → ops[i]? ≠ some flushOp
  | 0, i, _, h => by omega
  | n + 1, i, h1, h2 => by
    unfold looseN at h1
    split at h1
    · omega
    · rename_i hne
      by_cases e : i = n
      · subst e; exact hne
      · exact loose_none ops n i h1 (by omega)
theorem loose_op {m : Nat} {ops : List (Int × List Int)} (hO : Oks m ops) {n i : Nat} {op : Int × List Int} (h1 : looseN ops n ≤ i) (h2 : i < n) (h : ops[i]? = some op) : op.2.length = 128 ∧ ∃ s : Nat, op.1 = (s : Int) ∧ 128 * s + 128 ≤ m := by
  obtain ⟨q1, q2⟩ := hO op (List.mem_of_getElem? h)
  exact ⟨q1, q2.resolve_left (fun e => loose_none ops n i h1 h2 (by rw [h, e]))⟩
theorem crashL_len {m : Nat} {keep : List Int} {torn : Int} {y : Nat} (hy : y ≤ 128) : ∀ (l : List (Int × List Int)) (im : List Int) (k : Nat), im.length = m → (∀ op ∈ l, op.2.length = 128 ∧ ∃ s : Nat, op.1 = (s : Int) ∧ 128 * s + 128 ≤ m) → (crashL keep torn y im k l).length = m
  | [], _, _, hl, _ => hl
  | op :: l, im, k, hl, h => crashL_len hy l _ (k + 1) (layC_len hy hl (h op List.mem_cons_self).1 (h op List.mem_cons_self).2) (fun o ho => h o (List.mem_cons_of_mem _ ho))
theorem loose_mem {m : Nat} {ops : List (Int × List Int)} (hO : Oks m ops) {n j : Nat} (hn : n ≤ ops.length) (hj : j ≤ n - looseN ops n) : ∀ op ∈ (ops.drop (looseN ops n)).take j, op.2.length = 128 ∧ ∃ s : Nat, op.1 = (s : Int) ∧ 128 * s + 128 ≤ m := fun op ho => by
  obtain ⟨i, hi⟩ := List.getElem?_of_mem ho
  rw [List.getElem?_take] at hi
  split at hi
  · rw [List.getElem?_drop] at hi
    exact loose_op hO (Nat.le_add_right _ i) (by omega) hi
  · cases hi
/-- Which of the loose writes are there. -/
def thereV (m : Nat) (keep : List Int) : List Value := (List.range m).map fun (i : Nat) => .bool (decide ((i : Int) ∈ keep))
theorem thereV_len (m : Nat) (keep : List Int) : (thereV m keep).length = m := by simp [thereV]
theorem thereV_get (m : Nat) (keep : List Int) (k : Nat) (hk : k < m) : (thereV m keep)[k]? = some (.bool (decide ((k : Int) ∈ keep))) := by
  simp [thereV, hk]
theorem thereV_nil (m : Nat) : thereV m [] = List.replicate m (.bool false) := by
  apply List.ext_getElem?
  intro i
  by_cases hi : i < m
  · rw [thereV_get m [] i hi, List.getElem?_replicate, if_pos hi]; simp
  · rw [List.getElem?_eq_none (by rw [thereV_len]; omega), List.getElem?_eq_none (by simp; omega)]
theorem thereV_set (m : Nat) (keep : List Int) (x : Nat) (hx : x < m) : (thereV m keep).set x (.bool true) = thereV m (keep ++ [(x : Int)]) := by
  apply List.ext_getElem?
  intro i
  by_cases hi : i < m
  · rw [thereV_get m _ i hi, List.getElem?_set, thereV_get m keep i hi, thereV_len]
    by_cases e : x = i
    · subst e; simp [hi]
    · rw [if_neg e]
      have : ¬ ((i : Int) = (x : Int)) := by omega
      simp [this]
  · rw [List.getElem?_eq_none (by rw [List.length_set, thereV_len]; omega), List.getElem?_eq_none (by rw [thereV_len]; omega)]
theorem thereV_out (m : Nat) (keep : List Int) (x : Int) (hx : x < 0 ∨ (m : Int) ≤ x) : thereV m (keep ++ [x]) = thereV m keep := by
  apply List.ext_getElem?
  intro i
  by_cases hi : i < m
  · rw [thereV_get m _ i hi, thereV_get m keep i hi]
    have : ¬ ((i : Int) = x) := by omega
    simp [this]
  · rw [List.getElem?_eq_none (by rw [thereV_len]; omega), List.getElem?_eq_none (by rw [thereV_len]; omega)]
theorem take_snoc {α : Type} {l : List α} {j : Nat} {x : α} (h : l[j]? = some x) : l.take (j + 1) = l.take j ++ [x] := by rw [List.take_add_one, h]; rfl
theorem at_at {h : Hd} {B : Nat} {fs ss : List Int} {A : Option Addr} {c : Nat} {ops : List (Int × List Int)} {W : World} (k : DkAt h B fs ss (.slice A ops.length c) ops W) (hF : Fl W) (hO : Oks h.n ops) (h0 : 0 < W.heap.size) (n : Nat) (hn : n ≤ ops.length)
    (Ak : Option Addr) (mk ck : Nat) (keep : List Int) (torn : Int) (y : Nat) (hy : y ≤ 128) (hC : Kd.C (Kd.int .i64) W Ak mk keep) :
    Calls Tryd.prog 15 #[ptr h.D, .int .i64 (n : Int), .agg #[.slice Ak mk ck, .int .i64 torn, .int .i64 (y : Int)]] W fun e w' => ∃ g c', e = .returned (.tuple #[.slice (some ⟨g, 0, none⟩) h.n c', .int .i64 0]) ∧ Mem w' g (atL fs ops n keep torn y) ∧ W.heap.size ≤ g ∧ h.n ≤ c' ∧ Below W.heap.size W w' := by
  have K := Aside0.mk k
  have HF := Aside0.mk hF
  have HO := Aside0.mk hO
  have H0 := Aside0.mk h0
  have HC := Aside0.mk hC
  have HL := Aside0.mk k.few
  have hkl := Kd.C_len hC
  have HKL := Aside0.mk hkl
  have hmk := (Kd.reads_of_C (d := (0 : Int)) (h1 := fun _ => rfl) hC).2.1
  have HMK := Aside0.mk hmk
  have HN := Aside0.mk hn
  have HY := Aside0.mk hy
  have n1 : ¬ ((n : Int) < 0) := by omega
  have n2 : ¬ ((ops.length : Int) < (n : Int)) := by omega
  have n3 : ¬ ((y : Int) < 0) := by omega
  have n4 : ¬ ((128 : Int) < (y : Int)) := by omega
  have hlo : looseN ops n ≤ n := looseN_le ops n
  obtain ⟨lo, hlo2⟩ : ∃ lo, looseN ops n = lo := ⟨_, rfl⟩
  have HLO := Aside0.mk hlo2
  rw [hlo2] at hlo
  obtain ⟨m, hm⟩ : ∃ m, n - lo = m := ⟨_, rfl⟩
  have HM := Aside0.mk hm
  have HLE := Aside0.mk hlo
  clear k hF hO h0 hC hkl hmk hn hy hlo hlo2 hm
  go_enter Tryd.func15, Tryd.ntmps15
  go_upto_region 1 with fail
  have hr5 : Rt 34 W.heap.size [.slice Ak mk ck, .int .i64 torn, .int .i64 (y : Int)] (W.alloc (.cells #[.slice Ak mk ck, .int .i64 torn, .int .i64 (y : Int)] 34)) := heap_alloc_new W _
  have hb5 : Below W.heap.size W (W.alloc (.cells #[.slice Ak mk ck, .int .i64 torn, .int .i64 (y : Int)] 34)) := below_alloc (Below.refl _ _) _
  obtain ⟨b5, hb5e⟩ : ∃ b5, W.heap.size = b5 := ⟨_, rfl⟩
  have HB5E := Aside0.mk hb5e
  rw [hb5e] at hr5
  rw [hb5e]
  generalize W.alloc (.cells #[.slice Ak mk ck, .int .i64 torn, .int .i64 (y : Int)] 34) = w1 at *
  have HR1 := Aside0.mk hr5
  have HB1 := Aside0.mk (show Below b5 W w1 from hb5e ▸ hb5)
  have K1 := Aside0.mk (K.out.stay hb5)
  have c2 := K1.out.row.cell 2 _ rfl
  have d2 := hr5.cell 2 _ rfl
  clear hr5 hb5 hb5e
  go_wp2_with (go_at_call 36; refine (loose_at K1.out (HF.out.below H0.out (HB5E.out ▸ HB1.out)) n HN.out).mono ?_; rw [HLO.out]; rintro e w2 ⟨rfl, q, rfl⟩)
  have hbq : Below w1.heap.size w1 (w1.drewN q) := pw_below_drewN (Below.refl _ _) q
  have H01 := Aside0.mk (Nat.lt_of_lt_of_le H0.out (HB5E.out ▸ HB1.out).size)
  go_at_call 37
  refine (behind_at (K1.out.stay hbq) ((HF.out.below H0.out (HB5E.out ▸ HB1.out)).below H01.out hbq) HO.out (Nat.lt_of_lt_of_le H01.out hbq.size) lo (by have := HLE.out; have := HN.out; omega)).mono ?_
  rintro e w2 ⟨g, cg, rfl, hM, hg, hcg, hb2⟩
  have HB1s := Aside0.mk (show b5 < w1.heap.size from HR1.out.lt)
  have hb12 : Below w1.heap.size w1 w2 := hbq.trans (hb2.mono hbq.size)
  have HBG := Aside0.mk (show w1.heap.size ≤ g ∧ h.n ≤ cg from ⟨Nat.le_trans hbq.size hg, hcg⟩)
  have HB2 := Aside0.mk (show Below b5 W w2 from HB1.out.trans (hb12.mono (HB5E.out ▸ HB1.out.size)))
  have HR2 := Aside0.mk (show Rt 34 b5 [Value.slice Ak mk ck, Value.int IntKind.i64 torn, Value.int IntKind.i64 (y : Int)] w2 from (hb12.block _ HR1.out.lt).trans HR1.out)
  have HM2 := Aside0.mk hM
  clear hb12 hbq hM hg hcg hb2 c2 d2 HR1 HB1 K1
  have hsub : wrap64 ((n : Int) - (lo : Int)) = (m : Int) := by have := HM.out; have := HLE.out; have := HN.out; have := HL.out; unfold wrap64; omega
  obtain ⟨i0, hi0, hz0', hsz0, hby'⟩ := infoParts info4'
  have hmkd := run_make (P := Tryd.prog) w2 80 4 i0 (.bool false) Tryd.underlying80 hi0 hz0' .i64 .i64 (m : Int) (m : Int) (by omega) (by omega) (by rw [hby']; have := HM.out; have := HN.out; have := HL.out; omega) (by have := HM.out; have := HN.out; have := HL.out; omega)
  rw [hsz0, Nat.mul_one, Int.toNat_natCast] at hmkd
  have HMD := Aside0.mk hmkd
  clear hmkd hi0
  go_wp2_with fail
  rw [HMD.out]
  simp only [Result.andThen_ok, Oper.upon_value]
  have hr3 : Rt 4 w2.heap.size (thereV m []) (w2.alloc (.cells (madeCells (Value.bool false).cells m) 4)) := by
    have := heap_alloc_new w2 (.cells (madeCells (Value.bool false).cells m) 4)
    have e : madeCells (Value.bool false).cells m = (thereV m []).toArray := by
      apply Array.toList_inj.1
      rw [show (Value.bool false).cells = #[Value.bool false] from rfl, toList_madeCells_one, thereV_nil]
    rw [e] at this ⊢
    exact this
  have hb3 : Below b5 W (w2.alloc (.cells (madeCells (Value.bool false).cells m) 4)) := HB2.out.alloc (HB5E.out ▸ HB2.out.size) _
  have hm3 : Mem (w2.alloc (.cells (madeCells (Value.bool false).cells m) 4)) g (behindL fs (ops.take lo)) := HM2.out.below (below_alloc (Below.refl _ _) _)
  have hr5 : Rt 34 b5 [.slice Ak mk ck, .int .i64 torn, .int .i64 (y : Int)] (w2.alloc (.cells (madeCells (Value.bool false).cells m) 4)) := ((below_alloc (Below.refl _ _) _).block _ HR2.out.lt).trans HR2.out
  have hne : b5 < w2.heap.size ∧ g < w2.heap.size ∧ b5 ≤ g ∧ b5 < g := by
    have q1 := HB5E.out
    have q2 := HBG.out.1
    have q3 := HB1s.out
    exact ⟨HR2.out.lt, HM2.out.lt, by omega, by omega⟩
  obtain ⟨t, ht⟩ : ∃ t, w2.heap.size = t := ⟨_, rfl⟩
  rw [ht] at hr3 hne ⊢
  generalize w2.alloc (.cells (madeCells (Value.bool false).cells m) 4) = w3 at *
  have HR3 := Aside0.mk hr3
  have HB3 := Aside0.mk hb3
  have HM3 := Aside0.mk hm3
  have HR5 := Aside0.mk hr5
  have HNE := Aside0.mk hne
  have c0 := hr5.cell 0 _ rfl
  clear hr3 hb3 hm3 hr5 hne ht HMD HM2 HR2 HB2 hz0' hsz0 hby'
  have hmk0 : (0 : Int) ≤ (mk : Int) := by omega
  go_wp2_with fail
  go_loopw [51] (fun p wr => ∃ j : Nat, p = .int .i64 (j : Int) ∧ Aside0 (j ≤ mk) ∧ Aside0 (Rt 4 t (thereV m (keep.take j)) wr) ∧ Aside0 (Below b5 W wr) ∧ Aside0 (Mem wr g (behindL fs (ops.take lo))) ∧ Aside0 (Rt 34 b5 [.slice Ak mk ck, .int .i64 torn, .int .i64 (y : Int)] wr)) (fun p _ => mk - (intOf p).toNat)
  · exact ⟨0, rfl, ⟨Nat.zero_le _⟩, HR3, HB3, HM3, HR5⟩
  · obtain ⟨j, rfl, HJ, HRr, HBr, HMr, HR5r⟩ := hrel
    by_cases ci : j < mk
    · have ci1 : decide ((j : Int) < (mk : Int)) = true := decide_eq_true (by omega)
      have ci2 : decide (j < mk) = true := decide_eq_true ci
      have ci3 : (0 : Int) ≤ (j : Int) := by omega
      have ci4 : (j : Int) < (mk : Int) := by omega
      have hw1 : IntKind.i64.wrap ((j : Int) + 1) = ((j + 1 : Nat) : Int) := by rw [IntWalk.i64_in _ (by have := HMK.out; omega)]; omega
      obtain ⟨x, hx⟩ : ∃ x, keep[j]? = some x := ⟨_, List.getElem?_eq_getElem (by have := HKL.out; omega)⟩
      obtain ⟨ad, rfl, hcell⟩ := (Kd.reads_of_C (d := (0 : Int)) (h1 := fun _ => rfl) (Kd.C_below HC.out (HB5E.out.symm ▸ HBr.out))).2.2 (by omega)
      have cj := hcell j ci
      rw [List.getD_eq_getElem?_getD, hx] at cj
      simp only [Option.getD_some] at cj
      have HX := Aside0.mk hx
      clear hcell hx
      by_cases hx0 : 0 ≤ x
      · by_cases hxm : x < (m : Int)
        · obtain ⟨X, rfl⟩ : ∃ X : Nat, x = (X : Int) := ⟨x.toNat, by omega⟩
          have hX : X < m := by omega
          have ct := HRr.out.cell X _ (thereV_get m _ X hX)
          have ft := HRr.out.free X
          have dx0 : decide (0 ≤ (X : Int)) = true := decide_eq_true hx0
          have dxm : decide ((X : Int) < (m : Int)) = true := decide_eq_true hxm
          go_wp2_with fail
          refine ⟨⟨j + 1, congrArg (Value.int .i64) (by omega), ⟨ci⟩, ⟨?_⟩, ⟨?_⟩, ⟨?_⟩, ⟨?_⟩⟩, ?_⟩
          · rw [HRr.out.set X, take_snoc HX.out, ← thereV_set m _ X hX]
            exact HRr.out.row _
          · rw [HRr.out.set X]
            exact below_setRow' HBr.out (by have := HNE.out; omega) _
          · rw [HRr.out.set X]
            exact HMr.out.move (setRow_other _ _ _ _ (by have := HNE.out; omega))
          · rw [HRr.out.set X]
            exact (setRow_other _ _ _ _ (by have := HNE.out; omega)).trans HR5r.out
          · simp only [intOf]
            omega
        · have dx0 : decide (0 ≤ x) = true := decide_eq_true hx0
          have dxm : decide (x < (m : Int)) = false := decide_eq_false hxm
          go_wp2_with fail
          refine ⟨⟨j + 1, congrArg (Value.int .i64) (by omega), ⟨ci⟩, ⟨?_⟩, HBr, HMr, HR5r⟩, ?_⟩
          · rw [take_snoc HX.out, thereV_out m _ x (.inr (by omega))]
            exact HRr.out
          · simp only [intOf]
            omega
      · have dx0 : decide (0 ≤ x) = false := decide_eq_false hx0
        go_wp2_with fail
        refine ⟨⟨j + 1, congrArg (Value.int .i64) (by omega), ⟨ci⟩, ⟨?_⟩, HBr, HMr, HR5r⟩, ?_⟩
        · rw [take_snoc HX.out, thereV_out m _ x (.inl (by omega))]
          exact HRr.out
        · simp only [intOf]
          omega
    · have ci1 : decide ((j : Int) < (mk : Int)) = false := decide_eq_false (by omega)
      have ci2 : decide (j < mk) = false := decide_eq_false ci
      have HRr2 := Aside0.mk (show Rt 4 t (thereV m keep) wr from by
        have := HRr.out
        rwa [List.take_of_length_le (by have := HKL.out; omega)] at this)
      clear HRr HJ c0 HR3 HB3 HM3 HR5
      have Kr := Aside0.mk (K.out.stay (HB5E.out ▸ HBr.out : Below W.heap.size W wr))
      have c2 := Kr.out.row.cell 2 _ rfl
      have hc : ops.length ≤ c := by
        rcases Kr.out.o.2 with ⟨inner, ho, _⟩
        rcases ho.2 with ⟨e, hz⟩ | ⟨_, _, _, e, _, _, hcc, _⟩
        · injection e with _ e2 e3; omega
        · injection e with _ e2 e3; omega
      have h1 : (0 : Int) ≤ (lo : Int) := by omega
      have h2 : (lo : Int) ≤ (n : Int) := by have := HLE.out; omega
      have h3 : (n : Int) ≤ (c : Int) := by have := HN.out; omega
      have h4 : n ≤ c := by have := HN.out; omega
      clear hc
      have hmm : n - lo = m := HM.out
      rcases Nat.eq_zero_or_pos m with hm0 | hm0
      · have hnl : n = lo := by have := HLE.out; omega
        have hm1 : n - lo = 0 := by omega
        clear hmm
        subst hm0
        go_wp2_with fail
        go_loopw [76] (fun p wr' => p = .int .i64 0 ∧ wr' = wr) (fun p _ => 0)
        · exact ⟨by rfl, rfl⟩
        · obtain ⟨rfl, rfl⟩ := hrel
          go_wp2_with fail
          go_ret2
          refine ⟨g, cg, rfl, ?_, by have := HBG.out; have := HB1s.out; have := HB5E.out; omega, HBG.out.2, HB5E.out.symm ▸ HBr.out⟩
          have := HMr.out
          unfold atL
          rw [HLO.out, HM.out, List.take_zero]
          exact this
      have hnl : n ≠ lo := by omega
      obtain ⟨go, ego, hcgo⟩ : ∃ go, A = some ⟨go, 0, none⟩ ∧ ∀ (wr' : World) (i : Nat) (op : Int × List Int), DkAt h B fs ss (.slice A ops.length c) ops wr' → ops[i]? = some op → ∀ j v, (opCells op.1 op.2)[j]? = some v → wr'.cell? ⟨go, i * 129 + j, none⟩ = some v := by
        obtain ⟨op, hop⟩ : ∃ op, ops[lo]? = some op := ⟨_, List.getElem?_eq_getElem (by have := HM.out; have := HN.out; omega)⟩
        obtain ⟨_, go, e, _, _⟩ := ops_at Kr.out lo op hop
        refine ⟨go, e, fun wr' i op k' hi j v hj => ?_⟩
        obtain ⟨_, go', e', _, hc'⟩ := ops_at k' i op hi
        rw [e] at e'
        injection e' with e'
        injection e' with e'
        exact e' ▸ hc' j v hj
      have HCGO := Aside0.mk hcgo
      subst ego
      have haddr : Option.map (fun x : Addr => x.add (lo * 129)) (some ⟨go, 0, none⟩) = some ⟨go, lo * 129, none⟩ := by rw [Option.map_some, add_off, Nat.zero_add]
      clear hcgo
      go_wp2_with fail
      go_loopw [76] (fun p wr' => ∃ k : Nat, p = .int .i64 (k : Int) ∧ Aside0 (k ≤ m) ∧ Aside0 (Mem wr' g (crashL keep torn y (behindL fs (ops.take lo)) 0 ((ops.drop lo).take k))) ∧ Aside0 (Rt 4 t (thereV m keep) wr') ∧ Aside0 (Rt 34 b5 [.slice Ak mk ck, .int .i64 torn, .int .i64 (y : Int)] wr') ∧ Aside0 (Below b5 W wr')) (fun p _ => m - (intOf p).toNat)
      · refine ⟨0, rfl, ⟨Nat.zero_le _⟩, ⟨?_⟩, HRr2, HR5r, HBr⟩
        rw [List.take_zero]
        exact HMr.out
      · clear c2 HBr HMr HR5r HRr2 Kr
        obtain ⟨k, rfl, HK, HMr, HRr, HR5r, HBr⟩ := hrel
        by_cases ck1 : k < m
        · have cki1 : decide ((k : Int) < (m : Int)) = true := decide_eq_true (by omega)
          have cki2 : decide (k < m) = true := decide_eq_true ck1
          have cki3 : (0 : Int) ≤ (k : Int) := by omega
          have cki4 : (k : Int) < (m : Int) := by omega
          have hw1 : IntKind.i64.wrap ((k : Int) + 1) = ((k + 1 : Nat) : Int) := by rw [IntWalk.i64_in _ (by have := HM.out; have := HN.out; have := HL.out; omega)]; omega
          obtain ⟨op, hop⟩ : ∃ op, ops[lo + k]? = some op := ⟨_, List.getElem?_eq_getElem (by have := HM.out; have := HN.out; omega)⟩
          have Kr := Aside0.mk (K.out.stay (HB5E.out.symm ▸ HBr.out : Below W.heap.size W wr))
          have hl := loose_op HO.out (n := n) (by rw [HLO.out]; exact Nat.le_add_right _ _) (by have := HM.out; omega) hop
          have HCE := Aside0.mk (show ∀ j v, (opCells op.1 op.2)[j]? = some v → wr.cell? ⟨go, lo * 129 + k * 129 + j, none⟩ = some v from fun j v hj => by
            rw [← Nat.add_mul]; exact HCGO.out wr (lo + k) op Kr.out hop j v hj)
          have HOP := Aside0.mk hop
          have HLE2 := Aside0.mk hl.1
          obtain ⟨s, hs, hsn⟩ := hl.2
          have HSN := Aside0.mk (And.intro hs hsn)
          clear hop hl hs hsn
          go_upto_region 16 with fail
          apply wp_region_lit
          refine Great.wpList_readTo rfl (some 78) rfl (.int .i64 (k : Int)) (by go_simp) ?_
          simp only [Act.put, List.setIfInBounds_toArray, List.set_cons_zero, List.set_cons_succ]
          refine Great.wpList_readTo rfl (some 79) rfl (.pointer (some ⟨go, lo * 129 + k * 129, none⟩)) (by go_simp) ?_
          simp only [Act.put, List.setIfInBounds_toArray, List.set_cons_zero, List.set_cons_succ]
          refine Great.wpList_readTo rfl (some 80) rfl (.agg (opCells op.1 op.2).toArray) (exec_load83 (x := .tmp 79) rfl rfl (by rw [opCells_len, HLE2.out]) HCE.out) ?_
          simp only [Act.put, List.setIfInBounds_toArray, List.set_cons_zero, List.set_cons_succ]
          refine wpList_runAlloc rfl 83 rfl (ptr wr.heap.size) (alloc_op _ wr) ?_
          simp only [Act.put, List.setIfInBounds_toArray, List.set_cons_zero, List.set_cons_succ]
          refine Great.wpList_readTo rfl (some 13) rfl (.int .i64 (k : Int)) (by go_simp) ?_
          simp only [Act.put, List.setIfInBounds_toArray, List.set_cons_zero, List.set_cons_succ]
          refine wpList_store_row rfl 83 (.tmp 14) (.tmp 80) rfl wr.heap.size (opCells op.1 op.2).toArray rfl rfl 83 (newOp 0).toArray (heap_alloc_new wr _) (by rw [List.size_toArray, opCells_len, HLE2.out]; kernel_rfl) (by rw [List.size_toArray, List.size_toArray, newOp_len, opCells_len, HLE2.out]) (opCells_one _ _) ?_
          simp only [Act.put, List.setIfInBounds_toArray, List.set_cons_zero, List.set_cons_succ]
          refine wpList_nil ?_
          obtain ⟨b, hbe⟩ : ∃ b, wr.heap.size = b := ⟨_, rfl⟩
          have hr1 : Rt 83 b (opCells op.1 op.2) ((wr.alloc (.cells (newOp 0).toArray 83)).setRow b (opCells op.1 op.2).toArray) := by
            have h0 : Rt 83 b (newOp 0) (wr.alloc (.cells (newOp 0).toArray 83)) := hbe ▸ heap_alloc_new wr _
            exact h0.row _
          have hb1 : Below wr.heap.size wr ((wr.alloc (.cells (newOp 0).toArray 83)).setRow b (opCells op.1 op.2).toArray) := below_setRow' (below_alloc (Below.refl _ _) _) (Nat.le_of_eq hbe) _
          rw [hbe]
          generalize (wr.alloc (.cells (newOp 0).toArray 83)).setRow b (opCells op.1 op.2).toArray = w2 at *
          have HR2 := Aside0.mk hr1
          have HM2 := Aside0.mk (HMr.out.below hb1)
          have HRt := Aside0.mk (show Rt 4 t (thereV m keep) w2 from (hb1.block _ HRr.out.lt).trans HRr.out)
          have HR5 := Aside0.mk (show Rt 34 b5 [.slice Ak mk ck, .int .i64 torn, .int .i64 (y : Int)] w2 from (hb1.block _ HR5r.out.lt).trans HR5r.out)
          have HB2 := Aside0.mk (show Below b5 W w2 from HBr.out.trans (hb1.mono (HB5E.out ▸ HBr.out.size)))
          have HGB := Aside0.mk (show b5 ≤ g ∧ g ≠ t ∧ g ≠ b5 from ⟨HNE.out.2.2.1, by have := HNE.out; omega, by have := HNE.out; omega⟩)
          have ct := HRt.out.cell k _ (thereV_get m keep k ck1)
          have hbl : (crashL keep torn y (behindL fs (ops.take lo)) 0 ((ops.drop lo).take k)).length = h.n := crashL_len HY.out _ _ _ (behindL_len _ _ K.out.lf (HO.out.take lo)) (HLO.out ▸ loose_mem HO.out (n := n) HN.out (by rw [HLO.out]; have := HM.out; omega))
          have HBL := Aside0.mk hbl
          have hsnoc : crashL keep torn y (behindL fs (ops.take lo)) 0 ((ops.drop lo).take (k + 1)) = layC keep torn y (crashL keep torn y (behindL fs (ops.take lo)) 0 ((ops.drop lo).take k)) k op := by
            rw [take_snoc (x := op) (by rw [List.getElem?_drop]; exact HOP.out), crashL_snoc, List.length_take, List.length_drop]
            congr 1
            have := HM.out; have := HN.out; omega
          have HSNOC := Aside0.mk hsnoc
          generalize crashL keep torn y (behindL fs (ops.take lo)) 0 ((ops.drop lo).take k) = im at *
          clear hr1 hb1 hbe hbl hsnoc HMr HRr HR5r HBr Kr HCE
          by_cases hin : (k : Int) ∈ keep
          · have dk : decide ((k : Int) ∈ keep) = true := decide_eq_true hin
            rw [dk] at ct
            have HIN := Aside0.mk hin
            clear hin dk
            go_upto_region 18 with fail
            have cb0 : w2.drew.cell? ⟨b, 0, none⟩ = some (.int .i64 (s : Int)) := HR2.out.cell 0 _ (by rw [HSN.out.1]; rfl)
            obtain ⟨cs, hcp, hM3⟩ := Mem.copy (P := Tryd.prog) (dT := 29) (sT := 29) (ty := 3) Tryd.underlying29 size5' (W := w2.drew) HM2.out (128 * s) 128 128 128 128 (some ⟨b, 1, none⟩) (Rt.bytes (W := w2.drew) HR2.out HLE2.out 128 (Nat.le_refl _)) (Nat.le_refl _) (by rw [HBL.out]; exact HSN.out.2)
            rw [List.take_of_length_le (Nat.le_of_eq HLE2.out)] at hM3
            have HCP := Aside0.mk hcp
            have HM3 := Aside0.mk hM3
            clear hcp hM3 ct
            go_region_law (first
              | (refine step_copy rfl (.tmp 89) (.tmp 91) 29 29 rfl (.slice (some ⟨g, 128 * s, none⟩) 128 128) (.slice (some ⟨b, 1, none⟩) 128 128) _ rfl rfl HCP.out ?_)
              | (go_simp; go_at_call 38; refine (part_at g h.n cg s w2.drew HSN.out.2 HBG.out.2 (by have := K.out.big; omega)).mono ?_; rintro e w' ⟨rfl, hw⟩; subst w'))
            have HB3 := Aside0.mk (show Below b5 W (w2.drew.setRow g cs) from below_setRow' (below_drew HB2.out) HGB.out.1 cs)
            have HRt3 := Aside0.mk (show Rt 4 t (thereV m keep) (w2.drew.setRow g cs) from (setRow_other _ _ _ _ (Ne.symm HGB.out.2.1)).trans HRt.out)
            have HR53 := Aside0.mk (show Rt 34 b5 [.slice Ak mk ck, .int .i64 torn, .int .i64 (y : Int)] (w2.drew.setRow g cs) from (setRow_other _ _ _ _ (Ne.symm HGB.out.2.2)).trans HR5.out)
            clear HCP
            generalize w2.drew.setRow g cs = w3 at *
            go_wp2_with fail
            refine ⟨⟨k + 1, rfl, ⟨ck1⟩, ⟨?_⟩, HRt3, HR53, HB3⟩, ?_⟩
            · rw [HSNOC.out, layC, if_pos HIN.out, HSN.out.1, Int.toNat_natCast]
              exact HM3.out
            · simp only [intOf]
              omega
          · have dk : decide ((k : Int) ∈ keep) = false := decide_eq_false hin
            rw [dk] at ct
            have HIN := Aside0.mk hin
            have c1 := HR5.out.cell 1 _ rfl
            clear hin dk
            by_cases hto : (k : Int) = torn
            · have dt : ((k : Int) == torn) = true := by simpa using hto
              have HTO := Aside0.mk hto
              clear hto
              go_upto_region 20 with fail
              have cb0 : w2.drew.cell? ⟨b, 0, none⟩ = some (.int .i64 (s : Int)) := HR2.out.cell 0 _ (by rw [HSN.out.1]; rfl)
              have cy : w2.drew.cell? ⟨b5, 2, none⟩ = some (.int .i64 (y : Int)) := HR5.out.cell 2 _ rfl
              obtain ⟨cs, hcp, hM3⟩ := Mem.copy (P := Tryd.prog) (dT := 29) (sT := 29) (ty := 3) Tryd.underlying29 size5' (W := w2.drew) HM2.out (128 * s) y 128 128 y (some ⟨b, 1, none⟩) (Rt.bytes (W := w2.drew) HR2.out HLE2.out y HY.out) HY.out (by rw [HBL.out]; have := HSN.out.2; have := HY.out; omega)
              have HCP := Aside0.mk hcp
              have HM3 := Aside0.mk hM3
              clear hcp hM3 ct
              go_region_law (first
                | (refine step_copy rfl (.tmp 101) (.tmp 107) 29 29 rfl (.slice (some ⟨g, 128 * s, none⟩) 128 128) (.slice (some ⟨b, 1, none⟩) y y) _ rfl rfl HCP.out ?_)
                | (go_simp; go_at_call 38; refine (part_at g h.n cg s w2.drew HSN.out.2 HBG.out.2 (by have := K.out.big; omega)).mono ?_; rintro e w' ⟨rfl, hw⟩; subst w'))
              all_goals
                have HB3 := Aside0.mk (show Below b5 W (w2.drew.setRow g cs) from below_setRow' (below_drew HB2.out) HGB.out.1 cs)
                have HRt3 := Aside0.mk (show Rt 4 t (thereV m keep) (w2.drew.setRow g cs) from (setRow_other _ _ _ _ (Ne.symm HGB.out.2.1)).trans HRt.out)
                have HR53 := Aside0.mk (show Rt 34 b5 [.slice Ak mk ck, .int .i64 torn, .int .i64 (y : Int)] (w2.drew.setRow g cs) from (setRow_other _ _ _ _ (Ne.symm HGB.out.2.2)).trans HR5.out)
                clear HCP
                generalize w2.drew.setRow g cs = w3 at *
                go_wp2_with fail
                refine ⟨⟨k + 1, rfl, ⟨ck1⟩, ⟨?_⟩, HRt3, HR53, HB3⟩, ?_⟩
                · rw [HSNOC.out, layC, if_neg HIN.out, if_pos HTO.out, HSN.out.1, Int.toNat_natCast]
                  exact HM3.out
                · simp only [intOf]
                  omega
            · have dt : ((k : Int) == torn) = false := by simpa using hto
              have HTO := Aside0.mk hto
              go_wp2_with fail
              refine ⟨⟨k + 1, rfl, ⟨ck1⟩, ⟨?_⟩, HRt, HR5, HB2⟩, ?_⟩
              · rw [HSNOC.out, layC, if_neg HIN.out, if_neg HTO.out]
                exact HM2.out
              · simp only [intOf]
                omega
        · have cki1 : decide ((k : Int) < (m : Int)) = false := decide_eq_false (by omega)
          have cki2 : decide (k < m) = false := decide_eq_false ck1
          go_wp2_with fail
          go_ret2
          refine ⟨g, cg, rfl, ?_, by have := HBG.out; have := HB1s.out; have := HB5E.out; omega, HBG.out.2, HB5E.out.symm ▸ HBr.out⟩
          have := HMr.out
          unfold atL
          rw [HLO.out, HM.out]
          obtain rfl : k = m := by have := HK.out; omega
          exact this
end Go.Proofs.YtpaonoaedjkekaaDoor.Dk
