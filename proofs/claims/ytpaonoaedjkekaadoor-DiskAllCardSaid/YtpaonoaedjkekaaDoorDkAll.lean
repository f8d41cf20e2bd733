/- What larderlaw06.DiskAll computes, walked: true. -/
import Derived.Test.YtpaonoaedjkekaaDoorDkAllP
import Derived.Test.YtpaonoaedjkekaaDoorDkRound
import Derived.RangeFuncBound
import Derived.Sort.CutIn
import Derived.RangeFuncLeaves
import Derived.Deep.RegionHeld3
import Derived.Deep.RegionLaw
namespace Go.Proofs.YtpaonoaedjkekaaDoor.Dk
open Go Go.RowKit Go.Proofs.SeqWith Go.Proofs.YtpaonoaedjkekaaDoor.PD Go.Proofs.YtpaonoaedjkekaaDoorW.PrintWords Go.Proofs.YtpaonoaedjkekaaDoorW.PrintLast Go.Proofs.YtpaonoaedjkekaaDoorW.PrintMore
set_option linter.unusedVariables false
set_option linter.unusedSimpArgs false
set_option maxHeartbeats 4000000
set_option maxRecDepth 100000
theorem all_num (k : Nat) (h : k ≤ 7) : ((((choicesL k).length : Nat) : Int) == IntKind.i64.wrap (IntKind.i64.wrap (2 ^ min k 64) + IntKind.i64.wrap ((IntKind.i64.wrap ((k : Int) * IntKind.i64.wrap (2 ^ min k 64))).tdiv 2))) = true := by
  have : ∀ k : Fin 8, ((((choicesL k.val).length : Nat) : Int) == IntKind.i64.wrap (IntKind.i64.wrap (2 ^ min k.val 64) + IntKind.i64.wrap ((IntKind.i64.wrap ((k.val : Int) * IntKind.i64.wrap (2 ^ min k.val 64))).tdiv 2))) = true := by decide +kernel
  exact this ⟨k, by omega⟩
abbrev k34 : Kd Ck := Kd.pair (Kd.slice 3 (Kd.int .i64)) (Kd.pair (Kd.int .i64) (Kd.int .i64))
theorem run_eql_func_nil' {P : Program} (w : World) {t : TypeId} {a b c} (fn : Fn) (x y : Array Value) (ht : P.underlying t = some (.func a b c)) :
    (binOp .eql t (.func fn x y) .nilFunc).run P w = .ok (.bool false) w := by
  have h : ∀ d : Nat, (Op.equalIn (d + 1) t (.func fn x y) .nilFunc).run P w = .ok false w := fun d => by
    simp [Op.equalIn, run_underlying ht]
  simp only [binOp]
  simp [Op.equal, Op.maxDepth, h 9999]
theorem size34' : (Tryd.prog.info? 34).map (·.size) = some 3 := by kernel_rfl
theorem info34 : (Tryd.prog.info? 34).map (fun i => (i.zero, i.size, i.bytes)) = some (some (.agg #[.slice none 0 0, .int .i64 0, .int .i64 0]), 3, 40) := by kernel_rfl
theorem alloc34 (v : Value) (W : World) : (Instr.alloc 34 true v).run Tryd.prog W = .ok (ptr W.heap.size) (W.alloc (.cells [.slice none 0 0, .int .i64 0, .int .i64 0].toArray 34)) := by
  obtain ⟨i, hi, hz, _, _⟩ := infoParts info34
  cases v <;> simp [Instr.alloc, zeroValue, typeInfo, hi, hz, newVar, newRow, Value.cells]
theorem fill_n (s : Nat) (hs0 : 0 < s) (cells0 : Array Value) (h0 : cells0.size = s) (cs : List Value) (hl : cs.length = s) : Instr.fill (fun i => some (i * s, s)) cells0 [(0, .agg cs.toArray)] = some cs.toArray := by
  obtain ⟨r, hr, hs, hk⟩ := Great.fill_dense (s := s) hs0 [.agg cs.toArray] 0 cells0 (fun v hv => by rw [List.mem_singleton.1 hv]; simp [Value.cells, hl]) (by simp [h0])
  have e : r = cs.toArray := by
    apply Array.ext_getElem?
    intro k
    rw [hk k]
    by_cases hk1 : k < s
    · rw [if_pos (by simp; omega), Nat.div_eq_of_lt hk1, Nat.mod_eq_of_lt hk1]
      simp [Value.cells]
    · rw [if_neg (by simp; omega), Array.getElem?_eq_none (by omega), Array.getElem?_eq_none (by rw [List.size_toArray]; omega)]
  exact hr.trans (congrArg some e)
theorem slice_op34 (cs : List Value) (hl : cs.length = 3) (W : World) : (Instr.buildSlice 57 1 #[(0, .agg cs.toArray)]).run Tryd.prog W = .ok (.slice (some ⟨W.heap.size, 0, none⟩) 1 1) (W.alloc (.cells cs.toArray 34)) := by
  obtain ⟨i, hi, hz, hsz, _⟩ := infoParts info34
  refine run_buildSlice (P := Tryd.prog) W 57 34 1 _ _ i _ Tryd.underlying57 hi hz (by rw [hsz]; decide) (by rw [hsz]; decide) ?_
  rw [hsz]
  exact fill_n 3 (by decide) _ (by simp) _ hl
theorem step_slice {P : Program} {ops : Array Oper} {rest : List Oper} {o : Oper} {a : Act} {w w' : World} {Q : Exit → Act → World → Prop} (hg : o.guard = none) (t : TypeId) (n : Nat) (parts : Array (Nat × Operand)) (ho : o.op = .buildSlice t n parts) (v : Value) (parts' : Array (Nat × Value)) (hp : (parts.map fun (i, x) => (i, a.eval x)) = parts')
    (hrun : (Instr.buildSlice t n parts').run P w = .ok v w') (h : wpList P ops Q rest (a.put o.dst v) w') : wpList P ops Q (o :: rest) a w :=
  wpList_plain hg fun K hK => wp_runSlice t n parts ho v parts' hp hrun (hK _ _ h)
/-- A choice of a row of them. -/
theorem seen_at {W : World} {base : Nat} {ok : Nat → Prop} {A : Option Addr} {n c : Nat} {xs : List Ck} (h : Kd.R k34 34 W base ok (.slice A n c) xs) (i : Nat) (ck : Ck) (hi : xs[i]? = some ck) :
    ∃ go Ak ckp, A = some ⟨go, 0, none⟩ ∧ n ≤ c ∧ ck.1.length ≤ ckp ∧ Kd.C (Kd.int .i64) W Ak ck.1.length ck.1 ∧ W.cell? ⟨go, i * 3, none⟩ = some (.slice Ak ck.1.length ckp) ∧ W.cell? ⟨go, i * 3 + 1, none⟩ = some (.int .i64 ck.2.1) ∧ W.cell? ⟨go, i * 3 + 2, none⟩ = some (.int .i64 ck.2.2) := by
  obtain ⟨hok, inner, ho, hr⟩ := h
  have hlt : i < xs.length := (List.getElem?_eq_some_iff.1 hi).1
  have hsz : k34.sz = 3 := rfl
  have hm := k34.K_of_M (hr.2 i ck hi)
  obtain ⟨c0, c1, hcs, ⟨Ak, ckp, h0, hle, hC⟩, c2, c3, h1, h2, h3⟩ := hm
  have h2 : c2 = [Value.int .i64 ck.2.1] := h2
  have h3 : c3 = [Value.int .i64 ck.2.2] := h3
  have hcs : (inner.drop (i * 3)).take 3 = [.slice Ak ck.1.length ckp, .int .i64 ck.2.1, .int .i64 ck.2.2] := by rw [← hsz, hcs, h0, h1, h2, h3]; rfl
  rcases ho.2 with ⟨_, hz⟩ | ⟨g, cap, cur, e, hB, hh, hc, _, _, ht⟩
  · omega
  · injection e with e1 e2 e3
    have hcell : ∀ j v, [Value.slice Ak ck.1.length ckp, .int .i64 ck.2.1, .int .i64 ck.2.2][j]? = some v → W.cell? ⟨g, i * 3 + j, none⟩ = some v := fun j v hj => by
      rw [cell_of_row W g _ cur 34 (0, 0) hh, ← Array.getElem?_toList]
      rw [← hcs, List.getElem?_take, List.getElem?_drop] at hj
      by_cases hj2 : j < 3
      · rw [if_pos hj2] at hj
        rw [← ht, List.getElem?_take] at hj
        split at hj
        · exact hj
        · cases hj
      · rw [if_neg hj2] at hj; cases hj
    exact ⟨g, Ak, ckp, e1, by omega, hle, hC, hcell 0 _ rfl, hcell 1 _ rfl, hcell 2 _ rfl⟩
theorem R_from {α : Type} {d : Kd α} {e base B : Nat} {v : Value} {xs : List α} {A W : World} {row : Option Nat} (h : Kd.R d e A base (fun _ => True) v xs) (hg : A.grownBy W row) (hr : ∀ r, row = some r → B ≤ r ∧ ∃ o : Obj, A.heap[r]? = some o ∧ o.isCells = false) : Kd.R d e W base (fun _ => True) v xs :=
  Kd.R_mono (Kd.R_step (Kd.R_bound h) (fun k hk hlt => hg.block k hlt (fun er => by
    obtain ⟨_, _, _, q, _, cells, hc⟩ := hk
    obtain ⟨_, o, ho, hn⟩ := hr k er.symm
    rw [hc] at ho
    obtain rfl := Option.some.inj ho
    cases hn))) (fun _ _ => trivial)
theorem Rt_from {t b B : Nat} {vs : List Value} {A W : World} {row : Option Nat} (h : Rt t b vs A) (hg : A.grownBy W row) (hr : ∀ r, row = some r → B ≤ r ∧ ∃ o : Obj, A.heap[r]? = some o ∧ o.isCells = false) : Rt t b vs W :=
  (hg.block b h.lt (fun er => by
    obtain ⟨_, o, ho, hn⟩ := hr b er.symm
    rw [show A.heap[b]? = _ from h] at ho
    obtain rfl := Option.some.inj ho
    cases hn)).trans h
/-- A slice variable and its row. -/
def Held (b base : Nat) (ks : List Ck) (W : World) : Prop := ∃ v, Rt 57 b [v] W ∧ Kd.R k34 34 W base (fun _ => True) v ks
theorem held_own (b base B : Nat) : OwnFrom B (fun (pre : List El) W => Held b base (pre.map key) W) := fun s A W row ⟨v, h1, h2⟩ hg hr => ⟨v, Rt_from h1 hg hr, R_from h2 hg hr⟩
theorem with_own (C : Nat) (fs : List Ck) (B : Nat) (pre : List El) : OwnFrom B (With C fs pre) := fun x A W row ⟨h1, h2⟩ hg hr => ⟨h1, R_from h2 hg hr⟩
/-- The round's own choice, in its variable. -/
def Cur (b : Nat) (x : El) (W : World) : Prop := Rt 34 b [x.1, .int .i64 x.2.2.1, .int .i64 x.2.2.2] W
theorem cur_own (B b : Nat) (x : El) : OwnFrom B (fun (_ : Unit) W => Cur b x W) := fun _ A W row h hg hr => Rt_from h hg hr
theorem KeepsOthers.of_setRow {t g : Nat} {vs : List Value} {W : World} (h : Rt t g vs W) (us : List Value) : KeepsOthers W (W.setRow g us.toArray) :=
  ⟨by rw [setRow_size]; exact Nat.le_refl _, fun k o hk ho => by
    by_cases e : k = g
    · subst e
      rw [show W.heap[k]? = _ from h] at hk
      obtain rfl := Option.some.inj hk
      cases ho
    · exact (setRow_other _ _ _ _ e).trans hk⟩
theorem e34 : ∀ q, q ∈ 34 :: k34.E → q ≠ 57 := by
  intro q hq
  have : k34.E = [3] := rfl
  rw [this] at hq
  simp at hq
  omega
theorem keep_small (LP : Nat) (h : LP ≤ 7) {pre : List El} {x : El} {i : Nat} {ck : Ck} (hp : (pre ++ [x]).map key <+: choicesL LP) (hi : (pre.map key)[i]? = some ck) : ck.1.length < 9223372036854775807 := by
  have hm : ck ∈ choicesL LP := List.IsPrefix.subset hp (by rw [List.map_append]; exact List.mem_append_left _ (List.mem_of_getElem? hi))
  unfold choicesL at hm
  rw [if_neg (by omega)] at hm
  have hl : ∀ m, (placesL m).length ≤ 10 := fun m => by
    unfold placesL
    rw [List.length_map]
    exact Nat.le_trans (List.length_filter_le _ _) (by simp)
  rcases List.mem_append.1 hm with hm | hm
  · obtain ⟨m, _, rfl⟩ := List.mem_map.1 hm
    have := hl m
    show (placesL m).length < _
    omega
  · obtain ⟨j, _, hm⟩ := List.mem_flatMap.1 hm
    obtain ⟨m, _, rfl⟩ := List.mem_map.1 hm
    have := hl m
    show (placesL m).length < _
    omega
attribute [local go_sem] Oper.semAt_some
theorem all_walk (A : Option Addr) (n c : Nat) (puts0 : List S37) (W : World) (hC0 : Kd.C k37 W A n puts0) (hP0 : Puts puts0) (hc : n ≤ c) (hF : Fl W) (h0 : 0 < W.heap.size) :
    Calls Tryd.prog 7 #[.slice A n c] W fun e w' => e = .returned (.bool true) ∧ Below W.heap.size W w' := by
  have hC1 := C_take37 hC0 (min n 7) (Nat.min_le_left _ _)
  have hP1 := hP0.take (min n 7)
  obtain ⟨L, hL⟩ : ∃ L, min n 7 = L := ⟨_, rfl⟩
  obtain ⟨puts, hputs⟩ : ∃ puts, puts0.take L = puts := ⟨_, rfl⟩
  rw [hL, hputs] at hC1 hP1
  have hlen : puts.length = L := Kd.C_len hC1
  have hL7 : L ≤ 7 := by omega
  have hLc : L ≤ c := by omega
  have HC := Aside0.mk (show Kd.C k37 W A puts.length puts by rw [hlen]; exact hC1)
  have HP := Aside0.mk hP1
  have HL := Aside0.mk hL
  have HLEN := Aside0.mk hlen
  have HL7 := Aside0.mk hL7
  have HLC := Aside0.mk hLc
  have HCC := Aside0.mk hc
  have HF := Aside0.mk hF
  have H0 := Aside0.mk h0
  clear hC0 hP0 hC1 hP1 hputs hL hlen hL7 hLc hc hF h0
  have hfn := fun (W : World) (fn : Fn) (x y : Array Value) => run_eql_func_nil' (P := Tryd.prog) W fn x y Tryd.underlying55
  refine (callsIn_wide (n := 3)).1 ?_
  refine callsIn_of_wp_marks Tryd.func7 rfl trivial ?_ rfl
  refine wpIn_wide.2 ?_
  simp only [Tryd.ntmps7, List.size_toArray, List.length_cons, List.length_nil, Nat.reduceAdd, Nat.reduceSub, Array.replicate_succ, Array.replicate_zero, List.push_toArray, List.append_toArray, List.nil_append, List.cons_append]
  go_upto_if 13 with fail
  have hr2 : Rt 4 W.heap.size [.bool false] (W.alloc (.cells #[.bool false] 4)) := heap_alloc_new W _
  have hb1 : Below W.heap.size W (W.alloc (.cells #[.bool false] 4)) := below_alloc (Below.refl _ _) _
  obtain ⟨b2, hb2⟩ : ∃ b2, W.heap.size = b2 := ⟨_, rfl⟩
  have HB2E := Aside0.mk hb2
  rw [hb2] at hr2 ⊢
  generalize W.alloc (.cells #[.bool false] 4) = w1 at *
  have HR2 := Aside0.mk hr2
  have HB1 := Aside0.mk hb1
  clear hr2 hb1 hb2
  go_cut [0] from 13 to 15 (fun v0 wc => v0 = .slice A L c ∧ wc = w1)
  case first =>
    by_cases h : 7 < n
    · have c1 : (7 : Int) ≤ (c : Int) := by have := HCC.out; omega
      have c2 : 7 ≤ c := by have := HCC.out; omega
      have h1 : decide (7 < (n : Int)) = true := decide_eq_true (by omega)
      go_wp2_with fail
      go_meet
      case rel => exact ⟨by rw [← HL.out, Nat.min_eq_right (by omega)], rfl⟩
    · have h1 : decide (7 < (n : Int)) = false := decide_eq_false (by omega)
      go_wp2_with fail
      go_meet
      case rel => exact ⟨by rw [← HL.out, Nat.min_eq_left (by omega)], rfl⟩
  case rest =>
    obtain ⟨rfl, rfl⟩ := hcut
    have hla := laid_at A c puts wc (Kd.C_below HC.out (HB2E.out ▸ HB1.out)) HP.out (by rw [HLEN.out]; have := HL7.out; omega) (HF.out.below H0.out (HB2E.out ▸ HB1.out)) (Nat.lt_of_lt_of_le H0.out HB1.out.size)
    rw [HLEN.out] at hla
    go_wp2_with fail
    go_at_call 12
    refine hla.mono ?_
    rintro e w2 ⟨h, A1, c1, rfl, hhn, hk, hb⟩
    have HHN := Aside0.mk hhn
    have HR22 := Aside0.mk (show Rt 4 b2 [.bool false] w2 from (hb.block _ HR2.out.lt).trans HR2.out)
    have HB2 := Aside0.mk (HB1.out.trans (hb.mono HB1.out.size))
    have HK2 := Aside0.mk hk
    have hr3 : Rt 25 w2.heap.size [ptr h.D] (w2.alloc (.cells #[ptr h.D] 25)) := heap_alloc_new w2 _
    have hb3 : Below w2.heap.size w2 (w2.alloc (.cells #[ptr h.D] 25)) := below_alloc (Below.refl _ _) _
    clear hla hhn hk hb HR2 HB1
    go_upto_region 4 with fail
    obtain ⟨b3, hb3e⟩ : ∃ b3, w2.heap.size = b3 := ⟨_, rfl⟩
    have HB3E := Aside0.mk hb3e
    have HK3 := Aside0.mk (HK2.out.stay hb3)
    have HB3 := Aside0.mk (HB2.out.trans (hb3.mono HB2.out.size))
    have HR23 := Aside0.mk (show Rt 4 b2 [.bool false] (w2.alloc (.cells #[ptr h.D] 25)) from (hb3.block _ HR22.out.lt).trans HR22.out)
    rw [hb3e] at hr3 ⊢
    clear hb3 hb3e HR22 HB2 HK2
    generalize w2.alloc (.cells #[ptr h.D] 25) = w3 at *
    have HR33 := Aside0.mk hr3
    have c3 := hr3.cell 0 _ rfl
    clear hr3
    obtain ⟨lo, hlo⟩ : ∃ lo, looseN (opsOf puts) (opsOf puts).length = lo := ⟨_, rfl⟩
    obtain ⟨LP, hLP⟩ : ∃ LP, L - lo = LP := ⟨_, rfl⟩
    have hol : (opsOf puts).length = L := by rw [opsOf_len]; exact HLEN.out
    have HLO := Aside0.mk hlo
    have HLP := Aside0.mk hLP
    have HOL := Aside0.mk hol
    have HLP7 := Aside0.mk (show LP ≤ 7 by have := HL7.out; omega)
    have HPE := Aside0.mk (show Calls Tryd.prog 22 #[ptr h.D] w3 fun e w' => ∃ Ap cp, e = .returned (.slice Ap LP cp) ∧ Below w3.heap.size w3 w' from by
      refine (pending_at HK3.out (HF.out.below H0.out HB3.out) (Nat.lt_of_lt_of_le H0.out HB3.out.size)).mono ?_
      rw [HLO.out]
      rintro e w' ⟨v, rfl, hR, hb'⟩
      obtain ⟨Ap, cp, ev⟩ := Kd.R_slice hR
      rw [List.length_map, List.length_drop, HOL.out, HLP.out] at ev
      exact ⟨Ap, cp, by rw [ev], hb'⟩)
    clear hlo hLP hol
    go_wp2_with fail
    go_at_call 22
    refine HPE.out.mono ?_
    rintro e w4 ⟨Ap, cp, rfl, hb⟩
    have HK4 := Aside0.mk (HK3.out.stay hb)
    have HB4 := Aside0.mk (HB3.out.trans (hb.mono HB3.out.size))
    have HR24 := Aside0.mk (show Rt 4 b2 [.bool false] w4 from (hb.block _ HR23.out.lt).trans HR23.out)
    have HR34 := Aside0.mk (show Rt 25 b3 [ptr h.D] w4 from (hb.block _ HR33.out.lt).trans HR33.out)
    clear hb HPE HK3 HB3 HR23 HR33 c3
    go_upto_region 7 with fail
    have HCNT := Aside0.mk (fun W' (hb : Below w4.heap.size w4 W') => (show Calls Tryd.prog 18 #[ptr h.D] W' fun e w' => e = .returned (.int .i64 (L : Int)) ∧ w' = W' from by
      have := count_at (HK4.out.stay hb)
      rwa [HOL.out] at this))
    have HCH := Aside0.mk (fun W' (hb : Below w4.heap.size w4 W') => (show Calls Tryd.prog 30 #[ptr h.D, .int .i64 (L : Int)] W' fun e w' => e = .returned (.func (.func 40) #[] #[ptr W'.heap.size]) ∧ w'.cell? ⟨W'.heap.size, 0, none⟩ = some (.int .i64 (LP : Int)) ∧ Below W'.heap.size W' w' from by
      have := choices_calls (HK4.out.stay hb) (HF.out.below H0.out (HB4.out.trans (hb.mono HB4.out.size))) (Nat.lt_of_lt_of_le H0.out (HB4.out.trans (hb.mono HB4.out.size)).size) (opsOf puts).length (Nat.le_refl _)
      rwa [HLO.out, HOL.out, HLP.out] at this))
    go_cut [5] from 23 to 26 (fun v5 wc => ∃ g : Nat, v5 = .func (.func 40) #[] #[ptr g] ∧ Aside0 (wc.cell? ⟨g, 0, none⟩ = some (.int .i64 (LP : Int))) ∧ Aside0 (Below w4.heap.size w4 wc))
    case first =>
      have c3 := HR34.out.cell 0 _ rfl
      refine wp_region_noPanic ?_
      go_region_law (first
        | (go_simp; go_at_call 18; refine (HCNT.out _ (pw_below_drewN (Below.refl _ _) _)).mono ?_; rintro e w' ⟨rfl, hw⟩; subst w')
        | (go_simp; go_at_call 18; refine (HCNT.out _ (below_drew (Below.refl _ _))).mono ?_; rintro e w' ⟨rfl, hw⟩; subst w')
        | (go_simp; go_at_call 30; refine (HCH.out _ (below_drew (Below.refl _ _))).mono ?_; rintro e wz ⟨rfl, hcz, hbz⟩; have HRS := Aside0.mk (And.intro hcz (show Below w4.heap.size w4 wz from (below_drew (Below.refl _ _)).trans hbz)); clear hcz hbz))
      all_goals
        refine NoPanic.normal ?_
        go_wp2_with fail
        go_meet
        case rel => exact ⟨_, rfl, ⟨HRS.out.1⟩, ⟨HRS.out.2⟩⟩
    case rest =>
      clear HCNT HCH
      obtain ⟨g, rfl, HG5, HB45⟩ := hcut
      have HK5 := Aside0.mk (HK4.out.stay HB45.out)
      have HR25 := Aside0.mk (show Rt 4 b2 [.bool false] wc from (HB45.out.block _ HR24.out.lt).trans HR24.out)
      have HR35 := Aside0.mk (show Rt 25 b3 [ptr h.D] wc from (HB45.out.block _ HR34.out.lt).trans HR34.out)
      have HB5 := Aside0.mk (HB4.out.trans (HB45.out.mono HB4.out.size))
      clear HK4 HB4 HR24 HR34 HB45
      go_wp2_with fail
      have hg5 : g < wc.heap.size := World.block_lt_of_cell? _ _ HG5.out
      have hbv : Below wc.heap.size wc (wc.alloc (.cells #[.slice none 0 0] 57)) := below_alloc (Below.refl _ _) _
      have hr6 : Rt 57 wc.heap.size [.slice none 0 0] (wc.alloc (.cells #[.slice none 0 0] 57)) := heap_alloc_new wc _
      have hsz : (wc.alloc (.cells #[.slice none 0 0] 57)).heap.size = wc.heap.size + 1 := by simp
      refine (wpIn_wide (n := 3)).1 ?_
      refine range_one (n := 3) (enc := fun (x : El) => .agg #[x.1, .int .i64 x.2.2.1, .int .i64 x.2.2.2]) (G := With wc.heap.size (choicesL LP)) (Kp := Below wc.heap.size) (S := fun xs => xs.map key = choicesL LP) (Sp := fun _ => True) (w0 := wc) rfl (by decide) rfl trivial (Go.Proofs.enters_of Tryd.func40 (by kernel_rfl) rfl)
        (choices_seq 2 (by decide) g LP wc hg5 HG5.out) (fun h k => h.trans k) (fun X lp o o' hl h h1 h2 => belowK_b (w := wc.alloc (.cells #[.slice none 0 0] 57)) (by omega) X lp o o' hl h h1 h2) hbv
        (fun (pre : List El) X => Held wc.heap.size wc.heap.size (pre.map key) X ∧ Below wc.heap.size wc X) (fun _ _ _ => False)
        (OwnFrom.and (held_own _ _ _) (ownFrom_below (Nat.le_refl _) (by omega))) (fun _ _ _ _ _ h => h.elim) (fun pre => with_own _ _ _ pre) ⟨⟨_, hr6, Kd.R_nil _ _ _ _ _⟩, hbv⟩ 7 Cur (fun b x => cur_own _ b x) (fun A B hs hb => hb.mono (by omega)) ?assign ?body ?done ?stop
      case stop => exact fun _ _ _ _ _ _ h => h.elim
      case assign =>
        rintro lp pre ⟨xv, xk, xt, xb⟩ X K hX ⟨hpre, hRx⟩ hK
        simp only at hRx hK ⊢
        obtain ⟨Ax, cx, ex⟩ := Kd.R_slice hRx
        subst ex
        simp only [List.setIfInBounds_toArray, List.set_cons_zero, List.set_cons_succ] at hK ⊢
        refine Go.Proofs.QuietRound.region_list_round lp (fun ⟨_, _, h⟩ => h) (Go.Proofs.QuietRound.no_defers (by kernel_rfl)) ?_
        refine wpList_runAlloc rfl 34 rfl (ptr X.heap.size) (alloc34 _ X) ?_
        simp only [Act.put, List.setIfInBounds_toArray, List.set_cons_zero, List.set_cons_succ]
        refine wpList_store_row rfl 34 (.tmp 7) (.tmp 30) rfl X.heap.size [.slice Ax xk.length cx, .int .i64 xt, .int .i64 xb].toArray rfl rfl 34 [.slice none 0 0, .int .i64 0, .int .i64 0].toArray (heap_alloc_new X _) size34' rfl (by simp [Value.oneCell']) ?_
        simp only [Act.put, List.setIfInBounds_toArray, List.set_cons_zero, List.set_cons_succ]
        refine wpList_nil ?_
        have hra : Rt 34 X.heap.size [.slice none 0 0, .int .i64 0, .int .i64 0] (X.alloc (.cells [.slice none 0 0, .int .i64 0, .int .i64 0].toArray 34)) := heap_alloc_new X _
        exact hK X.heap.size _ (Nat.le_refl _) (hra.row [.slice Ax xk.length cx, .int .i64 xt, .int .i64 xb]) (below_setRow' (below_alloc (Below.refl _ _) _) (Nat.le_refl _) _)
      case body =>
        rintro lp pre ⟨xv, xk, xt, xb⟩ b7 X hb7 ⟨⟨v6, hv6, hR6⟩, hBX⟩ ⟨hpre, hRx⟩ hCur
        simp only at hRx ⊢
        obtain ⟨Ax, cx, ex⟩ := Kd.R_slice hRx
        subst ex
        simp only [List.setIfInBounds_toArray, List.set_cons_zero, List.set_cons_succ]
        obtain ⟨y, rfl, hy⟩ : ∃ y : Nat, xb = (y : Int) ∧ y ≤ 128 := by
          have hm : ((xk, xt, xb) : Ck) ∈ choicesL LP := List.IsPrefix.subset hpre (by simp [key])
          rcases choices_bytes LP _ hm with e | e
          · exact ⟨0, e, by decide⟩
          · exact ⟨64, e, by decide⟩
        have HY := Aside0.mk hy
        have HPRE := Aside0.mk hpre
        have HCUR := Aside0.mk hCur
        have HV6 := Aside0.mk hv6
        have HR6 := Aside0.mk hR6
        have HRX := Aside0.mk hRx
        have HB7 := Aside0.mk (show wc.heap.size < b7 by omega)
        have HBX := Aside0.mk hBX
        have HBXW := Aside0.mk (HB5.out.trans (hBX.mono HB5.out.size))
        have HKX := Aside0.mk (HK5.out.stay hBX)
        have HR3X := Aside0.mk (show Rt 25 b3 [ptr h.D] X from (hBX.block _ HR35.out.lt).trans HR35.out)
        have HCNT := Aside0.mk (fun W' (hb : Below X.heap.size X W') => (show Calls Tryd.prog 18 #[ptr h.D] W' fun e w' => e = .returned (.int .i64 (L : Int)) ∧ w' = W' from by
          have := count_at (HKX.out.stay hb)
          rwa [HOL.out] at this))
        have HAT := Aside0.mk (fun W' (hb : Below X.heap.size X W') => (show Calls Tryd.prog 15 #[ptr h.D, .int .i64 (L : Int), .agg #[.slice Ax xk.length cx, .int .i64 xt, .int .i64 (y : Int)]] W' fun e w' => ∃ g c', e = .returned (.tuple #[.slice (some ⟨g, 0, none⟩) 768 c', .int .i64 0]) ∧ Below W'.heap.size W' w' from by
          obtain ⟨A', c', e1, _, hC1⟩ := Kd.R_reads HRX.out
          injection e1 with e1 _ _
          subst e1
          refine (at_at (HKX.out.stay hb) (HF.out.below H0.out (HBXW.out.trans (hb.mono HBXW.out.size))) (by rw [HHN.out]; exact opsOf_ok puts) (Nat.lt_of_lt_of_le H0.out (HBXW.out.trans (hb.mono HBXW.out.size)).size) L (Nat.le_of_eq HOL.out.symm) _ xk.length cx xk xt y HY.out (Kd.C_below hC1 hb)).mono ?_
          rw [HHN.out]
          rintro e w' ⟨g, c', rfl, _, _, _, hb'⟩
          exact ⟨g, c', rfl, hb'⟩))
        have MKS := Aside0.mk (show ∀ w', Below X.heap.size X w' → w'.cell? ⟨b3, 0, none⟩ = some (ptr h.D) ∧ w'.cell? ⟨b7, 0, none⟩ = some (.slice Ax xk.length cx) ∧ w'.cell? ⟨b7, 1, none⟩ = some (.int .i64 xt) ∧ w'.cell? ⟨b7, 2, none⟩ = some (.int .i64 (y : Int)) from fun w' hb => by
          have r3 : Rt 25 b3 [ptr h.D] w' := (hb.block _ HR3X.out.lt).trans HR3X.out
          have r7 : Rt 34 b7 [.slice Ax xk.length cx, .int .i64 xt, .int .i64 (y : Int)] w' := (hb.block _ (show Rt 34 b7 _ X from HCUR.out).lt).trans HCUR.out
          exact ⟨r3.cell 0 _ rfl, r7.cell 0 _ rfl, r7.cell 1 _ rfl, r7.cell 2 _ rfl⟩)
        clear hpre hRx hCur hv6 hR6 hBX hb7 hy
        gi_wp2_with fail
        -- region 13
        refine Go.Proofs.QuietRound.region_held_round_np lp (S := fun w' => w'.cell? ⟨b3, 0, none⟩ = some (ptr h.D) ∧ w'.cell? ⟨b7, 0, none⟩ = some (.slice Ax xk.length cx) ∧ w'.cell? ⟨b7, 1, none⟩ = some (.int .i64 xt) ∧ w'.cell? ⟨b7, 2, none⟩ = some (.int .i64 (y : Int))) (by kernel_rfl) (Go.Proofs.QuietRound.no_defers (by kernel_rfl)) (MKS.out _ (below_drew (Below.refl _ _))) (fun hHeld => ?_)
        refine wpAnyH_take (i := 0) (oi := { dst := some 32, op := Op.load 25 (Operand.tmp 3), type := 25, pos := "outright.go:252", after := #[], guard := none }) (v := ?_) rfl (by kernel_rfl) (by kernel_rfl) (by kernel_rfl) (fun _ _ _ h => h) (Or.inl ⟨by rfl, ?_⟩) hHeld ?_
        rotate_left
        · intro w' hS; obtain ⟨hS0, hS1, hS2, hS3⟩ := hS; go_simp; all_goals (with_reducible rfl)
        (try simp only [Act.put, List.setIfInBounds_toArray, List.set_cons_zero, List.set_cons_succ])
        refine wpAnyH_take (i := 1) (oi := { dst := some 33, op := Op.load 25 (Operand.tmp 3), type := 25, pos := "outright.go:252", after := #[], guard := none }) (v := ?_) rfl (by kernel_rfl) (by kernel_rfl) (by kernel_rfl) (fun _ _ _ h => h) (Or.inl ⟨by rfl, ?_⟩) hHeld ?_
        rotate_left
        · intro w' hS; obtain ⟨hS0, hS1, hS2, hS3⟩ := hS; go_simp; all_goals (with_reducible rfl)
        (try simp only [Act.put, List.setIfInBounds_toArray, List.set_cons_zero, List.set_cons_succ])
        refine wpAnyH_take (i := 3) (oi := { dst := some 35, op := Op.load 34 (Operand.tmp 7), type := 34, pos := "outright.go:252", after := #[], guard := none }) (v := ?_) rfl (by kernel_rfl) (by kernel_rfl) (by kernel_rfl) (fun _ _ _ h => h) (Or.inl ⟨by rfl, ?_⟩) hHeld ?_
        rotate_left
        · intro w' hS; obtain ⟨hS0, hS1, hS2, hS3⟩ := hS; go_simp; all_goals (with_reducible rfl)
        (try simp only [Act.put, List.setIfInBounds_toArray, List.set_cons_zero, List.set_cons_succ])
        refine wpAnyH_ready (rs := [2]) (by kernel_rfl) (by simp) ?_
        refine AllReadyH.cons (o := { dst := some 34, op := Op.call { callee := Callee.value (Operand.func 18), args := #[Operand.tmp 33], argTypes := #[25] }, type := 3, pos := "outright.go:252", after := #[{ on := 1, ground := Ground.data }], guard := none }) rfl (fun K hK => ?_) AllReadyH.nil
        go_simp
        go_at_call 18
        refine (HCNT.out _ (below_drew (Below.refl _ _))).mono ?_
        rintro e w' ⟨rfl, hw⟩
        subst w'
        refine hK.out _ _ hHeld (fun hHeld => ?_)
        clear hK K
        (try simp only [Act.put, List.setIfInBounds_toArray, List.set_cons_zero, List.set_cons_succ])
        refine wpAnyH_ready (rs := [4]) (by kernel_rfl) (by simp) ?_
        refine AllReadyH.cons (o := { dst := some 36, op := Op.call { callee := Callee.value (Operand.func 15), args := #[Operand.tmp 32, Operand.tmp 34, Operand.tmp 35], argTypes := #[25, 3, 34] }, type := 31, pos := "outright.go:252", after := #[{ on := 0, ground := Ground.data }, { on := 2, ground := Ground.data }, { on := 3, ground := Ground.data }, { on := 2, ground := Ground.chain }], guard := none }) rfl (fun K hK => ?_) AllReadyH.nil
        go_simp
        go_at_call 15
        refine (HAT.out _ (below_drew (Below.refl _ _))).mono ?_
        rintro e Y ⟨gy, cy, rfl, hby⟩
        have HBY := Aside0.mk (show Below X.heap.size X Y from (below_drew (Below.refl _ _)).trans hby)
        clear hby
        refine hK.out _ _ (MKS.out _ HBY.out) (fun hHeld => ?_)
        clear hK K
        (try simp only [Act.put, List.setIfInBounds_toArray, List.set_cons_zero, List.set_cons_succ])
        refine wpAnyH_take (i := 5) (oi := { dst := some 31, op := Op.move (Operand.tmp 36), type := 31, pos := "outright.go:252", after := #[{ on := 4, ground := Ground.data }], guard := none }) (v := ?_) rfl (by kernel_rfl) (by kernel_rfl) (by kernel_rfl) (fun _ _ _ h => h) (Or.inl ⟨by rfl, ?_⟩) hHeld ?_
        rotate_left
        · intro w' hS; obtain ⟨hS0, hS1, hS2, hS3⟩ := hS; go_simp; all_goals (with_reducible rfl)
        (try simp only [Act.put, List.setIfInBounds_toArray, List.set_cons_zero, List.set_cons_succ])
        refine wpAnyH_take (i := 6) (oi := { dst := some 37, op := Op.extract (Operand.tmp 31) 0, type := 29, pos := "outright.go:252", after := #[{ on := 5, ground := Ground.data }], guard := none }) (v := ?_) rfl (by kernel_rfl) (by kernel_rfl) (by kernel_rfl) (fun _ _ _ h => h) (Or.inl ⟨by rfl, ?_⟩) hHeld ?_
        rotate_left
        · intro w' hS; obtain ⟨hS0, hS1, hS2, hS3⟩ := hS; go_simp; all_goals (with_reducible rfl)
        (try simp only [Act.put, List.setIfInBounds_toArray, List.set_cons_zero, List.set_cons_succ])
        refine wpAnyH_take (i := 7) (oi := { dst := some 38, op := Op.extract (Operand.tmp 31) 1, type := 30, pos := "outright.go:252", after := #[{ on := 5, ground := Ground.data }, { on := 8, ground := Ground.gcOnly Departure.lateStores }], guard := none }) (v := ?_) rfl (by kernel_rfl) (by kernel_rfl) (by kernel_rfl) (fun _ _ _ h => h) (Or.inl ⟨by rfl, ?_⟩) hHeld ?_
        rotate_left
        · intro w' hS; obtain ⟨hS0, hS1, hS2, hS3⟩ := hS; go_simp; all_goals (with_reducible rfl)
        (try simp only [Act.put, List.setIfInBounds_toArray, List.set_cons_zero, List.set_cons_succ])
        refine wpAnyH_take (i := 8) (oi := { dst := some 8, op := Op.assign (Operand.tmp 37), type := 29, pos := "outright.go:252", after := #[{ on := 6, ground := Ground.data }, { on := 4, ground := Ground.chain }, { on := 0, ground := Ground.phase }, { on := 1, ground := Ground.phase }, { on := 2, ground := Ground.phase }, { on := 3, ground := Ground.phase }, { on := 4, ground := Ground.phase }, { on := 5, ground := Ground.phase }, { on := 6, ground := Ground.phase }, { on := 7, ground := Ground.textOnly Departure.lateStores }], guard := none }) (v := ?_) rfl (by kernel_rfl) (by kernel_rfl) (by kernel_rfl) (fun _ _ _ h => h) (Or.inl ⟨by rfl, ?_⟩) hHeld ?_
        rotate_left
        · intro w' hS; obtain ⟨hS0, hS1, hS2, hS3⟩ := hS; go_simp; all_goals (with_reducible rfl)
        (try simp only [Act.put, List.setIfInBounds_toArray, List.set_cons_zero, List.set_cons_succ])
        refine wpAnyH_take (i := 9) (oi := { dst := some 9, op := Op.assign (Operand.tmp 38), type := 30, pos := "outright.go:252", after := #[{ on := 7, ground := Ground.data }, { on := 8, ground := Ground.chain }, { on := 0, ground := Ground.phase }, { on := 1, ground := Ground.phase }, { on := 2, ground := Ground.phase }, { on := 3, ground := Ground.phase }, { on := 4, ground := Ground.phase }, { on := 5, ground := Ground.phase }, { on := 6, ground := Ground.phase }, { on := 7, ground := Ground.phase }, { on := 8, ground := Ground.phase }], guard := none }) (v := ?_) rfl (by kernel_rfl) (by kernel_rfl) (by kernel_rfl) (fun _ _ _ h => h) (Or.inl ⟨by rfl, ?_⟩) hHeld ?_
        rotate_left
        · intro w' hS; obtain ⟨hS0, hS1, hS2, hS3⟩ := hS; go_simp; all_goals (with_reducible rfl)
        (try simp only [Act.put, List.setIfInBounds_toArray, List.set_cons_zero, List.set_cons_succ])
        refine wpAnyH_done (by kernel_rfl) ?_ _
        (try simp only [Act.put, List.setIfInBounds_toArray, List.set_cons_zero, List.set_cons_succ])
        refine Go.Proofs.QuietRound.Calm.normal ?_
        -- behind region 13
        obtain ⟨A6, c6, e6⟩ := Kd.R_slice HR6.out
        rw [List.length_map] at e6
        subst e6
        have HBXY := Aside0.mk (HBX.out.trans (HBY.out.mono HBX.out.size))
        have HV6Y := Aside0.mk (show Rt 57 wc.heap.size [.slice A6 pre.length c6] Y from (HBY.out.block _ HV6.out.lt).trans HV6.out)
        have HR6Y := Aside0.mk (Kd.R_below HR6.out HBY.out)
        have HRXY := Aside0.mk (Kd.R_below HRX.out HBY.out)
        have HCURY := Aside0.mk (show Rt 34 b7 [.slice Ax xk.length cx, .int .i64 xt, .int .i64 (y : Int)] Y from (HBY.out.block _ (show Rt 34 b7 _ X from HCUR.out).lt).trans HCUR.out)
        have HPL := Aside0.mk (show pre.length < 1000 from by
          have h1 := List.IsPrefix.length_le HPRE.out
          have h2 := choices_small LP HLP7.out
          rw [List.length_map, List.length_append, List.length_singleton] at h1
          omega)
        clear hHeld HCNT HAT MKS HR6 HRX HCUR HV6 HR3X HKX
        gi_wp2_with fail
        gi_loopw [10] (fun p wr => ∃ i : Nat, p = .int .i64 (i : Int) ∧ Aside0 (i ≤ pre.length) ∧ Aside0 (Below Y.heap.size Y wr)) (fun p _ => pre.length - (intOf p).toNat)
        case atStart => exact ⟨0, rfl, ⟨Nat.zero_le _⟩, ⟨Below.refl _ _⟩⟩
        case round =>
          obtain ⟨i, rfl, HI, HBr⟩ := hrel
          have c6r : wr.cell? ⟨wc.heap.size, 0, none⟩ = some (.slice A6 pre.length c6) := (show Rt 57 wc.heap.size [.slice A6 pre.length c6] wr from (HBr.out.block _ HV6Y.out.lt).trans HV6Y.out).cell 0 _ rfl
          by_cases ci : i < pre.length
          · have ci1 : decide ((i : Int) < (pre.length : Int)) = true := decide_eq_true (by omega)
            have ci2 : decide (i < pre.length) = true := decide_eq_true ci
            have hw1 : IntKind.i64.wrap ((i : Int) + 1) = ((i + 1 : Nat) : Int) := by rw [IntWalk.i64_in _ (by have := HPL.out; omega)]; omega
            obtain ⟨ck, hck⟩ : ∃ ck, (pre.map key)[i]? = some ck := ⟨_, List.getElem?_eq_getElem (by rw [List.length_map]; exact ci)⟩
            obtain ⟨go, Ak, ckp, rfl, hnc, hlk, hCk, g0, g1, g2⟩ := seen_at (Kd.R_below HR6Y.out HBr.out) i ck hck
            have HCK := Aside0.mk hCk
            have HLK := Aside0.mk hlk
            have hne : ck ≠ ((xk, xt, (y : Int)) : Ck) := fun e => by
              obtain ⟨rest, hrest⟩ := HPRE.out
              have hnd := choices_nodup LP HLP7.out
              rw [← hrest, List.map_append] at hnd
              have h1 := (List.nodup_append.1 (List.nodup_append.1 hnd).1).2.2 ck (List.mem_of_getElem? hck) ck (by rw [e]; simp [key])
              exact h1 rfl
            have MK2 := Aside0.mk (show ∀ w', Below wr.heap.size wr w' → w'.cell? ⟨wc.heap.size, 0, none⟩ = some (.slice (some ⟨go, 0, none⟩) pre.length c6) ∧ (w'.cell? ⟨go, i * 3, none⟩ = some (.slice Ak ck.1.length ckp) ∧ w'.cell? ⟨go, i * 3 + 1, none⟩ = some (.int .i64 ck.2.1) ∧ w'.cell? ⟨go, i * 3 + 2, none⟩ = some (.int .i64 ck.2.2)) ∧ w'.cell? ⟨b7, 0, none⟩ = some (.slice Ax xk.length cx) ∧ w'.cell? ⟨b7, 1, none⟩ = some (.int .i64 xt) ∧ w'.cell? ⟨b7, 2, none⟩ = some (.int .i64 (y : Int)) from fun w' hb => by
              have r7 : Rt 34 b7 [.slice Ax xk.length cx, .int .i64 xt, .int .i64 (y : Int)] w' := ((HBr.out.trans (hb.mono HBr.out.size)).block _ HCURY.out.lt).trans HCURY.out
              have hgo := World.block_lt_of_cell? _ _ g0
              exact ⟨(hb.cell (p := ⟨wc.heap.size, 0, none⟩) (World.block_lt_of_cell? _ _ c6r)).trans c6r, ⟨(hb.cell (p := ⟨go, i * 3, none⟩) hgo).trans g0, (hb.cell (p := ⟨go, i * 3 + 1, none⟩) hgo).trans g1, (hb.cell (p := ⟨go, i * 3 + 2, none⟩) hgo).trans g2⟩, r7.cell 0 _ rfl, r7.cell 1 _ rfl, r7.cell 2 _ rfl⟩)
            have HCR := Aside0.mk (fun W' (hb : Below wr.heap.size wr W') => (show Calls Tryd.prog 31 #[.agg #[.slice Ak ck.1.length ckp, .int .i64 ck.2.1, .int .i64 ck.2.2], .agg #[.slice Ax xk.length cx, .int .i64 xt, .int .i64 (y : Int)]] W' fun e w' => e = .returned (.bool false) ∧ Below W'.heap.size W' w' from by
              obtain ⟨A', c', e1, hl1, hC1⟩ := Kd.R_reads HRXY.out
              injection e1 with e1 _ e3
              subst e1 e3
              have hc := crashes_ok ck ((xk, xt, (y : Int)) : Ck) (by have := (Kd.reads_of_C (d := (0 : Int)) (h1 := fun _ => rfl) HCK.out).2.1; have h2 := HLK.out; exact keep_small LP HLP7.out HPRE.out hck)
              rw [decide_eq_false hne] at hc
              exact larderlaw06_crashes.calls (ck.1.length + 1) Ak ckp ck.1 ck.2.1 ck.2.2 _ cx xk xt (y : Int) false W' (Kd.C_below HCK.out hb) HLK.out (Kd.C_below hC1 (HBr.out.trans (hb.mono HBr.out.size))) hl1 hc))
            clear hCk hlk hne
            gi_wp2_with fail
            -- region 19
            refine Go.Proofs.QuietRound.region_held_round_np lp (S := fun w' => w'.cell? ⟨wc.heap.size, 0, none⟩ = some (.slice (some ⟨go, 0, none⟩) pre.length c6) ∧ (w'.cell? ⟨go, i * 3, none⟩ = some (.slice Ak ck.1.length ckp) ∧ w'.cell? ⟨go, i * 3 + 1, none⟩ = some (.int .i64 ck.2.1) ∧ w'.cell? ⟨go, i * 3 + 2, none⟩ = some (.int .i64 ck.2.2)) ∧ w'.cell? ⟨b7, 0, none⟩ = some (.slice Ax xk.length cx) ∧ w'.cell? ⟨b7, 1, none⟩ = some (.int .i64 xt) ∧ w'.cell? ⟨b7, 2, none⟩ = some (.int .i64 (y : Int))) (by kernel_rfl) (Go.Proofs.QuietRound.no_defers (by kernel_rfl)) (MK2.out _ (below_drew (Below.refl _ _))) (fun hHeld => ?_)
            refine wpAnyH_take (i := 0) (oi := { dst := some 47, op := Op.load 57 (Operand.tmp 6), type := 57, pos := "outright.go:257", after := #[], guard := none }) (v := ?_) rfl (by kernel_rfl) (by kernel_rfl) (by kernel_rfl) (fun _ _ _ h => h) (Or.inl ⟨by rfl, ?_⟩) hHeld ?_
            rotate_left
            · intro w' hS; obtain ⟨hS0, ⟨hS1, hS2, hS3⟩, hS4, hS5, hS6⟩ := hS; go_simp; all_goals (with_reducible rfl)
            (try simp only [Act.put, List.setIfInBounds_toArray, List.set_cons_zero, List.set_cons_succ])
            refine wpAnyH_take (i := 1) (oi := { dst := some 48, op := Op.move (Operand.tmp 10), type := 3, pos := "outright.go:257", after := #[], guard := none }) (v := ?_) rfl (by kernel_rfl) (by kernel_rfl) (by kernel_rfl) (fun _ _ _ h => h) (Or.inl ⟨by rfl, ?_⟩) hHeld ?_
            rotate_left
            · intro w' hS; obtain ⟨hS0, ⟨hS1, hS2, hS3⟩, hS4, hS5, hS6⟩ := hS; go_simp; all_goals (with_reducible rfl)
            (try simp only [Act.put, List.setIfInBounds_toArray, List.set_cons_zero, List.set_cons_succ])
            refine wpAnyH_take (i := 2) (oi := { dst := some 49, op := Op.indexAddr 57 (Operand.tmp 47) (Operand.tmp 48), type := 0, pos := "outright.go:257", after := #[{ on := 0, ground := Ground.data }, { on := 1, ground := Ground.data }], guard := none }) (v := ?_) rfl (by kernel_rfl) (by kernel_rfl) (by kernel_rfl) (fun _ _ _ h => h) (Or.inl ⟨by rfl, ?_⟩) hHeld ?_
            rotate_left
            · intro w' hS; obtain ⟨hS0, ⟨hS1, hS2, hS3⟩, hS4, hS5, hS6⟩ := hS; go_simp; all_goals (with_reducible rfl)
            (try simp only [Act.put, List.setIfInBounds_toArray, List.set_cons_zero, List.set_cons_succ])
            refine wpAnyH_take (i := 3) (oi := { dst := some 50, op := Op.load 34 (Operand.tmp 49), type := 34, pos := "outright.go:257", after := #[{ on := 2, ground := Ground.data }], guard := none }) (v := ?_) rfl (by kernel_rfl) (by kernel_rfl) (by kernel_rfl) (fun _ _ _ h => h) (Or.inl ⟨by rfl, ?_⟩) hHeld ?_
            rotate_left
            · intro w' hS; obtain ⟨hS0, ⟨hS1, hS2, hS3⟩, hS4, hS5, hS6⟩ := hS; go_simp; all_goals (with_reducible rfl)
            (try simp only [Act.put, List.setIfInBounds_toArray, List.set_cons_zero, List.set_cons_succ])
            refine wpAnyH_take (i := 4) (oi := { dst := some 51, op := Op.load 34 (Operand.tmp 7), type := 34, pos := "outright.go:257", after := #[], guard := none }) (v := ?_) rfl (by kernel_rfl) (by kernel_rfl) (by kernel_rfl) (fun _ _ _ h => h) (Or.inl ⟨by rfl, ?_⟩) hHeld ?_
            rotate_left
            · intro w' hS; obtain ⟨hS0, ⟨hS1, hS2, hS3⟩, hS4, hS5, hS6⟩ := hS; go_simp; all_goals (with_reducible rfl)
            (try simp only [Act.put, List.setIfInBounds_toArray, List.set_cons_zero, List.set_cons_succ])
            refine wpAnyH_ready (rs := [5]) (by kernel_rfl) (by simp) ?_
            refine AllReadyH.cons (o := { dst := some 52, op := Op.call { callee := Callee.value (Operand.func 31), args := #[Operand.tmp 50, Operand.tmp 51], argTypes := #[34, 34] }, type := 4, pos := "outright.go:257", after := #[{ on := 3, ground := Ground.data }, { on := 4, ground := Ground.data }], guard := none }) rfl (fun K hK => ?_) AllReadyH.nil
            go_simp
            go_at_call 31
            refine (HCR.out _ (below_drew (Below.refl _ _))).mono ?_
            rintro e Z ⟨rfl, hbz⟩
            have HBZ := Aside0.mk (show Below wr.heap.size wr Z from (below_drew (Below.refl _ _)).trans hbz)
            clear hbz
            refine hK.out _ _ (MK2.out _ HBZ.out) (fun hHeld => ?_)
            clear hK K
            (try simp only [Act.put, List.setIfInBounds_toArray, List.set_cons_zero, List.set_cons_succ])
            refine wpAnyH_done (by kernel_rfl) ?_ _
            (try simp only [Act.put, List.setIfInBounds_toArray, List.set_cons_zero, List.set_cons_succ])
            refine Go.Proofs.QuietRound.Calm.normal ?_
            -- behind region 19
            gi_wp2_with fail
            go_roundw
            case rel => exact ⟨i + 1, congrArg (Value.int .i64) (by omega), ⟨ci⟩, ⟨HBr.out.trans (HBZ.out.mono HBr.out.size)⟩⟩
            case measure => simp only [intOf]; omega
          · have ci1 : decide ((i : Int) < (pre.length : Int)) = false := decide_eq_false (by omega)
            have ci2 : decide (i < pre.length) = false := decide_eq_false ci
            have HB6r := Aside0.mk (show Rt 57 wc.heap.size [.slice A6 pre.length c6] wr from (HBr.out.block _ HV6Y.out.lt).trans HV6Y.out)
            have HR6r := Aside0.mk (Kd.R_below HR6Y.out HBr.out)
            have HRXr := Aside0.mk (Kd.R_below HRXY.out HBr.out)
            have HB7r := Aside0.mk (show Rt 34 b7 [.slice Ax xk.length cx, .int .i64 xt, .int .i64 (y : Int)] wr from (HBr.out.block _ HCURY.out.lt).trans HCURY.out)
            have HBXr := Aside0.mk (HBXY.out.trans (HBr.out.mono HBXY.out.size))
            have HKO := Aside0.mk (show Below X.heap.size X wr from HBY.out.trans (HBr.out.mono HBY.out.size))
            clear HV6Y HR6Y HRXY HCURY HBXY HI
            gi_upto_region 21 with fail
            refine Go.Proofs.QuietRound.region_list_round_np lp (Go.Proofs.QuietRound.no_defers (by kernel_rfl)) ?_
            have c6r := HB6r.out.cell 0 _ rfl
            have d0 := HB7r.out.cell 0 _ rfl
            have d1 := HB7r.out.cell 1 _ rfl
            have d2 := HB7r.out.cell 2 _ rfl
            refine Great.wpList_readTo rfl (some 53) rfl (.slice A6 pre.length c6) (by go_simp) ?_
            simp only [Act.put, List.setIfInBounds_toArray, List.set_cons_zero, List.set_cons_succ]
            refine Great.wpList_readTo rfl (some 54) rfl (.agg [.slice Ax xk.length cx, .int .i64 xt, .int .i64 (y : Int)].toArray) (by go_simp) ?_
            simp only [Act.put, List.setIfInBounds_toArray, List.set_cons_zero, List.set_cons_succ]
            refine step_slice rfl 57 1 #[(0, .tmp 54)] rfl (.slice (some ⟨wr.heap.size, 0, none⟩) 1 1) #[(0, .agg [.slice Ax xk.length cx, .int .i64 xt, .int .i64 (y : Int)].toArray)] (by rw [List.map_toArray]; rfl) (slice_op34 _ rfl wr) ?_
            simp only [Act.put, List.setIfInBounds_toArray, List.set_cons_zero, List.set_cons_succ]
            refine Kd.R_append k34 (w0 := wc) wc.heap.size rfl (.tmp 53) (.tmp 55) 57 34 (.agg #[.slice none 0 0, .int .i64 0, .int .i64 0]) 40 rfl Tryd.underlying57 info34 rfl (by decide) (by decide) (.slice A6 pre.length c6) (pre.map key) ((xk, xt, (y : Int)) : Ck) [.slice Ax xk.length cx, .int .i64 xt, .int .i64 (y : Int)] (fun _ => True) (fun k => (Value.slice Ax xk.length cx).ownBlock = some k) rfl rfl ?_ ?_ (fun _ _ => trivial) HR6r.out HBXr.out HBXr.out.size (by rw [List.length_map]; have := HPL.out; omega) ?_
            · exact ⟨[.slice Ax xk.length cx], [.int .i64 xt, .int .i64 (y : Int)], rfl, ⟨_, rfl, fun k hk => hk, HRXr.out.2⟩, ⟨[.int .i64 xt], [.int .i64 (y : Int)], rfl, rfl, rfl⟩⟩
            · intro k hk
              refine ⟨trivial, ?_⟩
              obtain ⟨_, _, _, q, hq, cells, hc⟩ := (Kd.R_bound HRXr.out).1 k hk
              have hq3 : q = 3 := by simpa [Kd.int, Kd.scalar] using hq
              subst hq3
              exact Kd.R_ne HR6r.out hc (by decide)
            intro v1 w1 ho hb hg hat
            have rt6 : Rt 57 wc.heap.size [.slice A6 pre.length c6] w1 := (hg.block _ HB6r.out.lt (Kd.R_ne HR6r.out HB6r.out (by decide))).trans HB6r.out
            have HRT := Aside0.mk rt6
            have HO := Aside0.mk ho
            have HW1 := Aside0.mk hb
            have HKP := Aside0.mk (show KeepsOthers X w1 from ((⟨HKO.out.size, fun k o hk _ => (HKO.out.block k (Array.getElem?_eq_some_iff.1 hk).1).trans hk⟩ : KeepsOthers X wr)).trans (KeepsOthers.of_grownBy hg (fun j o hj hk => by
              obtain ⟨_, _, _, q, _, cells, hc⟩ := (Kd.R_bound HR6r.out).1 j hj
              rw [hc] at hk
              obtain rfl := Option.some.inj hk
              rfl)))
            have HXW := Aside0.mk (show Below wc.heap.size X w1 from (HKO.out.mono HBX.out.size).trans ((Below.refl wc.heap.size wr).grown hg HBXr.out.size (fun k hk => ((Kd.R_bound HR6r.out).1 k hk).2.1)))
            obtain ⟨Av, cv, ev⟩ := Kd.R_slice ho
            rw [List.length_append, List.length_map, List.length_singleton] at ev
            subst ev
            have e6 := rt6.cell 0 _ rfl
            have f6 := rt6.free 0
            clear ho hb hg hat rt6 HR6r HB6r HRXr
            refine wpList_plain rfl (fun K hK => ?_)
            simp only [Act.put, List.setIfInBounds_toArray, List.set_cons_zero, List.set_cons_succ]
            go_simp
            refine hK _ _ (wpList_nil (Go.Proofs.QuietRound.Calm.normal ?_))
            rw [HRT.out.set 0]
            rw [show [Value.slice A6 pre.length c6].set 0 (.slice Av (pre.length + 1) cv) = [.slice Av (pre.length + 1) cv] from rfl]
            have HFIN := Aside0.mk (show Kd.R k34 34 (w1.setRow wc.heap.size [Value.slice Av (pre.length + 1) cv].toArray) wc.heap.size (fun _ => True) (.slice Av (pre.length + 1) cv) (pre.map key ++ [((xk, xt, (y : Int)) : Ck)]) from
              Kd.R_mono (Kd.R_step (Kd.R_types HO.out HRT.out e34) (fun j hj _ => setRow_other _ _ _ _ hj.2)) (fun _ _ => trivial))
            gi_wp2_with fail
            refine ⟨HKP.out.trans (KeepsOthers.of_setRow HRT.out _), below_setRow' HXW.out (Nat.le_refl _) _, ⟨_, HRT.out.row _, ?_⟩, below_setRow' HW1.out (Nat.le_refl _) _⟩
            rw [List.map_append]
            exact HFIN.out
      case done =>
        rintro D xs X hD hxs ⟨⟨v6, hv6, hR6⟩, hBX⟩ hKD
        obtain ⟨A6, c6, e6⟩ := Kd.R_slice hR6
        rw [hxs] at e6
        subst e6
        obtain ⟨M, hM⟩ : ∃ M, (choicesL LP).length = M := ⟨_, rfl⟩
        have HS := Aside0.mk (hM ▸ all_num LP HLP7.out)
        rw [hM] at hv6
        have r2 : Rt 4 b2 [.bool false] X := (hBX.block _ HR25.out.lt).trans HR25.out
        have HR2 := Aside0.mk r2
        have HBX := Aside0.mk hBX
        have HKD := Aside0.mk hKD
        have HD := Aside0.mk (show W.heap.size ≤ D from by have := HB5.out.size; omega)
        have x6 := hv6.cell 0 _ rfl
        have x2 := r2.cell 0 _ rfl
        have f2 := r2.free 0
        clear hR6 hv6 hxs hBX hKD hD r2 hM hfn
        go_wp2_with fail
        refine wp_region_noPanic ?_
        go_region_law (fail)
        rw [HS.out]
        refine NoPanic.normal ?_
        have hK' := (KeepsOthers.setCell X ⟨b2, 0, none⟩ (.bool true)).same D _ HKD.out rfl
        have hc9' := World.cell?_setCell_same' X ⟨b2, 0, none⟩ (.bool true) (by rw [x2]; rfl)
        have hB9 := (((HB5.out.trans (HBX.out.mono HB5.out.size)).setCell (p := ⟨b2, 0, none⟩) (by rw [← HB2E.out]; exact Nat.le_refl _) (.bool true)).trans (Below.refl _ _).drew)
        have hd' : (X.setCell ⟨b2, 0, none⟩ (.bool true)).drew.heap[D]? = some (.deferred (some [])) := hK'
        have hc9'' : (X.setCell ⟨b2, 0, none⟩ (.bool true)).drew.cell? ⟨b2, 0, none⟩ = some (.bool true) := hc9'
        generalize (X.setCell ⟨b2, 0, none⟩ (.bool true)).drew = Y at *
        have HB9 := Aside0.mk hB9
        have HD9 := Aside0.mk hd'
        have HC9 := Aside0.mk hc9''
        clear hK' hc9' hB9 hd' hc9'' x2 f2 x6
        go_wp2_with fail
        refine ⟨by simp, .inl ⟨_, _, rfl, run_takeDeferred HD9.out, ?_⟩⟩
        have hc9 := Go.cell_kept HC9.out (grownBy_putObj' _ D (.deferred none)) (fun r e => by cases e; exact ⟨_, HD9.out, rfl⟩)
        refine ⟨.bool true, ?_, rfl, HB9.out.trans (belowK_b (w := W) (Nat.le_refl _) _ D _ _ HD.out HD9.out rfl rfl)⟩
        simp [results, Tryd.f7, go_sem, hc9]
end Go.Proofs.YtpaonoaedjkekaaDoor.Dk
