/- What larderlaw06.DiskBack computes, walked: true. -/
import Derived.Test.YtpaonoaedjkekaaDoorDkSub
namespace Go.Proofs.YtpaonoaedjkekaaDoor.Dk
open Go Go.RowKit Go.Proofs.YtpaonoaedjkekaaDoor.PD Go.Proofs.YtpaonoaedjkekaaDoorW.PrintWords Go.Proofs.YtpaonoaedjkekaaDoorW.PrintLast Go.Proofs.YtpaonoaedjkekaaDoorW.PrintMore
set_option linter.unusedVariables false
set_option linter.unusedSimpArgs false
set_option maxHeartbeats 4000000
set_option maxRecDepth 100000
/-- Two rows of the same bytes are the same. -/
theorem bytes_at (xs : List Int) (hx : xs.length < 9223372036854775807) (A0 A1 : Option Addr) (n c0 c1 : Nat) (w : World) (hn : xs.length = n) (hr0 : Kd.C (Kd.int .u8) w A0 n xs) (hc0 : n ≤ c0) (hr1 : Kd.C (Kd.int .u8) w A1 n xs) (hc1 : n ≤ c1) :
    Calls Tryd.prog 26 #[.slice A0 n c0, .slice A1 n c1] w fun e w' => e = .returned (.bool true) ∧ ∃ m, w' = w.drewN m := by
  subst hn
  exact (larderlaw06_bytes.calls (xs.length + 1) A0 c0 xs A1 c1 xs true w hr0 hc0 hr1 hc1 (bytes_ok xs hx)).mono fun _ _ ⟨he, m, hm⟩ => ⟨he, m, hm⟩
theorem all_at (x : Int) (A0 : Option Addr) (c0 : Nat) (w : World) (hr0 : Kd.C (Kd.int .u8) w A0 128 (List.replicate 128 x)) (hc0 : 128 ≤ c0) :
    Calls Tryd.prog 24 #[.slice A0 128 c0, .int .u8 x] w fun e w' => e = .returned (.bool true) ∧ ∃ m, w' = w.drewN m := by
  have := larderlaw06_all.calls 129 A0 c0 (List.replicate 128 x) x true w (by rw [List.length_replicate]; exact hr0) (by rw [List.length_replicate]; exact hc0) (all_ok x)
  rw [List.length_replicate] at this
  exact this.mono fun _ _ ⟨he, m, hm⟩ => ⟨he, m, hm⟩
theorem full_at (x : Int) (w : World) : Calls Tryd.prog 28 #[.int .u8 x] w fun e w' => ∃ g c', e = .returned (.slice (some ⟨g, 0, none⟩) 128 c') ∧ Mem w' g (List.replicate 128 x) ∧ w.heap.size ≤ g ∧ 128 ≤ c' ∧ Below w.heap.size w w' := by
  refine (larderlaw06_full.calls 129 x _ w (full_ok x)).mono ?_
  rintro e w' ⟨v, rfl, hR, hb⟩
  obtain ⟨g, c', ev, hm, hB, _, hle⟩ := Mem.of_R hR (by rw [List.length_replicate]; decide)
  rw [List.length_replicate] at ev hle
  subst ev
  exact ⟨g, c', rfl, hm, hB, hle, hb⟩
theorem Mem.allN {W : World} {g : Nat} {xs : List Int} (h : Mem W g xs) {n : Nat} (hl : xs.length = n) (hn : n ≤ 9223372036854775807) : Kd.C (Kd.int .u8) W (some ⟨g, 0, none⟩) n xs := by
  subst hl; exact h.all hn
theorem padded_all {xs : List Int} {n : Nat} (h : xs.length = n) : padded xs n = xs := by
  unfold padded; rw [h, Nat.sub_self, List.replicate_zero, List.append_nil]
theorem size34 : (Tryd.prog.info? 34).map (·.size) = some 3 := by kernel_rfl
theorem step_load_row {P : Program} {ops : Array Oper} {o : Oper} {a : Act} {w : World} {K : Act → World → Prop} {Q : Exit → Act → World → Prop} {E : Prop} (hg : o.guard = none) (ty : TypeId) (x : Operand) (ho : o.op = .load ty x)
    (g : Nat) (hx : a.eval x = .pointer (some ⟨g, 0, none⟩)) (t : TypeId) (cs : Array Value) (fr : Nat × Nat) (d : TypeDesc) (hh : w.heap[g]? = some (.cells cs t fr))
    (hu : P.underlying ty = some d) (hd : (match d with | .struct _ | .array _ _ => true | _ => false) = true) (hi : (P.info? ty).map (·.size) = some cs.size)
    (h : K (a.put o.dst (.agg cs)) w) : if Region.wanted o (yielded ops a.tmps) = true then Oper.wp P o a w K Q else E := by
  rw [if_pos (by simp [Region.wanted, hg])]
  exact wp_load_row ty x ho g hx t cs fr d hh hu hd hi h
theorem at_one (im : List Int) (q : List Int) : atL im [((5 : Int), q)] 1 [] (-1) 0 = im := by
  have e : looseN [((5 : Int), q)] 1 = 0 := by
    unfold looseN
    rw [if_neg (by intro e; have := congrArg (Option.map Prod.fst) e; simp [flushOp] at this)]
    rfl
  unfold atL
  rw [e]
  simp [crashL, layC, behindL]
theorem sector_put (im q : List Int) (hl : im.length = 768) (hq : q.length = 128) : sectorL (im.take 640 ++ q ++ im.drop 768) 5 = q := by
  unfold sectorL
  rw [List.append_assoc, List.drop_append, List.drop_of_length_le (by rw [List.length_take]; omega), List.nil_append, List.length_take, hl, show 128 * 5 - min 640 768 = 0 from rfl, List.drop_zero, List.take_append, List.take_of_length_le (by omega), hq, Nat.sub_self, List.take_zero, List.append_nil]
theorem back_walk (A : Option Addr) (n c : Nat) (puts0 : List S37) (n0 : Int) (Ak : Option Addr) (mk ck : Nat) (torn y0 : Int) (keep : List Int) (b : Int) (W : World) (hC0 : Kd.C k37 W A n puts0) (hP0 : Puts puts0) (hc : n ≤ c)
    (hn0 : (Lit.int .i64 n0).wf = true) (hCk : Kd.C (Kd.int .i64) W Ak mk keep) (hkb : ∀ v ∈ keep, (Lit.int .i64 v).wf = true) (hkc : mk ≤ ck) (ht0 : (Lit.int .i64 torn).wf = true) (hh0 : (Lit.int .i64 y0).wf = true) (hb0 : (Lit.int .u8 b).wf = true) (hF : Fl W) (h0 : 0 < W.heap.size) :
    Calls Tryd.prog 5 #[.slice A n c, .int .i64 n0, .agg #[.slice Ak mk ck, .int .i64 torn, .int .i64 y0], .int .u8 b] W fun e w' => e = .returned (.bool true) ∧ Below W.heap.size W w' := by
  have hC1 := C_take37 hC0 (min n 300) (Nat.min_le_left _ _)
  have hP1 := hP0.take (min n 300)
  obtain ⟨L, hL⟩ : ∃ L, min n 300 = L := ⟨_, rfl⟩
  obtain ⟨puts, hputs⟩ : ∃ puts, puts0.take L = puts := ⟨_, rfl⟩
  rw [hL, hputs] at hC1 hP1
  have hlen : puts.length = L := Kd.C_len hC1
  have hL3 : L ≤ 300 := by omega
  have hLc : L ≤ c := by omega
  have HC := Aside0.mk (show Kd.C k37 W A puts.length puts by rw [hlen]; exact hC1)
  have HP := Aside0.mk hP1
  have HL := Aside0.mk hL
  have HLEN := Aside0.mk hlen
  have HL3 := Aside0.mk hL3
  have HLC := Aside0.mk hLc
  have HCC := Aside0.mk hc
  have HF := Aside0.mk hF
  have H0 := Aside0.mk h0
  have HCK := Aside0.mk hCk
  obtain ⟨N, hN⟩ : ∃ N, modw n0 L = N := ⟨_, rfl⟩
  have hNL : N ≤ L := hN ▸ modw_le n0 L
  have WN := within_to n0 L (by omega) (bounds_i64 hn0)
  rw [hN] at WN
  obtain ⟨y, hy⟩ : ∃ y, modw y0 128 = y := ⟨_, rfl⟩
  have hy8 : y ≤ 128 := hy ▸ modw_le y0 128
  have WY := within_to y0 128 (by decide) (bounds_i64 hh0)
  rw [hy] at WY
  have HWN := Aside0.mk WN
  have HWY := Aside0.mk WY
  have HNL := Aside0.mk hNL
  have HY8 := Aside0.mk hy8
  clear hC0 hP0 hC1 hP1 hputs hL hlen hL3 hLc hc hF h0 hCk hkb hN hNL WN hy hy8 WY hn0 ht0 hh0 hb0
  go_enter Tryd.func5, Tryd.ntmps5
  go_upto_region 1 with fail
  have hr6 : Rt 34 W.heap.size [.slice Ak mk ck, .int .i64 torn, .int .i64 y0] (W.alloc (.cells #[.slice Ak mk ck, .int .i64 torn, .int .i64 y0] 34)) := heap_alloc_new W _
  have hb1 : Below W.heap.size W (W.alloc (.cells #[.slice Ak mk ck, .int .i64 torn, .int .i64 y0] 34)) := below_alloc (Below.refl _ _) _
  obtain ⟨b6, hb6e⟩ : ∃ b6, W.heap.size = b6 := ⟨_, rfl⟩
  have HB6E := Aside0.mk hb6e
  rw [hb6e] at hr6
  rw [hb6e]
  generalize W.alloc (.cells #[.slice Ak mk ck, .int .i64 torn, .int .i64 y0] 34) = w1 at *
  have HR1 := Aside0.mk hr6
  have HB1 := Aside0.mk hb1
  have d2 := hr6.cell 2 _ rfl
  clear hr6 hb1 hb6e
  go_wp2_with (go_at_call 11; refine (few_at A n c HCC.out _).mono ?_; rw [HL.out]; rintro e w' ⟨rfl, hw⟩; subst w')
  go_at_call 13
  refine (larderlaw06_within.calls y0 0 128 (y : Int) w1 HWY.out).mono ?_
  rintro e w' ⟨rfl, d1, rfl⟩
  have HR2 := Aside0.mk (show Rt 34 b6 [.slice Ak mk ck, .int .i64 torn, .int .i64 y0] (w1.drewN d1) from HR1.out)
  have c2 := HR2.out.cell 2 _ rfl
  have f2 := HR2.out.free 2
  have HB2 := Aside0.mk (HB1.out.trans ((pw_below_drewN (Below.refl _ _) d1).mono HB1.out.size))
  clear HR1 HB1 d2
  generalize w1.drewN d1 = w2 at *
  go_upto_region 3 with fail
  rw [HR2.out.set 2]
  have HR3 := Aside0.mk (show Rt 34 b6 [.slice Ak mk ck, .int .i64 torn, .int .i64 (y : Int)] (w2.setRow b6 [.slice Ak mk ck, .int .i64 torn, .int .i64 (y : Int)].toArray) from HR2.out.row _)
  have HB3 := Aside0.mk (below_setRow' HB2.out (Nat.le_of_eq HB6E.out) [.slice Ak mk ck, .int .i64 torn, .int .i64 (y : Int)].toArray)
  clear c2 f2 HR2 HB2
  rw [show [Value.slice Ak mk ck, .int .i64 torn, .int .i64 y0].set 2 (.int .i64 (y : Int)) = [.slice Ak mk ck, .int .i64 torn, .int .i64 (y : Int)] from rfl]
  generalize w2.setRow b6 [.slice Ak mk ck, .int .i64 torn, .int .i64 (y : Int)].toArray = w3 at *
  have hla := laid_at A c puts w3 (Kd.C_below HC.out HB3.out) HP.out (by rw [HLEN.out]; exact HL3.out) (HF.out.below H0.out HB3.out) (Nat.lt_of_lt_of_le H0.out HB3.out.size)
  rw [HLEN.out] at hla
  go_wp2_with fail
  go_at_call 12
  refine hla.mono ?_
  rintro e w4 ⟨h, A1, c1, rfl, hhn, hk, hb⟩
  have HHN := Aside0.mk hhn
  have HK4 := Aside0.mk hk
  have HB4 := Aside0.mk (HB3.out.trans (hb.mono HB3.out.size))
  have HR4 := Aside0.mk (show Rt 34 b6 [.slice Ak mk ck, .int .i64 torn, .int .i64 (y : Int)] w4 from (hb.block _ HR3.out.lt).trans HR3.out)
  have HCK4 := Aside0.mk (Kd.C_below HCK.out (HB3.out.trans (hb.mono HB3.out.size)))
  have HB34 := Aside0.mk (show W.heap.size ≤ w3.heap.size ∧ w3.heap.size ≤ w4.heap.size from ⟨HB3.out.size, hb.size⟩)
  clear hla hhn hk hb HR3
  go_upto_region 6 with fail
  obtain ⟨im, him⟩ : ∃ im, atL blank (opsOf puts) N keep torn y = im := ⟨_, rfl⟩
  have HIL := Aside0.mk (show im.length = 768 from by rw [← him]; exact (at_img puts N (by have := HLEN.out; have := HNL.out; omega) keep torn y HY8.out).1)
  have hAT : ∀ W', Below w4.heap.size w4 W' → Calls Tryd.prog 15 #[ptr h.D, .int .i64 (N : Int), .agg #[.slice Ak mk ck, .int .i64 torn, .int .i64 (y : Int)]] W' fun e w' => ∃ g c', e = .returned (.tuple #[.slice (some ⟨g, 0, none⟩) 768 c', .int .i64 0]) ∧ Mem w' g im ∧ W'.heap.size ≤ g ∧ 768 ≤ c' ∧ Below W'.heap.size W' w' := fun W' hb => by
    have := at_at (HK4.out.stay hb) (HF.out.below H0.out (HB4.out.trans (hb.mono HB4.out.size))) (by rw [HHN.out]; exact opsOf_ok puts) (Nat.lt_of_lt_of_le H0.out (HB4.out.trans (hb.mono HB4.out.size)).size) N (by rw [opsOf_len]; have := HLEN.out; have := HNL.out; omega) Ak mk ck keep torn y HY8.out (Kd.C_below HCK4.out hb)
    rwa [HHN.out, him] at this
  have HAT := Aside0.mk hAT
  clear hAT him
  go_cut [10, 11] from 32 to 41 (fun v10 v11 wc => ∃ g cg, v10 = .slice (some ⟨g, 0, none⟩) 768 cg ∧ v11 = .int .i64 0 ∧ Aside0 (Mem wc g im) ∧ Aside0 (768 ≤ cg) ∧ Aside0 (Below w4.heap.size w4 wc))
  case first =>
    have c0 := HR4.out.cell 0 _ rfl
    have c1 := HR4.out.cell 1 _ rfl
    have c2 := HR4.out.cell 2 _ rfl
    go_region_law (first
      | (go_simp; go_at_call 13; refine (larderlaw06_within.calls n0 0 (L : Int) (N : Int) _ HWN.out).mono ?_; rintro e w' ⟨rfl, dd, rfl⟩)
      | (go_simp; go_at_call 15; refine (HAT.out _ (pw_below_drewN (Below.refl _ _) _)).mono ?_; rintro e w7 ⟨g, cg, rfl, hM7, hg7, hcg, hb7⟩; have HRS := Aside0.mk (And.intro hM7 (And.intro hcg (show Below w4.heap.size w4 w7 from (pw_below_drewN (Below.refl _ _) _).trans hb7))); clear hM7 hg7 hcg hb7))
    all_goals
      go_wp2_with fail
      go_meet
      case rel => exact ⟨g, cg, rfl, rfl, ⟨HRS.out.1⟩, ⟨HRS.out.2.1⟩, ⟨HRS.out.2.2⟩⟩
  case rest =>
    obtain ⟨g, cg, rfl, rfl, HM5, HCG, HB5⟩ := hcut
    have HK5 := Aside0.mk (HK4.out.stay HB5.out)
    have hlb : (behindL blank (opsOf puts)).length = 768 := (behind_img puts).1
    have HLB := Aside0.mk hlb
    clear hlb HAT HR4
    go_wp2_with fail
    go_at_call 20
    refine (image_at HK5.out).mono ?_
    rintro e w6 ⟨gw, cw, rfl, hm, hg, hcw, hb⟩
    rw [HHN.out] at hcw
    have HM6 := Aside0.mk (HM5.out.below hb)
    have HW6 := Aside0.mk hm
    have HCW := Aside0.mk hcw
    have HB6 := Aside0.mk (HB5.out.trans (hb.mono HB5.out.size))
    have HK6 := Aside0.mk (HK5.out.stay hb)
    clear hm hg hcw hb HK5 HB5 HM5
    rw [HHN.out]
    go_wp2_with fail
    go_at_call 25
    refine (new_at (some ⟨g, 0, none⟩) 768 cg 6 im w6 (HM6.out.allN HIL.out (by decide)) (by decide) (by decide) (by decide)).mono ?_
    rintro e w7 ⟨x, rfl, hxn, hx, hb⟩
    have hxn : x.n = 768 := hxn
    rw [show 128 * 6 = 768 from rfl, padded_all HIL.out] at hx
    have HXN := Aside0.mk hxn
    have HX7 := Aside0.mk (show DkAt x w6.heap.size im im (.slice none ([] : List (Int × List Int)).length 0) [] w7 from hx)
    have HB7 := Aside0.mk hb
    clear hxn hx hb
    have HB67 := HB7
    go_wp2_with fail
    go_at_call 20
    refine (image_at HX7.out).mono ?_
    rintro e w8 ⟨gx, cx, rfl, hm, hg, hcx, hb⟩
    rw [HXN.out] at hcx ⊢
    have HB8 := Aside0.mk (HB7.out.trans (hb.mono HB7.out.size))
    have HX8 := Aside0.mk (HX7.out.stay hb)
    have HCX := Aside0.mk hcx
    have HMX := Aside0.mk hm
    clear hm hg hcx hb HB7 HX7 HB67
    go_wp2_with fail
    go_at_call 26
    refine (bytes_at im (by rw [HIL.out]; decide) _ _ 768 _ _ w8 HIL.out (HMX.out.allN HIL.out (by decide)) HCX.out ((HM6.out.below HB8.out).allN HIL.out (by decide)) HCG.out).mono ?_
    rintro e w' ⟨rfl, q9, rfl⟩
    have hb : Below w8.heap.size w8 (w8.drewN q9) := pw_below_drewN (Below.refl _ _) q9
    have HB9 := Aside0.mk (HB8.out.trans (hb.mono HB8.out.size))
    have HX9 := Aside0.mk (HX8.out.stay hb)
    clear hb HB8 HX8 HMX HCX
    generalize w8.drewN q9 = w9 at *
    have HBW6 := Aside0.mk (show Below W.heap.size W w6 from HB4.out.trans (HB6.out.mono HB4.out.size))
    go_wp2_with fail
    go_at_call 21
    refine (durable_at HX9.out (HF.out.below H0.out (HBW6.out.trans (HB9.out.mono HBW6.out.size))) (fun op ho => (by cases ho)) (Nat.lt_of_lt_of_le H0.out (HBW6.out.trans (HB9.out.mono HBW6.out.size)).size)).mono ?_
    rintro e w10 ⟨gd, cd, rfl, hm, hg, hcd, hb⟩
    rw [HXN.out] at hcd ⊢
    have hm : Mem w10 gd im := hm
    have HB10 := Aside0.mk (HB9.out.trans (hb.mono HB9.out.size))
    have HX10 := Aside0.mk (HX9.out.stay hb)
    have HCD := Aside0.mk hcd
    have HMD := Aside0.mk hm
    clear hm hg hcd hb HB9 HX9
    go_wp2_with fail
    go_at_call 26
    refine (bytes_at im (by rw [HIL.out]; decide) _ _ 768 _ _ w10 HIL.out (HMD.out.allN HIL.out (by decide)) HCD.out ((HM6.out.below HB10.out).allN HIL.out (by decide)) HCG.out).mono ?_
    rintro e w' ⟨rfl, q11, rfl⟩
    have hb : Below w10.heap.size w10 (w10.drewN q11) := pw_below_drewN (Below.refl _ _) q11
    have HB11 := Aside0.mk (HB10.out.trans (hb.mono HB10.out.size))
    have HX11 := Aside0.mk (HX10.out.stay hb)
    clear hb HB10 HX10 HMD HCD
    generalize w10.drewN q11 = w11 at *
    have HCN := Aside0.mk (show Calls Tryd.prog 18 #[ptr x.D] w11 fun e w' => e = .returned (.int .i64 0) ∧ w' = w11 from count_at HX11.out)
    go_wp2_with (go_at_call 18; with_reducible refine HCN.out.mono ?_; rintro e w' ⟨rfl, hw⟩; subst w')
    clear HCN
    go_at_call 28
    refine (full_at b w11).mono ?_
    rintro e w12 ⟨gb, cb, rfl, hmb, hgb, hcb, hb⟩
    have HB12 := Aside0.mk (HB11.out.trans (hb.mono HB11.out.size))
    have HX12 := Aside0.mk (HX11.out.stay hb)
    have HMB := Aside0.mk (show ∀ W', Kept w12 W' (Own x (.slice none ([] : List (Int × List Int)).length 0)) → Kd.C (Kd.int .u8) W' (some ⟨gb, 0, none⟩) 128 (List.replicate 128 b) from fun W' hk =>
      (hmb.move (hk.2 gb hmb.lt (fun ho => by have := (HX11.out.own_lt gb ho).2; omega))).allN (List.length_replicate ..) (by decide))
    clear hmb hgb hcb hb HX11 HB11
    go_wp2_with fail
    go_at_call 27
    refine (write_at HX12.out 5 (List.replicate 128 b) HMB.out (by rw [HXN.out]; decide) (by decide)).mono ?_
    rintro e w13 ⟨rfl, A', c', hx, hkp, hb, _⟩
    have HX13 := Aside0.mk (show DkAt x w6.heap.size im (im.take 640 ++ List.replicate 128 b ++ im.drop 768) (.slice A' [((5 : Int), List.replicate 128 b)].length c') [((5 : Int), List.replicate 128 b)] w13 from hx)
    have HB13 := Aside0.mk (HB12.out.trans hb)
    clear hx hkp hb HMB HX12 HB12
    go_wp2_with fail
    have hat : Calls Tryd.prog 15 #[ptr x.D, .int .i64 1, .agg #[.slice none 0 0, .int .i64 (-1), .int .i64 0]] w13 fun e w' => ∃ g c', e = .returned (.tuple #[.slice (some ⟨g, 0, none⟩) 768 c', .int .i64 0]) ∧ Mem w' g im ∧ w13.heap.size ≤ g ∧ 768 ≤ c' ∧ Below w13.heap.size w13 w' := by
      have := at_at HX13.out (HF.out.below H0.out (HBW6.out.trans (HB13.out.mono HBW6.out.size))) (fun op ho => by
        obtain rfl := List.mem_singleton.1 ho
        exact ⟨List.length_replicate .., .inr ⟨5, rfl, by rw [HXN.out]; decide⟩⟩) (Nat.lt_of_lt_of_le H0.out (HBW6.out.trans (HB13.out.mono HBW6.out.size)).size) 1 (Nat.le_refl _) none 0 0 [] (-1) 0 (by decide) (Kd.C_nil _ _)
      rw [at_one, HXN.out] at this
      exact this
    have HAT := Aside0.mk hat
    clear hat
    go_at_call 15
    refine HAT.out.mono ?_
    rintro e w14 ⟨gy, cy, rfl, hm, hg, hcy, hb⟩
    have HB14 := Aside0.mk (HB13.out.trans (hb.mono HB13.out.size))
    have HX14 := Aside0.mk (HX13.out.stay hb)
    have HMY := Aside0.mk hm
    have HCY := Aside0.mk hcy
    clear hm hg hcy hb HB13 HX13 HAT
    go_wp2_with fail
    go_at_call 23
    refine (read_at HX14.out 5 (by rw [HXN.out]; decide)).mono ?_
    rw [sector_put im _ HIL.out (List.length_replicate ..)]
    rintro e w15 ⟨gp, cp, rfl, hm, hg, hcp, hb⟩
    have HB15 := Aside0.mk (HB14.out.trans (hb.mono HB14.out.size))
    have HX15 := Aside0.mk (HX14.out.stay hb)
    have HMY15 := Aside0.mk (HMY.out.below hb)
    have HMP := Aside0.mk hm
    have HCP := Aside0.mk hcp
    clear hm hg hcp hb HB14 HX14 HMY
    go_wp2_with fail
    go_at_call 23
    refine (read_at (HK6.out.stay HB15.out) 5 (by rw [HHN.out]; decide)).mono ?_
    obtain ⟨z, hz⟩ : ∃ z, lastB puts 5 = z := ⟨_, rfl⟩
    rw [sector_one (behind_img puts) 5 (by decide) z (fun _ _ => hz)]
    rintro e w16 ⟨gq, cq, rfl, hm, hg, hcq, hb⟩
    have HZ := Aside0.mk hz
    have HB16 := Aside0.mk (HB15.out.trans (hb.mono HB15.out.size))
    have HX16 := Aside0.mk (HX15.out.stay hb)
    have HMY16 := Aside0.mk (HMY15.out.below hb)
    have HMP16 := Aside0.mk (HMP.out.below hb)
    have HMQ := Aside0.mk hm
    have HCQ := Aside0.mk hcq
    clear hm hg hcq hb hz HB15 HX15 HMY15 HMP
    go_wp2_with fail
    go_at_call 26
    refine (bytes_at im (by rw [HIL.out]; decide) _ _ 768 _ _ w16 HIL.out (HMY16.out.allN HIL.out (by decide)) HCY.out ((HM6.out.below HB16.out).allN HIL.out (by decide)) HCG.out).mono ?_
    rintro e w' ⟨rfl, q17, rfl⟩
    have hb : Below w16.heap.size w16 (w16.drewN q17) := pw_below_drewN (Below.refl _ _) q17
    have HB17 := Aside0.mk (HB16.out.trans (hb.mono HB16.out.size))
    have HX17 := Aside0.mk (HX16.out.stay hb)
    have HMP17 := Aside0.mk (HMP16.out.below hb)
    have HMQ17 := Aside0.mk (HMQ.out.below hb)
    clear hb HB16 HX16 HMY16 HMP16 HMQ
    generalize w16.drewN q17 = w17 at *
    go_wp2_with fail
    go_at_call 24
    refine (all_at b _ _ w17 (HMP17.out.allN (List.length_replicate ..) (by decide)) HCP.out).mono ?_
    rintro e w' ⟨rfl, q18, rfl⟩
    have hb : Below w17.heap.size w17 (w17.drewN q18) := pw_below_drewN (Below.refl _ _) q18
    have HB18 := Aside0.mk (HB17.out.trans (hb.mono HB17.out.size))
    have HX18 := Aside0.mk (HX17.out.stay hb)
    have HMQ18 := Aside0.mk (HMQ17.out.below hb)
    clear hb HB17 HX17 HMP17 HMQ17
    generalize w17.drewN q18 = w18 at *
    have hq16 := larderlaw06_lastOf.calls (puts.length + 1) A c puts 5 z w18 (Kd.C_below HC.out (HBW6.out.trans (HB18.out.mono HBW6.out.size))) (by rw [HLEN.out]; exact HLC.out) (by rw [← HZ.out]; exact lastOf_ok puts HP.out (by have := HLEN.out; have := HL3.out; omega) 5)
    rw [HLEN.out] at hq16
    go_wp2_with fail
    go_at_call 16
    refine hq16.mono ?_
    rintro e w' ⟨rfl, q19, rfl⟩
    have hb : Below w18.heap.size w18 (w18.drewN q19) := pw_below_drewN (Below.refl _ _) q19
    have HB19 := Aside0.mk (HB18.out.trans (hb.mono HB18.out.size))
    have HX19 := Aside0.mk (HX18.out.stay hb)
    have HMQ19 := Aside0.mk (HMQ18.out.below hb)
    clear hb hq16 HB18 HX18 HMQ18
    generalize w18.drewN q19 = w19 at *
    go_wp2_with fail
    go_at_call 24
    refine (all_at z _ _ w19 (HMQ19.out.allN (List.length_replicate ..) (by decide)) HCQ.out).mono ?_
    rintro e w' ⟨rfl, q20, rfl⟩
    have hb : Below w19.heap.size w19 (w19.drewN q20) := pw_below_drewN (Below.refl _ _) q20
    have HB20 := Aside0.mk (HB19.out.trans (hb.mono HB19.out.size))
    have HX20 := Aside0.mk (HX19.out.stay hb)
    clear hb HB19 HX19 HMQ19
    generalize w19.drewN q20 = w20 at *
    go_wp2_with fail
    go_at_call 20
    refine (image_at (HK6.out.stay HB20.out)).mono ?_
    rintro e w21 ⟨gz, cz, rfl, hm, hg, hcz, hb⟩
    rw [HHN.out] at hcz ⊢
    have HB21 := Aside0.mk (HB20.out.trans (hb.mono HB20.out.size))
    have HX21 := Aside0.mk (HX20.out.stay hb)
    have HCZ := Aside0.mk hcz
    have HMZ := Aside0.mk hm
    clear hm hg hcz hb HB20 HX20
    go_wp2_with fail
    go_at_call 26
    refine (bytes_at (behindL blank (opsOf puts)) (by rw [HLB.out]; decide) _ _ 768 _ _ w21 HLB.out (HMZ.out.allN HLB.out (by decide)) HCZ.out ((HW6.out.below HB21.out).allN HLB.out (by decide)) HCW.out).mono ?_
    rintro e w' ⟨rfl, q22, rfl⟩
    have hb : Below w21.heap.size w21 (w21.drewN q22) := pw_below_drewN (Below.refl _ _) q22
    have HB22 := Aside0.mk (HB21.out.trans (hb.mono HB21.out.size))
    have HX22 := Aside0.mk (HX21.out.stay hb)
    clear hb HB21 HX21 HMZ
    generalize w21.drewN q22 = w22 at *
    have HCN := Aside0.mk (show Calls Tryd.prog 18 #[ptr h.D] w22 fun e w' => e = .returned (.int .i64 (L : Int)) ∧ w' = w22 from by
      have := count_at (HK6.out.stay HB22.out)
      rwa [opsOf_len, HLEN.out] at this)
    have HCX := Aside0.mk (show Calls Tryd.prog 18 #[ptr x.D] w22 fun e w' => e = .returned (.int .i64 1) ∧ w' = w22 from count_at HX22.out)
    have HNE := Aside0.mk (show h.D ≠ x.D from by have := HK6.out.row.lt; have := HX22.out.bd; omega)
    go_wp2_with (first
      | (go_at_call 18; with_reducible refine HCN.out.mono ?_; rintro e w' ⟨rfl, hw⟩; subst w')
      | (go_at_call 18; refine HCX.out.mono ?_; rintro e w' ⟨rfl, hw⟩; subst w'))
    go_ret
    exact ⟨rfl, HBW6.out.trans (HB22.out.mono HBW6.out.size)⟩
end Go.Proofs.YtpaonoaedjkekaaDoor.Dk
