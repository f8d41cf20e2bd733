/- What larderlaw06.DiskStays computes, walked: true. -/
import Derived.Test.YtpaonoaedjkekaaDoorDkStP
import Derived.Deep.RegionHeld3
namespace Go.Proofs.YtpaonoaedjkekaaDoor.Dk
open Go Go.RowKit Go.Proofs.YtpaonoaedjkekaaDoor.PD Go.Proofs.YtpaonoaedjkekaaDoorW.PrintWords Go.Proofs.YtpaonoaedjkekaaDoorW.PrintLast Go.Proofs.YtpaonoaedjkekaaDoorW.PrintMore
set_option linter.unusedVariables false
set_option linter.unusedSimpArgs false
set_option maxHeartbeats 4000000
set_option maxRecDepth 100000
theorem stays_walk (A : Option Addr) (n c : Nat) (puts0 : List S37) (E : Option Addr) (m d : Nat) (more0 : List S37) (n0 : Int) (Ak : Option Addr) (mk ck : Nat) (torn y0 : Int) (keep : List Int) (W : World) (hC0 : Kd.C k37 W A n puts0) (hP0 : Puts puts0) (hc : n ≤ c)
    (hE0 : Kd.C k37 W E m more0) (hQ0 : Puts more0) (hd : m ≤ d)
    (hn0 : (Lit.int .i64 n0).wf = true) (hCk : Kd.C (Kd.int .i64) W Ak mk keep) (hkb : ∀ v ∈ keep, (Lit.int .i64 v).wf = true) (hkc : mk ≤ ck) (ht0 : (Lit.int .i64 torn).wf = true) (hh0 : (Lit.int .i64 y0).wf = true) (hF : Fl W) (h0 : 0 < W.heap.size) :
    Calls Tryd.prog 6 #[.slice A n c, .slice E m d, .int .i64 n0, .agg #[.slice Ak mk ck, .int .i64 torn, .int .i64 y0]] W fun e w' => e = .returned (.bool true) ∧ Below W.heap.size W w' := by
  have hC1 := C_take37 hC0 (min n 300) (Nat.min_le_left _ _)
  have hP1 := hP0.take (min n 300)
  obtain ⟨L, hL⟩ : ∃ L, min n 300 = L := ⟨_, rfl⟩
  obtain ⟨puts, hputs⟩ : ∃ puts, puts0.take L = puts := ⟨_, rfl⟩
  rw [hL, hputs] at hC1 hP1
  have hlen : puts.length = L := Kd.C_len hC1
  have hE1 := C_take37 hE0 (min m 300) (Nat.min_le_left _ _)
  have hQ1 := hQ0.take (min m 300)
  obtain ⟨M, hM⟩ : ∃ M, min m 300 = M := ⟨_, rfl⟩
  obtain ⟨more, hmore⟩ : ∃ more, more0.take M = more := ⟨_, rfl⟩
  rw [hM, hmore] at hE1 hQ1
  have hlenM : more.length = M := Kd.C_len hE1
  have hL3 : L ≤ 300 := by omega
  have hLc : L ≤ c := by omega
  have HC := Aside0.mk (show Kd.C k37 W A puts.length puts by rw [hlen]; exact hC1)
  have HP := Aside0.mk hP1
  have HL := Aside0.mk hL
  have HLEN := Aside0.mk hlen
  have HL3 := Aside0.mk hL3
  have HLC := Aside0.mk hLc
  have HCC := Aside0.mk hc
  have HE := Aside0.mk (show Kd.C k37 W E more.length more by rw [hlenM]; exact hE1)
  have HQ := Aside0.mk hQ1
  have HM := Aside0.mk hM
  have HLENM := Aside0.mk hlenM
  have HM3 := Aside0.mk (show M ≤ 300 by omega)
  have HDD := Aside0.mk hd
  have HF := Aside0.mk hF
  have H0 := Aside0.mk h0
  have HCK := Aside0.mk hCk
  obtain ⟨N, hN⟩ : ∃ N, modw n0 L = N := ⟨_, rfl⟩
  have hNL : N ≤ L := hN ▸ modw_le n0 L
  have WN := within_to n0 L (by omega) (bounds_i64 hn0)
  rw [hN] at WN
  obtain ⟨y, hy⟩ : ∃ y, modw y0 128 = y := ⟨_, rfl⟩
  have hy8 : y ≤ 128 := hy ▸ modw_le y0 128
  have WY := within_to y0 128 (by decide) (bounds_i64 hh0)
  rw [hy] at WY
  have HWN := Aside0.mk WN
  have HWY := Aside0.mk WY
  have HNL := Aside0.mk hNL
  have HY8 := Aside0.mk hy8
  clear hC0 hP0 hC1 hP1 hputs hL hlen hL3 hLc hc hE0 hQ0 hE1 hQ1 hmore hM hlenM hd hF h0 hCk hkb hN hNL WN hy hy8 WY hn0 ht0 hh0
  go_enter Tryd.func6, Tryd.ntmps6
  go_upto_region 1 with fail
  have hr6 : Rt 34 W.heap.size [.slice Ak mk ck, .int .i64 torn, .int .i64 y0] (W.alloc (.cells #[.slice Ak mk ck, .int .i64 torn, .int .i64 y0] 34)) := heap_alloc_new W _
  have hb1 : Below W.heap.size W (W.alloc (.cells #[.slice Ak mk ck, .int .i64 torn, .int .i64 y0] 34)) := below_alloc (Below.refl _ _) _
  obtain ⟨b6, hb6e⟩ : ∃ b6, W.heap.size = b6 := ⟨_, rfl⟩
  have HB6E := Aside0.mk hb6e
  rw [hb6e] at hr6
  rw [hb6e]
  generalize W.alloc (.cells #[.slice Ak mk ck, .int .i64 torn, .int .i64 y0] 34) = w1 at *
  have HR1 := Aside0.mk hr6
  have HB1 := Aside0.mk hb1
  have d2 := hr6.cell 2 _ rfl
  clear hr6 hb1 hb6e
  go_wp2_with (first
    | (go_at_call 11; with_reducible refine (few_at A n c HCC.out _).mono ?_; rw [HL.out]; rintro e w' ⟨rfl, hw⟩; subst w')
    | (go_at_call 11; with_reducible refine (few_at E m d HDD.out _).mono ?_; rw [HM.out]; rintro e w' ⟨rfl, hw⟩; subst w'))
  go_at_call 13
  refine (larderlaw06_within.calls y0 0 128 (y : Int) w1 HWY.out).mono ?_
  rintro e w' ⟨rfl, d1, rfl⟩
  have HR2 := Aside0.mk (show Rt 34 b6 [.slice Ak mk ck, .int .i64 torn, .int .i64 y0] (w1.drewN d1) from HR1.out)
  have c2 := HR2.out.cell 2 _ rfl
  have f2 := HR2.out.free 2
  have HB2 := Aside0.mk (HB1.out.trans ((pw_below_drewN (Below.refl _ _) d1).mono HB1.out.size))
  clear HR1 HB1 d2
  generalize w1.drewN d1 = w2 at *
  go_upto_region 4 with fail
  rw [HR2.out.set 2]
  have HR3 := Aside0.mk (show Rt 34 b6 [.slice Ak mk ck, .int .i64 torn, .int .i64 (y : Int)] (w2.setRow b6 [.slice Ak mk ck, .int .i64 torn, .int .i64 (y : Int)].toArray) from HR2.out.row _)
  have HB3 := Aside0.mk (below_setRow' HB2.out (Nat.le_of_eq HB6E.out) [.slice Ak mk ck, .int .i64 torn, .int .i64 (y : Int)].toArray)
  clear c2 f2 HR2 HB2
  rw [show [Value.slice Ak mk ck, .int .i64 torn, .int .i64 y0].set 2 (.int .i64 (y : Int)) = [.slice Ak mk ck, .int .i64 torn, .int .i64 (y : Int)] from rfl]
  generalize w2.setRow b6 [.slice Ak mk ck, .int .i64 torn, .int .i64 (y : Int)].toArray = w3 at *
  have hla := laid_at A c puts w3 (Kd.C_below HC.out HB3.out) HP.out (by rw [HLEN.out]; exact HL3.out) (HF.out.below H0.out HB3.out) (Nat.lt_of_lt_of_le H0.out HB3.out.size)
  rw [HLEN.out] at hla
  go_wp2_with fail
  go_at_call 12
  refine hla.mono ?_
  rintro e w4 ⟨h, A1, c1, rfl, hhn, hk, hb⟩
  have HHN := Aside0.mk hhn
  have HK4 := Aside0.mk hk
  have HB4 := Aside0.mk (HB3.out.trans (hb.mono HB3.out.size))
  have HR4 := Aside0.mk (show Rt 34 b6 [.slice Ak mk ck, .int .i64 torn, .int .i64 (y : Int)] w4 from (hb.block _ HR3.out.lt).trans HR3.out)
  have HCK4 := Aside0.mk (Kd.C_below HCK.out (HB3.out.trans (hb.mono HB3.out.size)))
  have HB34 := Aside0.mk (show W.heap.size ≤ w3.heap.size ∧ w3.heap.size ≤ w4.heap.size ∧ b6 < w3.heap.size from ⟨HB3.out.size, hb.size, HR3.out.lt⟩)
  clear hla hhn hk hb HR3
  go_wp2_with fail
  go_at_call 13
  refine (larderlaw06_within.calls n0 0 (L : Int) (N : Int) w4 HWN.out).mono ?_
  rintro e w' ⟨rfl, dd, rfl⟩
  have hb5 : Below w4.heap.size w4 (w4.drewN dd) := pw_below_drewN (Below.refl _ _) dd
  have HB5 := Aside0.mk (HB4.out.trans (hb5.mono HB4.out.size))
  have HK5 := Aside0.mk (HK4.out.stay hb5)
  have HR5 := Aside0.mk (show Rt 34 b6 [.slice Ak mk ck, .int .i64 torn, .int .i64 (y : Int)] (w4.drewN dd) from (hb5.block _ HR4.out.lt).trans HR4.out)
  have HCK5 := Aside0.mk (Kd.C_below HCK4.out hb5)
  have H35 := Aside0.mk (show w3.heap.size ≤ (w4.drewN dd).heap.size from Nat.le_trans HB34.out.2.1 hb5.size)
  clear hb5 HB4 HK4 HR4 HCK4
  generalize w4.drewN dd = w5 at *
  have c0 := HR5.out.cell 0 _ rfl
  have c1 := HR5.out.cell 1 _ rfl
  have c2 := HR5.out.cell 2 _ rfl
  obtain ⟨im, him⟩ : ∃ im, atL blank (opsOf puts) N keep torn y = im := ⟨_, rfl⟩
  have HIL := Aside0.mk (show im.length = 768 from by rw [← him]; exact (at_img puts N (by have := HLEN.out; have := HNL.out; omega) keep torn y HY8.out).1)
  have hAT : ∀ W', Below w5.heap.size w5 W' → ∀ (N' : Nat) (Ax : Option Addr) (mx cx : Nat) (kx : List Int) (tx : Int) (yx : Nat), N' ≤ L → yx ≤ 128 → Kd.C (Kd.int .i64) W' Ax mx kx → Calls Tryd.prog 15 #[ptr h.D, .int .i64 (N' : Int), .agg #[.slice Ax mx cx, .int .i64 tx, .int .i64 (yx : Int)]] W' fun e w' => ∃ g c', e = .returned (.tuple #[.slice (some ⟨g, 0, none⟩) 768 c', .int .i64 0]) ∧ Mem w' g (atL blank (opsOf puts) N' kx tx yx) ∧ W'.heap.size ≤ g ∧ 768 ≤ c' ∧ Below W'.heap.size W' w' := fun W' hb N' Ax mx cx kx tx yx hN' hyx hCx => by
    have := at_at (HK5.out.stay hb) (HF.out.below H0.out (HB5.out.trans (hb.mono HB5.out.size))) (by rw [HHN.out]; exact opsOf_ok puts) (Nat.lt_of_lt_of_le H0.out (HB5.out.trans (hb.mono HB5.out.size)).size) N' (by rw [opsOf_len]; have := HLEN.out; omega) Ax mx cx kx tx yx hyx hCx
    rwa [HHN.out] at this
  have HAT := Aside0.mk hAT
  have HIM := Aside0.mk him
  clear hAT him
  go_wp2_with fail
  go_at_call 15
  have hat1 := HAT.out w5 (Below.refl _ _) N Ak mk ck keep torn y HNL.out HY8.out HCK5.out
  rw [HIM.out] at hat1
  refine hat1.mono ?_
  rintro e w6 ⟨g, cg, rfl, hm, hg, hcg, hb⟩
  have HMA := Aside0.mk hm
  have HGA := Aside0.mk hg
  have HCG := Aside0.mk hcg
  have HB6 := Aside0.mk hb
  clear hat1 hm hg hcg hb c0 c1 c2
  go_wp2_with fail
  obtain ⟨lo, hlo⟩ : ∃ lo, looseN (opsOf puts) (opsOf puts).length = lo := ⟨_, rfl⟩
  obtain ⟨LP, hLP⟩ : ∃ LP, L - lo = LP := ⟨_, rfl⟩
  have hol : (opsOf puts).length = L := by rw [opsOf_len]; exact HLEN.out
  have HLO := Aside0.mk hlo
  have HLP := Aside0.mk hLP
  have HOL := Aside0.mk hol
  have hPE : ∀ W', Below w5.heap.size w5 W' → Calls Tryd.prog 22 #[ptr h.D] W' fun e w' => ∃ Ap cp, e = .returned (.slice Ap LP cp) ∧ Below W'.heap.size W' w' := fun W' hb => by
    refine (pending_at (HK5.out.stay hb) (HF.out.below H0.out (HB5.out.trans (hb.mono HB5.out.size))) (Nat.lt_of_lt_of_le H0.out (HB5.out.trans (hb.mono HB5.out.size)).size)).mono ?_
    rw [HLO.out]
    rintro e w' ⟨v, rfl, hR, hb'⟩
    obtain ⟨Ap, cp, ev⟩ := Kd.R_slice hR
    rw [List.length_map, List.length_drop, HOL.out, HLP.out] at ev
    exact ⟨Ap, cp, by rw [ev], hb'⟩
  have HPE := Aside0.mk hPE
  clear hlo hLP hol hPE
  go_loopw [12, 13] (fun ev p wr => ∃ i : Nat, p = .int .i64 (i : Int) ∧ Aside0 (i ≤ LP) ∧ Aside0 (Kd.R (Kd.int .i64) 3 wr w6.heap.size (fun _ => True) ev (rangeI i)) ∧ Aside0 (Below w6.heap.size w6 wr)) (fun _ p _ => LP - (intOf p).toNat)
  · exact ⟨0, rfl, ⟨Nat.zero_le _⟩, ⟨Kd.R_nil _ _ _ _ _⟩, ⟨Below.refl _ _⟩⟩
  · obtain ⟨i, rfl, HI, HRr, HBr⟩ := hrel
    have HB5r := Aside0.mk (HB6.out.trans (HBr.out.mono HB6.out.size))
    go_wp2_with fail
    go_at_call 22
    refine (HPE.out wr HB5r.out).mono ?_
    rintro e w7 ⟨Ap, cp, rfl, hb⟩
    have HB7 := Aside0.mk (HBr.out.trans (hb.mono HBr.out.size))
    have HR7 := Aside0.mk (Kd.R_below HRr.out hb)
    have HB57 := Aside0.mk (HB5r.out.trans (hb.mono HB5r.out.size))
    clear hb HRr HBr HB5r
    by_cases ci : i < LP
    · have ci1 : decide ((i : Int) < (LP : Int)) = true := decide_eq_true (by omega)
      have ci2 : decide (i < LP) = true := decide_eq_true ci
      have hLPs : LP ≤ 300 := by have := HLP.out; have := HL3.out; omega
      have hw1 : IntKind.i64.wrap ((i : Int) + 1) = ((i + 1 : Nat) : Int) := by rw [IntWalk.i64_in _ (by omega)]; omega
      go_wp2_with (first | (
        (with_reducible refine gate_builtin (b := .append) (xs := #[.tmp 52, .tmp 54]) rfl ?_)
        at_builtin
        refine Kd.R_append (Kd.int .i64) (w0 := w6) w6.heap.size rfl (.tmp 52) (.tmp 54) 23 3 (.int .i64 0) 8 rfl Tryd.underlying23 info3' rfl (by decide) (by omega) _ _ (i : Int) [.int .i64 (i : Int)] (fun _ => True) (fun _ => False) rfl rfl rfl (fun _ hk => hk.elim) (fun _ _ => trivial) HR7.out HB7.out HB7.out.size (by rw [rangeI_len]; omega) ?_
        intro v1 w8 ho hb hg hat
        have HO := Aside0.mk ho
        have HB8 := Aside0.mk hb
        clear ho hb hg hat))
      refine ⟨⟨i + 1, congrArg (Value.int .i64) (by omega), ⟨ci⟩, ⟨?_⟩, HB8⟩, ?_⟩
      · rw [rangeI_snoc]
        exact HO.out
      · simp only [intOf]
        omega
    · have ci1 : decide ((i : Int) < (LP : Int)) = false := decide_eq_false (by omega)
      have ci2 : decide (i < LP) = false := decide_eq_false ci
      obtain rfl : i = LP := by have := HI.out; omega
      obtain ⟨Ao, co, eo, hlo, hCo⟩ := Kd.R_reads HR7.out
      rw [rangeI_len] at eo hlo hCo
      subst eo
      have HCO := Aside0.mk hCo
      have HCNT := Aside0.mk (fun W' (hb : Below w5.heap.size w5 W') => (show Calls Tryd.prog 18 #[ptr h.D] W' fun e w' => e = .returned (.int .i64 (L : Int)) ∧ w' = W' from by
        have := count_at (HK5.out.stay hb)
        rwa [HOL.out] at this))
      clear hCo HR7 HI
      go_wp2_with (go_at_call 18; refine (HCNT.out _ HB57.out).mono ?_; rintro e w' ⟨rfl, hw⟩; subst w')
      have e1 : atL blank (opsOf puts) L (rangeI i) (-1) 0 = behindL blank (opsOf puts) := by
        have := at_every blank (opsOf puts) (opsOf puts).length (Nat.le_refl _)
        rw [HLO.out, HOL.out, HLP.out, List.take_of_length_le (Nat.le_of_eq HOL.out)] at this
        exact this
      have e2 : atL blank (opsOf puts) L [] (-1) 0 = behindL blank (opsOf (puts.take lo)) := by
        have := at_nonel blank (opsOf puts) (opsOf puts).length 0
        rw [HLO.out, HOL.out, opsOf_takeN] at this
        exact this
      have E2 := Aside0.mk e2
      have hatx : Calls Tryd.prog 15 #[ptr h.D, .int .i64 (L : Int), .agg #[.slice Ao i co, .int .i64 (-1), .int .i64 0]] w7 fun e w' => ∃ g c', e = .returned (.tuple #[.slice (some ⟨g, 0, none⟩) 768 c', .int .i64 0]) ∧ Mem w' g (behindL blank (opsOf puts)) ∧ w7.heap.size ≤ g ∧ 768 ≤ c' ∧ Below w7.heap.size w7 w' := by
        have := HAT.out w7 HB57.out L Ao i co (rangeI i) (-1) 0 (Nat.le_refl _) (by decide) HCO.out
        rw [e1] at this
        exact this
      have HATX := Aside0.mk hatx
      have HLB := Aside0.mk (show (behindL blank (opsOf puts)).length = 768 from (behind_img puts).1)
      have HLD := Aside0.mk (show (behindL blank (opsOf (puts.take lo))).length = 768 from (behind_img (puts.take lo)).1)
      clear e1 e2 hatx ci ci1 ci2
      go_at_call 15
      refine HATX.out.mono ?_
      rintro e w8 ⟨gx, cx, rfl, hm, hg, hcx, hb⟩
      have HB58 := Aside0.mk (HB57.out.trans (hb.mono HB57.out.size))
      have HB68 := Aside0.mk (HB7.out.trans (hb.mono HB7.out.size))
      have HMX := Aside0.mk hm
      have HCX := Aside0.mk hcx
      clear hm hg hcx hb HATX HB57 HB7 HCO
      go_wp2_with (go_at_call 18; refine (HCNT.out _ HB58.out).mono ?_; rintro e w' ⟨rfl, hw⟩; subst w')
      have haty : Calls Tryd.prog 15 #[ptr h.D, .int .i64 (L : Int), .agg #[.slice none 0 0, .int .i64 (-1), .int .i64 0]] w8 fun e w' => ∃ g c', e = .returned (.tuple #[.slice (some ⟨g, 0, none⟩) 768 c', .int .i64 0]) ∧ Mem w' g (behindL blank (opsOf (puts.take lo))) ∧ w8.heap.size ≤ g ∧ 768 ≤ c' ∧ Below w8.heap.size w8 w' := by
        have := HAT.out w8 HB58.out L none 0 0 [] (-1) 0 (Nat.le_refl _) (by decide) (Kd.C_nil _ _)
        rw [E2.out] at this
        exact this
      have HATY := Aside0.mk haty
      clear haty
      go_at_call 15
      refine HATY.out.mono ?_
      rintro e w9 ⟨gy, cy, rfl, hm, hg, hcy, hb⟩
      have HB59 := Aside0.mk (HB58.out.trans (hb.mono HB58.out.size))
      have HB69 := Aside0.mk (HB68.out.trans (hb.mono HB68.out.size))
      have HMX9 := Aside0.mk (HMX.out.below hb)
      have HMY := Aside0.mk hm
      have HCY := Aside0.mk hcy
      clear hm hg hcy hb HATY HB58 HB68 HMX
      go_wp2_with fail
      go_at_call 20
      refine (image_at (HK5.out.stay HB59.out)).mono ?_
      rintro e w10 ⟨gi, ci, rfl, hm, hg, hci, hb⟩
      rw [HHN.out] at hci ⊢
      have HB510 := Aside0.mk (HB59.out.trans (hb.mono HB59.out.size))
      have HB610 := Aside0.mk (HB69.out.trans (hb.mono HB69.out.size))
      have HMX10 := Aside0.mk (HMX9.out.below hb)
      have HMY10 := Aside0.mk (HMY.out.below hb)
      have HMI := Aside0.mk hm
      have HCI := Aside0.mk hci
      clear hm hg hci hb HB59 HB69 HMX9 HMY
      go_wp2_with fail
      go_at_call 26
      refine (bytes_at (behindL blank (opsOf puts)) (by rw [HLB.out]; decide) _ _ 768 _ _ w10 HLB.out (HMX10.out.allN HLB.out (by decide)) HCX.out (HMI.out.allN HLB.out (by decide)) HCI.out).mono ?_
      rintro e w' ⟨rfl, q, rfl⟩
      have hb : Below w10.heap.size w10 (w10.drewN q) := pw_below_drewN (Below.refl _ _) q
      have HB511 := Aside0.mk (HB510.out.trans (hb.mono HB510.out.size))
      have HB611 := Aside0.mk (HB610.out.trans (hb.mono HB610.out.size))
      have HMY11 := Aside0.mk (HMY10.out.below hb)
      clear hb HB510 HB610 HMX10 HMY10 HMI
      generalize w10.drewN q = w11 at *
      go_wp2_with fail
      go_at_call 21
      refine (durable_at (HK5.out.stay HB511.out) (HF.out.below H0.out (HB5.out.trans (HB511.out.mono HB5.out.size))) (by rw [HHN.out]; exact opsOf_ok puts) (Nat.lt_of_lt_of_le H0.out (HB5.out.trans (HB511.out.mono HB5.out.size)).size)).mono ?_
      rw [HLO.out, opsOf_takeN]
      rintro e w12 ⟨gd, cd, rfl, hm, hg, hcd, hb⟩
      rw [HHN.out] at hcd ⊢
      have HB512 := Aside0.mk (HB511.out.trans (hb.mono HB511.out.size))
      have HB612 := Aside0.mk (HB611.out.trans (hb.mono HB611.out.size))
      have HMY12 := Aside0.mk (HMY11.out.below hb)
      have HMD := Aside0.mk hm
      have HCD := Aside0.mk hcd
      clear hm hg hcd hb HB511 HB611 HMY11
      go_wp2_with fail
      go_at_call 26
      refine (bytes_at (behindL blank (opsOf (puts.take lo))) (by rw [HLD.out]; decide) _ _ 768 _ _ w12 HLD.out (HMY12.out.allN HLD.out (by decide)) HCY.out (HMD.out.allN HLD.out (by decide)) HCD.out).mono ?_
      rintro e w' ⟨rfl, q2, rfl⟩
      have hb : Below w12.heap.size w12 (w12.drewN q2) := pw_below_drewN (Below.refl _ _) q2
      have HB513 := Aside0.mk (HB512.out.trans (hb.mono HB512.out.size))
      have HB613 := Aside0.mk (HB612.out.trans (hb.mono HB612.out.size))
      clear hb HB512 HB612 HMY12 HMD
      generalize w12.drewN q2 = w13 at *
      go_wp2_with fail
      have HBW13 := Aside0.mk (HB5.out.trans (HB513.out.mono HB5.out.size))
      have HK13 := Aside0.mk (HK5.out.stay HB513.out)
      have HM13 := Aside0.mk (HMA.out.below HB613.out)
      have HR13 := Aside0.mk (show Rt 34 b6 [.slice Ak mk ck, .int .i64 torn, .int .i64 (y : Int)] w13 from (HB513.out.block _ HR5.out.lt).trans HR5.out)
      have HN13 := Aside0.mk (show ¬ Own h (.slice A1 (opsOf puts).length c1) g from fun ho => by have := (HK5.out.own_lt g ho).2; have := HGA.out; omega)
      clear HPE HCNT HAT E2 HLB HLD HCX HCY HCI HCD HB513 HB613 HMA HGA HB6 HCK5
      go_loopw [18] (fun p wr => ∃ (i : Nat) (A2 : Option Addr) (c2 : Nat), p = .int .i64 (i : Int) ∧ Aside0 (i ≤ M) ∧ Aside0 (DkAt h w3.heap.size blank (behindL blank (opsOf (puts ++ more.take i))) (.slice A2 (opsOf (puts ++ more.take i)).length c2) (opsOf (puts ++ more.take i)) wr) ∧ Aside0 (Below w3.heap.size w13 wr) ∧ Aside0 (Mem wr g im) ∧ Aside0 (¬ Own h (.slice A2 (opsOf (puts ++ more.take i)).length c2) g)) (fun p _ => M - (intOf p).toNat)
      · refine ⟨0, A1, c1, rfl, ⟨Nat.zero_le _⟩, ⟨?_⟩, ⟨Below.refl _ _⟩, HM13, ⟨?_⟩⟩
        · rw [List.take_zero, List.append_nil]; exact HK13.out
        · rw [List.take_zero, List.append_nil]; exact HN13.out
      · obtain ⟨i, A2, c2, rfl, HI, HKr, HBr, HMr, HNr⟩ := hrel
        have HBWr := Aside0.mk (show Below W.heap.size W wr from HBW13.out.trans (HBr.out.mono HB34.out.1))
        by_cases ci : i < M
        · have ci1 : decide ((i : Int) < (M : Int)) = true := decide_eq_true (by omega)
          have ci2 : decide (i < M) = true := decide_eq_true ci
          have ci3 : (0 : Int) ≤ (i : Int) := by omega
          have ci4 : (i : Int) < (M : Int) := by omega
          have hwi : IntKind.i64.wrap ((i : Int) + 1) = ((i + 1 : Nat) : Int) := by rw [IntWalk.i64_in _ (by have := HM3.out; omega)]; omega
          obtain ⟨p, hp⟩ : ∃ p, more[i]? = some p := ⟨_, List.getElem?_eq_getElem (by have := HLENM.out; omega)⟩
          obtain ⟨ad, rfl, p0, p1, p2⟩ := at_T37 (Kd.C_below HE.out HBWr.out) (i : Int) (by omega) (by have := HLENM.out; omega)
          rw [rd37 hp, Int.toNat_natCast] at p0 p1 p2
          have HWI := Aside0.mk (within_ok p.f0 (HQ.out p (List.mem_of_getElem? hp)))
          have HPT := Aside0.mk (show opsOf (puts ++ more.take (i + 1)) = opsOf (puts ++ more.take i) ++ [opOf p] from by
            rw [take_snoc hp, ← List.append_assoc, opsOf_append]; rfl)
          have HOLr := Aside0.mk (show (opsOf (puts ++ more.take i)).length < 65536 from by
            rw [opsOf_len, List.length_append, List.length_take]; have := HLEN.out; have := HL3.out; have := HM3.out; omega)
          have MKS := Aside0.mk (show ∀ w', Below W.heap.size W w' → Below W.heap.size W w' ∧ w'.cell? (ad.add (i * 3)) = some (.int .i64 p.f0) ∧ w'.cell? ⟨(ad.add (i * 3)).block, (ad.add (i * 3)).off + 1, none⟩ = some (.int .u8 p.f1) from fun w' hb => by
            obtain ⟨ad', e, q0, q1, _⟩ := at_T37 (Kd.C_below HE.out hb) (i : Int) (by omega) (by have := HLENM.out; omega)
            obtain rfl := Option.some.inj e
            rw [rd37 hp, Int.toNat_natCast] at q0 q1
            exact ⟨hb, q0, q1⟩)
          clear hp
          rcases hpf : p.f2
          · rw [hpf] at p2
            have HPF := Aside0.mk hpf
            clear hpf
            go_upto_region 23 with fail
            -- region 23
            refine wp_region_noPanic ?_
            refine wp_region_held_drew (S := fun w' => Below W.heap.size W w' ∧ w'.cell? (ad.add (i * 3)) = some (.int .i64 p.f0) ∧ w'.cell? ⟨(ad.add (i * 3)).block, (ad.add (i * 3)).off + 1, none⟩ = some (.int .u8 p.f1)) (by kernel_rfl) (MKS.out _ (below_drew HBWr.out)) (fun hHeld => ?_)
            refine wpAnyH_take (i := 0) (oi := { dst := some 110, op := Op.move (Operand.tmp 9), type := 25, pos := "outright.go:206", after := #[], guard := none }) (v := ?_) rfl (by kernel_rfl) (by kernel_rfl) (by kernel_rfl) (fun _ _ _ h => h) (Or.inl ⟨by rfl, ?_⟩) hHeld ?_
            rotate_left
            · intro w' hS; obtain ⟨hS0, hS1, hS2⟩ := hS; go_simp; all_goals (with_reducible rfl)
            (try simp only [Act.put, List.setIfInBounds_toArray, List.set_cons_zero, List.set_cons_succ])
            refine wpAnyH_take (i := 1) (oi := { dst := some 111, op := Op.move (Operand.tmp 1), type := 22, pos := "outright.go:206", after := #[], guard := none }) (v := ?_) rfl (by kernel_rfl) (by kernel_rfl) (by kernel_rfl) (fun _ _ _ h => h) (Or.inl ⟨by rfl, ?_⟩) hHeld ?_
            rotate_left
            · intro w' hS; obtain ⟨hS0, hS1, hS2⟩ := hS; go_simp; all_goals (with_reducible rfl)
            (try simp only [Act.put, List.setIfInBounds_toArray, List.set_cons_zero, List.set_cons_succ])
            refine wpAnyH_take (i := 2) (oi := { dst := some 112, op := Op.move (Operand.tmp 18), type := 3, pos := "outright.go:206", after := #[], guard := none }) (v := ?_) rfl (by kernel_rfl) (by kernel_rfl) (by kernel_rfl) (fun _ _ _ h => h) (Or.inl ⟨by rfl, ?_⟩) hHeld ?_
            rotate_left
            · intro w' hS; obtain ⟨hS0, hS1, hS2⟩ := hS; go_simp; all_goals (with_reducible rfl)
            (try simp only [Act.put, List.setIfInBounds_toArray, List.set_cons_zero, List.set_cons_succ])
            refine wpAnyH_take (i := 3) (oi := { dst := some 113, op := Op.indexAddr 22 (Operand.tmp 111) (Operand.tmp 112), type := 0, pos := "outright.go:206", after := #[{ on := 1, ground := Ground.data }, { on := 2, ground := Ground.data }], guard := none }) (v := ?_) rfl (by kernel_rfl) (by kernel_rfl) (by kernel_rfl) (fun _ _ _ h => h) (Or.inl ⟨by rfl, ?_⟩) hHeld ?_
            rotate_left
            · intro w' hS; obtain ⟨hS0, hS1, hS2⟩ := hS; go_simp; all_goals (with_reducible rfl)
            (try simp only [Act.put, List.setIfInBounds_toArray, List.set_cons_zero, List.set_cons_succ])
            refine wpAnyH_take (i := 4) (oi := { dst := some 114, op := Op.fieldAddr 37 (Operand.tmp 113) 0, type := 0, pos := "outright.go:206", after := #[{ on := 3, ground := Ground.data }], guard := none }) (v := ?_) rfl (by kernel_rfl) (by kernel_rfl) (by kernel_rfl) (fun _ _ _ h => h) (Or.inl ⟨by rfl, ?_⟩) hHeld ?_
            rotate_left
            · intro w' hS; obtain ⟨hS0, hS1, hS2⟩ := hS; go_simp; all_goals (with_reducible rfl)
            (try simp only [Act.put, List.setIfInBounds_toArray, List.set_cons_zero, List.set_cons_succ])
            refine wpAnyH_take (i := 5) (oi := { dst := some 115, op := Op.load 3 (Operand.tmp 114), type := 3, pos := "outright.go:206", after := #[{ on := 4, ground := Ground.data }], guard := none }) (v := ?_) rfl (by kernel_rfl) (by kernel_rfl) (by kernel_rfl) (fun _ _ _ h => h) (Or.inl ⟨by rfl, ?_⟩) hHeld ?_
            rotate_left
            · intro w' hS; obtain ⟨hS0, hS1, hS2⟩ := hS; go_simp; all_goals (with_reducible rfl)
            (try simp only [Act.put, List.setIfInBounds_toArray, List.set_cons_zero, List.set_cons_succ])
            refine wpAnyH_take (i := 7) (oi := { dst := some 117, op := Op.move (Operand.tmp 1), type := 22, pos := "outright.go:206", after := #[], guard := none }) (v := ?_) rfl (by kernel_rfl) (by kernel_rfl) (by kernel_rfl) (fun _ _ _ h => h) (Or.inl ⟨by rfl, ?_⟩) hHeld ?_
            rotate_left
            · intro w' hS; obtain ⟨hS0, hS1, hS2⟩ := hS; go_simp; all_goals (with_reducible rfl)
            (try simp only [Act.put, List.setIfInBounds_toArray, List.set_cons_zero, List.set_cons_succ])
            refine wpAnyH_take (i := 8) (oi := { dst := some 118, op := Op.move (Operand.tmp 18), type := 3, pos := "outright.go:206", after := #[], guard := none }) (v := ?_) rfl (by kernel_rfl) (by kernel_rfl) (by kernel_rfl) (fun _ _ _ h => h) (Or.inl ⟨by rfl, ?_⟩) hHeld ?_
            rotate_left
            · intro w' hS; obtain ⟨hS0, hS1, hS2⟩ := hS; go_simp; all_goals (with_reducible rfl)
            (try simp only [Act.put, List.setIfInBounds_toArray, List.set_cons_zero, List.set_cons_succ])
            refine wpAnyH_take (i := 9) (oi := { dst := some 119, op := Op.indexAddr 22 (Operand.tmp 117) (Operand.tmp 118), type := 0, pos := "outright.go:206", after := #[{ on := 7, ground := Ground.data }, { on := 8, ground := Ground.data }], guard := none }) (v := ?_) rfl (by kernel_rfl) (by kernel_rfl) (by kernel_rfl) (fun _ _ _ h => h) (Or.inl ⟨by rfl, ?_⟩) hHeld ?_
            rotate_left
            · intro w' hS; obtain ⟨hS0, hS1, hS2⟩ := hS; go_simp; all_goals (with_reducible rfl)
            (try simp only [Act.put, List.setIfInBounds_toArray, List.set_cons_zero, List.set_cons_succ])
            refine wpAnyH_take (i := 10) (oi := { dst := some 120, op := Op.fieldAddr 37 (Operand.tmp 119) 1, type := 0, pos := "outright.go:206", after := #[{ on := 9, ground := Ground.data }], guard := none }) (v := ?_) rfl (by kernel_rfl) (by kernel_rfl) (by kernel_rfl) (fun _ _ _ h => h) (Or.inl ⟨by rfl, ?_⟩) hHeld ?_
            rotate_left
            · intro w' hS; obtain ⟨hS0, hS1, hS2⟩ := hS; go_simp; all_goals (with_reducible rfl)
            (try simp only [Act.put, List.setIfInBounds_toArray, List.set_cons_zero, List.set_cons_succ])
            refine wpAnyH_take (i := 11) (oi := { dst := some 121, op := Op.load 5 (Operand.tmp 120), type := 5, pos := "outright.go:206", after := #[{ on := 10, ground := Ground.data }], guard := none }) (v := ?_) rfl (by kernel_rfl) (by kernel_rfl) (by kernel_rfl) (fun _ _ _ h => h) (Or.inl ⟨by rfl, ?_⟩) hHeld ?_
            rotate_left
            · intro w' hS; obtain ⟨hS0, hS1, hS2⟩ := hS; go_simp; all_goals (with_reducible rfl)
            (try simp only [Act.put, List.setIfInBounds_toArray, List.set_cons_zero, List.set_cons_succ])
            refine wpAnyH_ready (rs := [6]) (by kernel_rfl) (by simp) ?_
            refine AllReadyH.cons (o := { dst := some 116, op := Op.call { callee := Callee.value (Operand.func 13), args := #[Operand.tmp 115, Operand.const (Value.int IntKind.i64 0), Operand.const (Value.int IntKind.i64 5)], argTypes := #[3, 3, 3] }, type := 3, pos := "outright.go:206", after := #[{ on := 5, ground := Ground.data }], guard := none }) rfl (fun K hK => ?_) AllReadyH.nil
            go_simp
            go_at_call 13
            refine (larderlaw06_within.calls p.f0 0 5 _ _ HWI.out).mono ?_
            rintro e wa ⟨rfl, ⟨nd, rfl⟩⟩
            have hb2 : Below wr.heap.size wr (wr.drew.drewN nd) := pw_below_drewN (below_drew (Below.refl _ _)) nd
            have HBa := Aside0.mk hb2
            clear hb2
            generalize wr.drew.drewN nd = wa at *
            refine hK.out _ _ (MKS.out _ (HBWr.out.trans (HBa.out.mono HBWr.out.size))) (fun hHeld => ?_)
            clear hK K
            (try simp only [Act.put, List.setIfInBounds_toArray, List.set_cons_zero, List.set_cons_succ])
            refine wpAnyH_ready (rs := [12]) (by kernel_rfl) (by simp) ?_
            refine AllReadyH.cons (o := { dst := some 122, op := Op.call { callee := Callee.value (Operand.func 28), args := #[Operand.tmp 121], argTypes := #[5] }, type := 29, pos := "outright.go:206", after := #[{ on := 11, ground := Ground.data }, { on := 6, ground := Ground.chain }], guard := none }) rfl (fun K hK => ?_) AllReadyH.nil
            go_simp
            go_at_call 28
            refine (full_at p.f1 wa).mono ?_
            rintro e wb ⟨gf, cf, rfl, hmf, hgf, hcf, hbf⟩
            have HBb := Aside0.mk hbf
            have HMF := Aside0.mk (show ∀ W', Kept wb W' (Own h (.slice A2 (opsOf (puts ++ more.take i)).length c2)) → Kd.C (Kd.int .u8) W' (some ⟨gf, 0, none⟩) 128 (List.replicate 128 p.f1) from fun W' hk =>
              (hmf.move (hk.2 gf hmf.lt (fun ho => by have := (HKr.out.own_lt gf ho).2; have := HBa.out.size; omega))).allN (List.length_replicate ..) (by decide))
            clear hmf hgf hcf hbf
            refine hK.out _ _ (MKS.out _ ((HBWr.out.trans (HBa.out.mono HBWr.out.size)).trans (HBb.out.mono (Nat.le_trans HBWr.out.size HBa.out.size)))) (fun hHeld => ?_)
            clear hK K
            (try simp only [Act.put, List.setIfInBounds_toArray, List.set_cons_zero, List.set_cons_succ])
            refine wpAnyH_ready (rs := [13]) (by kernel_rfl) (by simp) ?_
            refine AllReadyH.cons (o := { dst := some 123, op := Op.call { callee := Callee.value (Operand.func 27), args := #[Operand.tmp 110, Operand.tmp 116, Operand.tmp 122], argTypes := #[25, 3, 29] }, type := 30, pos := "outright.go:206", after := #[{ on := 0, ground := Ground.data }, { on := 6, ground := Ground.data }, { on := 12, ground := Ground.data }, { on := 12, ground := Ground.chain }], guard := none }) rfl (fun K hK => ?_) AllReadyH.nil
            go_simp
            go_at_call 27
            refine (write_at (HKr.out.stay (HBa.out.trans (HBb.out.mono HBa.out.size))) (sec p.f0) (List.replicate 128 p.f1) HMF.out (by rw [HHN.out]; have := sec_lt p.f0; omega) HOLr.out).mono ?_
            rintro e we ⟨rfl, A4, c4, hk4, hkp, hb4, hat4⟩
            have HK4 := Aside0.mk hk4
            have HKP := Aside0.mk hkp
            have HBe := Aside0.mk hb4
            have HAT4 := Aside0.mk hat4
            clear hk4 hkp hb4 hat4
            refine hK.out _ _ (MKS.out _ (((HBWr.out.trans (HBa.out.mono HBWr.out.size)).trans (HBb.out.mono (Nat.le_trans HBWr.out.size HBa.out.size))).trans (HBe.out.mono HB34.out.1))) (fun hHeld => ?_)
            clear hK K
            (try simp only [Act.put, List.setIfInBounds_toArray, List.set_cons_zero, List.set_cons_succ])
            refine wpAnyH_done (by kernel_rfl) ?_ _
            (try simp only [Act.put, List.setIfInBounds_toArray, List.set_cons_zero, List.set_cons_succ])
            refine NoPanic.normal ?_
            -- behind region 23
            go_wp2_with fail
            have hsz := HKr.out.size
            refine ⟨⟨i + 1, A4, c4, congrArg (Value.int .i64) (by omega), ⟨ci⟩, ⟨?_⟩, ⟨((HBr.out.trans (HBa.out.mono hsz)).trans (HBb.out.mono (Nat.le_trans hsz HBa.out.size))).trans HBe.out⟩, ⟨?_⟩, ⟨?_⟩⟩, ?_⟩
            · rw [HPT.out, show opOf p = ((sec p.f0 : Int), List.replicate 128 p.f1) from by unfold opOf; rw [HPF.out]; rfl, behind_put, List.length_append, List.length_singleton]
              exact HK4.out
            · have hmb := (HMr.out.below HBa.out).below HBb.out
              exact hmb.move (HKP.out.2 g hmb.lt HNr.out)
            · rw [HPT.out, List.length_append, List.length_singleton]
              exact not_own HNr.out HAT4.out ((HMr.out.below HBa.out).below HBb.out).lt
            · simp only [intOf]
              omega
          · rw [hpf] at p2
            have HPF := Aside0.mk hpf
            clear hpf
            go_wp2_with fail
            go_at_call 29
            refine (flush_at HKr.out (HF.out.below H0.out HBWr.out) HOLr.out).mono ?_
            rintro e we ⟨rfl, A4, c4, hk4, hkp, hb4, hat4⟩
            have HK4 := Aside0.mk hk4
            have HKP := Aside0.mk hkp
            have HBe := Aside0.mk hb4
            have HAT4 := Aside0.mk hat4
            clear hk4 hkp hb4 hat4
            go_wp2_with fail
            refine ⟨⟨i + 1, A4, c4, congrArg (Value.int .i64) (by omega), ⟨ci⟩, ⟨?_⟩, ⟨HBr.out.trans HBe.out⟩, ⟨?_⟩, ⟨?_⟩⟩, ?_⟩
            · rw [HPT.out, show opOf p = flushOp from by unfold opOf; rw [HPF.out]; rfl, behind_flush, List.length_append, List.length_singleton]
              exact HK4.out
            · exact HMr.out.move (HKP.out.2 g HMr.out.lt HNr.out)
            · rw [HPT.out, List.length_append, List.length_singleton]
              exact not_own HNr.out HAT4.out HMr.out.lt
            · simp only [intOf]
              omega
        · have ci1 : decide ((i : Int) < (M : Int)) = false := decide_eq_false (by omega)
          have ci2 : decide (i < M) = false := decide_eq_false ci
          obtain ⟨po, hpo⟩ : ∃ po, puts ++ more = po := ⟨_, rfl⟩
          have HPO := Aside0.mk hpo
          have hti : more.take i = more := List.take_of_length_le (by have := HLENM.out; omega)
          have HKs := Aside0.mk (show DkAt h w3.heap.size blank (behindL blank (opsOf po)) (.slice A2 (opsOf po).length c2) (opsOf po) wr from by
            have := HKr.out
            rwa [hti, hpo] at this)
          have HNs := Aside0.mk (show ¬ Own h (.slice A2 (opsOf po).length c2) g from by
            have := HNr.out
            rwa [hti, hpo] at this)
          have HRs := Aside0.mk (show Rt 34 b6 [.slice Ak mk ck, .int .i64 torn, .int .i64 (y : Int)] wr from (HBr.out.block _ HB34.out.2.2).trans HR13.out)
          have HPL := Aside0.mk (show (opsOf po).length ≤ 600 from by rw [← hpo, opsOf_len, List.length_append]; have := HLEN.out; have := HLENM.out; have := HL3.out; have := HM3.out; omega)
          have HIM2 := Aside0.mk (show atL blank (opsOf po) N keep torn y = im from by
            rw [← hpo, opsOf_append, at_prefix _ _ _ _ (by rw [HOL.out]; exact HNL.out)]
            exact HIM.out)
          have HNP := Aside0.mk (show N ≤ (opsOf po).length from by rw [← hpo, opsOf_len, List.length_append]; have := HLEN.out; have := HNL.out; omega)
          have HLS := Aside0.mk (show (behindL blank (opsOf po)).length = 768 from (behind_img po).1)
          have c0 := HRs.out.cell 0 _ rfl
          have c1 := HRs.out.cell 1 _ rfl
          have c2' := HRs.out.cell 2 _ rfl
          clear hpo hti HKr HNr HBr HIM HI
          go_wp2_with fail
          have hat2 := at_at HKs.out (HF.out.below H0.out HBWr.out) (by rw [HHN.out]; exact opsOf_ok po) (Nat.lt_of_lt_of_le H0.out HBWr.out.size) N HNP.out Ak mk ck keep torn y HY8.out (Kd.C_below HCK.out HBWr.out)
          rw [HHN.out, HIM2.out] at hat2
          go_at_call 15
          refine hat2.mono ?_
          rintro e wf ⟨gb, cb, rfl, hm, hg, hcb, hb⟩
          have HBf := Aside0.mk hb
          have HMB := Aside0.mk hm
          have HGB := Aside0.mk hg
          have HCB := Aside0.mk hcb
          have HKf := Aside0.mk (HKs.out.stay hb)
          have HMf := Aside0.mk (HMr.out.below hb)
          have HNb := Aside0.mk (show ¬ Own h (.slice A2 (opsOf po).length c2) gb from fun ho => by have := (HKs.out.own_lt gb ho).2; omega)
          have HBWf := Aside0.mk (HBWr.out.trans (hb.mono HBWr.out.size))
          have HRf := Aside0.mk (show Rt 34 b6 [.slice Ak mk ck, .int .i64 torn, .int .i64 (y : Int)] wf from (hb.block _ HRs.out.lt).trans HRs.out)
          clear hat2 hm hg hcb hb c0 c1 c2' HKs HMr HRs HBWr
          go_wp2_with fail
          go_at_call 29
          refine (flush_at HKf.out (HF.out.below H0.out HBWf.out) (by have := HPL.out; omega)).mono ?_
          rintro e wg ⟨rfl, A5, c5, hk5, hkp, hb5, hat5⟩
          have HK6 := Aside0.mk (show DkAt h w3.heap.size blank (behindL blank (opsOf po)) (.slice A5 (opsOf po ++ [flushOp]).length c5) (opsOf po ++ [flushOp]) wg from by
            rw [List.length_append, List.length_singleton]
            exact hk5)
          have HM6 := Aside0.mk (HMf.out.move (hkp.2 g HMf.out.lt HNs.out))
          have HMB6 := Aside0.mk (HMB.out.move (hkp.2 gb HMB.out.lt HNb.out))
          have HBW6 := Aside0.mk (show Below W.heap.size W wg from HBWf.out.trans (hb5.mono HB34.out.1))
          have HR6 := Aside0.mk (show Rt 34 b6 [.slice Ak mk ck, .int .i64 torn, .int .i64 (y : Int)] wg from (hb5.block _ HB34.out.2.2).trans HRf.out)
          clear hk5 hkp hb5 hat5 HKf HMf HMB HBWf HRf HNs HNb
          go_upto_region 26 with fail
          obtain ⟨K1, hK1⟩ : ∃ K1, (opsOf po ++ [flushOp]).length = K1 := ⟨_, rfl⟩
          have HK1 := Aside0.mk hK1
          have HOK := Aside0.mk (show Oks h.n (opsOf po ++ [flushOp]) from fun op ho => by
            rw [HHN.out]
            rcases List.mem_append.1 ho with ho | ho
            · exact opsOf_ok po op ho
            · obtain rfl := List.mem_singleton.1 ho
              exact ⟨List.length_replicate .., .inl rfl⟩)
          have HCNT := Aside0.mk (fun W' (hb : Below wg.heap.size wg W') => (show Calls Tryd.prog 18 #[ptr h.D] W' fun e w' => e = .returned (.int .i64 (K1 : Int)) ∧ w' = W' from by
            have := count_at (HK6.out.stay hb)
            rwa [HK1.out] at this))
          have HAT := Aside0.mk (fun W' (hb : Below wg.heap.size wg W') => (show Calls Tryd.prog 15 #[ptr h.D, .int .i64 (K1 : Int), .agg #[.slice Ak mk ck, .int .i64 torn, .int .i64 (y : Int)]] W' fun e w' => ∃ g c', e = .returned (.tuple #[.slice (some ⟨g, 0, none⟩) 768 c', .int .i64 0]) ∧ Mem w' g (behindL blank (opsOf po)) ∧ W'.heap.size ≤ g ∧ 768 ≤ c' ∧ Below W'.heap.size W' w' from by
            have := at_at (HK6.out.stay hb) (HF.out.below H0.out (HBW6.out.trans (hb.mono HBW6.out.size))) HOK.out (Nat.lt_of_lt_of_le H0.out (HBW6.out.trans (hb.mono HBW6.out.size)).size) K1 (Nat.le_of_eq HK1.out.symm) Ak mk ck keep torn y HY8.out (Kd.C_below HCK.out (HBW6.out.trans (hb.mono HBW6.out.size)))
            have e : K1 = (opsOf po).length + 1 := by rw [← HK1.out]; simp
            rw [HHN.out] at this
            subst e
            rwa [at_flush] at this))
          clear hK1
          go_cut [15, 21] from 133 to 140 (fun v15 v21 wc => ∃ gz cz, v21 = .slice (some ⟨gz, 0, none⟩) 768 cz ∧ v15 = .int .i64 0 ∧ Aside0 (Mem wc gz (behindL blank (opsOf po))) ∧ Aside0 (768 ≤ cz) ∧ Aside0 (Below wg.heap.size wg wc))
          case first =>
            have c0 := HR6.out.cell 0 _ rfl
            have c1 := HR6.out.cell 1 _ rfl
            have c2' := HR6.out.cell 2 _ rfl
            go_region_law (first
              | (go_simp; go_at_call 18; refine (HCNT.out _ (pw_below_drewN (Below.refl _ _) _)).mono ?_; rintro e w' ⟨rfl, hw⟩; subst w')
              | (go_simp; go_at_call 18; refine (HCNT.out _ (below_drew (Below.refl _ _))).mono ?_; rintro e w' ⟨rfl, hw⟩; subst w')
              | (go_simp; go_at_call 15; refine (HAT.out _ (below_drew (Below.refl _ _))).mono ?_; rintro e wz ⟨gz, cz, rfl, hM7, hg7, hcg, hb7⟩; have HRS := Aside0.mk (And.intro hM7 (And.intro hcg (show Below wg.heap.size wg wz from (below_drew (Below.refl _ _)).trans hb7))); clear hM7 hg7 hcg hb7))
            all_goals
              go_wp2_with fail
              go_meet
              case rel => exact ⟨gz, cz, rfl, rfl, ⟨HRS.out.1⟩, ⟨HRS.out.2.1⟩, ⟨HRS.out.2.2⟩⟩
          case rest =>
            obtain ⟨gz, cz, rfl, rfl, HMZ, HCZ, HBz⟩ := hcut
            clear HAT HCNT
            go_wp2_with fail
            go_at_call 26
            refine (bytes_at im (by rw [HIL.out]; decide) _ _ 768 _ _ wc HIL.out ((HM6.out.below HBz.out).allN HIL.out (by decide)) HCG.out ((HMB6.out.below HBz.out).allN HIL.out (by decide)) HCB.out).mono ?_
            rintro e w' ⟨rfl, q1, rfl⟩
            have hb : Below wc.heap.size wc (wc.drewN q1) := pw_below_drewN (Below.refl _ _) q1
            have HBa := Aside0.mk (HBz.out.trans (hb.mono HBz.out.size))
            have HMZa := Aside0.mk (HMZ.out.below hb)
            clear hb HBz HMZ HM6 HMB6
            generalize wc.drewN q1 = wa at *
            go_wp2_with fail
            go_at_call 20
            refine (image_at (HK6.out.stay HBa.out)).mono ?_
            rintro e wb ⟨gj, cj, rfl, hm, hg, hcj, hb⟩
            rw [HHN.out] at hcj ⊢
            have HBb := Aside0.mk (HBa.out.trans (hb.mono HBa.out.size))
            have HMZb := Aside0.mk (HMZa.out.below hb)
            have HMJ := Aside0.mk hm
            have HCJ := Aside0.mk hcj
            clear hm hg hcj hb HBa HMZa
            go_wp2_with fail
            go_at_call 26
            refine (bytes_at (behindL blank (opsOf po)) (by rw [HLS.out]; decide) _ _ 768 _ _ wb HLS.out (HMZb.out.allN HLS.out (by decide)) HCZ.out (HMJ.out.allN HLS.out (by decide)) HCJ.out).mono ?_
            rintro e w' ⟨rfl, q2', rfl⟩
            have hb : Below wb.heap.size wb (wb.drewN q2') := pw_below_drewN (Below.refl _ _) q2'
            have HBc := Aside0.mk (HBb.out.trans (hb.mono HBb.out.size))
            have HMZc := Aside0.mk (HMZb.out.below hb)
            clear hb HBb HMZb HMJ
            generalize wb.drewN q2' = wd at *
            have HDU := Aside0.mk (show Calls Tryd.prog 21 #[ptr h.D] wd fun e w' => ∃ g c', e = .returned (.slice (some ⟨g, 0, none⟩) 768 c') ∧ Mem w' g (behindL blank (opsOf po)) ∧ wd.heap.size ≤ g ∧ 768 ≤ c' ∧ Below wd.heap.size wd w' from by
              have := durable_at (HK6.out.stay HBc.out) (HF.out.below H0.out (HBW6.out.trans (HBc.out.mono HBW6.out.size))) HOK.out (Nat.lt_of_lt_of_le H0.out (HBW6.out.trans (HBc.out.mono HBW6.out.size)).size)
              rw [HHN.out, List.length_append, List.length_singleton, loose_flush, List.take_of_length_le (by simp), behind_flush] at this
              exact this)
            go_wp2_with fail
            go_at_call 21
            refine HDU.out.mono ?_
            rintro e we ⟨gk, ck', rfl, hm, hg, hck, hb⟩
            have HBd := Aside0.mk (HBc.out.trans (hb.mono HBc.out.size))
            have HMZd := Aside0.mk (HMZc.out.below hb)
            have HMK := Aside0.mk hm
            have HCKk := Aside0.mk hck
            clear hm hg hck hb HBc HMZc HDU
            go_wp2_with fail
            go_at_call 26
            refine (bytes_at (behindL blank (opsOf po)) (by rw [HLS.out]; decide) _ _ 768 _ _ we HLS.out (HMZd.out.allN HLS.out (by decide)) HCZ.out (HMK.out.allN HLS.out (by decide)) HCKk.out).mono ?_
            rintro e w' ⟨rfl, q3, rfl⟩
            have hb : Below we.heap.size we (we.drewN q3) := pw_below_drewN (Below.refl _ _) q3
            have HBe := Aside0.mk (HBd.out.trans (hb.mono HBd.out.size))
            clear hb HBd HMZd HMK
            generalize we.drewN q3 = wh at *
            have HPE := Aside0.mk (show Calls Tryd.prog 22 #[ptr h.D] wh fun e w' => ∃ Ap cp, e = .returned (.slice Ap 0 cp) ∧ Below wh.heap.size wh w' from by
              refine (pending_at (HK6.out.stay HBe.out) (HF.out.below H0.out (HBW6.out.trans (HBe.out.mono HBW6.out.size))) (Nat.lt_of_lt_of_le H0.out (HBW6.out.trans (HBe.out.mono HBW6.out.size)).size)).mono ?_
              rw [List.length_append, List.length_singleton, loose_flush, List.drop_of_length_le (by simp)]
              rintro e w' ⟨v, rfl, hR, hb'⟩
              obtain ⟨Ap, cp, ev⟩ := Kd.R_slice hR
              exact ⟨Ap, cp, by rw [ev]; rfl, hb'⟩)
            go_wp2_with fail
            go_at_call 22
            refine HPE.out.mono ?_
            rintro e wi ⟨Ap', cp', rfl, hb⟩
            have HBi := Aside0.mk (HBW6.out.trans ((HBe.out.trans (hb.mono HBe.out.size)).mono HBW6.out.size))
            clear hb HPE
            go_wp2_with fail
            go_ret
            exact ⟨rfl, HBi.out⟩
end Go.Proofs.YtpaonoaedjkekaaDoor.Dk
