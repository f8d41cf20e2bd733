/- What larderlaw06.DiskSubset computes, walked: true. -/
import Derived.Test.YtpaonoaedjkekaaDoorDkFb
import Derived.Test.YtpaonoaedjkekaaDoorDkSeen
import Derived.OpenShut
namespace Go.Proofs.YtpaonoaedjkekaaDoor.Dk
open Go Go.RowKit Go.Proofs.YtpaonoaedjkekaaDoor.PD Go.Proofs.YtpaonoaedjkekaaDoorW.PrintWords Go.Proofs.YtpaonoaedjkekaaDoorW.PrintLast Go.Proofs.YtpaonoaedjkekaaDoorW.PrintMore
set_option linter.unusedVariables false
set_option linter.unusedSimpArgs false
set_option maxHeartbeats 4000000
set_option maxRecDepth 100000
theorem eqForms {a b : Nat} (h : a = b) : ((a : Int) == (b : Int)) = true ∧ ((a : Int) != (b : Int)) = false ∧ (a == b) = true ∧ (a != b) = false := by subst h; simp
theorem neForms {a b : Nat} (h : a ≠ b) : ((a : Int) == (b : Int)) = false ∧ ((a : Int) != (b : Int)) = true ∧ (a == b) = false ∧ (a != b) = true := by
  have h' : ¬ ((a : Int) = (b : Int)) := by omega
  simp [h, h']
theorem eqFormsI {a b : Int} (h : a = b) : (a == b) = true ∧ (a != b) = false := by subst h; simp
theorem neFormsI {a b : Int} (h : a ≠ b) : (a == b) = false ∧ (a != b) = true := by simp [h]
theorem subset_walk (A : Option Addr) (n c : Nat) (puts0 : List S37) (n0 : Int) (Ak : Option Addr) (mk ck : Nat) (keep : List Int) (torn0 half0 : Int) (W : World) (hC0 : Kd.C k37 W A n puts0) (hP0 : Puts puts0) (hc : n ≤ c)
    (hn0 : (Lit.int .i64 n0).wf = true) (hCk : Kd.C (Kd.int .i64) W Ak mk keep) (hkb : ∀ v ∈ keep, (Lit.int .i64 v).wf = true) (hkc : mk ≤ ck) (hks : mk * 8 ≤ 140737488351232) (ht0 : (Lit.int .i64 torn0).wf = true) (hh0 : (Lit.int .i64 half0).wf = true) (hF : Fl W) (h0 : 0 < W.heap.size) :
    Calls Tryd.prog 3 #[.slice A n c, .int .i64 n0, .slice Ak mk ck, .int .i64 torn0, .int .i64 half0] W fun e w' => e = .returned (.bool true) ∧ Below W.heap.size W w' := by
  have hC1 := C_take37 hC0 (min n 300) (Nat.min_le_left _ _)
  have hP1 := hP0.take (min n 300)
  obtain ⟨L, hL⟩ : ∃ L, min n 300 = L := ⟨_, rfl⟩
  obtain ⟨puts, hputs⟩ : ∃ puts, puts0.take L = puts := ⟨_, rfl⟩
  rw [hL, hputs] at hC1 hP1
  have hlen : puts.length = L := Kd.C_len hC1
  have hL3 : L ≤ 300 := by omega
  have hLc : L ≤ c := by omega
  have HC := Aside0.mk (show Kd.C k37 W A puts.length puts by rw [hlen]; exact hC1)
  have HP := Aside0.mk hP1
  have HL := Aside0.mk hL
  have HLEN := Aside0.mk hlen
  have HL3 := Aside0.mk hL3
  have HLC := Aside0.mk hLc
  have HCC := Aside0.mk hc
  have HF := Aside0.mk hF
  have H0 := Aside0.mk h0
  have HCK := Aside0.mk hCk
  have HKB := Aside0.mk hkb
  have HKS := Aside0.mk hks
  have hkl := Kd.C_len hCk
  have HKL := Aside0.mk hkl
  obtain ⟨N, hN⟩ : ∃ N, modw n0 L = N := ⟨_, rfl⟩
  have hNL : N ≤ L := hN ▸ modw_le n0 L
  have WN := within_to n0 L (by omega) (bounds_i64 hn0)
  rw [hN] at WN
  obtain ⟨y, hy⟩ : ∃ y, modw half0 128 = y := ⟨_, rfl⟩
  have hy8 : y ≤ 128 := hy ▸ modw_le half0 128
  have WY := within_to half0 128 (by decide) (bounds_i64 hh0)
  rw [hy] at WY
  obtain ⟨k, hk⟩ : ∃ k, barN puts N = k := ⟨_, rfl⟩
  have hkN : k ≤ N := hk ▸ barN_le puts N
  have htN : (puts.take N).length = N := by rw [List.length_take]; omega
  have WB := barrier_ok (puts.take N) (by omega)
  rw [htN, barN_take puts N N (Nat.le_refl _), hk] at WB
  have HWN := Aside0.mk WN
  have HWY := Aside0.mk WY
  have HWB := Aside0.mk WB
  have HT0 := Aside0.mk (bounds_i64 ht0)
  have HNL := Aside0.mk hNL
  have HY8 := Aside0.mk hy8
  have HKN := Aside0.mk hkN
  have HTN := Aside0.mk htN
  have HK := Aside0.mk hk
  have hN1 : (0 : Int) ≤ (N : Int) := by omega
  have hN2 : (N : Int) ≤ (c : Int) := by omega
  have hN3 : N ≤ c := by omega
  have hN4 : (N : Int) ≤ (L : Int) := by omega
  clear hC0 hP0 hC1 hP1 hputs hL hlen hL3 hLc hc hF h0 hCk hkb hks hkl hN hNL WN hy hy8 WY hk hkN htN WB hn0 ht0 hh0
  go_enter Tryd.func3, Tryd.ntmps3
  go_wp2_with (go_at_call 11; refine (few_at A n c HCC.out W).mono ?_; rw [HL.out]; rintro e w' ⟨rfl, hw⟩; subst w')
  have hla := laid_at A c puts W HC.out HP.out (by rw [HLEN.out]; exact HL3.out) HF.out H0.out
  rw [HLEN.out] at hla
  go_at_call 12
  refine hla.mono ?_
  rintro e w1 ⟨h, A1, c1, rfl, hhn, hk, hb⟩
  have HHN := Aside0.mk hhn
  have HK1 := Aside0.mk hk
  have HB1 := Aside0.mk hb
  clear hla hhn hk hb
  go_wp2_with fail
  go_at_call 13
  refine (larderlaw06_within.calls n0 0 (L : Int) (N : Int) w1 HWN.out).mono ?_
  rintro e w' ⟨rfl, d1, rfl⟩
  have hb2 : Below w1.heap.size w1 (w1.drewN d1) := pw_below_drewN (Below.refl _ _) d1
  have HB2 := Aside0.mk (HB1.out.trans (hb2.mono HB1.out.size))
  have HK2 := Aside0.mk (HK1.out.stay hb2)
  clear hb2 HK1 HB1
  generalize w1.drewN d1 = w2 at *
  go_wp2_with fail
  have hba := larderlaw06_barrier.calls (N + 1) A c (puts.take N) k w2 (by rw [HTN.out]; exact C_take37 (HLEN.out ▸ Kd.C_below HC.out HB2.out) N HNL.out) (by rw [HTN.out]; exact hN3) HWB.out
  rw [HTN.out] at hba
  go_at_call 14
  refine hba.mono ?_
  rintro e w' ⟨rfl, d2, rfl⟩
  clear hba
  have hb3 : Below w2.heap.size w2 (w2.drewN d2) := pw_below_drewN (Below.refl _ _) d2
  have HB3 := Aside0.mk (HB2.out.trans (hb3.mono HB2.out.size))
  have HK3 := Aside0.mk (HK2.out.stay hb3)
  clear hb3 HK2 HB2
  generalize w2.drewN d2 = w3 at *
  go_wp2_with fail
  go_at_call 13
  refine (larderlaw06_within.calls half0 0 128 (y : Int) w3 HWY.out).mono ?_
  rintro e w' ⟨rfl, d3, rfl⟩
  have hb4 : Below w3.heap.size w3 (w3.drewN d3) := pw_below_drewN (Below.refl _ _) d3
  have HB4 := Aside0.mk (HB3.out.trans (hb4.mono HB3.out.size))
  have HK4 := Aside0.mk (HK3.out.stay hb4)
  clear hb4 HK3 HB3
  generalize w3.drewN d3 = w4 at *
  go_wp2_with fail
  obtain ⟨M, hM⟩ : ∃ M, N - k = M := ⟨_, rfl⟩
  have HM := Aside0.mk hM
  have hs1 : wrap64 ((N : Int) - (k : Int)) = (M : Int) := by unfold wrap64; have := HKN.out; have := HNL.out; have := HL3.out; omega
  have hs2 : 0 < M → wrap64 ((M : Int) - 1) = ((M - 1 : Nat) : Int) := fun h => by unfold wrap64; have := HNL.out; have := HL3.out; omega
  clear hM
  go_loopw [13, 14] (fun own p wr => ∃ i : Nat, p = .int .i64 (i : Int) ∧ Aside0 (i ≤ mk) ∧ Aside0 (Kd.R (Kd.int .i64) 3 wr w4.heap.size (fun _ => True) own (ownL M (keep.take i))) ∧ Aside0 (Below w4.heap.size w4 wr)) (fun _ p _ => mk - (intOf p).toNat)
  · refine ⟨0, rfl, ⟨Nat.zero_le _⟩, ⟨?_⟩, ⟨Below.refl _ _⟩⟩
    have : ownL M (keep.take 0) = [] := by unfold ownL; split <;> simp
    rw [this]
    exact Kd.R_nil _ _ _ _ _
  · obtain ⟨i, rfl, HI, HRr, HBr⟩ := hrel
    by_cases ci : i < mk
    · have ci1 : decide ((i : Int) < (mk : Int)) = true := decide_eq_true (by omega)
      have ci2 : decide (i < mk) = true := decide_eq_true ci
      have ci3 : (0 : Int) ≤ (i : Int) := by omega
      have ci4 : (i : Int) < (mk : Int) := by omega
      have hw1 : IntKind.i64.wrap ((i : Int) + 1) = ((i + 1 : Nat) : Int) := by rw [IntWalk.i64_in _ (by have := HKS.out; omega)]; omega
      rcases Nat.eq_zero_or_pos M with hm0 | hm0
      · have c1 : ¬ k < N := by have := HM.out; have := HKN.out; omega
        go_wp2_with fail
        refine ⟨⟨i + 1, congrArg (Value.int .i64) (by omega), ⟨ci⟩, ⟨?_⟩, HBr⟩, ?_⟩
        · have := HRr.out
          unfold ownL at this ⊢
          rw [if_pos hm0] at this ⊢
          exact this
        · simp only [intOf]
          omega
      · have c1 : k < N := by have := HM.out; omega
        have hs2' := hs2 hm0
        obtain ⟨x, hx⟩ : ∃ x, keep[i]? = some x := ⟨_, List.getElem?_eq_getElem (by have := HKL.out; omega)⟩
        obtain ⟨ad, rfl, hcell⟩ := (Kd.reads_of_C (d := (0 : Int)) (h1 := fun _ => rfl) (Kd.C_below HCK.out ((HB4.out.trans (HBr.out.mono HB4.out.size)) : Below W.heap.size W wr))).2.2 (by omega)
        have cj := hcell i ci
        rw [List.getD_eq_getElem?_getD, hx] at cj
        simp only [Option.getD_some] at cj
        have HX := Aside0.mk hx
        have HM0 := Aside0.mk hm0
        have HWX := Aside0.mk (within_to x (M - 1) (by have := HM.out; have := HNL.out; have := HL3.out; omega) (bounds_i64 (HKB.out x (List.mem_of_getElem? hx))))
        clear hcell hx hm0
        go_wp2_with fail
        go_at_call 13
        refine (larderlaw06_within.calls x 0 _ _ _ HWX.out).mono ?_
        rintro e w' ⟨rfl, d4, rfl⟩
        have hb5 : Below wr.heap.size wr (wr.drewN d4) := pw_below_drewN (Below.refl _ _) d4
        have HB5 := Aside0.mk (HBr.out.trans (hb5.mono HBr.out.size))
        have HR5 := Aside0.mk (Kd.R_below HRr.out hb5)
        clear hb5 HRr HBr cj
        generalize wr.drewN d4 = w5 at *
        have HLO := Aside0.mk (show (ownL M (keep.take i)).length = i from by unfold ownL; rw [if_neg (by have := HM0.out; omega), List.length_map, List.length_take]; have := HKL.out; omega)
        go_wp2_with (first | (
          (with_reducible refine gate_builtin (b := .append) (xs := #[.tmp 52, .tmp 62]) rfl ?_)
          at_builtin
          refine Kd.R_append (Kd.int .i64) (w0 := w4) w4.heap.size rfl (.tmp 52) (.tmp 62) 23 3 (.int .i64 0) 8 rfl Tryd.underlying23 info3' rfl (by decide) (by omega) _ _ (modw x (M - 1) : Int) [.int .i64 (modw x (M - 1) : Int)] (fun _ => True) (fun _ => False) rfl rfl rfl (fun _ hk => hk.elim) (fun _ _ => trivial) HR5.out HB5.out HB5.out.size (by rw [HLO.out]; have := HKS.out; omega) ?_
          intro v1 w6 ho hb hg hat
          have HO := Aside0.mk ho
          have HB6 := Aside0.mk hb
          clear ho hb hg hat))
        refine ⟨⟨i + 1, congrArg (Value.int .i64) (by omega), ⟨ci⟩, ⟨?_⟩, HB6⟩, ?_⟩
        · rw [ownL_snoc HM0.out HX.out]
          exact HO.out
        · simp only [intOf]
          omega
    · have ci1 : decide ((i : Int) < (mk : Int)) = false := decide_eq_false (by omega)
      have ci2 : decide (i < mk) = false := decide_eq_false ci
      obtain ⟨Ao, co, eo, hlo, hCo⟩ := Kd.R_reads HRr.out
      rw [List.take_of_length_le (by have := HKL.out; omega)] at eo hlo hCo
      obtain ⟨own, hown⟩ : ∃ own, ownL M keep = own := ⟨_, rfl⟩
      have HOWN := Aside0.mk hown
      rw [hown] at eo hlo hCo
      subst eo
      have HCO := Aside0.mk hCo
      have HB5 := Aside0.mk (show Below W.heap.size W wr from HB4.out.trans (HBr.out.mono HB4.out.size))
      have HK5 := Aside0.mk (HK4.out.stay HBr.out)
      obtain ⟨ol, hol⟩ : ∃ ol, own.length = ol := ⟨_, rfl⟩
      have HOL := Aside0.mk hol
      rw [hol] at hlo ⊢
      clear hol hCo hown HRr HBr HK4 HB4 HI
      obtain ⟨tt, htt⟩ : ∃ tt : Int, (if M = 0 then -1 else (modw torn0 (M - 1) : Int)) = tt := ⟨_, rfl⟩
      have HTT := Aside0.mk htt
      clear htt
      go_upto_if 66 with fail
      go_cut [15] from 64 to 72 (fun v15 wc => v15 = .int .i64 tt ∧ Aside0 (Below wr.heap.size wr wc))
      case first =>
        rcases Nat.eq_zero_or_pos M with hm0 | hm0
        · have c1 : ¬ k < N := by have := HM.out; have := HKN.out; omega
          go_wp2_with fail
          go_meet
          case rel => exact ⟨by rw [← HTT.out, if_pos hm0], ⟨Below.refl _ _⟩⟩
        · have c1 : k < N := by have := HM.out; omega
          have hs2' := hs2 hm0
          have HM0 := Aside0.mk hm0
          have HWX := Aside0.mk (within_to torn0 (M - 1) (by have := HM.out; have := HNL.out; have := HL3.out; omega) HT0.out)
          clear hm0
          go_wp2_with fail
          go_at_call 13
          refine (larderlaw06_within.calls torn0 0 _ _ _ HWX.out).mono ?_
          rintro e w' ⟨rfl, d4, rfl⟩
          go_wp2_with fail
          go_meet
          case rel => exact ⟨by rw [← HTT.out, if_neg (by have := HM0.out; omega)], ⟨pw_below_drewN (Below.refl _ _) d4⟩⟩
      case rest =>
        obtain ⟨rfl, HBC⟩ := hcut
        have HB6 := Aside0.mk (HB5.out.trans (HBC.out.mono HB5.out.size))
        have HK6 := Aside0.mk (HK5.out.stay HBC.out)
        have HCO6 := Aside0.mk (show Kd.C (Kd.int .i64) wc Ao ol own by have := Kd.C_below HCO.out HBC.out; rwa [HOL.out] at this)
        clear HBC HB5 HK5 HCO hs2
        go_wp2_with fail
        go_at_call 15
        refine (at_at HK6.out (HF.out.below H0.out HB6.out) (by rw [HHN.out]; exact opsOf_ok puts) (Nat.lt_of_lt_of_le H0.out HB6.out.size) N (by rw [opsOf_len]; have := HLEN.out; have := HNL.out; omega) Ao ol co own tt y HY8.out HCO6.out).mono ?_
        rintro e w7 ⟨g, cg, rfl, hM7, hg7, hcg, hb7⟩
        rw [HHN.out] at hcg
        have HCG := Aside0.mk hcg
        have HB7 := Aside0.mk (HB6.out.trans (hb7.mono HB6.out.size))
        have HCO7 := Aside0.mk (Kd.C_below HCO6.out hb7)
        have HIM := Aside0.mk (at_img puts N (by have := HLEN.out; have := HNL.out; omega) own tt y HY8.out)
        have HM7 := Aside0.mk hM7
        clear hM7 hg7 hcg hb7 HB6 HK6 HCO6
        rw [HHN.out]
        have HIM2 := Aside0.mk (show Img (atL blank (opsOf puts) N own tt y) (fun s i => ofFB y (fbL s own tt (lastB (puts.take k) s, lastB (puts.take k) s) 0 ((puts.drop k).take M)) i) from by
          have := HIM.out
          rwa [HK.out, HM.out] at this)
        have HTK := Aside0.mk (show (puts.take k).length = k by rw [List.length_take]; have := HLEN.out; have := HKN.out; have := HNL.out; omega)
        obtain ⟨im, him⟩ : ∃ im, atL blank (opsOf puts) N own tt y = im := ⟨_, rfl⟩
        rw [him] at HIM2 HM7
        clear him HIM hs1
        have hk1 : (0 : Int) ≤ (k : Int) := by omega
        have hk2 : (k : Int) ≤ (c : Int) := by have := HKN.out; omega
        have hk3 : k ≤ c := by have := HKN.out; omega
        have hk4 : (k : Int) ≤ (L : Int) := by have := HKN.out; have := HNL.out; omega
        go_wp2_with fail
        go_loopw [18] (fun p wr => ∃ s : Nat, p = .int .i64 (s : Int) ∧ Aside0 (s ≤ 6) ∧ Aside0 (Below W.heap.size W wr) ∧ Aside0 (Below w7.heap.size w7 wr)) (fun p _ => 6 - (intOf p).toNat)
        · exact ⟨0, rfl, ⟨Nat.zero_le _⟩, HB7, ⟨Below.refl _ _⟩⟩
        · obtain ⟨s, rfl, HS, HBs, HB7s⟩ := hrel
          by_cases cs : s < 6
          · have cs1 : decide ((s : Int) < 6) = true := decide_eq_true (by omega)
            have cs2 : decide (s < 6) = true := decide_eq_true cs
            have cs3 : (0 : Int) ≤ (s : Int) := by omega
            have cs4 : (s : Int) < 6 := by omega
            have hws : IntKind.i64.wrap ((s : Int) + 1) = ((s + 1 : Nat) : Int) := by rw [IntWalk.i64_in _ (by omega)]; omega
            go_wp2_with fail
            have hq16 := larderlaw06_lastOf.calls (k + 1) A c (puts.take k) (s : Int) (lastB (puts.take k) s) wr (by rw [HTK.out]; exact C_take37 (HLEN.out ▸ Kd.C_below HC.out HBs.out) k (by have := HKN.out; have := HNL.out; omega)) (by rw [HTK.out]; exact hk3) (by
              have := lastOf_ok (puts.take k) (HP.out.take k) (by rw [HTK.out]; have := HKN.out; have := HNL.out; have := HL3.out; omega) s
              rwa [HTK.out] at this)
            rw [HTK.out] at hq16
            go_at_call 16
            refine hq16.mono ?_
            rintro e w' ⟨rfl, d5, rfl⟩
            clear hq16
            have hb8 : Below wr.heap.size wr (wr.drewN d5) := pw_below_drewN (Below.refl _ _) d5
            have HB8 := Aside0.mk (HBs.out.trans (hb8.mono HBs.out.size))
            have HB78 := Aside0.mk (HB7s.out.trans (hb8.mono HB7s.out.size))
            clear hb8
            generalize wr.drewN d5 = w8 at *
            obtain ⟨f0, hf0⟩ : ∃ f0, lastB (puts.take k) s = f0 := ⟨_, rfl⟩
            have HF0 := Aside0.mk hf0
            rw [hf0]
            clear hf0
            go_wp2_with fail
            go_loopw [19, 20, 21] (fun v19 v20 v21 wr => ∃ I : Nat, v21 = .int .i64 (I : Int) ∧ Aside0 (k ≤ I ∧ I ≤ N) ∧ v19 = .int .u8 (fbL s own tt (f0, f0) 0 ((puts.drop k).take (I - k))).1 ∧ v20 = .int .u8 (fbL s own tt (f0, f0) 0 ((puts.drop k).take (I - k))).2 ∧ Aside0 (Below w8.heap.size w8 wr)) (fun _ _ v21 _ => N - (intOf v21).toNat)
            · refine ⟨k, rfl, ⟨⟨Nat.le_refl _, HKN.out⟩⟩, ?_, ?_, ⟨Below.refl _ _⟩⟩
              · rw [Nat.sub_self, List.take_zero]; rfl
              · rw [Nat.sub_self, List.take_zero]; rfl
            · obtain ⟨I, rfl, HI, e19, e20, HBi⟩ := hrel
              obtain ⟨fb, hfb⟩ : ∃ fb, fbL s own tt (f0, f0) 0 ((puts.drop k).take (I - k)) = fb := ⟨_, rfl⟩
              rw [hfb] at e19 e20
              subst e19 e20
              have HFB := Aside0.mk hfb
              clear hfb
              have HB9 := Aside0.mk (HB8.out.trans (HBi.out.mono HB8.out.size))
              have HB79 := Aside0.mk (HB78.out.trans (HBi.out.mono HB78.out.size))
              by_cases cI : I < N
              · have cI1 : decide ((I : Int) < (N : Int)) = true := decide_eq_true (by omega)
                have cI2 : decide (I < N) = true := decide_eq_true cI
                have cI3 : (0 : Int) ≤ (I : Int) := by omega
                have cI4 : (I : Int) < (L : Int) := by have := HNL.out; omega
                have hwI : IntKind.i64.wrap ((I : Int) + 1) = ((I + 1 : Nat) : Int) := by rw [IntWalk.i64_in _ (by have := HNL.out; have := HL3.out; omega)]; omega
                have hsI : wrap64 ((I : Int) - (k : Int)) = ((I - k : Nat) : Int) := by unfold wrap64; have := HI.out; have := HNL.out; have := HL3.out; omega
                obtain ⟨p, hp⟩ : ∃ p, puts[I]? = some p := ⟨_, List.getElem?_eq_getElem (by have := HLEN.out; have := HNL.out; omega)⟩
                obtain ⟨ad, rfl, p0, p1, p2⟩ := at_T37 (Kd.C_below HC.out HB9.out) (I : Int) (by omega) (by have := HLEN.out; have := HNL.out; omega)
                rw [rd37 hp, Int.toNat_natCast] at p0 p1 p2
                have HWI := Aside0.mk (within_ok p.f0 (HP.out p (List.mem_of_getElem? hp)))
                have HPT := Aside0.mk hp
                have HSNOC := Aside0.mk (show fbL s own tt (f0, f0) 0 ((puts.drop k).take (I + 1 - k)) = stepFB s own tt (I - k) fb p from by
                  have hd : (puts.drop k)[I - k]? = some p := by rw [List.getElem?_drop, show k + (I - k) = I from by have := HI.out; omega]; exact hp
                  rw [show I + 1 - k = (I - k) + 1 from by have := HI.out; omega, take_snoc hd, fbL_snoc, HFB.out, Nat.zero_add, List.length_take, List.length_drop]
                  congr 1
                  have := HLEN.out; have := HNL.out; have := HI.out; omega)
                clear hp p2
                go_wp2_with fail
                go_at_call 13
                refine (larderlaw06_within.calls p.f0 0 5 _ _ HWI.out).mono ?_
                rintro e w' ⟨rfl, d6, rfl⟩
                have hb9 : Below wr.heap.size wr (wr.drewN d6) := pw_below_drewN (Below.refl _ _) d6
                have HBw := Aside0.mk (HBi.out.trans (hb9.mono HBi.out.size))
                have HC9 := Aside0.mk (Kd.C_below HCO7.out (HB79.out.trans (hb9.mono HB79.out.size)))
                have p1' : (wr.drewN d6).cell? ⟨(ad.add (I * 3)).block, (ad.add (I * 3)).off + 1, none⟩ = some (.int .u8 p.f1) := p1
                clear hb9 p0 p1 HB9 HB79 HBi
                generalize wr.drewN d6 = w9 at *
                by_cases hse : sec p.f0 = s
                · obtain ⟨hse1, hse2, hse3, hse4⟩ := eqForms hse
                  have HSE := Aside0.mk hse
                  clear hse
                  go_wp2_with fail
                  go_loopw [22, 23] (fun v22 v23 wr => ∃ j : Nat, v23 = .int .i64 (j : Int) ∧ Aside0 (j ≤ ol) ∧ v22 = .bool (decide (((I - k : Nat) : Int) ∈ own.take j)) ∧ wr = w9) (fun _ v23 _ => ol - (intOf v23).toNat)
                  · exact ⟨0, rfl, ⟨Nat.zero_le _⟩, by simp, rfl⟩
                  · obtain ⟨j, rfl, HJ, rfl, rfl⟩ := hrel
                    by_cases cj : j < ol
                    · have cj1 : decide ((j : Int) < (ol : Int)) = true := decide_eq_true (by omega)
                      have cj2 : decide (j < ol) = true := decide_eq_true cj
                      have cj3 : (0 : Int) ≤ (j : Int) := by omega
                      have cj4 : (j : Int) < (ol : Int) := by omega
                      obtain ⟨x, hx⟩ : ∃ x, own[j]? = some x := ⟨_, List.getElem?_eq_getElem (by have := HOL.out; omega)⟩
                      have HX := Aside0.mk hx
                      obtain ⟨ao, rfl, hcell⟩ := (Kd.reads_of_C (d := (0 : Int)) (h1 := fun _ => rfl) HC9.out).2.2 (by omega)
                      have co := hcell j cj
                      rw [List.getD_eq_getElem?_getD, hx] at co
                      simp only [Option.getD_some] at co
                      have hwj : IntKind.i64.wrap ((j : Int) + 1) = ((j + 1 : Nat) : Int) := by rw [IntWalk.i64_in _ (by have := (Kd.reads_of_C (d := (0 : Int)) (h1 := fun _ => rfl) HC9.out).2.1; omega)]; omega
                      clear hcell hx
                      by_cases hxi : x = ((I - k : Nat) : Int)
                      · obtain ⟨hxi1, hxi2⟩ := eqFormsI hxi
                        have HXI := Aside0.mk hxi
                        clear hxi
                        go_wp2_with fail
                        refine ⟨⟨j + 1, congrArg (Value.int .i64) (by omega), ⟨cj⟩, ?_, trivial⟩, ?_⟩
                        · rw [take_snoc HX.out, HXI.out]
                          simp
                        · simp only [intOf]
                          omega
                      · obtain ⟨hxi1, hxi2⟩ := neFormsI hxi
                        have HXI := Aside0.mk hxi
                        clear hxi
                        go_wp2_with fail
                        refine ⟨⟨j + 1, congrArg (Value.int .i64) (by omega), ⟨cj⟩, ?_, trivial⟩, ?_⟩
                        · rw [take_snoc HX.out]
                          have := HXI.out
                          simp [Ne.symm this]
                        · simp only [intOf]
                          omega
                    · have cj1 : decide ((j : Int) < (ol : Int)) = false := decide_eq_false (by omega)
                      have cj2 : decide (j < ol) = false := decide_eq_false cj
                      rw [List.take_of_length_le (show own.length ≤ j by have := HOL.out; omega)]
                      by_cases hin : ((I - k : Nat) : Int) ∈ own
                      · have hd : decide (((I - k : Nat) : Int) ∈ own) = true := decide_eq_true hin
                        rw [hd]
                        have HIN := Aside0.mk hin
                        clear hin hd
                        go_wp2_with fail
                        refine ⟨⟨I + 1, congrArg (Value.int .i64) (by omega), ⟨by have := HI.out; omega⟩, ?_, ?_, HBw⟩, ?_⟩
                        · rw [HSNOC.out, stepFB, if_pos HSE.out, if_pos HIN.out]
                        · rw [HSNOC.out, stepFB, if_pos HSE.out, if_pos HIN.out]
                        · simp only [intOf]
                          omega
                      · have hd : decide (((I - k : Nat) : Int) ∈ own) = false := decide_eq_false hin
                        rw [hd]
                        have HIN := Aside0.mk hin
                        clear hin hd
                        by_cases hto : ((I - k : Nat) : Int) = tt
                        · obtain ⟨hto1, hto2⟩ := eqFormsI hto
                          have HTO := Aside0.mk hto
                          clear hto
                          go_wp2_with fail
                          refine ⟨⟨I + 1, congrArg (Value.int .i64) (by omega), ⟨by have := HI.out; omega⟩, ?_, ?_, HBw⟩, ?_⟩
                          · rw [HSNOC.out, stepFB, if_pos HSE.out, if_neg HIN.out, if_pos HTO.out]
                          · rw [HSNOC.out, stepFB, if_pos HSE.out, if_neg HIN.out, if_pos HTO.out]
                          · simp only [intOf]
                            omega
                        · obtain ⟨hto1, hto2⟩ := neFormsI hto
                          have HTO := Aside0.mk hto
                          clear hto
                          go_wp2_with fail
                          refine ⟨⟨I + 1, congrArg (Value.int .i64) (by omega), ⟨by have := HI.out; omega⟩, ?_, ?_, HBw⟩, ?_⟩
                          · rw [HSNOC.out, stepFB, if_pos HSE.out, if_neg HIN.out, if_neg HTO.out]
                          · rw [HSNOC.out, stepFB, if_pos HSE.out, if_neg HIN.out, if_neg HTO.out]
                          · simp only [intOf]
                            omega
                · obtain ⟨hse1, hse2, hse3, hse4⟩ := neForms hse
                  have HSE := Aside0.mk hse
                  clear hse
                  go_wp2_with fail
                  refine ⟨⟨I + 1, congrArg (Value.int .i64) (by omega), ⟨by have := HI.out; omega⟩, ?_, ?_, HBw⟩, ?_⟩
                  · rw [HSNOC.out, stepFB, if_neg HSE.out]
                  · rw [HSNOC.out, stepFB, if_neg HSE.out]
                  · simp only [intOf]
                    omega
              · have cI1 : decide ((I : Int) < (N : Int)) = false := decide_eq_false (by omega)
                have cI2 : decide (I < N) = false := decide_eq_false cI
                have eIN : I = N := by have := HI.out; omega
                have HBY := Aside0.mk (show ∀ i, i < 128 → wr.cell? ⟨g, 128 * s + i, none⟩ = some (.int .u8 (ofFB y fb i)) from fun i hi => by
                  have h1 := HIM2.out.2 s i cs hi
                  have h2 := (HM7.out.below HB79.out).cell (128 * s + i) (by rw [HIM2.out.1]; omega)
                  rw [List.getD_eq_getElem?_getD, h1] at h2
                  have e : fbL s own tt (lastB (puts.take k) s, lastB (puts.take k) s) 0 ((puts.drop k).take M) = fb := by
                    rw [HF0.out, ← HFB.out, eIN, HM.out]
                  simp only [Option.getD_some] at h2
                  rw [e] at h2
                  exact h2)
                clear HBi HFB HI
                generalize wr = w10 at *
                go_wp2_with (go_at_call 17; refine (sectors_of g cg s cs HCG.out _).mono ?_; rintro e w' ⟨rfl, hw⟩; subst w')
                go_loopw [25] (fun v25 wr => ∃ i : Nat, v25 = .int .i64 (i : Int) ∧ Aside0 (i ≤ 128) ∧ wr = w10) (fun v25 _ => 128 - (intOf v25).toNat)
                · exact ⟨0, rfl, ⟨Nat.zero_le _⟩, rfl⟩
                · obtain ⟨i, rfl, HIi, rfl⟩ := hrel
                  by_cases ck : i < 128
                  · have ck1 : decide ((i : Int) < 128) = true := decide_eq_true (by omega)
                    have ck2 : decide (i < 128) = true := decide_eq_true ck
                    have ck3 : (0 : Int) ≤ (i : Int) := by omega
                    have ck4 : (i : Int) < 128 := by omega
                    have hwi : IntKind.i64.wrap ((i : Int) + 1) = ((i + 1 : Nat) : Int) := by rw [IntWalk.i64_in _ (by omega)]; omega
                    have cb := HBY.out i ck
                    by_cases hiy : i < y
                    · have e : ofFB y fb i = fb.1 := by unfold ofFB; rw [if_pos hiy]
                      rw [e] at cb
                      clear e
                      go_wp2_with fail
                      refine ⟨⟨i + 1, congrArg (Value.int .i64) (by omega), ⟨ck⟩, trivial⟩, ?_⟩
                      simp only [intOf]
                      omega
                    · have e : ofFB y fb i = fb.2 := by unfold ofFB; rw [if_neg hiy]
                      rw [e] at cb
                      clear e
                      go_wp2_with fail
                      refine ⟨⟨i + 1, congrArg (Value.int .i64) (by omega), ⟨ck⟩, trivial⟩, ?_⟩
                      simp only [intOf]
                      omega
                  · have ck1 : decide ((i : Int) < 128) = false := decide_eq_false (by omega)
                    have ck2 : decide (i < 128) = false := decide_eq_false ck
                    go_wp2_with fail
                    refine ⟨⟨s + 1, congrArg (Value.int .i64) (by omega), ⟨cs⟩, HB9, HB79⟩, ?_⟩
                    simp only [intOf]
                    omega
          · have cs1 : decide ((s : Int) < 6) = false := decide_eq_false (by omega)
            have cs2 : decide (s < 6) = false := decide_eq_false cs
            go_wp2_with fail
            go_ret
            exact ⟨rfl, HBs.out⟩
end Go.Proofs.YtpaonoaedjkekaaDoor.Dk
