/- What larderlaw06.DiskSeen computes, walked: true. -/
import Derived.Test.YtpaonoaedjkekaaDoorDkSm
namespace Go.Proofs.YtpaonoaedjkekaaDoor.Dk
open Go Go.RowKit Go.Proofs.YtpaonoaedjkekaaDoor.PD Go.Proofs.YtpaonoaedjkekaaDoorW.PrintWords Go.Proofs.YtpaonoaedjkekaaDoorW.PrintLast Go.Proofs.YtpaonoaedjkekaaDoorW.PrintMore
set_option linter.unusedVariables false
set_option linter.unusedSimpArgs false
set_option maxHeartbeats 4000000
set_option maxRecDepth 100000
theorem Puts.take {puts : List S37} (h : Puts puts) (n : Nat) : Puts (puts.take n) := fun p hp => h p (List.mem_of_mem_take hp)
theorem C_take37 {W : World} {A : Option Addr} {n : Nat} {puts : List S37} (h : Kd.C k37 W A n puts) (m : Nat) (hm : m ≤ n) : Kd.C k37 W A m (puts.take m) := by
  have hl := Kd.C_len h
  subst hl
  have := Kd.C_take h hm
  rwa [List.length_take, Nat.min_eq_left hm] at this
theorem seen_walk (A : Option Addr) (n c : Nat) (puts0 : List S37) (W : World) (hC0 : Kd.C k37 W A n puts0) (hP0 : Puts puts0) (hc : n ≤ c) (hF : Fl W) (h0 : 0 < W.heap.size) :
    Calls Tryd.prog 4 #[.slice A n c] W fun e w' => e = .returned (.bool true) ∧ Below W.heap.size W w' := by
  have hC1 := C_take37 hC0 (min n 300) (Nat.min_le_left _ _)
  have hP1 := hP0.take (min n 300)
  obtain ⟨L, hL⟩ : ∃ L, min n 300 = L := ⟨_, rfl⟩
  obtain ⟨puts, hputs⟩ : ∃ puts, puts0.take L = puts := ⟨_, rfl⟩
  rw [hL, hputs] at hC1 hP1
  have hlen : puts.length = L := Kd.C_len hC1
  have hL3 : L ≤ 300 := by omega
  have hLc : L ≤ c := by omega
  have HC := Aside0.mk (show Kd.C k37 W A puts.length puts by rw [hlen]; exact hC1)
  have HP := Aside0.mk hP1
  have HL := Aside0.mk hL
  have HLEN := Aside0.mk hlen
  have HL3 := Aside0.mk hL3
  have HLC := Aside0.mk hLc
  have HCC := Aside0.mk hc
  have HF := Aside0.mk hF
  have H0 := Aside0.mk h0
  clear hC0 hP0 hC1 hP1 hputs hL hlen hL3 hLc hc hF h0
  go_enter Tryd.func4, Tryd.ntmps4
  go_wp2_with (go_at_call 11; refine (few_at A n c HCC.out W).mono ?_; rw [HL.out]; rintro e w' ⟨rfl, hw⟩; subst w')
  have hla := laid_at A c puts W HC.out HP.out (by rw [HLEN.out]; exact HL3.out) HF.out H0.out
  rw [HLEN.out] at hla
  go_at_call 12
  refine hla.mono ?_
  rintro e w1 ⟨h, A1, c1, rfl, hhn, hk, hb⟩
  have HHN := Aside0.mk hhn
  have HK := Aside0.mk hk
  have HB := Aside0.mk hb
  clear hla hhn hk hb
  have hol : (opsOf puts).length = L := by rw [opsOf_len]; exact HLEN.out
  have hbar := barrier_ok puts (by have := HLEN.out; have := HL3.out; omega)
  obtain ⟨k, hk⟩ : ∃ k, barN puts puts.length = k := ⟨_, rfl⟩
  have hkl : looseN (opsOf puts) (opsOf puts).length = k := by rw [looseN_opsOf, opsOf_len, hk]
  have hkL : k ≤ L := by have := looseN_le (opsOf puts) (opsOf puts).length; omega
  rw [hk] at hbar
  have HOL := Aside0.mk hol
  have HBAR := Aside0.mk hbar
  have HKL := Aside0.mk hkl
  have HKLE := Aside0.mk hkL
  have HCNT := Aside0.mk (show Calls Tryd.prog 18 #[ptr h.D] w1 fun e w' => e = .returned (.int .i64 (L : Int)) ∧ w' = w1 from by
    have := count_at HK.out
    rwa [HOL.out] at this)
  have HSEC := Aside0.mk (show Calls Tryd.prog 19 #[ptr h.D] w1 fun e w' => e = .returned (.int .i64 6) ∧ w' = w1 from sectors_at HK.out 6 (by rw [HHN.out]))
  clear hol hbar hk hkl
  have hsub : wrap64 ((L : Int) - (k : Int)) = ((L - k : Nat) : Int) := by unfold wrap64; have := HL3.out; omega
  go_wp2_with (first
    | (go_at_call 18; refine HCNT.out.mono ?_; rintro e w' ⟨rfl, hw⟩; subst w')
    | (go_at_call 19; refine HSEC.out.mono ?_; rintro e w' ⟨rfl, hw⟩; subst w'))
  have HC1 := Aside0.mk (Kd.C_below HC.out HB.out)
  have hba := larderlaw06_barrier.calls (puts.length + 1) A c puts k w1 HC1.out (by rw [HLEN.out]; exact HLC.out) HBAR.out
  rw [HLEN.out] at hba
  go_at_call 14
  refine hba.mono ?_
  rintro e w' ⟨rfl, nd, rfl⟩
  have hb2 : Below w1.heap.size w1 (w1.drewN nd) := pw_below_drewN (Below.refl _ _) nd
  have HB2 := Aside0.mk (HB.out.trans (hb2.mono HB.out.size))
  have HK2 := Aside0.mk (HK.out.stay hb2)
  clear hba hb2 HC1 HCNT HK HB
  generalize w1.drewN nd = w2 at *
  go_wp2_with fail
  go_at_call 20
  refine (image_at HK2.out).mono ?_
  rintro e w3 ⟨gi, ci, rfl, hmi, hgi, hci, hb3⟩
  rw [HHN.out] at hci
  have HMI := Aside0.mk hmi
  have HCI := Aside0.mk hci
  have HB3 := Aside0.mk (HB2.out.trans (hb3.mono HB2.out.size))
  have HK3 := Aside0.mk (HK2.out.stay hb3)
  clear hmi hgi hci hb3 HB2 HK2
  rw [HHN.out]
  go_wp2_with fail
  go_at_call 21
  refine (durable_at HK3.out (HF.out.below H0.out HB3.out) (by rw [HHN.out]; exact opsOf_ok puts) (Nat.lt_of_lt_of_le H0.out HB3.out.size)).mono ?_
  rw [HKL.out]
  rintro e w4 ⟨gd, cd, rfl, hmd, hgd, hcd, hb4⟩
  rw [HHN.out] at hcd
  have HMD := Aside0.mk hmd
  have HCD := Aside0.mk hcd
  have HMI4 := Aside0.mk (HMI.out.below hb4)
  have HB4 := Aside0.mk (HB3.out.trans (hb4.mono HB3.out.size))
  have HK4 := Aside0.mk (HK3.out.stay hb4)
  clear hmd hgd hcd hb4 HB3 HK3 HMI
  rw [HHN.out]
  go_wp2_with fail
  go_at_call 22
  refine (pending_at HK4.out (HF.out.below H0.out HB4.out) (Nat.lt_of_lt_of_le H0.out HB4.out.size)).mono ?_
  rw [HKL.out]
  rintro e w5 ⟨v, rfl, hR, hb5⟩
  obtain ⟨Ap, cp, ev⟩ := Kd.R_slice hR
  rw [List.length_map, List.length_drop, HOL.out] at ev
  subst ev
  have HMI5 := Aside0.mk (HMI4.out.below hb5)
  have HMD5 := Aside0.mk (HMD.out.below hb5)
  have HB5 := Aside0.mk (HB4.out.trans (hb5.mono HB4.out.size))
  have HK5 := Aside0.mk (HK4.out.stay hb5)
  clear hR hb5 HB4 HK4 HMI4 HMD
  go_wp2_with fail
  clear hsub
  go_loopw [7] (fun p wr => ∃ s : Nat, p = .int .i64 (s : Int) ∧ Aside0 (s ≤ 6) ∧ Aside0 (Below W.heap.size W wr) ∧ Aside0 (Below w5.heap.size w5 wr)) (fun p _ => 6 - (intOf p).toNat)
  · exact ⟨0, rfl, ⟨Nat.zero_le _⟩, HB5, ⟨Below.refl _ _⟩⟩
  · obtain ⟨s, rfl, HS, HBr, HB5r⟩ := hrel
    by_cases cs : s < 6
    · have cs1 : decide ((s : Int) < 6) = true := decide_eq_true (by omega)
      have cs2 : decide (s < 6) = true := decide_eq_true cs
      have cs3 : (0 : Int) ≤ (s : Int) := by omega
      have cs4 : (s : Int) < 6 := by omega
      have hw1 : IntKind.i64.wrap ((s : Int) + 1) = ((s + 1 : Nat) : Int) := by rw [IntWalk.i64_in _ (by omega)]; omega
      have HKr := Aside0.mk (HK5.out.stay HB5r.out)
      go_wp2_with fail
      go_at_call 23
      refine (read_at HKr.out s (by rw [HHN.out]; omega)).mono ?_
      rintro e w6 ⟨gr, cr, rfl, hmr, hgr, hcr, hb6⟩
      have hb6' : Below W.heap.size W w6 := HBr.out.trans (hb6.mono HBr.out.size)
      have h56 : Below w5.heap.size w5 w6 := HB5r.out.trans (hb6.mono HB5r.out.size)
      have hd : ∀ q, Below w6.heap.size w6 (w6.drewN q) := fun q => pw_below_drewN (Below.refl _ _) q
      obtain ⟨b, hb⟩ : ∃ b, lastB puts s = b := ⟨_, rfl⟩
      obtain ⟨b2, hb2⟩ : ∃ b2, lastB (puts.take k) s = b2 := ⟨_, rfl⟩
      have eS := sector_one (behind_img puts) s cs b (fun _ _ => hb)
      have eD := sector_one (behind_img (puts.take k)) s cs b2 (fun _ _ => hb2)
      rw [eS] at hmr
      have l128 : ∀ x : Int, (List.replicate 128 x).length = 128 := fun x => List.length_replicate ..
      have hlp : puts.length < 9223372036854775807 := by have := HLEN.out; have := HL3.out; omega
      have htl : (puts.take k).length = k := by rw [List.length_take]; have := HLEN.out; have := HKLE.out; omega
      have Q16 : ∀ q, Calls Tryd.prog 16 #[.slice A L c, .int .i64 (s : Int)] (w6.drewN q) fun e w'' => e = .returned (.int .u8 b) ∧ ∃ m, w'' = w6.drewN m := fun q => by
        have := larderlaw06_lastOf.calls (puts.length + 1) A c puts s b (w6.drewN q) (Kd.C_below HC.out (hb6'.trans ((hd q).mono hb6'.size))) (by rw [HLEN.out]; exact HLC.out) (by rw [← hb]; exact lastOf_ok puts HP.out hlp s)
        rw [HLEN.out] at this
        exact Calls.quiet_of (this.mono fun _ _ ⟨he, m, hm⟩ => ⟨he, m, hm⟩)
      have Q16k : ∀ q, Calls Tryd.prog 16 #[.slice A k c, .int .i64 (s : Int)] (w6.drewN q) fun e w'' => e = .returned (.int .u8 b2) ∧ ∃ m, w'' = w6.drewN m := fun q => by
        have h1 := C_take37 (HLEN.out ▸ Kd.C_below HC.out (hb6'.trans ((hd q).mono hb6'.size))) k HKLE.out
        have h1 : Kd.C k37 (w6.drewN q) A (puts.take k).length (puts.take k) := by rw [htl]; exact h1
        have := larderlaw06_lastOf.calls ((puts.take k).length + 1) A c (puts.take k) s b2 (w6.drewN q) h1 (by rw [htl]; have := HKLE.out; have := HLC.out; omega) (by rw [← hb2]; exact lastOf_ok (puts.take k) (HP.out.take k) (by rw [htl]; have := HKLE.out; have := HL3.out; omega) s)
        rw [htl] at this
        exact Calls.quiet_of (this.mono fun _ _ ⟨he, m, hm⟩ => ⟨he, m, hm⟩)
      have Qall : ∀ (g o cc : Nat) (x : Int) (q : Nat), Kd.C (Kd.int .u8) w6 (some ⟨g, o, none⟩) 128 (List.replicate 128 x) → 128 ≤ cc → Calls Tryd.prog 24 #[.slice (some ⟨g, o, none⟩) 128 cc, .int .u8 x] (w6.drewN q) fun e w'' => e = .returned (.bool true) ∧ ∃ m, w'' = w6.drewN m := fun g o cc x q hC hcc => by
        have := larderlaw06_all.calls 129 (some ⟨g, o, none⟩) cc (List.replicate 128 x) x true (w6.drewN q) (by rw [l128]; exact Kd.C_below hC (hd q)) (by rw [l128]; exact hcc) (all_ok x)
        rw [l128] at this
        exact Calls.quiet_of (this.mono fun _ _ ⟨he, m, hm⟩ => ⟨he, m, hm⟩)
      have Cr : Kd.C (Kd.int .u8) w6 (some ⟨gr, 0, none⟩) 128 (List.replicate 128 b) := by
        have := hmr.all (by rw [l128]; decide)
        rwa [l128] at this
      have Ci : Kd.C (Kd.int .u8) w6 (some ⟨gi, 128 * s, none⟩) 128 (List.replicate 128 b) := by
        have := (HMI5.out.below h56).sub (128 * s) 128 (by rw [(behind_img puts).1]; omega) (by decide)
        rw [← eS]
        exact this
      have Cd : Kd.C (Kd.int .u8) w6 (some ⟨gd, 128 * s, none⟩) 128 (List.replicate 128 b2) := by
        have := (HMD5.out.below h56).sub (128 * s) 128 (by rw [opsOf_takeN, (behind_img (puts.take k)).1]; omega) (by decide)
        rw [← eD]
        rw [opsOf_takeN] at this
        exact this
      have HQ16 := Aside0.mk Q16
      have HQ16k := Aside0.mk Q16k
      have HQr := Aside0.mk (fun q => Qall gr 0 cr b q Cr hcr)
      have HQi := Aside0.mk (fun q => Qall gi (128 * s) (ci - 128 * s) b q Ci (by have := HCI.out; omega))
      have HQd := Aside0.mk (fun q => Qall gd (128 * s) (cd - 128 * s) b2 q Cd (by have := HCD.out; omega))
      have HB6 := Aside0.mk hb6'
      have HB56 := Aside0.mk h56
      have ck0 : (0 : Int) ≤ (k : Int) := by omega
      have ck1 : (k : Int) ≤ (c : Int) := by have := HKLE.out; have := HLC.out; omega
      have ck2 : k ≤ c := by have := HKLE.out; have := HLC.out; omega
      have ck3 : (k : Int) ≤ (L : Int) := by have := HKLE.out; omega
      clear Q16 Q16k Qall Cr Ci Cd hb hb2 eS eD htl hlp hmr hgr hcr hb6 hb6' h56 l128
      go_upto_region 14 with fail
      go_quiet (first
        | (go_at_call 16; with_reducible exact HQ16.out _)
        | (go_at_call 16; with_reducible exact HQ16k.out _)
        | (go_at_call 17; with_reducible exact Calls.quiet_of_same (sectors_of gi ci s cs HCI.out _))
        | (go_at_call 17; with_reducible exact Calls.quiet_of_same (sectors_of gd cd s cs HCD.out _))
        | (go_at_call 24; with_reducible exact HQr.out _)
        | (go_at_call 24; with_reducible exact HQi.out _)
        | (go_at_call 24; with_reducible exact HQd.out _))
      have hbq := hd nq
      have HBq := Aside0.mk (HB6.out.trans (hbq.mono HB6.out.size))
      have HB5q := Aside0.mk (HB56.out.trans (hbq.mono HB56.out.size))
      clear hd hbq
      go_wp2_with fail
      refine ⟨⟨s + 1, congrArg (Value.int .i64) (by omega), ⟨cs⟩, HBq, HB5q⟩, ?_⟩
      simp only [intOf]
      omega
    · have cs1 : decide ((s : Int) < 6) = false := decide_eq_false (by omega)
      have cs2 : decide (s < 6) = false := decide_eq_false cs
      go_wp2_with fail
      go_ret
      exact ⟨rfl, HBr.out⟩
end Go.Proofs.YtpaonoaedjkekaaDoor.Dk
