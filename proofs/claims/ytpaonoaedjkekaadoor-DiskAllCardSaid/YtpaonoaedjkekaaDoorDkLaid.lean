/- larderlaw06.laid, walked: a disk behind some puts. -/
import Derived.Test.YtpaonoaedjkekaaDoorDkPlain
import Derived.Deep.RegionHeld3
namespace Go.Proofs.YtpaonoaedjkekaaDoor.Dk
open Go Go.RowKit Go.Proofs.YtpaonoaedjkekaaDoor.PD Go.Proofs.YtpaonoaedjkekaaDoorW.PrintWords Go.Proofs.YtpaonoaedjkekaaDoorW.PrintLast Go.Proofs.YtpaonoaedjkekaaDoorW.PrintMore
set_option linter.unusedVariables false
set_option linter.unusedSimpArgs false
set_option maxHeartbeats 4000000
set_option maxRecDepth 100000
theorem blank_padded : padded [] (128 * 6) = blank := by simp [padded, blank]
/-- Puts whose numbers are numbers. -/
def Puts (puts : List S37) : Prop := ∀ p ∈ puts, -9223372036854775808 ≤ p.f0 ∧ p.f0 ≤ 9223372036854775807
theorem laid_at (A : Option Addr) (c : Nat) (puts : List S37) (W : World) (hC : Kd.C k37 W A puts.length puts) (hP : Puts puts) (hn : puts.length ≤ 300) (hF : Fl W) (h0 : 0 < W.heap.size) :
    Calls Tryd.prog 12 #[.slice A puts.length c] W fun e w' => ∃ (h : Hd) (A' : Option Addr) (c' : Nat), e = .returned (ptr h.D) ∧ h.n = 768 ∧ DkAt h W.heap.size blank (behindL blank (opsOf puts)) (.slice A' (opsOf puts).length c') (opsOf puts) w' ∧ Below W.heap.size W w' := by
  have HC := Aside0.mk hC
  have HP := Aside0.mk hP
  have HN := Aside0.mk hn
  have HF := Aside0.mk hF
  have H0 := Aside0.mk h0
  clear hC hP hn hF h0
  obtain ⟨L, hL⟩ : ∃ L, puts.length = L := ⟨_, rfl⟩
  have HL := Aside0.mk hL
  rw [hL]
  clear hL
  go_enter Tryd.func12, Tryd.ntmps12
  go_wp2_with fail
  go_at_call 25
  refine (new_at none 0 0 6 [] W (Kd.C_nil _ _) (by decide) (by decide) (by decide)).mono ?_
  rintro e w1 ⟨h, rfl, hhn, hk, hb⟩
  have HHN := Aside0.mk hhn
  rw [blank_padded] at hk
  have HK := Aside0.mk hk
  have HB := Aside0.mk hb
  clear hhn hk hb
  go_wp2_with fail
  go_loopw [5] (fun p wr => ∃ (i : Nat) (A1 : Option Addr) (c1 : Nat), p = .int .i64 (i : Int) ∧ Aside0 (i ≤ L) ∧ Aside0 (DkAt h W.heap.size blank (behindL blank (opsOf (puts.take i))) (.slice A1 (opsOf (puts.take i)).length c1) (opsOf (puts.take i)) wr) ∧ Aside0 (Below W.heap.size W wr)) (fun p _ => L - (intOf p).toNat)
  · exact ⟨0, none, 0, rfl, ⟨Nat.zero_le _⟩, ⟨HK.out⟩, ⟨HB.out⟩⟩
  · obtain ⟨i, A1, c1, rfl, HI, HKr, HBr⟩ := hrel
    by_cases ci : i < L
    · have ci1 : decide ((i : Int) < (L : Int)) = true := decide_eq_true (by omega)
      have ci2 : decide (i < L) = true := decide_eq_true ci
      have ci3 : (0 : Int) ≤ (i : Int) := by omega
      have ci4 : (i : Int) < (L : Int) := by omega
      have hw1 : IntKind.i64.wrap ((i : Int) + 1) = ((i + 1 : Nat) : Int) := by rw [IntWalk.i64_in _ (by have := HN.out; have := HL.out; omega)]; omega
      obtain ⟨p, hp⟩ : ∃ p, puts[i]? = some p := ⟨_, List.getElem?_eq_getElem (by have := HL.out; omega)⟩
      have hrd : rd_T37 puts (i : Int) = p := by unfold rd_T37; rw [Int.toNat_natCast, List.getD_eq_getElem?_getD, hp]; rfl
      have hCr : Kd.C k37 wr A puts.length puts := Kd.C_below HC.out HBr.out
      obtain ⟨ad, rfl, p0, p1, p2⟩ := at_T37 hCr (i : Int) (by omega) (by have := HL.out; omega)
      rw [hrd, Int.toNat_natCast] at p0 p1 p2
      have hput : puts.length = L := HL.out
      have HPT := Aside0.mk hp
      have HFr := Aside0.mk (show Fl wr from fun j v hj => by
        have := HF.out j v hj
        rw [← this]
        exact HBr.out.cell (p := ⟨0, 0 + j, none⟩) H0.out)
      have HOL := Aside0.mk (show (opsOf (puts.take i)).length < 65536 by rw [opsOf_len, List.length_take]; have := HN.out; omega)
      have HWI := Aside0.mk (within_ok p.f0 (HP.out p (List.mem_of_getElem? hp)))
      have MKS := Aside0.mk (show ∀ w', Below W.heap.size W w' → Below W.heap.size W w' ∧ w'.cell? (ad.add (i * 3)) = some (.int .i64 p.f0) ∧ w'.cell? ⟨(ad.add (i * 3)).block, (ad.add (i * 3)).off + 1, none⟩ = some (.int .u8 p.f1) from fun w' hb => by
        obtain ⟨ad', e, q0, q1, _⟩ := at_T37 (Kd.C_below HC.out hb) (i : Int) (by omega) (by have := HL.out; omega)
        obtain rfl := Option.some.inj e
        rw [hrd, Int.toNat_natCast] at q0 q1
        exact ⟨hb, q0, q1⟩)
      clear hCr hrd hp hput
      rcases hpf : p.f2
      · rw [hpf] at p2
        have HPF := Aside0.mk hpf
        clear hpf
        go_upto_region 10 with fail
        -- region 10
        refine wp_region_noPanic ?_
        refine wp_region_held_drew (S := fun w' => Below W.heap.size W w' ∧ w'.cell? (ad.add (i * 3)) = some (.int .i64 p.f0) ∧ w'.cell? ⟨(ad.add (i * 3)).block, (ad.add (i * 3)).off + 1, none⟩ = some (.int .u8 p.f1)) (by kernel_rfl) (MKS.out _ (below_drew HBr.out)) (fun hHeld => ?_)
        refine wpAnyH_take (i := 0) (oi := { dst := some 30, op := Op.move (Operand.tmp 3), type := 25, pos := "outright.go:46", after := #[], guard := none }) (v := ?_) rfl (by kernel_rfl) (by kernel_rfl) (by kernel_rfl) (fun _ _ _ h => h) (Or.inl ⟨by rfl, ?_⟩) hHeld ?_
        rotate_left
        · intro w' hS; obtain ⟨hS0, hS1, hS2⟩ := hS; go_simp; all_goals (with_reducible rfl)
        (try simp only [Act.put, List.setIfInBounds_toArray, List.set_cons_zero, List.set_cons_succ])
        refine wpAnyH_take (i := 1) (oi := { dst := some 31, op := Op.move (Operand.tmp 0), type := 22, pos := "outright.go:46", after := #[], guard := none }) (v := ?_) rfl (by kernel_rfl) (by kernel_rfl) (by kernel_rfl) (fun _ _ _ h => h) (Or.inl ⟨by rfl, ?_⟩) hHeld ?_
        rotate_left
        · intro w' hS; obtain ⟨hS0, hS1, hS2⟩ := hS; go_simp; all_goals (with_reducible rfl)
        (try simp only [Act.put, List.setIfInBounds_toArray, List.set_cons_zero, List.set_cons_succ])
        refine wpAnyH_take (i := 2) (oi := { dst := some 32, op := Op.move (Operand.tmp 5), type := 3, pos := "outright.go:46", after := #[], guard := none }) (v := ?_) rfl (by kernel_rfl) (by kernel_rfl) (by kernel_rfl) (fun _ _ _ h => h) (Or.inl ⟨by rfl, ?_⟩) hHeld ?_
        rotate_left
        · intro w' hS; obtain ⟨hS0, hS1, hS2⟩ := hS; go_simp; all_goals (with_reducible rfl)
        (try simp only [Act.put, List.setIfInBounds_toArray, List.set_cons_zero, List.set_cons_succ])
        refine wpAnyH_take (i := 3) (oi := { dst := some 33, op := Op.indexAddr 22 (Operand.tmp 31) (Operand.tmp 32), type := 0, pos := "outright.go:46", after := #[{ on := 1, ground := Ground.data }, { on := 2, ground := Ground.data }], guard := none }) (v := ?_) rfl (by kernel_rfl) (by kernel_rfl) (by kernel_rfl) (fun _ _ _ h => h) (Or.inl ⟨by rfl, ?_⟩) hHeld ?_
        rotate_left
        · intro w' hS; obtain ⟨hS0, hS1, hS2⟩ := hS; go_simp; all_goals (with_reducible rfl)
        (try simp only [Act.put, List.setIfInBounds_toArray, List.set_cons_zero, List.set_cons_succ])
        refine wpAnyH_take (i := 4) (oi := { dst := some 34, op := Op.fieldAddr 37 (Operand.tmp 33) 0, type := 0, pos := "outright.go:46", after := #[{ on := 3, ground := Ground.data }], guard := none }) (v := ?_) rfl (by kernel_rfl) (by kernel_rfl) (by kernel_rfl) (fun _ _ _ h => h) (Or.inl ⟨by rfl, ?_⟩) hHeld ?_
        rotate_left
        · intro w' hS; obtain ⟨hS0, hS1, hS2⟩ := hS; go_simp; all_goals (with_reducible rfl)
        (try simp only [Act.put, List.setIfInBounds_toArray, List.set_cons_zero, List.set_cons_succ])
        refine wpAnyH_take (i := 5) (oi := { dst := some 35, op := Op.load 3 (Operand.tmp 34), type := 3, pos := "outright.go:46", after := #[{ on := 4, ground := Ground.data }], guard := none }) (v := ?_) rfl (by kernel_rfl) (by kernel_rfl) (by kernel_rfl) (fun _ _ _ h => h) (Or.inl ⟨by rfl, ?_⟩) hHeld ?_
        rotate_left
        · intro w' hS; obtain ⟨hS0, hS1, hS2⟩ := hS; go_simp; all_goals (with_reducible rfl)
        (try simp only [Act.put, List.setIfInBounds_toArray, List.set_cons_zero, List.set_cons_succ])
        refine wpAnyH_take (i := 7) (oi := { dst := some 37, op := Op.move (Operand.tmp 0), type := 22, pos := "outright.go:46", after := #[], guard := none }) (v := ?_) rfl (by kernel_rfl) (by kernel_rfl) (by kernel_rfl) (fun _ _ _ h => h) (Or.inl ⟨by rfl, ?_⟩) hHeld ?_
        rotate_left
        · intro w' hS; obtain ⟨hS0, hS1, hS2⟩ := hS; go_simp; all_goals (with_reducible rfl)
        (try simp only [Act.put, List.setIfInBounds_toArray, List.set_cons_zero, List.set_cons_succ])
        refine wpAnyH_take (i := 8) (oi := { dst := some 38, op := Op.move (Operand.tmp 5), type := 3, pos := "outright.go:46", after := #[], guard := none }) (v := ?_) rfl (by kernel_rfl) (by kernel_rfl) (by kernel_rfl) (fun _ _ _ h => h) (Or.inl ⟨by rfl, ?_⟩) hHeld ?_
        rotate_left
        · intro w' hS; obtain ⟨hS0, hS1, hS2⟩ := hS; go_simp; all_goals (with_reducible rfl)
        (try simp only [Act.put, List.setIfInBounds_toArray, List.set_cons_zero, List.set_cons_succ])
        refine wpAnyH_take (i := 9) (oi := { dst := some 39, op := Op.indexAddr 22 (Operand.tmp 37) (Operand.tmp 38), type := 0, pos := "outright.go:46", after := #[{ on := 7, ground := Ground.data }, { on := 8, ground := Ground.data }], guard := none }) (v := ?_) rfl (by kernel_rfl) (by kernel_rfl) (by kernel_rfl) (fun _ _ _ h => h) (Or.inl ⟨by rfl, ?_⟩) hHeld ?_
        rotate_left
        · intro w' hS; obtain ⟨hS0, hS1, hS2⟩ := hS; go_simp; all_goals (with_reducible rfl)
        (try simp only [Act.put, List.setIfInBounds_toArray, List.set_cons_zero, List.set_cons_succ])
        refine wpAnyH_take (i := 10) (oi := { dst := some 40, op := Op.fieldAddr 37 (Operand.tmp 39) 1, type := 0, pos := "outright.go:46", after := #[{ on := 9, ground := Ground.data }], guard := none }) (v := ?_) rfl (by kernel_rfl) (by kernel_rfl) (by kernel_rfl) (fun _ _ _ h => h) (Or.inl ⟨by rfl, ?_⟩) hHeld ?_
        rotate_left
        · intro w' hS; obtain ⟨hS0, hS1, hS2⟩ := hS; go_simp; all_goals (with_reducible rfl)
        (try simp only [Act.put, List.setIfInBounds_toArray, List.set_cons_zero, List.set_cons_succ])
        refine wpAnyH_take (i := 11) (oi := { dst := some 41, op := Op.load 5 (Operand.tmp 40), type := 5, pos := "outright.go:46", after := #[{ on := 10, ground := Ground.data }], guard := none }) (v := ?_) rfl (by kernel_rfl) (by kernel_rfl) (by kernel_rfl) (fun _ _ _ h => h) (Or.inl ⟨by rfl, ?_⟩) hHeld ?_
        rotate_left
        · intro w' hS; obtain ⟨hS0, hS1, hS2⟩ := hS; go_simp; all_goals (with_reducible rfl)
        (try simp only [Act.put, List.setIfInBounds_toArray, List.set_cons_zero, List.set_cons_succ])
        refine wpAnyH_ready (rs := [6]) (by kernel_rfl) (by simp) ?_
        refine AllReadyH.cons (o := { dst := some 36, op := Op.call { callee := Callee.value (Operand.func 13), args := #[Operand.tmp 35, Operand.const (Value.int IntKind.i64 0), Operand.const (Value.int IntKind.i64 5)], argTypes := #[3, 3, 3] }, type := 3, pos := "outright.go:46", after := #[{ on := 5, ground := Ground.data }], guard := none }) rfl (fun K hK => ?_) AllReadyH.nil
        go_simp
        go_at_call 13
        refine (larderlaw06_within.calls p.f0 0 5 _ _ HWI.out).mono ?_
        rintro e w2 ⟨rfl, ⟨nd, rfl⟩⟩
        have hb2 : Below wr.heap.size wr (wr.drew.drewN nd) := pw_below_drewN (below_drew (Below.refl _ _)) nd
        have HB2 := Aside0.mk hb2
        clear hb2
        generalize wr.drew.drewN nd = w2 at *
        refine hK.out _ _ (MKS.out _ (HBr.out.trans (HB2.out.mono HBr.out.size))) (fun hHeld => ?_)
        clear hK K
        (try simp only [Act.put, List.setIfInBounds_toArray, List.set_cons_zero, List.set_cons_succ])
        refine wpAnyH_ready (rs := [12]) (by kernel_rfl) (by simp) ?_
        refine AllReadyH.cons (o := { dst := some 42, op := Op.call { callee := Callee.value (Operand.func 28), args := #[Operand.tmp 41], argTypes := #[5] }, type := 29, pos := "outright.go:46", after := #[{ on := 11, ground := Ground.data }, { on := 6, ground := Ground.chain }], guard := none }) rfl (fun K hK => ?_) AllReadyH.nil
        go_simp
        go_at_call 28
        refine (larderlaw06_full.calls 129 p.f1 _ w2 (full_ok p.f1)).mono ?_
        rintro e w3 ⟨v, rfl, hr, hb3⟩
        have HR3 := Aside0.mk hr
        have HB3 := Aside0.mk hb3
        obtain ⟨A2, c2, e⟩ := Kd.R_slice hr
        rw [List.length_replicate] at e
        subst e
        clear hr hb3
        refine hK.out _ _ (MKS.out _ ((HBr.out.trans (HB2.out.mono HBr.out.size)).trans (HB3.out.mono (Nat.le_trans HBr.out.size HB2.out.size)))) (fun hHeld => ?_)
        clear hK K
        (try simp only [Act.put, List.setIfInBounds_toArray, List.set_cons_zero, List.set_cons_succ])
        refine wpAnyH_ready (rs := [13]) (by kernel_rfl) (by simp) ?_
        refine AllReadyH.cons (o := { dst := some 43, op := Op.call { callee := Callee.value (Operand.func 27), args := #[Operand.tmp 30, Operand.tmp 36, Operand.tmp 42], argTypes := #[25, 3, 29] }, type := 30, pos := "outright.go:46", after := #[{ on := 0, ground := Ground.data }, { on := 6, ground := Ground.data }, { on := 12, ground := Ground.data }, { on := 12, ground := Ground.chain }], guard := none }) rfl (fun K hK => ?_) AllReadyH.nil
        go_simp
        go_at_call 27
        refine (write_at (HKr.out.stay (HB2.out.trans (HB3.out.mono HB2.out.size))) (sec p.f0) (List.replicate 128 p.f1) (Kd.C_kept_own (n := 128) (Kd.R_mono (Kd.R_bound HR3.out) (ok' := fun k => w2.heap.size ≤ k) (fun k hk => hk.2.1)) (fun k hk1 hk2 => by have := (HKr.out.own_lt k hk2).2; have := HB2.out.size; omega)) (by rw [HHN.out]; have := sec_lt p.f0; omega) HOL.out).mono ?_
        rintro e w4 ⟨rfl, A4, c4, hk4, hkp, hb4, hat4⟩
        have HK4 := Aside0.mk hk4
        have HB4 := Aside0.mk hb4
        clear hk4 hkp hb4 hat4
        refine hK.out _ _ (MKS.out _ (((HBr.out.trans (HB2.out.mono HBr.out.size)).trans (HB3.out.mono (Nat.le_trans HBr.out.size HB2.out.size))).trans HB4.out)) (fun hHeld => ?_)
        clear hK K
        (try simp only [Act.put, List.setIfInBounds_toArray, List.set_cons_zero, List.set_cons_succ])
        refine wpAnyH_take (i := 14) (oi := { dst := some 6, op := Op.assign (Operand.tmp 43), type := 30, pos := "outright.go:46", after := #[{ on := 13, ground := Ground.data }, { on := 13, ground := Ground.chain }, { on := 0, ground := Ground.phase }, { on := 1, ground := Ground.phase }, { on := 2, ground := Ground.phase }, { on := 3, ground := Ground.phase }, { on := 4, ground := Ground.phase }, { on := 5, ground := Ground.phase }, { on := 6, ground := Ground.phase }, { on := 7, ground := Ground.phase }, { on := 8, ground := Ground.phase }, { on := 9, ground := Ground.phase }, { on := 10, ground := Ground.phase }, { on := 11, ground := Ground.phase }, { on := 12, ground := Ground.phase }, { on := 13, ground := Ground.phase }], guard := none }) (v := ?_) rfl (by kernel_rfl) (by kernel_rfl) (by kernel_rfl) (fun _ _ _ h => h) (Or.inl ⟨by rfl, ?_⟩) hHeld ?_
        rotate_left
        · intro w' hS; obtain ⟨hS0, hS1, hS2⟩ := hS; go_simp; all_goals (with_reducible rfl)
        (try simp only [Act.put, List.setIfInBounds_toArray, List.set_cons_zero, List.set_cons_succ])
        refine wpAnyH_done (by kernel_rfl) ?_ _
        (try simp only [Act.put, List.setIfInBounds_toArray, List.set_cons_zero, List.set_cons_succ])
        refine NoPanic.normal ?_
        -- behind region 10
        go_wp2_with fail
        refine ⟨⟨i + 1, A4, c4, rfl, ⟨ci⟩, ⟨?_⟩, ⟨((HBr.out.trans (HB2.out.mono HBr.out.size)).trans (HB3.out.mono (Nat.le_trans HBr.out.size HB2.out.size))).trans HB4.out⟩⟩, ?_⟩
        · have e : opOf p = ((sec p.f0 : Int), List.replicate 128 p.f1) := by unfold opOf; rw [HPF.out]; rfl
          rw [opsOf_take HPT.out, e]
          have e2 : behindL blank (opsOf (puts.take i) ++ [((sec p.f0 : Int), List.replicate 128 p.f1)]) = (behindL blank (opsOf (puts.take i))).take (128 * sec p.f0) ++ List.replicate 128 p.f1 ++ (behindL blank (opsOf (puts.take i))).drop (128 * sec p.f0 + 128) := by
            simp only [behindL, List.foldl_append, List.foldl_cons, List.foldl_nil]
            rw [layOp, if_neg (by intro e; have := congrArg Prod.fst e; simp [flushOp] at this)]
            simp
          rw [e2, List.length_append, List.length_singleton]
          exact HK4.out
        · simp only [intOf]
          omega
      · rw [hpf] at p2
        have HPF := Aside0.mk hpf
        clear hpf
        go_wp2_with fail
        go_at_call 29
        refine (flush_at HKr.out HFr.out HOL.out).mono ?_
        rintro e w4 ⟨rfl, A4, c4, hk4, hkp, hb4, hat4⟩
        have HK4 := Aside0.mk hk4
        have HB4 := Aside0.mk hb4
        clear hk4 hkp hb4 hat4
        go_wp2_with fail
        refine ⟨⟨i + 1, A4, c4, rfl, ⟨ci⟩, ⟨?_⟩, ⟨HBr.out.trans HB4.out⟩⟩, ?_⟩
        · have e : opOf p = flushOp := by unfold opOf; rw [HPF.out]; rfl
          rw [opsOf_take HPT.out, e]
          have e2 : behindL blank (opsOf (puts.take i) ++ [flushOp]) = behindL blank (opsOf (puts.take i)) := by
            simp [behindL, List.foldl_append, layOp]
          rw [e2, List.length_append, List.length_singleton]
          exact HK4.out
        · simp only [intOf]
          omega
    · have ci1 : decide ((i : Int) < (L : Int)) = false := decide_eq_false (by omega)
      have ci2 : decide (i < L) = false := decide_eq_false ci
      go_wp2_with fail
      go_ret
      obtain rfl : i = puts.length := by have := HI.out; have := HL.out; omega
      have := HKr.out
      rw [List.take_length] at this
      exact ⟨h, A1, c1, rfl, HHN.out, this, HBr.out⟩
end Go.Proofs.YtpaonoaedjkekaaDoor.Dk
