-- Written by a program of this session (wip/pp), out of the translation.
import Derived.Test.YtlblleideihhmaaDoorPBx0
import Derived.Test.YtlblleideihhmaaDoorPBx1
import Derived.Test.YtlblleideihhmaaDoorPBx2
import Derived.Test.YtlblleideihhmaaDoorPBx5
import Derived.Test.YtlblleideihhmaaDoorPBx6
namespace Go.Proofs.YtlblleideihhmaaDoor.PB
open Go.RowKit Go.Proofs.YtlblleideihhmaaDoor.Mine Go.Proofs.YtlblleideihhmaaDoorW.PrintWords Go.Proofs.YtlblleideihhmaaDoorW.PrintLast Go.Proofs.YtlblleideihhmaaDoorW.PrintMore
attribute [local go_sem] max2_int min2_int max_two min_two max_three min_three max_four min_four   -- for this text's walks alone
set_option linter.unusedVariables false
set_option linter.unusedSimpArgs false

/-! ### larderlaw01_FrameBack: function 18 -/
def BackGood (k : Nat) (a : List Int) (n x : Int) (s : ByteArray) (p z : List Int) : Prop :=
  (∃ q, frame_PutUint.f k a n = some (a ++ q) ∧ larderlaw01_joined.f q z = some (q ++ z) ∧ frame_Uint.f k (q ++ z) = some (n, (q.length : Int), 0)) ∧
  (∃ q, frame_PutInt.f k a x = some (a ++ q) ∧ larderlaw01_joined.f q z = some (q ++ z) ∧ frame_Int.f k (q ++ z) = some (x, (q.length : Int), 0)) ∧
  (∃ q, frame_PutWord.f k a n = some (a ++ q) ∧ q.length = 8 ∧ larderlaw01_joined.f q z = some (q ++ z) ∧ frame_Word.f k (q ++ z) = some (n, 0)) ∧
  (∃ q, frame_PutText.f k a s = some (a ++ q) ∧ larderlaw01_joined.f q z = some (q ++ z) ∧ frame_Text.f k (q ++ z) (s.size : Int) = some (s, (q.length : Int), 0)) ∧
  (∃ b e, frame_Seal.f k p = some (b, e) ∧ (e ≠ 0 → e = 1 ∧ 65536 < p.length ∧ b.length = 0) ∧ (e = 0 → larderlaw01_joined.f b z = some (b ++ z) ∧ frame_Unseal.f k (b ++ z) = some (p, (b.length : Int), 0, 0)))
theorem putuint_at (k : Nat) (A0 : Option Addr) (c0 : Nat) (l r : List Int) (x : Int) (w : World) (hr : Kd.C (Kd.int .u8) w A0 l.length l) (hc : l.length ≤ c0) (h : frame_PutUint.f k l x = some r) : Calls Tryd.prog 38 #[.slice A0 l.length c0, .int .u64 x] w fun e w' => ∃ A c, e = .returned (.slice A r.length c) ∧ r.length ≤ c ∧ Kd.C (Kd.int .u8) w' A r.length r ∧ Below w.heap.size w w' := by
  refine (frame_PutUint.calls k A0 c0 l x r w hr hc h).mono ?_
  rintro e w' ⟨v, rfl, hr, hb⟩
  obtain ⟨A, c, rfl, hc, hC⟩ := Kd.R_reads hr
  exact ⟨A, c, rfl, hc, hC, hb⟩
theorem putint_at (k : Nat) (A0 : Option Addr) (c0 : Nat) (l r : List Int) (x : Int) (w : World) (hr : Kd.C (Kd.int .u8) w A0 l.length l) (hc : l.length ≤ c0) (h : frame_PutInt.f k l x = some r) : Calls Tryd.prog 39 #[.slice A0 l.length c0, .int .i64 x] w fun e w' => ∃ A c, e = .returned (.slice A r.length c) ∧ r.length ≤ c ∧ Kd.C (Kd.int .u8) w' A r.length r ∧ Below w.heap.size w w' := by
  refine (frame_PutInt.calls k A0 c0 l x r w hr hc h).mono ?_
  rintro e w' ⟨v, rfl, hr, hb⟩
  obtain ⟨A, c, rfl, hc, hC⟩ := Kd.R_reads hr
  exact ⟨A, c, rfl, hc, hC, hb⟩
theorem putword_at (k : Nat) (A0 : Option Addr) (c0 : Nat) (l r : List Int) (x : Int) (w : World) (hr : Kd.C (Kd.int .u8) w A0 l.length l) (hc : l.length ≤ c0) (h : frame_PutWord.f k l x = some r) : Calls Tryd.prog 58 #[.slice A0 l.length c0, .int .u64 x] w fun e w' => ∃ A c, e = .returned (.slice A r.length c) ∧ r.length ≤ c ∧ Kd.C (Kd.int .u8) w' A r.length r ∧ Below w.heap.size w w' := by
  refine (frame_PutWord.calls k A0 c0 l x r w hr hc h).mono ?_
  rintro e w' ⟨v, rfl, hr, hb⟩
  obtain ⟨A, c, rfl, hc, hC⟩ := Kd.R_reads hr
  exact ⟨A, c, rfl, hc, hC, hb⟩
theorem puttext_at (k : Nat) (A0 : Option Addr) (c0 : Nat) (l r : List Int) (x : ByteArray) (w : World) (hr : Kd.C (Kd.int .u8) w A0 l.length l) (hc : l.length ≤ c0) (h : frame_PutText.f k l x = some r) : Calls Tryd.prog 57 #[.slice A0 l.length c0, .string x] w fun e w' => ∃ A c, e = .returned (.slice A r.length c) ∧ r.length ≤ c ∧ Kd.C (Kd.int .u8) w' A r.length r ∧ Below w.heap.size w w' := by
  refine (frame_PutText.calls k A0 c0 l x r w hr hc h).mono ?_
  rintro e w' ⟨v, rfl, hr, hb⟩
  obtain ⟨A, c, rfl, hc, hC⟩ := Kd.R_reads hr
  exact ⟨A, c, rfl, hc, hC, hb⟩
theorem joined_at (A0 : Option Addr) (c0 : Nat) (A1 : Option Addr) (c1 : Nat) (q z J : List Int) (w : World) (hr0 : Kd.C (Kd.int .u8) w A0 q.length q) (hc0 : q.length ≤ c0) (hr1 : Kd.C (Kd.int .u8) w A1 z.length z) (hc1 : z.length ≤ c1) (h : larderlaw01_joined.f q z = some J) : Calls Tryd.prog 31 #[.slice A0 q.length c0, .slice A1 z.length c1] w fun e w' => ∃ A c, e = .returned (.slice A J.length c) ∧ J.length ≤ c ∧ Kd.C (Kd.int .u8) w' A J.length J ∧ Below w.heap.size w w' := by
  refine (larderlaw01_joined.calls A0 c0 q A1 c1 z J w hr0 hc0 hr1 hc1 h).mono ?_
  rintro e w' ⟨v, rfl, hr, hb⟩
  obtain ⟨A, c, rfl, hc, hC⟩ := Kd.R_reads hr
  exact ⟨A, c, rfl, hc, hC, hb⟩
theorem seal_at (k : Nat) (A : Option Addr) (c : Nat) (p r : List Int) (e : Int) (w : World) (hC : Kd.C (Kd.int .u8) w A p.length p) (hc : p.length ≤ c) (hT : Kd.C (Kd.int .u32) w (some ⟨0, 0, none⟩) 16 crcTab) (h : frame_Seal.f k p = some (r, e)) : Calls Tryd.prog 32 #[.slice A p.length c] w fun e_ w' => ∃ A c, e_ = .returned (.tuple #[.slice A r.length c, .int .i64 e]) ∧ r.length ≤ c ∧ Kd.C (Kd.int .u8) w' A r.length r ∧ Below w.heap.size w w' := by
  refine (frame_Seal.calls k A c p r e w hC hc hT h).mono ?_
  rintro e_ w' ⟨v, rfl, hr, hb⟩
  obtain ⟨A, c, rfl, hc, hC⟩ := Kd.R_reads hr
  exact ⟨A, c, rfl, hc, hC, hb⟩
theorem unseal_at (k : Nat) (A0 : Option Addr) (c0 : Nat) (l0 p : List Int) (r2 r3 r4 : Int) (w : World) (hr0 : Kd.C (Kd.int .u8) w A0 l0.length l0) (hc0 : l0.length ≤ c0) (hT : Kd.C (Kd.int .u32) w (some ⟨0, 0, none⟩) 16 crcTab) (h : frame_Unseal.f k l0 = some (p, r2, r3, r4)) :
    Calls Tryd.prog 36 #[.slice A0 l0.length c0] w fun e w' => ∃ A c, e = .returned (.tuple #[.slice A p.length c, .int .i64 r2, .int .i64 r3, .int .i64 r4]) ∧ p.length ≤ c ∧ Kd.C (Kd.int .u8) w' A p.length p ∧ Below w.heap.size w w' := by
  refine (frame_Unseal.calls k A0 c0 l0 p r2 r3 r4 w hr0 hc0 hT h).mono ?_
  rintro e w' ⟨v, rfl, hr, hb⟩
  obtain ⟨A, c, rfl, hc, hC⟩ := Kd.R_reads hr
  exact ⟨A, c, rfl, hc, hC, hb⟩
/-- What stands ahead, what was laid behind it. -/
theorem parts_seen {w : World} {A : Option Addr} {c L m : Nat} {B a q : List Int} (hr : Kd.C (Kd.int .u8) w A L B) (hL : B.length = L) (hc : L ≤ c) (hB : B = a ++ q) (ha : a.length = m) :
    ∃ (A2 : Option Addr) (c2 : Nat), (∀ W : World, (Instr.slice 22 (.slice A L c) none (some (.int .i64 (m : Int))) none).run Tryd.prog W = .ok (.slice A m c) W) ∧
      (∀ W : World, (Instr.slice 22 (.slice A L c) (some (.int .i64 (m : Int))) none none).run Tryd.prog W = .ok (.slice A2 q.length c2) W) ∧ q.length ≤ c2 ∧
      (∀ w' : World, Below w.heap.size w w' → (convert 22 9 (.slice A m c)).run Tryd.prog w' = .ok (.string (strOfNums a)) w') ∧ (∀ w' : World, Below w.heap.size w w' → Kd.C (Kd.int .u8) w' A2 q.length q) := by
  subst hL
  have hm : B.length = m + q.length := by rw [hB, List.length_append, ha]
  have ht : B.take m = a := by rw [hB, ← ha, List.take_left]
  have hd : B.drop m = q := by rw [hB, ← ha, List.drop_left]
  obtain ⟨i0, hi0, _, hsz0, _⟩ := info_parts info5
  have hcut := cut_to (P := Tryd.prog) 22 5 .i64 Tryd.underlying22 hi0 A B.length c (m : Int) (by omega) (by omega) hc
  have hcut2 := cut_from (P := Tryd.prog) 22 5 .i64 Tryd.underlying22 hi0 1 hsz0 A B.length c (m : Int) (by omega) (by omega)
  rw [Int.toNat_natCast] at hcut hcut2
  have h4 := fun w' (hb : Below w.heap.size w w') => Kd.C_drop (m := m) (Kd.C_below hr hb) (by omega) hc
  rw [hd] at h4
  refine ⟨_, c - m, hcut, fun W => by rw [hcut2, show B.length - m = q.length by omega]; rfl, by omega, fun w' hb => ?_, h4⟩
  have h3 := Kd.C_take (m := m) (Kd.C_below hr hb) (by omega)
  rw [ht, ha] at h3
  exact Kd.C_string (P := Tryd.prog) Tryd.underlying22 Tryd.underlying5 Tryd.underlying9 h3
set_option maxHeartbeats 16000000 in
set_option maxRecDepth 100000 in
theorem back_walk (k : Nat) (A0 : Option Addr) (c0 : Nat) (a : List Int) (n x : Int) (s : ByteArray) (A4 : Option Addr) (c4 : Nat) (p : List Int) (A5 : Option Addr) (c5 : Nat) (z : List Int) (w : World) (hr0 : Kd.C (Kd.int .u8) w A0 a.length a) (hc0 : a.length ≤ c0) (hr4 : Kd.C (Kd.int .u8) w A4 p.length p) (hc4 : p.length ≤ c4) (hr5 : Kd.C (Kd.int .u8) w A5 z.length z) (hc5 : z.length ≤ c5) (hT : Kd.C (Kd.int .u32) w (some ⟨0, 0, none⟩) 16 crcTab) (hsm : a.length ≤ 1048576) (h : BackGood k a n x s p z) :
    Calls Tryd.prog 18 #[.slice A0 a.length c0, .int .u64 n, .int .i64 x, .string s, .slice A4 p.length c4, .slice A5 z.length c5] w fun e w' => e = .returned (.bool true) ∧ Below w.heap.size w w' := by
  obtain ⟨⟨q1, hp1, hj1, hg1⟩, ⟨q2, hp2, hj2, hg2⟩, ⟨q3, hp3, hl3, hj3, hg3⟩, ⟨q4, hp4, hj4, hg4⟩, ⟨b, e, hs, hs1, hs2⟩⟩ := h
  have HP1 := Aside0.mk hp1
  have HJ1 := Aside0.mk hj1
  have HG1 := Aside0.mk hg1
  have HP2 := Aside0.mk hp2
  have HJ2 := Aside0.mk hj2
  have HG2 := Aside0.mk hg2
  have HP3 := Aside0.mk hp3
  have HL3 := Aside0.mk hl3
  have HJ3 := Aside0.mk hj3
  have HG3 := Aside0.mk hg3
  have HP4 := Aside0.mk hp4
  have HJ4 := Aside0.mk hj4
  have HG4 := Aside0.mk hg4
  have HS := Aside0.mk hs
  have HS1 := Aside0.mk hs1
  have HS2 := Aside0.mk hs2
  have HR0 := Aside0.mk hr0
  have HC0 := Aside0.mk hc0
  have HR4 := Aside0.mk hr4
  have HC4 := Aside0.mk hc4
  have HR5 := Aside0.mk hr5
  have HC5 := Aside0.mk hc5
  have HT := Aside0.mk hT
  clear hp1 hj1 hg1 hp2 hj2 hg2 hp3 hl3 hj3 hg3 hp4 hj4 hg4 hs hs1 hs2 hr0 hr4 hr5 hT hc4 hc5
  obtain ⟨m, hm⟩ : ∃ m : Nat, a.length = m := ⟨_, rfl⟩
  obtain ⟨pl, hpl⟩ : ∃ pl : Nat, p.length = pl := ⟨_, rfl⟩
  obtain ⟨zl, hzl⟩ : ∃ zl : Nat, z.length = zl := ⟨_, rfl⟩
  have HM := Aside0.mk hm
  have HPL := Aside0.mk hpl
  have HZL := Aside0.mk hzl
  rw [hm] at hc0 hsm
  rw [hm, hpl, hzl]
  clear hm hpl hzl
  have hcvA : ∀ w' : World, Below w.heap.size w w' → (convert 22 9 (.slice A0 m c0)).run Tryd.prog w' = .ok (.string (strOfNums a)) w' := fun w' hb => by
    have h3 := Kd.C_below HR0.out hb
    rw [HM.out] at h3
    exact Kd.C_string (P := Tryd.prog) Tryd.underlying22 Tryd.underlying5 Tryd.underlying9 h3
  have HCVA := Aside0.mk hcvA
  clear hcvA
  have HB := Aside0.mk (Below.refl w.heap.size w)
  go_enter Tryd.func18, Tryd.ntmps18
  go_wp2_with fail
  go_at_call 38; rw [← HM.out]; refine (putuint_at k A0 c0 a _ _ _ (Kd.C_below HR0.out HB.out) HC0.out HP1.out).mono ?_; rintro e_ w1 ⟨AB, cB, rfl, hcB, hC, hb⟩; rw [HM.out]
  have HB1 := Aside0.mk (below_then HB.out HB.out.size hb)
  obtain ⟨B, hB⟩ : ∃ B, a ++ q1 = B := ⟨_, rfl⟩
  rw [hB] at hC hcB ⊢
  have hLq : B.length = m + q1.length := by rw [← hB, List.length_append, HM.out]
  obtain ⟨L, hL⟩ : ∃ L : Nat, B.length = L := ⟨_, rfl⟩
  rw [hL] at hC hcB hLq ⊢
  obtain ⟨A2, c2, hcut, hcut2, hc2, hcv, hCq⟩ := parts_seen (m := m) hC hL hcB hB.symm HM.out
  obtain ⟨ql, hql⟩ : ∃ ql : Nat, q1.length = ql := ⟨_, rfl⟩
  have HQL := Aside0.mk hql
  have HCV := Aside0.mk hcv
  have HCQ := Aside0.mk hCq
  rw [hql] at hcut2 hc2 hLq
  have hmx : L ≤ 9223372036854775807 := Kd.C_max hC
  have hLa : L ≤ m + ql := by omega
  have hLb : m + ql ≤ L := by omega
  clear hb hC hB hL hql hcv hCq HB hLq
  have hd1 : decide ((L : Int) < (m : Int)) = false := decide_eq_false (by omega)
  have hd3 : ((L : Int) < (m : Int)) = False := eq_false (by omega)
  have hd5 : (L < m) = False := eq_false (by omega)
  have hd6 : decide (L < m) = false := decide_eq_false (by omega)
  go_wp2_with fail
  refine wp_region_noPanic ?_
  refine wp_region_held_drew (S := fun w' => Below w.heap.size w w' ∧ (convert 22 9 (.slice AB m cB)).run Tryd.prog w' = .ok (.string (strOfNums a)) w' ∧ (convert 22 9 (.slice A0 m c0)).run Tryd.prog w' = .ok (.string (strOfNums a)) w') (by kernel_rfl) ⟨below_drew HB1.out, HCV.out _ (below_drew (Below.refl _ _)), HCVA.out _ (below_drew HB1.out)⟩ (fun hHeld => ?_)
  refine wpAnyH_take (i := 0) (oi := { dst := some 27, op := Op.move (Operand.tmp 14), type := 22, pos := "plain.go:165", after := #[], guard := none }) (v := ?_) rfl (by kernel_rfl) (by kernel_rfl) (by kernel_rfl) (fun _ _ _ h => h) (Or.inl ⟨by rfl, ?_⟩) hHeld ?_
  rotate_left
  · intro w' hS; obtain ⟨hS1, hS2, hS3⟩ := hS; go_simp; all_goals (with_reducible rfl)
  (try simp only [Act.put, List.setIfInBounds_toArray, List.set_cons_zero, List.set_cons_succ])
  refine wpAnyH_take (i := 1) (oi := { dst := some 28, op := Op.call { callee := Callee.builtin Builtin.len, args := #[Operand.tmp 27], argTypes := #[22] }, type := 3, pos := "plain.go:165", after := #[{ on := 0, ground := Ground.data }], guard := none }) (v := ?_) rfl (by kernel_rfl) (by kernel_rfl) (by kernel_rfl) (fun _ _ _ h => h) (Or.inl ⟨by rfl, ?_⟩) hHeld ?_
  rotate_left
  · intro w' hS; obtain ⟨hS1, hS2, hS3⟩ := hS; go_simp; all_goals (with_reducible rfl)
  (try simp only [Act.put, List.setIfInBounds_toArray, List.set_cons_zero, List.set_cons_succ])
  refine wpAnyH_take (i := 2) (oi := { dst := some 29, op := Op.move (Operand.tmp 13), type := 3, pos := "plain.go:165", after := #[], guard := none }) (v := ?_) rfl (by kernel_rfl) (by kernel_rfl) (by kernel_rfl) (fun _ _ _ h => h) (Or.inl ⟨by rfl, ?_⟩) hHeld ?_
  rotate_left
  · intro w' hS; obtain ⟨hS1, hS2, hS3⟩ := hS; go_simp; all_goals (with_reducible rfl)
  (try simp only [Act.put, List.setIfInBounds_toArray, List.set_cons_zero, List.set_cons_succ])
  refine wpAnyH_take (i := 3) (oi := { dst := some 30, op := Op.binOp BinOp.lss 3 (Operand.tmp 28) (Operand.tmp 29) 3, type := 4, pos := "plain.go:165", after := #[{ on := 1, ground := Ground.data }, { on := 2, ground := Ground.data }], guard := none }) (v := ?_) rfl (by kernel_rfl) (by kernel_rfl) (by kernel_rfl) (fun _ _ _ h => h) (Or.inl ⟨by rfl, ?_⟩) hHeld ?_
  rotate_left
  · intro w' hS; obtain ⟨hS1, hS2, hS3⟩ := hS; go_simp; all_goals (with_reducible rfl)
  (try simp only [Act.put, List.setIfInBounds_toArray, List.set_cons_zero, List.set_cons_succ])
  refine wpAnyH_take (i := 4) (oi := { dst := some 31, op := Op.move (Operand.tmp 30), type := 4, pos := "plain.go:165", after := #[{ on := 3, ground := Ground.data }], guard := none }) (v := ?_) rfl (by kernel_rfl) (by kernel_rfl) (by kernel_rfl) (fun _ _ _ h => h) (Or.inl ⟨by rfl, ?_⟩) hHeld ?_
  rotate_left
  · intro w' hS; obtain ⟨hS1, hS2, hS3⟩ := hS; go_simp; all_goals (with_reducible rfl)
  (try simp only [Act.put, List.setIfInBounds_toArray, List.set_cons_zero, List.set_cons_succ])
  refine wpAnyH_take (i := 5) (oi := { dst := some 32, op := Op.move (Operand.tmp 14), type := 22, pos := "plain.go:165", after := #[{ on := 4, ground := Ground.guard }], guard := some (4, false) }) (v := ?_) rfl (by kernel_rfl) (by kernel_rfl) (by kernel_rfl) (fun _ _ _ h => h) (Or.inl ⟨by rfl, ?_⟩) hHeld ?_
  rotate_left
  · intro w' hS; obtain ⟨hS1, hS2, hS3⟩ := hS; go_simp; all_goals (with_reducible rfl)
  (try simp only [Act.put, List.setIfInBounds_toArray, List.set_cons_zero, List.set_cons_succ])
  refine wpAnyH_take (i := 6) (oi := { dst := some 33, op := Op.move (Operand.tmp 13), type := 3, pos := "plain.go:165", after := #[{ on := 4, ground := Ground.guard }], guard := some (4, false) }) (v := ?_) rfl (by kernel_rfl) (by kernel_rfl) (by kernel_rfl) (fun _ _ _ h => h) (Or.inl ⟨by rfl, ?_⟩) hHeld ?_
  rotate_left
  · intro w' hS; obtain ⟨hS1, hS2, hS3⟩ := hS; go_simp; all_goals (with_reducible rfl)
  (try simp only [Act.put, List.setIfInBounds_toArray, List.set_cons_zero, List.set_cons_succ])
  refine wpAnyH_take (i := 7) (oi := { dst := some 34, op := Op.slice 22 (Operand.tmp 32) none (some (Operand.tmp 33)) none, type := 22, pos := "plain.go:165", after := #[{ on := 5, ground := Ground.data }, { on := 6, ground := Ground.data }, { on := 4, ground := Ground.guard }], guard := some (4, false) }) (v := ?_) rfl (by kernel_rfl) (by kernel_rfl) (by kernel_rfl) (fun _ _ _ h => h) (Or.inl ⟨by rfl, ?_⟩) hHeld ?_
  rotate_left
  · intro w' hS; obtain ⟨hS1, hS2, hS3⟩ := hS; go_simp; all_goals (with_reducible rfl)
  (try simp only [Act.put, List.setIfInBounds_toArray, List.set_cons_zero, List.set_cons_succ])
  refine wpAnyH_take (i := 8) (oi := { dst := some 35, op := Op.convert 22 9 (Operand.tmp 34), type := 9, pos := "plain.go:165", after := #[{ on := 7, ground := Ground.data }, { on := 4, ground := Ground.guard }], guard := some (4, false) }) (v := ?_) rfl (by kernel_rfl) (by kernel_rfl) (by kernel_rfl) (fun _ _ _ h => h) (Or.inl ⟨by rfl, ?_⟩) hHeld ?_
  rotate_left
  · intro w' hS; obtain ⟨hS1, hS2, hS3⟩ := hS; go_simp; all_goals (with_reducible rfl)
  (try simp only [Act.put, List.setIfInBounds_toArray, List.set_cons_zero, List.set_cons_succ])
  refine wpAnyH_take (i := 9) (oi := { dst := some 36, op := Op.move (Operand.tmp 0), type := 22, pos := "plain.go:165", after := #[{ on := 4, ground := Ground.guard }], guard := some (4, false) }) (v := ?_) rfl (by kernel_rfl) (by kernel_rfl) (by kernel_rfl) (fun _ _ _ h => h) (Or.inl ⟨by rfl, ?_⟩) hHeld ?_
  rotate_left
  · intro w' hS; obtain ⟨hS1, hS2, hS3⟩ := hS; go_simp; all_goals (with_reducible rfl)
  (try simp only [Act.put, List.setIfInBounds_toArray, List.set_cons_zero, List.set_cons_succ])
  refine wpAnyH_take (i := 10) (oi := { dst := some 37, op := Op.convert 22 9 (Operand.tmp 36), type := 9, pos := "plain.go:165", after := #[{ on := 9, ground := Ground.data }, { on := 4, ground := Ground.guard }], guard := some (4, false) }) (v := ?_) rfl (by kernel_rfl) (by kernel_rfl) (by kernel_rfl) (fun _ _ _ h => h) (Or.inl ⟨by rfl, ?_⟩) hHeld ?_
  rotate_left
  · intro w' hS; obtain ⟨hS1, hS2, hS3⟩ := hS; go_simp; all_goals (with_reducible rfl)
  (try simp only [Act.put, List.setIfInBounds_toArray, List.set_cons_zero, List.set_cons_succ])
  refine wpAnyH_take (i := 11) (oi := { dst := some 38, op := Op.binOp BinOp.neq 9 (Operand.tmp 35) (Operand.tmp 37) 9, type := 4, pos := "plain.go:165", after := #[{ on := 8, ground := Ground.data }, { on := 10, ground := Ground.data }, { on := 4, ground := Ground.guard }], guard := some (4, false) }) (v := ?_) rfl (by kernel_rfl) (by kernel_rfl) (by kernel_rfl) (fun _ _ _ h => h) (Or.inl ⟨by rfl, ?_⟩) hHeld ?_
  rotate_left
  · intro w' hS; obtain ⟨hS1, hS2, hS3⟩ := hS; go_simp; all_goals (with_reducible rfl)
  (try simp only [Act.put, List.setIfInBounds_toArray, List.set_cons_zero, List.set_cons_succ])
  refine wpAnyH_take (i := 12) (oi := { dst := some 39, op := Op.pick (Operand.tmp 31) (Operand.const (Value.bool true)) (Operand.tmp 38), type := 4, pos := "plain.go:165", after := #[{ on := 4, ground := Ground.data }, { on := 11, ground := Ground.data }], guard := none }) (v := ?_) rfl (by kernel_rfl) (by kernel_rfl) (by kernel_rfl) (fun _ _ _ h => h) (Or.inl ⟨by rfl, ?_⟩) hHeld ?_
  rotate_left
  · intro w' hS; obtain ⟨hS1, hS2, hS3⟩ := hS; go_simp; all_goals (with_reducible rfl)
  (try simp only [Act.put, List.setIfInBounds_toArray, List.set_cons_zero, List.set_cons_succ])
  refine wpAnyH_done (by kernel_rfl) ?_ _
  (try simp only [Act.put, List.setIfInBounds_toArray, List.set_cons_zero, List.set_cons_succ])
  refine NoPanic.normal ?_
  clear hd1 hd3 hd5 hd6
  have hb2 : Below w.heap.size w w1.drew := below_drew HB1.out
  have hq2 := HCQ.out _ (below_drew (Below.refl _ _))
  generalize w1.drew = w2 at *
  have HB2 := Aside0.mk hb2
  have HQ2 := Aside0.mk hq2
  clear hb2 hq2 HCQ HCV HB1
  go_wp2_with fail
  go_at_call 31; rw [← HQL.out, ← HZL.out]; refine (joined_at A2 c2 A5 c5 q1 z _ _ HQ2.out (by rw [HQL.out]; exact hc2) (Kd.C_below HR5.out HB2.out) HC5.out HJ1.out).mono ?_; rintro e_ w3 ⟨AJ, cJ, rfl, hcJ, hCJ, hb⟩; rw [HQL.out, HZL.out]
  have HB3 := Aside0.mk (below_then HB2.out HB2.out.size hb)
  have HG := Aside0.mk HG1.out
  obtain ⟨J, hJ⟩ : ∃ J, q1 ++ z = J := ⟨_, rfl⟩
  rw [hJ] at HG hCJ hcJ ⊢
  have HCJ := Aside0.mk hCJ
  have HCC := Aside0.mk hcJ
  clear hJ hCJ hcJ hb HB2 HQ2
  have hdq : ((ql : Int) == (L : Int) - (m : Int)) = true := beq_iff_eq.2 (by omega)
  have hdq2 : ((ql : Int) != (L : Int) - (m : Int)) = false := by simp [bne, hdq]
  rw [HQL.out] at HG
  go_wp2_with fail
  go_at_call 40; refine (frame_Uint.calls k AJ cJ J n (ql : Int) 0 _ HCJ.out HCC.out HG.out).mono ?_; rintro e_ w4 ⟨rfl, ⟨nd, rfl⟩⟩
  have hb4 : Below w.heap.size w (w3.drewN nd) := pw_below_drewN HB3.out nd
  generalize w3.drewN nd = w4 at *
  have HB := Aside0.mk hb4
  clear hb4 HB3 HCJ HCC HG
  go_wp2_with fail
  clear hmx hLa hLb hcut hcut2 hc2 hcB
  (try clear hdq hdq2)
  go_at_call 39; rw [← HM.out]; refine (putint_at k A0 c0 a _ _ _ (Kd.C_below HR0.out HB.out) HC0.out HP2.out).mono ?_; rintro e_ w1 ⟨AB, cB, rfl, hcB, hC, hb⟩; rw [HM.out]
  have HB1 := Aside0.mk (below_then HB.out HB.out.size hb)
  obtain ⟨B, hB⟩ : ∃ B, a ++ q2 = B := ⟨_, rfl⟩
  rw [hB] at hC hcB ⊢
  have hLq : B.length = m + q2.length := by rw [← hB, List.length_append, HM.out]
  obtain ⟨L, hL⟩ : ∃ L : Nat, B.length = L := ⟨_, rfl⟩
  rw [hL] at hC hcB hLq ⊢
  obtain ⟨A2, c2, hcut, hcut2, hc2, hcv, hCq⟩ := parts_seen (m := m) hC hL hcB hB.symm HM.out
  obtain ⟨ql, hql⟩ : ∃ ql : Nat, q2.length = ql := ⟨_, rfl⟩
  have HQL := Aside0.mk hql
  have HCV := Aside0.mk hcv
  have HCQ := Aside0.mk hCq
  rw [hql] at hcut2 hc2 hLq
  have hmx : L ≤ 9223372036854775807 := Kd.C_max hC
  have hLa : L ≤ m + ql := by omega
  have hLb : m + ql ≤ L := by omega
  clear hb hC hB hL hql hcv hCq HB hLq
  have hd1 : decide ((L : Int) < (m : Int)) = false := decide_eq_false (by omega)
  have hd3 : ((L : Int) < (m : Int)) = False := eq_false (by omega)
  have hd5 : (L < m) = False := eq_false (by omega)
  have hd6 : decide (L < m) = false := decide_eq_false (by omega)
  go_wp2_with fail
  refine wp_region_noPanic ?_
  refine wp_region_held_drew (S := fun w' => Below w.heap.size w w' ∧ (convert 22 9 (.slice AB m cB)).run Tryd.prog w' = .ok (.string (strOfNums a)) w' ∧ (convert 22 9 (.slice A0 m c0)).run Tryd.prog w' = .ok (.string (strOfNums a)) w') (by kernel_rfl) ⟨below_drew HB1.out, HCV.out _ (below_drew (Below.refl _ _)), HCVA.out _ (below_drew HB1.out)⟩ (fun hHeld => ?_)
  refine wpAnyH_take (i := 0) (oi := { dst := some 68, op := Op.move (Operand.tmp 14), type := 22, pos := "plain.go:173", after := #[], guard := none }) (v := ?_) rfl (by kernel_rfl) (by kernel_rfl) (by kernel_rfl) (fun _ _ _ h => h) (Or.inl ⟨by rfl, ?_⟩) hHeld ?_
  rotate_left
  · intro w' hS; obtain ⟨hS1, hS2, hS3⟩ := hS; go_simp; all_goals (with_reducible rfl)
  (try simp only [Act.put, List.setIfInBounds_toArray, List.set_cons_zero, List.set_cons_succ])
  refine wpAnyH_take (i := 1) (oi := { dst := some 69, op := Op.call { callee := Callee.builtin Builtin.len, args := #[Operand.tmp 68], argTypes := #[22] }, type := 3, pos := "plain.go:173", after := #[{ on := 0, ground := Ground.data }], guard := none }) (v := ?_) rfl (by kernel_rfl) (by kernel_rfl) (by kernel_rfl) (fun _ _ _ h => h) (Or.inl ⟨by rfl, ?_⟩) hHeld ?_
  rotate_left
  · intro w' hS; obtain ⟨hS1, hS2, hS3⟩ := hS; go_simp; all_goals (with_reducible rfl)
  (try simp only [Act.put, List.setIfInBounds_toArray, List.set_cons_zero, List.set_cons_succ])
  refine wpAnyH_take (i := 2) (oi := { dst := some 70, op := Op.move (Operand.tmp 13), type := 3, pos := "plain.go:173", after := #[], guard := none }) (v := ?_) rfl (by kernel_rfl) (by kernel_rfl) (by kernel_rfl) (fun _ _ _ h => h) (Or.inl ⟨by rfl, ?_⟩) hHeld ?_
  rotate_left
  · intro w' hS; obtain ⟨hS1, hS2, hS3⟩ := hS; go_simp; all_goals (with_reducible rfl)
  (try simp only [Act.put, List.setIfInBounds_toArray, List.set_cons_zero, List.set_cons_succ])
  refine wpAnyH_take (i := 3) (oi := { dst := some 71, op := Op.binOp BinOp.lss 3 (Operand.tmp 69) (Operand.tmp 70) 3, type := 4, pos := "plain.go:173", after := #[{ on := 1, ground := Ground.data }, { on := 2, ground := Ground.data }], guard := none }) (v := ?_) rfl (by kernel_rfl) (by kernel_rfl) (by kernel_rfl) (fun _ _ _ h => h) (Or.inl ⟨by rfl, ?_⟩) hHeld ?_
  rotate_left
  · intro w' hS; obtain ⟨hS1, hS2, hS3⟩ := hS; go_simp; all_goals (with_reducible rfl)
  (try simp only [Act.put, List.setIfInBounds_toArray, List.set_cons_zero, List.set_cons_succ])
  refine wpAnyH_take (i := 4) (oi := { dst := some 72, op := Op.move (Operand.tmp 71), type := 4, pos := "plain.go:173", after := #[{ on := 3, ground := Ground.data }], guard := none }) (v := ?_) rfl (by kernel_rfl) (by kernel_rfl) (by kernel_rfl) (fun _ _ _ h => h) (Or.inl ⟨by rfl, ?_⟩) hHeld ?_
  rotate_left
  · intro w' hS; obtain ⟨hS1, hS2, hS3⟩ := hS; go_simp; all_goals (with_reducible rfl)
  (try simp only [Act.put, List.setIfInBounds_toArray, List.set_cons_zero, List.set_cons_succ])
  refine wpAnyH_take (i := 5) (oi := { dst := some 73, op := Op.move (Operand.tmp 14), type := 22, pos := "plain.go:173", after := #[{ on := 4, ground := Ground.guard }], guard := some (4, false) }) (v := ?_) rfl (by kernel_rfl) (by kernel_rfl) (by kernel_rfl) (fun _ _ _ h => h) (Or.inl ⟨by rfl, ?_⟩) hHeld ?_
  rotate_left
  · intro w' hS; obtain ⟨hS1, hS2, hS3⟩ := hS; go_simp; all_goals (with_reducible rfl)
  (try simp only [Act.put, List.setIfInBounds_toArray, List.set_cons_zero, List.set_cons_succ])
  refine wpAnyH_take (i := 6) (oi := { dst := some 74, op := Op.move (Operand.tmp 13), type := 3, pos := "plain.go:173", after := #[{ on := 4, ground := Ground.guard }], guard := some (4, false) }) (v := ?_) rfl (by kernel_rfl) (by kernel_rfl) (by kernel_rfl) (fun _ _ _ h => h) (Or.inl ⟨by rfl, ?_⟩) hHeld ?_
  rotate_left
  · intro w' hS; obtain ⟨hS1, hS2, hS3⟩ := hS; go_simp; all_goals (with_reducible rfl)
  (try simp only [Act.put, List.setIfInBounds_toArray, List.set_cons_zero, List.set_cons_succ])
  refine wpAnyH_take (i := 7) (oi := { dst := some 75, op := Op.slice 22 (Operand.tmp 73) none (some (Operand.tmp 74)) none, type := 22, pos := "plain.go:173", after := #[{ on := 5, ground := Ground.data }, { on := 6, ground := Ground.data }, { on := 4, ground := Ground.guard }], guard := some (4, false) }) (v := ?_) rfl (by kernel_rfl) (by kernel_rfl) (by kernel_rfl) (fun _ _ _ h => h) (Or.inl ⟨by rfl, ?_⟩) hHeld ?_
  rotate_left
  · intro w' hS; obtain ⟨hS1, hS2, hS3⟩ := hS; go_simp; all_goals (with_reducible rfl)
  (try simp only [Act.put, List.setIfInBounds_toArray, List.set_cons_zero, List.set_cons_succ])
  refine wpAnyH_take (i := 8) (oi := { dst := some 76, op := Op.convert 22 9 (Operand.tmp 75), type := 9, pos := "plain.go:173", after := #[{ on := 7, ground := Ground.data }, { on := 4, ground := Ground.guard }], guard := some (4, false) }) (v := ?_) rfl (by kernel_rfl) (by kernel_rfl) (by kernel_rfl) (fun _ _ _ h => h) (Or.inl ⟨by rfl, ?_⟩) hHeld ?_
  rotate_left
  · intro w' hS; obtain ⟨hS1, hS2, hS3⟩ := hS; go_simp; all_goals (with_reducible rfl)
  (try simp only [Act.put, List.setIfInBounds_toArray, List.set_cons_zero, List.set_cons_succ])
  refine wpAnyH_take (i := 9) (oi := { dst := some 77, op := Op.move (Operand.tmp 0), type := 22, pos := "plain.go:173", after := #[{ on := 4, ground := Ground.guard }], guard := some (4, false) }) (v := ?_) rfl (by kernel_rfl) (by kernel_rfl) (by kernel_rfl) (fun _ _ _ h => h) (Or.inl ⟨by rfl, ?_⟩) hHeld ?_
  rotate_left
  · intro w' hS; obtain ⟨hS1, hS2, hS3⟩ := hS; go_simp; all_goals (with_reducible rfl)
  (try simp only [Act.put, List.setIfInBounds_toArray, List.set_cons_zero, List.set_cons_succ])
  refine wpAnyH_take (i := 10) (oi := { dst := some 78, op := Op.convert 22 9 (Operand.tmp 77), type := 9, pos := "plain.go:173", after := #[{ on := 9, ground := Ground.data }, { on := 4, ground := Ground.guard }], guard := some (4, false) }) (v := ?_) rfl (by kernel_rfl) (by kernel_rfl) (by kernel_rfl) (fun _ _ _ h => h) (Or.inl ⟨by rfl, ?_⟩) hHeld ?_
  rotate_left
  · intro w' hS; obtain ⟨hS1, hS2, hS3⟩ := hS; go_simp; all_goals (with_reducible rfl)
  (try simp only [Act.put, List.setIfInBounds_toArray, List.set_cons_zero, List.set_cons_succ])
  refine wpAnyH_take (i := 11) (oi := { dst := some 79, op := Op.binOp BinOp.neq 9 (Operand.tmp 76) (Operand.tmp 78) 9, type := 4, pos := "plain.go:173", after := #[{ on := 8, ground := Ground.data }, { on := 10, ground := Ground.data }, { on := 4, ground := Ground.guard }], guard := some (4, false) }) (v := ?_) rfl (by kernel_rfl) (by kernel_rfl) (by kernel_rfl) (fun _ _ _ h => h) (Or.inl ⟨by rfl, ?_⟩) hHeld ?_
  rotate_left
  · intro w' hS; obtain ⟨hS1, hS2, hS3⟩ := hS; go_simp; all_goals (with_reducible rfl)
  (try simp only [Act.put, List.setIfInBounds_toArray, List.set_cons_zero, List.set_cons_succ])
  refine wpAnyH_take (i := 12) (oi := { dst := some 80, op := Op.pick (Operand.tmp 72) (Operand.const (Value.bool true)) (Operand.tmp 79), type := 4, pos := "plain.go:173", after := #[{ on := 4, ground := Ground.data }, { on := 11, ground := Ground.data }], guard := none }) (v := ?_) rfl (by kernel_rfl) (by kernel_rfl) (by kernel_rfl) (fun _ _ _ h => h) (Or.inl ⟨by rfl, ?_⟩) hHeld ?_
  rotate_left
  · intro w' hS; obtain ⟨hS1, hS2, hS3⟩ := hS; go_simp; all_goals (with_reducible rfl)
  (try simp only [Act.put, List.setIfInBounds_toArray, List.set_cons_zero, List.set_cons_succ])
  refine wpAnyH_done (by kernel_rfl) ?_ _
  (try simp only [Act.put, List.setIfInBounds_toArray, List.set_cons_zero, List.set_cons_succ])
  refine NoPanic.normal ?_
  clear hd1 hd3 hd5 hd6
  have hb2 : Below w.heap.size w w1.drew := below_drew HB1.out
  have hq2 := HCQ.out _ (below_drew (Below.refl _ _))
  generalize w1.drew = w2 at *
  have HB2 := Aside0.mk hb2
  have HQ2 := Aside0.mk hq2
  clear hb2 hq2 HCQ HCV HB1
  go_wp2_with fail
  go_at_call 31; rw [← HQL.out, ← HZL.out]; refine (joined_at A2 c2 A5 c5 q2 z _ _ HQ2.out (by rw [HQL.out]; exact hc2) (Kd.C_below HR5.out HB2.out) HC5.out HJ2.out).mono ?_; rintro e_ w3 ⟨AJ, cJ, rfl, hcJ, hCJ, hb⟩; rw [HQL.out, HZL.out]
  have HB3 := Aside0.mk (below_then HB2.out HB2.out.size hb)
  have HG := Aside0.mk HG2.out
  obtain ⟨J, hJ⟩ : ∃ J, q2 ++ z = J := ⟨_, rfl⟩
  rw [hJ] at HG hCJ hcJ ⊢
  have HCJ := Aside0.mk hCJ
  have HCC := Aside0.mk hcJ
  clear hJ hCJ hcJ hb HB2 HQ2
  have hdq : ((ql : Int) == (L : Int) - (m : Int)) = true := beq_iff_eq.2 (by omega)
  have hdq2 : ((ql : Int) != (L : Int) - (m : Int)) = false := by simp [bne, hdq]
  rw [HQL.out] at HG
  go_wp2_with fail
  go_at_call 55; refine (frame_Int.calls k AJ cJ J x (ql : Int) 0 _ HCJ.out HCC.out HG.out).mono ?_; rintro e_ w4 ⟨rfl, ⟨nd, rfl⟩⟩
  have hb4 : Below w.heap.size w (w3.drewN nd) := pw_below_drewN HB3.out nd
  generalize w3.drewN nd = w4 at *
  have HB := Aside0.mk hb4
  clear hb4 HB3 HCJ HCC HG
  go_wp2_with fail
  clear hmx hLa hLb hcut hcut2 hc2 hcB
  (try clear hdq hdq2)
  go_at_call 58; rw [← HM.out]; refine (putword_at k A0 c0 a _ _ _ (Kd.C_below HR0.out HB.out) HC0.out HP3.out).mono ?_; rintro e_ w1 ⟨AB, cB, rfl, hcB, hC, hb⟩; rw [HM.out]
  have HB1 := Aside0.mk (below_then HB.out HB.out.size hb)
  obtain ⟨B, hB⟩ : ∃ B, a ++ q3 = B := ⟨_, rfl⟩
  rw [hB] at hC hcB ⊢
  have hLq : B.length = m + q3.length := by rw [← hB, List.length_append, HM.out]
  obtain ⟨L, hL⟩ : ∃ L : Nat, B.length = L := ⟨_, rfl⟩
  rw [hL] at hC hcB hLq ⊢
  obtain ⟨A2, c2, hcut, hcut2, hc2, hcv, hCq⟩ := parts_seen (m := m) hC hL hcB hB.symm HM.out
  obtain ⟨ql, hql⟩ : ∃ ql : Nat, q3.length = ql := ⟨_, rfl⟩
  have HQL := Aside0.mk hql
  have HCV := Aside0.mk hcv
  have HCQ := Aside0.mk hCq
  rw [hql] at hcut2 hc2 hLq
  have hmx : L ≤ 9223372036854775807 := Kd.C_max hC
  have hLa : L ≤ m + ql := by omega
  have hLb : m + ql ≤ L := by omega
  clear hb hC hB hL hql hcv hCq HB hLq
  have hql8 : ql ≤ 8 := by rw [← HQL.out, HL3.out]; exact Nat.le_refl _
  have hql9 : 8 ≤ ql := by rw [← HQL.out, HL3.out]; exact Nat.le_refl _
  have hw8 : IntKind.i64.wrap ((m : Int) + 8) = (m : Int) + 8 := IntWalk.i64_in _ (by omega)
  have hd1 : ((L : Int) == (m : Int) + 8) = true := beq_iff_eq.2 (by omega)
  have hd3 : ((L : Int) != (m : Int) + 8) = false := by simp [bne, hd1]
  go_wp2_with fail
  refine wp_region_noPanic ?_
  refine wp_region_held_drew (S := fun w' => Below w.heap.size w w' ∧ (convert 22 9 (.slice AB m cB)).run Tryd.prog w' = .ok (.string (strOfNums a)) w' ∧ (convert 22 9 (.slice A0 m c0)).run Tryd.prog w' = .ok (.string (strOfNums a)) w') (by kernel_rfl) ⟨below_drew HB1.out, HCV.out _ (below_drew (Below.refl _ _)), HCVA.out _ (below_drew HB1.out)⟩ (fun hHeld => ?_)
  refine wpAnyH_take (i := 0) (oi := { dst := some 109, op := Op.move (Operand.tmp 14), type := 22, pos := "plain.go:181", after := #[], guard := none }) (v := ?_) rfl (by kernel_rfl) (by kernel_rfl) (by kernel_rfl) (fun _ _ _ h => h) (Or.inl ⟨by rfl, ?_⟩) hHeld ?_
  rotate_left
  · intro w' hS; obtain ⟨hS1, hS2, hS3⟩ := hS; go_simp; all_goals (with_reducible rfl)
  (try simp only [Act.put, List.setIfInBounds_toArray, List.set_cons_zero, List.set_cons_succ])
  refine wpAnyH_take (i := 1) (oi := { dst := some 110, op := Op.call { callee := Callee.builtin Builtin.len, args := #[Operand.tmp 109], argTypes := #[22] }, type := 3, pos := "plain.go:181", after := #[{ on := 0, ground := Ground.data }], guard := none }) (v := ?_) rfl (by kernel_rfl) (by kernel_rfl) (by kernel_rfl) (fun _ _ _ h => h) (Or.inl ⟨by rfl, ?_⟩) hHeld ?_
  rotate_left
  · intro w' hS; obtain ⟨hS1, hS2, hS3⟩ := hS; go_simp; all_goals (with_reducible rfl)
  (try simp only [Act.put, List.setIfInBounds_toArray, List.set_cons_zero, List.set_cons_succ])
  refine wpAnyH_take (i := 2) (oi := { dst := some 111, op := Op.move (Operand.tmp 13), type := 3, pos := "plain.go:181", after := #[], guard := none }) (v := ?_) rfl (by kernel_rfl) (by kernel_rfl) (by kernel_rfl) (fun _ _ _ h => h) (Or.inl ⟨by rfl, ?_⟩) hHeld ?_
  rotate_left
  · intro w' hS; obtain ⟨hS1, hS2, hS3⟩ := hS; go_simp; all_goals (with_reducible rfl)
  (try simp only [Act.put, List.setIfInBounds_toArray, List.set_cons_zero, List.set_cons_succ])
  refine wpAnyH_take (i := 3) (oi := { dst := some 112, op := Op.binOp BinOp.add 3 (Operand.tmp 111) (Operand.const (Value.int IntKind.i64 8)) 3, type := 3, pos := "plain.go:181", after := #[{ on := 2, ground := Ground.data }], guard := none }) (v := ?_) rfl (by kernel_rfl) (by kernel_rfl) (by kernel_rfl) (fun _ _ _ h => h) (Or.inl ⟨by rfl, ?_⟩) hHeld ?_
  rotate_left
  · intro w' hS; obtain ⟨hS1, hS2, hS3⟩ := hS; go_simp; all_goals (with_reducible rfl)
  (try simp only [Act.put, List.setIfInBounds_toArray, List.set_cons_zero, List.set_cons_succ])
  refine wpAnyH_take (i := 4) (oi := { dst := some 113, op := Op.binOp BinOp.neq 3 (Operand.tmp 110) (Operand.tmp 112) 3, type := 4, pos := "plain.go:181", after := #[{ on := 1, ground := Ground.data }, { on := 3, ground := Ground.data }], guard := none }) (v := ?_) rfl (by kernel_rfl) (by kernel_rfl) (by kernel_rfl) (fun _ _ _ h => h) (Or.inl ⟨by rfl, ?_⟩) hHeld ?_
  rotate_left
  · intro w' hS; obtain ⟨hS1, hS2, hS3⟩ := hS; go_simp; all_goals (with_reducible rfl)
  (try simp only [Act.put, List.setIfInBounds_toArray, List.set_cons_zero, List.set_cons_succ])
  refine wpAnyH_take (i := 5) (oi := { dst := some 114, op := Op.move (Operand.tmp 113), type := 4, pos := "plain.go:181", after := #[{ on := 4, ground := Ground.data }], guard := none }) (v := ?_) rfl (by kernel_rfl) (by kernel_rfl) (by kernel_rfl) (fun _ _ _ h => h) (Or.inl ⟨by rfl, ?_⟩) hHeld ?_
  rotate_left
  · intro w' hS; obtain ⟨hS1, hS2, hS3⟩ := hS; go_simp; all_goals (with_reducible rfl)
  (try simp only [Act.put, List.setIfInBounds_toArray, List.set_cons_zero, List.set_cons_succ])
  refine wpAnyH_take (i := 6) (oi := { dst := some 115, op := Op.move (Operand.tmp 14), type := 22, pos := "plain.go:181", after := #[{ on := 5, ground := Ground.guard }], guard := some (5, false) }) (v := ?_) rfl (by kernel_rfl) (by kernel_rfl) (by kernel_rfl) (fun _ _ _ h => h) (Or.inl ⟨by rfl, ?_⟩) hHeld ?_
  rotate_left
  · intro w' hS; obtain ⟨hS1, hS2, hS3⟩ := hS; go_simp; all_goals (with_reducible rfl)
  (try simp only [Act.put, List.setIfInBounds_toArray, List.set_cons_zero, List.set_cons_succ])
  refine wpAnyH_take (i := 7) (oi := { dst := some 116, op := Op.move (Operand.tmp 13), type := 3, pos := "plain.go:181", after := #[{ on := 5, ground := Ground.guard }], guard := some (5, false) }) (v := ?_) rfl (by kernel_rfl) (by kernel_rfl) (by kernel_rfl) (fun _ _ _ h => h) (Or.inl ⟨by rfl, ?_⟩) hHeld ?_
  rotate_left
  · intro w' hS; obtain ⟨hS1, hS2, hS3⟩ := hS; go_simp; all_goals (with_reducible rfl)
  (try simp only [Act.put, List.setIfInBounds_toArray, List.set_cons_zero, List.set_cons_succ])
  refine wpAnyH_take (i := 8) (oi := { dst := some 117, op := Op.slice 22 (Operand.tmp 115) none (some (Operand.tmp 116)) none, type := 22, pos := "plain.go:181", after := #[{ on := 6, ground := Ground.data }, { on := 7, ground := Ground.data }, { on := 5, ground := Ground.guard }], guard := some (5, false) }) (v := ?_) rfl (by kernel_rfl) (by kernel_rfl) (by kernel_rfl) (fun _ _ _ h => h) (Or.inl ⟨by rfl, ?_⟩) hHeld ?_
  rotate_left
  · intro w' hS; obtain ⟨hS1, hS2, hS3⟩ := hS; go_simp; all_goals (with_reducible rfl)
  (try simp only [Act.put, List.setIfInBounds_toArray, List.set_cons_zero, List.set_cons_succ])
  refine wpAnyH_take (i := 9) (oi := { dst := some 118, op := Op.convert 22 9 (Operand.tmp 117), type := 9, pos := "plain.go:181", after := #[{ on := 8, ground := Ground.data }, { on := 5, ground := Ground.guard }], guard := some (5, false) }) (v := ?_) rfl (by kernel_rfl) (by kernel_rfl) (by kernel_rfl) (fun _ _ _ h => h) (Or.inl ⟨by rfl, ?_⟩) hHeld ?_
  rotate_left
  · intro w' hS; obtain ⟨hS1, hS2, hS3⟩ := hS; go_simp; all_goals (with_reducible rfl)
  (try simp only [Act.put, List.setIfInBounds_toArray, List.set_cons_zero, List.set_cons_succ])
  refine wpAnyH_take (i := 10) (oi := { dst := some 119, op := Op.move (Operand.tmp 0), type := 22, pos := "plain.go:181", after := #[{ on := 5, ground := Ground.guard }], guard := some (5, false) }) (v := ?_) rfl (by kernel_rfl) (by kernel_rfl) (by kernel_rfl) (fun _ _ _ h => h) (Or.inl ⟨by rfl, ?_⟩) hHeld ?_
  rotate_left
  · intro w' hS; obtain ⟨hS1, hS2, hS3⟩ := hS; go_simp; all_goals (with_reducible rfl)
  (try simp only [Act.put, List.setIfInBounds_toArray, List.set_cons_zero, List.set_cons_succ])
  refine wpAnyH_take (i := 11) (oi := { dst := some 120, op := Op.convert 22 9 (Operand.tmp 119), type := 9, pos := "plain.go:181", after := #[{ on := 10, ground := Ground.data }, { on := 5, ground := Ground.guard }], guard := some (5, false) }) (v := ?_) rfl (by kernel_rfl) (by kernel_rfl) (by kernel_rfl) (fun _ _ _ h => h) (Or.inl ⟨by rfl, ?_⟩) hHeld ?_
  rotate_left
  · intro w' hS; obtain ⟨hS1, hS2, hS3⟩ := hS; go_simp; all_goals (with_reducible rfl)
  (try simp only [Act.put, List.setIfInBounds_toArray, List.set_cons_zero, List.set_cons_succ])
  refine wpAnyH_take (i := 12) (oi := { dst := some 121, op := Op.binOp BinOp.neq 9 (Operand.tmp 118) (Operand.tmp 120) 9, type := 4, pos := "plain.go:181", after := #[{ on := 9, ground := Ground.data }, { on := 11, ground := Ground.data }, { on := 5, ground := Ground.guard }], guard := some (5, false) }) (v := ?_) rfl (by kernel_rfl) (by kernel_rfl) (by kernel_rfl) (fun _ _ _ h => h) (Or.inl ⟨by rfl, ?_⟩) hHeld ?_
  rotate_left
  · intro w' hS; obtain ⟨hS1, hS2, hS3⟩ := hS; go_simp; all_goals (with_reducible rfl)
  (try simp only [Act.put, List.setIfInBounds_toArray, List.set_cons_zero, List.set_cons_succ])
  refine wpAnyH_take (i := 13) (oi := { dst := some 122, op := Op.pick (Operand.tmp 114) (Operand.const (Value.bool true)) (Operand.tmp 121), type := 4, pos := "plain.go:181", after := #[{ on := 5, ground := Ground.data }, { on := 12, ground := Ground.data }], guard := none }) (v := ?_) rfl (by kernel_rfl) (by kernel_rfl) (by kernel_rfl) (fun _ _ _ h => h) (Or.inl ⟨by rfl, ?_⟩) hHeld ?_
  rotate_left
  · intro w' hS; obtain ⟨hS1, hS2, hS3⟩ := hS; go_simp; all_goals (with_reducible rfl)
  (try simp only [Act.put, List.setIfInBounds_toArray, List.set_cons_zero, List.set_cons_succ])
  refine wpAnyH_done (by kernel_rfl) ?_ _
  (try simp only [Act.put, List.setIfInBounds_toArray, List.set_cons_zero, List.set_cons_succ])
  refine NoPanic.normal ?_
  clear hd1 hd3 hw8
  have hb2 : Below w.heap.size w w1.drew := below_drew HB1.out
  have hq2 := HCQ.out _ (below_drew (Below.refl _ _))
  generalize w1.drew = w2 at *
  have HB2 := Aside0.mk hb2
  have HQ2 := Aside0.mk hq2
  clear hb2 hq2 HCQ HCV HB1
  go_wp2_with fail
  go_at_call 31; rw [← HQL.out, ← HZL.out]; refine (joined_at A2 c2 A5 c5 q3 z _ _ HQ2.out (by rw [HQL.out]; exact hc2) (Kd.C_below HR5.out HB2.out) HC5.out HJ3.out).mono ?_; rintro e_ w3 ⟨AJ, cJ, rfl, hcJ, hCJ, hb⟩; rw [HQL.out, HZL.out]
  have HB3 := Aside0.mk (below_then HB2.out HB2.out.size hb)
  have HG := Aside0.mk HG3.out
  obtain ⟨J, hJ⟩ : ∃ J, q3 ++ z = J := ⟨_, rfl⟩
  rw [hJ] at HG hCJ hcJ ⊢
  have HCJ := Aside0.mk hCJ
  have HCC := Aside0.mk hcJ
  clear hJ hCJ hcJ hb HB2 HQ2
  go_wp2_with fail
  go_at_call 59; refine (frame_Word.calls k AJ cJ J n 0 _ HCJ.out HCC.out HG.out).mono ?_; rintro e_ w4 ⟨rfl, ⟨nd, rfl⟩⟩
  have hb4 : Below w.heap.size w (w3.drewN nd) := pw_below_drewN HB3.out nd
  generalize w3.drewN nd = w4 at *
  have HB := Aside0.mk hb4
  clear hb4 HB3 HCJ HCC HG
  go_wp2_with fail
  clear hmx hLa hLb hcut hcut2 hc2 hcB
  (try clear hdq hdq2)
  go_at_call 57; rw [← HM.out]; refine (puttext_at k A0 c0 a _ _ _ (Kd.C_below HR0.out HB.out) HC0.out HP4.out).mono ?_; rintro e_ w1 ⟨AB, cB, rfl, hcB, hC, hb⟩; rw [HM.out]
  have HB1 := Aside0.mk (below_then HB.out HB.out.size hb)
  obtain ⟨B, hB⟩ : ∃ B, a ++ q4 = B := ⟨_, rfl⟩
  rw [hB] at hC hcB ⊢
  have hLq : B.length = m + q4.length := by rw [← hB, List.length_append, HM.out]
  obtain ⟨L, hL⟩ : ∃ L : Nat, B.length = L := ⟨_, rfl⟩
  rw [hL] at hC hcB hLq ⊢
  obtain ⟨A2, c2, hcut, hcut2, hc2, hcv, hCq⟩ := parts_seen (m := m) hC hL hcB hB.symm HM.out
  obtain ⟨ql, hql⟩ : ∃ ql : Nat, q4.length = ql := ⟨_, rfl⟩
  have HQL := Aside0.mk hql
  have HCV := Aside0.mk hcv
  have HCQ := Aside0.mk hCq
  rw [hql] at hcut2 hc2 hLq
  have hmx : L ≤ 9223372036854775807 := Kd.C_max hC
  have hLa : L ≤ m + ql := by omega
  have hLb : m + ql ≤ L := by omega
  clear hb hC hB hL hql hcv hCq HB hLq
  have hd1 : decide ((L : Int) < (m : Int)) = false := decide_eq_false (by omega)
  have hd3 : ((L : Int) < (m : Int)) = False := eq_false (by omega)
  have hd5 : (L < m) = False := eq_false (by omega)
  have hd6 : decide (L < m) = false := decide_eq_false (by omega)
  go_wp2_with fail
  refine wp_region_noPanic ?_
  refine wp_region_held_drew (S := fun w' => Below w.heap.size w w' ∧ (convert 22 9 (.slice AB m cB)).run Tryd.prog w' = .ok (.string (strOfNums a)) w' ∧ (convert 22 9 (.slice A0 m c0)).run Tryd.prog w' = .ok (.string (strOfNums a)) w') (by kernel_rfl) ⟨below_drew HB1.out, HCV.out _ (below_drew (Below.refl _ _)), HCVA.out _ (below_drew HB1.out)⟩ (fun hHeld => ?_)
  refine wpAnyH_take (i := 0) (oi := { dst := some 142, op := Op.move (Operand.tmp 14), type := 22, pos := "plain.go:189", after := #[], guard := none }) (v := ?_) rfl (by kernel_rfl) (by kernel_rfl) (by kernel_rfl) (fun _ _ _ h => h) (Or.inl ⟨by rfl, ?_⟩) hHeld ?_
  rotate_left
  · intro w' hS; obtain ⟨hS1, hS2, hS3⟩ := hS; go_simp; all_goals (with_reducible rfl)
  (try simp only [Act.put, List.setIfInBounds_toArray, List.set_cons_zero, List.set_cons_succ])
  refine wpAnyH_take (i := 1) (oi := { dst := some 143, op := Op.call { callee := Callee.builtin Builtin.len, args := #[Operand.tmp 142], argTypes := #[22] }, type := 3, pos := "plain.go:189", after := #[{ on := 0, ground := Ground.data }], guard := none }) (v := ?_) rfl (by kernel_rfl) (by kernel_rfl) (by kernel_rfl) (fun _ _ _ h => h) (Or.inl ⟨by rfl, ?_⟩) hHeld ?_
  rotate_left
  · intro w' hS; obtain ⟨hS1, hS2, hS3⟩ := hS; go_simp; all_goals (with_reducible rfl)
  (try simp only [Act.put, List.setIfInBounds_toArray, List.set_cons_zero, List.set_cons_succ])
  refine wpAnyH_take (i := 2) (oi := { dst := some 144, op := Op.move (Operand.tmp 13), type := 3, pos := "plain.go:189", after := #[], guard := none }) (v := ?_) rfl (by kernel_rfl) (by kernel_rfl) (by kernel_rfl) (fun _ _ _ h => h) (Or.inl ⟨by rfl, ?_⟩) hHeld ?_
  rotate_left
  · intro w' hS; obtain ⟨hS1, hS2, hS3⟩ := hS; go_simp; all_goals (with_reducible rfl)
  (try simp only [Act.put, List.setIfInBounds_toArray, List.set_cons_zero, List.set_cons_succ])
  refine wpAnyH_take (i := 3) (oi := { dst := some 145, op := Op.binOp BinOp.lss 3 (Operand.tmp 143) (Operand.tmp 144) 3, type := 4, pos := "plain.go:189", after := #[{ on := 1, ground := Ground.data }, { on := 2, ground := Ground.data }], guard := none }) (v := ?_) rfl (by kernel_rfl) (by kernel_rfl) (by kernel_rfl) (fun _ _ _ h => h) (Or.inl ⟨by rfl, ?_⟩) hHeld ?_
  rotate_left
  · intro w' hS; obtain ⟨hS1, hS2, hS3⟩ := hS; go_simp; all_goals (with_reducible rfl)
  (try simp only [Act.put, List.setIfInBounds_toArray, List.set_cons_zero, List.set_cons_succ])
  refine wpAnyH_take (i := 4) (oi := { dst := some 146, op := Op.move (Operand.tmp 145), type := 4, pos := "plain.go:189", after := #[{ on := 3, ground := Ground.data }], guard := none }) (v := ?_) rfl (by kernel_rfl) (by kernel_rfl) (by kernel_rfl) (fun _ _ _ h => h) (Or.inl ⟨by rfl, ?_⟩) hHeld ?_
  rotate_left
  · intro w' hS; obtain ⟨hS1, hS2, hS3⟩ := hS; go_simp; all_goals (with_reducible rfl)
  (try simp only [Act.put, List.setIfInBounds_toArray, List.set_cons_zero, List.set_cons_succ])
  refine wpAnyH_take (i := 5) (oi := { dst := some 147, op := Op.move (Operand.tmp 14), type := 22, pos := "plain.go:189", after := #[{ on := 4, ground := Ground.guard }], guard := some (4, false) }) (v := ?_) rfl (by kernel_rfl) (by kernel_rfl) (by kernel_rfl) (fun _ _ _ h => h) (Or.inl ⟨by rfl, ?_⟩) hHeld ?_
  rotate_left
  · intro w' hS; obtain ⟨hS1, hS2, hS3⟩ := hS; go_simp; all_goals (with_reducible rfl)
  (try simp only [Act.put, List.setIfInBounds_toArray, List.set_cons_zero, List.set_cons_succ])
  refine wpAnyH_take (i := 6) (oi := { dst := some 148, op := Op.move (Operand.tmp 13), type := 3, pos := "plain.go:189", after := #[{ on := 4, ground := Ground.guard }], guard := some (4, false) }) (v := ?_) rfl (by kernel_rfl) (by kernel_rfl) (by kernel_rfl) (fun _ _ _ h => h) (Or.inl ⟨by rfl, ?_⟩) hHeld ?_
  rotate_left
  · intro w' hS; obtain ⟨hS1, hS2, hS3⟩ := hS; go_simp; all_goals (with_reducible rfl)
  (try simp only [Act.put, List.setIfInBounds_toArray, List.set_cons_zero, List.set_cons_succ])
  refine wpAnyH_take (i := 7) (oi := { dst := some 149, op := Op.slice 22 (Operand.tmp 147) none (some (Operand.tmp 148)) none, type := 22, pos := "plain.go:189", after := #[{ on := 5, ground := Ground.data }, { on := 6, ground := Ground.data }, { on := 4, ground := Ground.guard }], guard := some (4, false) }) (v := ?_) rfl (by kernel_rfl) (by kernel_rfl) (by kernel_rfl) (fun _ _ _ h => h) (Or.inl ⟨by rfl, ?_⟩) hHeld ?_
  rotate_left
  · intro w' hS; obtain ⟨hS1, hS2, hS3⟩ := hS; go_simp; all_goals (with_reducible rfl)
  (try simp only [Act.put, List.setIfInBounds_toArray, List.set_cons_zero, List.set_cons_succ])
  refine wpAnyH_take (i := 8) (oi := { dst := some 150, op := Op.convert 22 9 (Operand.tmp 149), type := 9, pos := "plain.go:189", after := #[{ on := 7, ground := Ground.data }, { on := 4, ground := Ground.guard }], guard := some (4, false) }) (v := ?_) rfl (by kernel_rfl) (by kernel_rfl) (by kernel_rfl) (fun _ _ _ h => h) (Or.inl ⟨by rfl, ?_⟩) hHeld ?_
  rotate_left
  · intro w' hS; obtain ⟨hS1, hS2, hS3⟩ := hS; go_simp; all_goals (with_reducible rfl)
  (try simp only [Act.put, List.setIfInBounds_toArray, List.set_cons_zero, List.set_cons_succ])
  refine wpAnyH_take (i := 9) (oi := { dst := some 151, op := Op.move (Operand.tmp 0), type := 22, pos := "plain.go:189", after := #[{ on := 4, ground := Ground.guard }], guard := some (4, false) }) (v := ?_) rfl (by kernel_rfl) (by kernel_rfl) (by kernel_rfl) (fun _ _ _ h => h) (Or.inl ⟨by rfl, ?_⟩) hHeld ?_
  rotate_left
  · intro w' hS; obtain ⟨hS1, hS2, hS3⟩ := hS; go_simp; all_goals (with_reducible rfl)
  (try simp only [Act.put, List.setIfInBounds_toArray, List.set_cons_zero, List.set_cons_succ])
  refine wpAnyH_take (i := 10) (oi := { dst := some 152, op := Op.convert 22 9 (Operand.tmp 151), type := 9, pos := "plain.go:189", after := #[{ on := 9, ground := Ground.data }, { on := 4, ground := Ground.guard }], guard := some (4, false) }) (v := ?_) rfl (by kernel_rfl) (by kernel_rfl) (by kernel_rfl) (fun _ _ _ h => h) (Or.inl ⟨by rfl, ?_⟩) hHeld ?_
  rotate_left
  · intro w' hS; obtain ⟨hS1, hS2, hS3⟩ := hS; go_simp; all_goals (with_reducible rfl)
  (try simp only [Act.put, List.setIfInBounds_toArray, List.set_cons_zero, List.set_cons_succ])
  refine wpAnyH_take (i := 11) (oi := { dst := some 153, op := Op.binOp BinOp.neq 9 (Operand.tmp 150) (Operand.tmp 152) 9, type := 4, pos := "plain.go:189", after := #[{ on := 8, ground := Ground.data }, { on := 10, ground := Ground.data }, { on := 4, ground := Ground.guard }], guard := some (4, false) }) (v := ?_) rfl (by kernel_rfl) (by kernel_rfl) (by kernel_rfl) (fun _ _ _ h => h) (Or.inl ⟨by rfl, ?_⟩) hHeld ?_
  rotate_left
  · intro w' hS; obtain ⟨hS1, hS2, hS3⟩ := hS; go_simp; all_goals (with_reducible rfl)
  (try simp only [Act.put, List.setIfInBounds_toArray, List.set_cons_zero, List.set_cons_succ])
  refine wpAnyH_take (i := 12) (oi := { dst := some 154, op := Op.pick (Operand.tmp 146) (Operand.const (Value.bool true)) (Operand.tmp 153), type := 4, pos := "plain.go:189", after := #[{ on := 4, ground := Ground.data }, { on := 11, ground := Ground.data }], guard := none }) (v := ?_) rfl (by kernel_rfl) (by kernel_rfl) (by kernel_rfl) (fun _ _ _ h => h) (Or.inl ⟨by rfl, ?_⟩) hHeld ?_
  rotate_left
  · intro w' hS; obtain ⟨hS1, hS2, hS3⟩ := hS; go_simp; all_goals (with_reducible rfl)
  (try simp only [Act.put, List.setIfInBounds_toArray, List.set_cons_zero, List.set_cons_succ])
  refine wpAnyH_done (by kernel_rfl) ?_ _
  (try simp only [Act.put, List.setIfInBounds_toArray, List.set_cons_zero, List.set_cons_succ])
  refine NoPanic.normal ?_
  clear hd1 hd3 hd5 hd6
  have hb2 : Below w.heap.size w w1.drew := below_drew HB1.out
  have hq2 := HCQ.out _ (below_drew (Below.refl _ _))
  generalize w1.drew = w2 at *
  have HB2 := Aside0.mk hb2
  have HQ2 := Aside0.mk hq2
  clear hb2 hq2 HCQ HCV HB1
  go_wp2_with fail
  go_at_call 31; rw [← HQL.out, ← HZL.out]; refine (joined_at A2 c2 A5 c5 q4 z _ _ HQ2.out (by rw [HQL.out]; exact hc2) (Kd.C_below HR5.out HB2.out) HC5.out HJ4.out).mono ?_; rintro e_ w3 ⟨AJ, cJ, rfl, hcJ, hCJ, hb⟩; rw [HQL.out, HZL.out]
  have HB3 := Aside0.mk (below_then HB2.out HB2.out.size hb)
  have HG := Aside0.mk HG4.out
  obtain ⟨J, hJ⟩ : ∃ J, q4 ++ z = J := ⟨_, rfl⟩
  rw [hJ] at HG hCJ hcJ ⊢
  have HCJ := Aside0.mk hCJ
  have HCC := Aside0.mk hcJ
  clear hJ hCJ hcJ hb HB2 HQ2
  have hdq : ((ql : Int) == (L : Int) - (m : Int)) = true := beq_iff_eq.2 (by omega)
  have hdq2 : ((ql : Int) != (L : Int) - (m : Int)) = false := by simp [bne, hdq]
  rw [HQL.out] at HG
  go_wp2_with fail
  go_at_call 56; refine (frame_Text.calls k AJ cJ J (s.size : Int) s (ql : Int) 0 _ HCJ.out HCC.out HG.out).mono ?_; rintro e_ w4 ⟨rfl, hb⟩
  have HB := Aside0.mk (below_then HB3.out HB3.out.size hb)
  clear hb HB3 HCJ HCC HG
  go_wp2_with fail
  clear hmx hLa hLb hcut hcut2 hc2 hcB hdq hdq2
  go_at_call 32; rw [← HPL.out]; refine (seal_at k A4 c4 p b e _ (Kd.C_below HR4.out HB.out) HC4.out (Kd.C_below HT.out HB.out) HS.out).mono ?_; rintro e_ w1 ⟨AB, cB, rfl, hcB, hC, hb⟩; rw [HPL.out]
  have HB1 := Aside0.mk (below_then HB.out HB.out.size hb)
  have HCB := Aside0.mk hC
  have HBB := Aside0.mk hcB
  clear HB hb hC hcB
  by_cases he : e = 0
  · obtain ⟨hj, hu⟩ := HS2.out he
    have HJ := Aside0.mk hj
    have HU := Aside0.mk hu
    have heb : (e == 0) = true := beq_iff_eq.2 he
    have heb2 : (e != 0) = false := by simp [bne, heb]
    clear he hj hu
    obtain ⟨bl, hbl⟩ : ∃ bl : Nat, b.length = bl := ⟨_, rfl⟩
    have HBL := Aside0.mk hbl
    rw [hbl]
    clear hbl
    go_wp2_with fail
    go_at_call 31; rw [← HBL.out, ← HZL.out]; refine (joined_at AB cB A5 c5 b z _ _ HCB.out HBB.out (Kd.C_below HR5.out HB1.out) HC5.out HJ.out).mono ?_; rintro e_ w3 ⟨AJ, cJ, rfl, hcJ, hCJ, hb⟩; rw [HBL.out, HZL.out]
    have HB3 := Aside0.mk (below_then HB1.out HB1.out.size hb)
    obtain ⟨J, hJ⟩ : ∃ J, b ++ z = J := ⟨_, rfl⟩
    rw [hJ] at HU hCJ hcJ ⊢
    rw [HBL.out] at HU
    have HCJ := Aside0.mk hCJ
    have HCC := Aside0.mk hcJ
    clear hJ hCJ hcJ hb HB1
    go_wp2_with fail
    go_at_call 36; refine (unseal_at k AJ cJ J p (bl : Int) 0 0 _ HCJ.out HCC.out (Kd.C_below HT.out HB3.out) HU.out).mono ?_; rintro e_ w4 ⟨Ap, cp, rfl, hcp, hCp, hb⟩
    have HB4 := Aside0.mk (below_then HB3.out HB3.out.size hb)
    have hcv1 := Kd.C_string (P := Tryd.prog) (c := cp) Tryd.underlying22 Tryd.underlying5 Tryd.underlying9 hCp
    have hcv2 := Kd.C_string (P := Tryd.prog) (c := c4) Tryd.underlying22 Tryd.underlying5 Tryd.underlying9 (Kd.C_below HR4.out HB4.out)
    rw [HPL.out] at hcv1 hcv2 ⊢
    clear hb hCp hcp HB3 HCJ HCC
    go_wp2_with fail
    go_ret
    exact ⟨rfl, HB4.out⟩
  · obtain ⟨rfl, q1, q2⟩ := HS1.out he
    obtain rfl : b = [] := List.eq_nil_of_length_eq_zero q2
    rw [HPL.out] at q1
    have hd1 : decide ((65536 : Int) < (pl : Int)) = true := decide_eq_true (by omega)
    have hd2 : ((65536 : Int) < (pl : Int)) = True := eq_true (by omega)
    have hd3 : (65536 < pl) = True := eq_true q1
    clear he q2
    go_wp2_with fail
    go_ret
    exact ⟨rfl, HB1.out⟩
open Classical in
noncomputable def larderlaw01_FrameBack.f (k : Nat) (l0 : List Int) (a1 : Int) (a2 : Int) (a3 : ByteArray) (l4 l5 : List Int) : Option Bool := if BackGood k l0 a1 a2 a3 l4 l5 ∧ l0.length ≤ 1048576 then some true else none
theorem larderlaw01_FrameBack.calls (k : Nat) (A0 : Option Addr) (c0 : Nat) (l0 : List Int) (a1 : Int) (a2 : Int) (a3 : ByteArray) (A4 : Option Addr) (c4 : Nat) (l4 : List Int) (A5 : Option Addr) (c5 : Nat) (l5 : List Int) (r : Bool) (w : World) (hr0 : Kd.C (Kd.int .u8) w A0 l0.length l0) (hc0 : l0.length ≤ c0) (hr4 : Kd.C (Kd.int .u8) w A4 l4.length l4) (hc4 : l4.length ≤ c4) (hr5 : Kd.C (Kd.int .u8) w A5 l5.length l5) (hc5 : l5.length ≤ c5) (hT : Kd.C (Kd.int .u32) w (some ⟨0, 0, none⟩) 16 crcTab) (hrt : r = true) (h : larderlaw01_FrameBack.f k l0 a1 a2 a3 l4 l5 = some r) :
    Calls Tryd.prog 18 #[.slice A0 l0.length c0, .int .u64 a1, .int .i64 a2, .string a3, .slice A4 l4.length c4, .slice A5 l5.length c5] w fun e w' => e = .returned (.bool r) ∧ Below w.heap.size w w' := by
  subst hrt
  unfold larderlaw01_FrameBack.f at h
  by_cases hg : BackGood k l0 a1 a2 a3 l4 l5 ∧ l0.length ≤ 1048576
  · exact back_walk k A0 c0 l0 a1 a2 a3 A4 c4 l4 A5 c5 l5 w hr0 hc0 hr4 hc4 hr5 hc5 hT hg.2 hg.1
  · rw [if_neg hg] at h
    cases h
def larderlaw01_FrameBack.Pure : Prop := ∀ (l0 : List Int) (a1 : Int) (a2 : Int) (a3 : ByteArray) (l4 : List Int) (l5 : List Int), l0.length ≤ maxLen → l0.length * 1 ≤ 1048576 → (∀ x ∈ l0, (Lit.int .u8 x).wf = true) → (Lit.int .u64 a1).wf = true → (Lit.int .i64 a2).wf = true → a3.size ≤ 1048576 → l4.length ≤ maxLen → l4.length * 1 ≤ 1048576 → (∀ x ∈ l4, (Lit.int .u8 x).wf = true) → l5.length ≤ maxLen → l5.length * 1 ≤ 1048576 → (∀ x ∈ l5, (Lit.int .u8 x).wf = true) → ∃ k, larderlaw01_FrameBack.f k l0 a1 a2 a3 l4 l5 = some true
theorem larderlaw01_FrameBack.walk (P : larderlaw01_FrameBack.Pure) (a0 : Option Addr) (len0 cap0 : Nat) (z0 : List Int) (a1 : Int) (a2 : Int) (a3 : ByteArray) (a4 : Option Addr) (len4 cap4 : Nat) (z4 : List Int) (a5 : Option Addr) (len5 cap5 : Nat) (z5 : List Int) (w : World) (w0 : (a0 = none ∧ len0 = 0 ∧ cap0 = 0 ∧ z0 = []) ∨ ∃ x, a0 = some x ∧ len0 ≤ cap0 ∧ cap0 ≤ maxLen ∧ z0.length = cap0 ∧ (∀ i, i < z0.length → w.cell? (x.add i) = some (.int .u8 (z0.getD i 0))) ∧ ∀ n ∈ z0, (Lit.int .u8 n).wf = true) (y0 : len0 * 1 ≤ 1048576) (w1 : (Lit.int .u64 a1).wf = true) (w2 : (Lit.int .i64 a2).wf = true) (w3 : a3.size ≤ 1048576) (w4 : (a4 = none ∧ len4 = 0 ∧ cap4 = 0 ∧ z4 = []) ∨ ∃ x, a4 = some x ∧ len4 ≤ cap4 ∧ cap4 ≤ maxLen ∧ z4.length = cap4 ∧ (∀ i, i < z4.length → w.cell? (x.add i) = some (.int .u8 (z4.getD i 0))) ∧ ∀ n ∈ z4, (Lit.int .u8 n).wf = true) (y4 : len4 * 1 ≤ 1048576) (w5 : (a5 = none ∧ len5 = 0 ∧ cap5 = 0 ∧ z5 = []) ∨ ∃ x, a5 = some x ∧ len5 ≤ cap5 ∧ cap5 ≤ maxLen ∧ z5.length = cap5 ∧ (∀ i, i < z5.length → w.cell? (x.add i) = some (.int .u8 (z5.getD i 0))) ∧ ∀ n ∈ z5, (Lit.int .u8 n).wf = true) (y5 : len5 * 1 ≤ 1048576) (hT : Kd.C (Kd.int .u32) w (some ⟨0, 0, none⟩) 16 crcTab) :
    Calls Tryd.prog 18 #[.slice a0 len0 cap0, .int .u64 a1, .int .i64 a2, .string a3, .slice a4 len4 cap4, .slice a5 len5 cap5] w fun e w' => e = .returned (.bool true) ∧ Below w.heap.size w w' := by
  obtain ⟨l0, rfl, hr0, hm0, hw0, hc0⟩ := ReadsInt.ofRowC w0
  obtain ⟨l4, rfl, hr4, hm4, hw4, hc4⟩ := ReadsInt.ofRowC w4
  obtain ⟨l5, rfl, hr5, hm5, hw5, hc5⟩ := ReadsInt.ofRowC w5
  obtain ⟨k, h⟩ := P l0 a1 a2 a3 l4 l5 hm0 y0 hw0 w1 w2 w3 hm4 y4 hw4 hm5 y5 hw5
  refine (larderlaw01_FrameBack.calls k _ _ l0 a1 a2 a3 _ _ l4 _ _ l5 true w (Kd.C_of_reads (d := (0 : Int)) (h1 := fun _ => rfl) hr0) hc0 (Kd.C_of_reads (d := (0 : Int)) (h1 := fun _ => rfl) hr4) hc4 (Kd.C_of_reads (d := (0 : Int)) (h1 := fun _ => rfl) hr5) hc5 hT rfl h).mono ?_
  rintro e w' ⟨rfl, hd⟩
  exact ⟨rfl, hd⟩

end Go.Proofs.YtlblleideihhmaaDoor.PB
