-- Written by a program of this session (wip/pp), out of the translation.
import Derived.Test.YtlblleideihhmaaDoorPBx0
import Derived.Test.YtlblleideihhmaaDoorPBx1
import Derived.Test.YtlblleideihhmaaDoorPBx2
import Derived.Test.YtlblleideihhmaaDoorPBx3
namespace Go.Proofs.YtlblleideihhmaaDoor.PB
open Go.RowKit Go.Proofs.YtlblleideihhmaaDoor.Mine Go.Proofs.YtlblleideihhmaaDoorW.PrintWords Go.Proofs.YtlblleideihhmaaDoorW.PrintLast Go.Proofs.YtlblleideihhmaaDoorW.PrintMore
attribute [local go_sem] max2_int min2_int max_two min_two max_three min_three max_four min_four   -- for this text's walks alone
set_option linter.unusedVariables false
set_option linter.unusedSimpArgs false

/-! ### larderlaw01_FrameKnown: function 11 -/
mutual
def larderlaw01_FrameKnown.j0 : Nat → Bool → Option (Bool)
  | 0, _ => none
  | k + 1, x26 => if x26 = true then (some false) else ((frame_Turned.f k (([49, 50, 51, 52, 53, 54, 55, 56, 56] : List Int)) 3808858755).bind fun bt168 => (if bt168.1 = 64 then (if bt168.2 = true then ((frame_PutUint.f k ([] : List Int) 300).bind fun t170 => (if (strOfNums t170).toList = ([172, 2] : List UInt8) then ((frame_PutInt.f k ([] : List Int) (-1)).bind fun t173 => (larderlaw01_FrameKnown.j1 k ((strOfNums t173).toList != ([1] : List UInt8)))) else (larderlaw01_FrameKnown.j1 k true))) else (larderlaw01_FrameKnown.j1 k true)) else (larderlaw01_FrameKnown.j1 k true)))
def larderlaw01_FrameKnown.j1 : Nat → Bool → Option (Bool)
  | 0, _ => none
  | k + 1, x48 => if x48 = true then (some false) else ((frame_Uint.f k (([172, 2, 255] : List Int))).bind fun bt179 => (if bt179.1 = 300 then (if bt179.2.1 = 2 then (if bt179.2.2 = 0 then ((frame_Seal.f k (([97, 98] : List Int))).bind fun bt186 => (if bt186.2 = 0 then (if (bt186.1.length : Int) = 8 then (if 4 ≤ (bt186.1.length : Int) then (some ((strOfNums (bt186.1.take 4)).toList == ([167, 2, 97, 98] : List UInt8))) else (none)) else (some false)) else (some false))) else (some false)) else (some false)) else (some false)))
end
def larderlaw01_FrameKnown.f (k : Nat)  : Option (Bool) := (some (([49, 50, 51, 52, 53, 54, 55, 56, 57] : List Int) : List Int)).bind fun y148 => ((frame_Crc.f k ([] : List Int)).bind fun t152 => (if t152 = 0 then ((frame_Crc.f k y148).bind fun t153 => (if t153 = 3808858755 then (if 4 ≤ (y148.length : Int) then ((frame_Crc.f k (y148.take 4)).bind fun t158 => ((frame_CrcOn.f k t158 (y148.drop 4)).bind fun t163 => (larderlaw01_FrameKnown.j0 k (t163 != 3808858755)))) else (none)) else (larderlaw01_FrameKnown.j0 k true))) else (larderlaw01_FrameKnown.j0 k true)))
theorem larderlaw01_FrameKnown.mono_l : ∀ k, (∀ y0, LeO (larderlaw01_FrameKnown.j0 k y0) (larderlaw01_FrameKnown.j0 (k + 1) y0)) ∧ (∀ y0, LeO (larderlaw01_FrameKnown.j1 k y0) (larderlaw01_FrameKnown.j1 (k + 1) y0))
  | 0 => ⟨fun _ r h => by simp [larderlaw01_FrameKnown.j0] at h, fun _ r h => by simp [larderlaw01_FrameKnown.j1] at h⟩
  | k + 1 => by
    obtain ⟨ih0, ih1⟩ := larderlaw01_FrameKnown.mono_l k
    refine ⟨?_, ?_⟩
    · intro y0
      unfold larderlaw01_FrameKnown.j0
      repeat' first
      | (with_reducible exact ih0 _)
      | (with_reducible exact ih1 _)
      | (with_reducible exact frame_Crc.mono _ _)
      | (with_reducible exact frame_CrcOn.mono _ _ _)
      | (with_reducible exact frame_PutInt.mono _ _ _)
      | (with_reducible exact frame_PutUint.mono _ _ _)
      | (with_reducible exact frame_Seal.mono _ _)
      | (with_reducible exact frame_Turned.mono _ _ _)
      | (with_reducible exact frame_Uint.mono _ _)
      | (with_reducible exact LeO.refl _)
      | (with_reducible exact LeO.none _)
      | (with_reducible refine LeO.ite ?_ ?_)
      | (with_reducible refine LeO.bind ?_ (fun _ => ?_))
      | exact ih0 _
      | exact ih1 _
      | exact frame_Crc.mono _ _
      | exact frame_CrcOn.mono _ _ _
      | exact frame_PutInt.mono _ _ _
      | exact frame_PutUint.mono _ _ _
      | exact frame_Seal.mono _ _
      | exact frame_Turned.mono _ _ _
      | exact frame_Uint.mono _ _
      | exact LeO.none _
      | refine LeO.ite ?_ ?_
      | refine LeO.bind ?_ (fun _ => ?_)
    · intro y0
      unfold larderlaw01_FrameKnown.j1
      repeat' first
      | (with_reducible exact ih0 _)
      | (with_reducible exact ih1 _)
      | (with_reducible exact frame_Crc.mono _ _)
      | (with_reducible exact frame_CrcOn.mono _ _ _)
      | (with_reducible exact frame_PutInt.mono _ _ _)
      | (with_reducible exact frame_PutUint.mono _ _ _)
      | (with_reducible exact frame_Seal.mono _ _)
      | (with_reducible exact frame_Turned.mono _ _ _)
      | (with_reducible exact frame_Uint.mono _ _)
      | (with_reducible exact LeO.refl _)
      | (with_reducible exact LeO.none _)
      | (with_reducible refine LeO.ite ?_ ?_)
      | (with_reducible refine LeO.bind ?_ (fun _ => ?_))
      | exact ih0 _
      | exact ih1 _
      | exact frame_Crc.mono _ _
      | exact frame_CrcOn.mono _ _ _
      | exact frame_PutInt.mono _ _ _
      | exact frame_PutUint.mono _ _ _
      | exact frame_Seal.mono _ _
      | exact frame_Turned.mono _ _ _
      | exact frame_Uint.mono _ _
      | exact LeO.none _
      | refine LeO.ite ?_ ?_
      | refine LeO.bind ?_ (fun _ => ?_)
theorem larderlaw01_FrameKnown.mono : ∀ k, LeO (larderlaw01_FrameKnown.f k ) (larderlaw01_FrameKnown.f (k + 1) ) := by
  intro  k
  obtain ⟨ih0, ih1⟩ := larderlaw01_FrameKnown.mono_l k
  unfold larderlaw01_FrameKnown.f
  repeat' first
      | (with_reducible exact ih0 _)
      | (with_reducible exact ih1 _)
      | (with_reducible exact frame_Crc.mono _ _)
      | (with_reducible exact frame_CrcOn.mono _ _ _)
      | (with_reducible exact frame_PutInt.mono _ _ _)
      | (with_reducible exact frame_PutUint.mono _ _ _)
      | (with_reducible exact frame_Seal.mono _ _)
      | (with_reducible exact frame_Turned.mono _ _ _)
      | (with_reducible exact frame_Uint.mono _ _)
      | (with_reducible exact LeO.refl _)
      | (with_reducible exact LeO.none _)
      | (with_reducible refine LeO.ite ?_ ?_)
      | (with_reducible refine LeO.bind ?_ (fun _ => ?_))
      | exact ih0 _
      | exact ih1 _
      | exact frame_Crc.mono _ _
      | exact frame_CrcOn.mono _ _ _
      | exact frame_PutInt.mono _ _ _
      | exact frame_PutUint.mono _ _ _
      | exact frame_Seal.mono _ _
      | exact frame_Turned.mono _ _ _
      | exact frame_Uint.mono _ _
      | exact LeO.none _
      | refine LeO.ite ?_ ?_
      | refine LeO.bind ?_ (fun _ => ?_)
def d9 : List Int := [49, 50, 51, 52, 53, 54, 55, 56, 57]
def d8 : List Int := [49, 50, 51, 52, 53, 54, 55, 56, 56]
theorem k_nil : frame_Crc.f 40 [] = some 0 := by decide +kernel
theorem k_nine : frame_Crc.f 40 d9 = some 3808858755 := by decide +kernel
theorem k_four : frame_Crc.f 40 (d9.take 4) = some 4131058926 := by decide +kernel
theorem k_on : frame_CrcOn.f 40 4131058926 (d9.drop 4) = some 3808858755 := by decide +kernel
theorem k_turned : frame_Turned.f 40 d8 3808858755 = some (64, true) := by decide +kernel
theorem k_put : frame_PutUint.f 40 [] 300 = some [172, 2] := by decide +kernel
theorem k_int : frame_PutInt.f 40 [] (-1) = some [1] := by decide +kernel
theorem k_uint : frame_Uint.f 40 [172, 2, 255] = some (300, 2, 0) := by decide +kernel
theorem k_seal : frame_Seal.f 40 [97, 98] = some ([167, 2, 97, 98, 80, 34, 78, 136], 0) := by decide +kernel

theorem q_crc {W : World} {A : Option Addr} {c : Nat} {l : List Int} {r : Int} (n : Nat) (hr : Kd.C (Kd.int .u8) W A l.length l) (hc : l.length ≤ c) (hT : Kd.C (Kd.int .u32) W (some ⟨0, 0, none⟩) 16 crcTab) (h : frame_Crc.f 40 l = some r) :
    Calls Tryd.prog 23 #[.slice A l.length c] (W.drewN n) fun e w'' => e = .returned (.int .u32 r) ∧ ∃ m, w'' = W.drewN m :=
  Calls.quiet_of ((frame_Crc.calls 40 A c l r _ (Kd.C_drewN hr n) hc (Kd.C_drewN hT n) h).mono fun _ _ hh => ⟨hh.1, hh.2.out⟩)
theorem q_on {W : World} {A : Option Addr} {c : Nat} {l : List Int} {r x : Int} (n : Nat) (hr : Kd.C (Kd.int .u8) W A l.length l) (hc : l.length ≤ c) (hT : Kd.C (Kd.int .u32) W (some ⟨0, 0, none⟩) 16 crcTab) (h : frame_CrcOn.f 40 x l = some r) :
    Calls Tryd.prog 24 #[.int .u32 x, .slice A l.length c] (W.drewN n) fun e w'' => e = .returned (.int .u32 r) ∧ ∃ m, w'' = W.drewN m :=
  Calls.quiet_of ((frame_CrcOn.calls 40 x A c l r _ (Kd.C_drewN hr n) hc (Kd.C_drewN hT n) h).mono fun _ _ hh => ⟨hh.1, hh.2.out⟩)
theorem put_k (w : World) : Calls Tryd.prog 38 #[.slice none 0 0, .int .u64 300] w fun e w' => ∃ A c, e = .returned (.slice A 2 c) ∧ Kd.C (Kd.int .u8) w' A 2 [172, 2] ∧ Below w.heap.size w w' := by
  refine (frame_PutUint.calls 40 none 0 [] 300 [172, 2] w (Kd.C_nil _ _) (by decide) k_put).mono ?_
  rintro e w' ⟨v, rfl, hr, hb⟩
  obtain ⟨A, c, rfl, _, hC⟩ := Kd.R_reads hr
  exact ⟨A, c, rfl, hC, hb⟩
theorem int_k (w : World) : Calls Tryd.prog 39 #[.slice none 0 0, .int .i64 (-1)] w fun e w' => ∃ A c, e = .returned (.slice A 1 c) ∧ Kd.C (Kd.int .u8) w' A 1 [1] ∧ Below w.heap.size w w' := by
  refine (frame_PutInt.calls 40 none 0 [] (-1) [1] w (Kd.C_nil _ _) (by decide) k_int).mono ?_
  rintro e w' ⟨v, rfl, hr, hb⟩
  obtain ⟨A, c, rfl, _, hC⟩ := Kd.R_reads hr
  exact ⟨A, c, rfl, hC, hb⟩
theorem turned_k (w : World) (hT : Kd.C (Kd.int .u32) w (some ⟨0, 0, none⟩) 16 crcTab) : Calls Tryd.prog 28 #[.slice (some ⟨w.heap.size, 0, none⟩) 9 9, .int .u32 3808858755] (w.alloc (.cells (nums .u8 d8).toArray 5 (9, 10))) fun e w' => e = .returned (.tuple #[.int .i64 64, .bool true]) ∧ Below w.heap.size w w' := by
  refine (frame_Turned.calls 40 _ 9 d8 3808858755 64 true _ (reads_lit w 5 d8 (9, 10) (by decide)) (by decide) (Kd.C_alloc hT _) k_turned).mono ?_
  rintro e w' ⟨rfl, hb⟩
  exact ⟨rfl, below_then (below_alloc (Below.refl _ _) _) (by simp) hb⟩
theorem uint_k (w : World) : Calls Tryd.prog 40 #[.slice (some ⟨w.heap.size, 0, none⟩) 3 3] (w.alloc (.cells (nums .u8 [172, 2, 255]).toArray 5)) fun e w' => e = .returned (.tuple #[.int .u64 300, .int .i64 2, .int .i64 0]) ∧ Below w.heap.size w w' := by
  refine (frame_Uint.calls 40 _ 3 [172, 2, 255] 300 2 0 _ (reads_lit w 5 [172, 2, 255] (0, 0) (by decide)) (by decide) k_uint).mono ?_
  rintro e w' ⟨rfl, hb⟩
  exact ⟨rfl, below_then (below_alloc (Below.refl _ _) _) (by simp) hb.below⟩
theorem seal_k (w : World) (hT : Kd.C (Kd.int .u32) w (some ⟨0, 0, none⟩) 16 crcTab) : Calls Tryd.prog 32 #[.slice (some ⟨w.heap.size, 0, none⟩) 2 2] (w.alloc (.cells (nums .u8 [97, 98]).toArray 5 (2, 3))) fun e w' => ∃ A c, e = .returned (.tuple #[.slice A 8 c, .int .i64 0]) ∧ 8 ≤ c ∧ Kd.C (Kd.int .u8) w' A 4 [167, 2, 97, 98] ∧ Below w.heap.size w w' := by
  refine (frame_Seal.calls 40 _ 2 [97, 98] _ 0 _ (reads_lit w 5 [97, 98] (2, 3) (by decide)) (by decide) (Kd.C_alloc hT _) k_seal).mono ?_
  rintro e w' ⟨v, rfl, hr, hb⟩
  obtain ⟨A, c, rfl, hc, hC⟩ := Kd.R_reads hr
  exact ⟨A, c, rfl, hc, Kd.C_take (m := 4) hC (by decide), below_then (below_alloc (Below.refl _ _) _) (by simp) hb⟩
theorem s1 : (strOfNums [172, 2]).toList = [172, 2] := by decide +kernel
theorem s2 : (strOfNums [1]).toList = [1] := by decide +kernel
theorem s3 : (strOfNums [167, 2, 97, 98]).toList = [167, 2, 97, 98] := by decide +kernel
set_option maxHeartbeats 8000000 in
set_option maxRecDepth 100000 in
theorem known_walk (w : World) (hT : Kd.C (Kd.int .u32) w (some ⟨0, 0, none⟩) 16 crcTab) :
    Calls Tryd.prog 11 #[] w fun e w' => e = .returned (.bool true) ∧ Below w.heap.size w w' := by
  have HT := Aside0.mk hT
  clear hT
  have kc := fun (w : World) (C : Array Value) (n c : Nat) => Lib.run_convert_bytes_const (P := Tryd.prog) w 22 5 C n c Tryd.underlying22 Tryd.underlying5
  go_enter Tryd.func11, Tryd.ntmps11
  go_wp2_with fail
  have hn9 : Kd.C (Kd.int .u8) (w.alloc (.cells (nums .u8 d9).toArray 5 (9, 10))) (some ⟨w.heap.size, 0, none⟩) 9 d9 := reads_lit w 5 d9 (9, 10) (by decide)
  have hb0 : Below w.heap.size w (w.alloc (.cells (nums .u8 d9).toArray 5 (9, 10))) := below_alloc (Below.refl _ _) _
  rw [show (#[Value.int IntKind.u8 49, Value.int IntKind.u8 50, Value.int IntKind.u8 51, Value.int IntKind.u8 52, Value.int IntKind.u8 53, Value.int IntKind.u8 54, Value.int IntKind.u8 55, Value.int IntKind.u8 56, Value.int IntKind.u8 57] : Array Value) = (nums .u8 d9).toArray from rfl]
  generalize w.alloc (.cells (nums .u8 d9).toArray 5 (9, 10)) = w1 at *
  have HT1 := Aside0.mk (Kd.C_below HT.out hb0)
  have HN := Aside0.mk hn9
  have HB := Aside0.mk hb0
  clear hb0 hn9 kc
  have r9 := Kd.reads_of_C (d := (0 : Int)) (h1 := fun _ => rfl) HN.out
  have H4 := Aside0.mk (Kd.C_of_reads (d := (0 : Int)) (h1 := fun _ => rfl) (r9.take_ 4 (by decide)))
  have H5 := Aside0.mk (Kd.C_of_reads (d := (0 : Int)) (h1 := fun _ => rfl) (r9.drop_ (c := 9) 4 (by decide) (by decide)))
  clear r9
  have C0 := Aside0.mk (show ∀ n, Calls Tryd.prog 23 #[.slice none 0 0] (w1.drewN n) fun e w'' => e = .returned (.int .u32 0) ∧ ∃ m, w'' = w1.drewN m from fun n => q_crc (l := []) n (Kd.C_nil _ _) (by decide) HT1.out k_nil)
  have C9 := Aside0.mk (show ∀ n, Calls Tryd.prog 23 #[.slice (some ⟨w.heap.size, 0, none⟩) 9 9] (w1.drewN n) fun e w'' => e = .returned (.int .u32 3808858755) ∧ ∃ m, w'' = w1.drewN m from fun n => q_crc (l := d9) n HN.out (by decide) HT1.out k_nine)
  have C4 := Aside0.mk (show ∀ n, Calls Tryd.prog 23 #[.slice (some ⟨w.heap.size, 0, none⟩) 4 9] (w1.drewN n) fun e w'' => e = .returned (.int .u32 4131058926) ∧ ∃ m, w'' = w1.drewN m from fun n => q_crc (l := d9.take 4) n H4.out (by decide) HT1.out k_four)
  have C5 := Aside0.mk (show ∀ n, Calls Tryd.prog 24 #[.int .u32 4131058926, .slice (some ⟨w.heap.size, 4, none⟩) 5 5] (w1.drewN n) fun e w'' => e = .returned (.int .u32 3808858755) ∧ ∃ m, w'' = w1.drewN m from fun n => q_on (l := d9.drop 4) n H5.out (by decide) HT1.out k_on)
  go_quiet ((first | (go_at_call 23; first | (with_reducible exact C0.out _) | (with_reducible exact C9.out _) | (with_reducible exact C4.out _)) | (go_at_call 24; with_reducible exact C5.out _)))
  rename_i nq
  have hb2 : Below w.heap.size w (w1.drewN nq) := pw_below_drewN HB.out nq
  generalize w1.drewN nq = w2 at *
  have HB2 := Aside0.mk hb2
  clear hb2
  have kc := fun (w : World) (C : Array Value) (n c : Nat) => Lib.run_convert_bytes_const (P := Tryd.prog) w 22 5 C n c Tryd.underlying22 Tryd.underlying5
  have HT2 := Aside0.mk (Kd.C_below HT.out HB2.out)
  clear HT1 HN H4 H5 C0 C9 C4 C5 HB
  go_wp2_with fail
  go_at_call 28; refine (turned_k _ HT2.out).mono ?_; rintro e w3 ⟨rfl, hb⟩
  have HB3 := Aside0.mk (below_then HB2.out HB2.out.size hb)
  have HT3 := Aside0.mk (Kd.C_below HT.out HB3.out)
  clear hb HT2 HB2 kc
  go_wp2_with fail
  go_at_call 38; refine (put_k _).mono ?_; rintro e w4 ⟨A4, c4, rfl, hC, hb⟩
  have HB4 := Aside0.mk (below_then HB3.out HB3.out.size hb)
  have hcv := Kd.C_string (P := Tryd.prog) (A := A4) (c := c4) Tryd.underlying22 Tryd.underlying5 Tryd.underlying9 hC
  have hs1 := s1
  clear hb HB3 HT3 hC
  go_wp2_with fail
  clear hcv hs1
  go_at_call 39; refine (int_k _).mono ?_; rintro e w5 ⟨A5, c5, rfl, hC, hb⟩
  have HB5 := Aside0.mk (below_then HB4.out HB4.out.size hb)
  have hcv := Kd.C_string (P := Tryd.prog) (A := A5) (c := c5) Tryd.underlying22 Tryd.underlying5 Tryd.underlying9 hC
  have hs1 := s2
  clear hb HB4 hC
  go_wp2_with fail
  clear hcv hs1
  go_at_call 40; refine (uint_k _).mono ?_; rintro e w6 ⟨rfl, hb⟩
  have HB6 := Aside0.mk (below_then HB5.out HB5.out.size hb)
  have HT6 := Aside0.mk (Kd.C_below HT.out HB6.out)
  clear hb HB5
  have kc := fun (w : World) (C : Array Value) (n c : Nat) => Lib.run_convert_bytes_const (P := Tryd.prog) w 22 5 C n c Tryd.underlying22 Tryd.underlying5
  go_wp2_with fail
  clear kc
  go_at_call 32; refine (seal_k _ HT6.out).mono ?_; rintro e w7 ⟨A7, c7, rfl, hc7, hC, hb⟩
  have HB7 := Aside0.mk (below_then HB6.out HB6.out.size hb)
  have hcv := Kd.C_string (P := Tryd.prog) (A := A7) (c := c7) Tryd.underlying22 Tryd.underlying5 Tryd.underlying9 hC
  have hs1 := s3
  clear hb HB6 hC
  go_wp2_with fail
  go_ret
  exact ⟨rfl, HB7.out⟩
theorem larderlaw01_FrameKnown.one (k : Nat) (r : Bool) (h : larderlaw01_FrameKnown.f k = some r) : r = true := by
  have h1 : larderlaw01_FrameKnown.f 60 = some true := by decide +kernel
  have h2 := at_rounds (g := fun k => larderlaw01_FrameKnown.f k) larderlaw01_FrameKnown.mono (Nat.le_add_right k 60) h
  have h3 := at_rounds (g := fun k => larderlaw01_FrameKnown.f k) larderlaw01_FrameKnown.mono (Nat.le_add_left 60 k) h1
  exact Option.some.inj (h2.symm.trans h3)
theorem larderlaw01_FrameKnown.calls (k : Nat)  (r : Bool) (w : World) (hT : Kd.C (Kd.int .u32) w (some ⟨0, 0, none⟩) 16 crcTab) (h : larderlaw01_FrameKnown.f k  = some r) :
    Calls Tryd.prog 11 #[] w fun e w' => e = .returned (.bool r) ∧ Below w.heap.size w w' := by
  rw [larderlaw01_FrameKnown.one k r h]
  exact known_walk w hT
def larderlaw01_FrameKnown.Pure : Prop := ∃ k, larderlaw01_FrameKnown.f k  = some true
theorem larderlaw01_FrameKnown.walk (P : larderlaw01_FrameKnown.Pure)  (w : World)  (hT : Kd.C (Kd.int .u32) w (some ⟨0, 0, none⟩) 16 crcTab) :
    Calls Tryd.prog 11 #[] w fun e w' => e = .returned (.bool true) ∧ Below w.heap.size w w' := by
  obtain ⟨k, h⟩ := P  
  refine (larderlaw01_FrameKnown.calls k  true w hT h).mono ?_
  rintro e w' ⟨rfl, hd⟩
  exact ⟨rfl, hd⟩

end Go.Proofs.YtlblleideihhmaaDoor.PB
