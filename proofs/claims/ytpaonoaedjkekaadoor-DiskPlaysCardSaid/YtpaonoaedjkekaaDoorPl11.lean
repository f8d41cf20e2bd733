/- larderlaw06.sectorOf, walked. does, its write, walked. -/
import Derived.Test.YtpaonoaedjkekaaDoorPl4
import Derived.Test.YtpaonoaedjkekaaDoorPl8
import Derived.Test.YtpaonoaedjkekaaDoorPl9
import Derived.Deep.RegionHeld3
namespace Go.Proofs.YtpaonoaedjkekaaDoor.Dk
open Go Go.RowKit Go.Proofs.YtpaonoaedjkekaaDoor.PD Go.Proofs.YtpaonoaedjkekaaDoorW.PrintWords Go.Proofs.YtpaonoaedjkekaaDoorW.PrintLast Go.Proofs.YtpaonoaedjkekaaDoorW.PrintMore
set_option linter.unusedVariables false
set_option linter.unusedSimpArgs false
set_option maxHeartbeats 4000000
set_option maxRecDepth 100000
/-- What an op of the law writes. -/
def sectorS (fill : Int) (bs : List Int) (ex : Bool) : List Int := if ex = true then bs else (bs ++ List.replicate (128 - bs.length) fill).take 128
def lenS : Value → Nat
  | .slice _ n _ => n
  | _ => 0
theorem sectorOf_at (kind N fill torn y : Int) (Ab Ak : Option Addr) (m cb mk ck : Nat) (ex : Bool) (bs : List Int) (W : World) (hC : Kd.C (Kd.int .u8) W Ab m bs) (hm : m ≤ 140737488355200) :
    Calls Tryd.prog 43 #[.agg #[.int .i64 kind, .int .i64 N, .int .u8 fill, .slice Ab m cb, .bool ex, .slice Ak mk ck, .int .i64 torn, .int .i64 y]] W fun e w' => ∃ v, e = .returned v ∧ Kd.R (Kd.int .u8) 5 w' W.heap.size (fun _ => True) v (sectorS fill bs ex) ∧ Below W.heap.size W w' := by
  have hxl := Kd.C_len hC
  have HX := Aside0.mk hxl
  have HC := Aside0.mk hC
  have HMM := Aside0.mk hm
  clear hC hxl hm
  go_enter Tryd.func43, Tryd.ntmps43
  go_upto_region 2 with fail
  have hr1 : Rt 69 W.heap.size [.int .i64 kind, .int .i64 N, .int .u8 fill, .slice Ab m cb, .bool ex, .slice Ak mk ck, .int .i64 torn, .int .i64 y] (W.alloc (.cells #[.int .i64 kind, .int .i64 N, .int .u8 fill, .slice Ab m cb, .bool ex, .slice Ak mk ck, .int .i64 torn, .int .i64 y] 69)) := heap_alloc_new W _
  have hb1 : Below W.heap.size W (W.alloc (.cells #[.int .i64 kind, .int .i64 N, .int .u8 fill, .slice Ab m cb, .bool ex, .slice Ak mk ck, .int .i64 torn, .int .i64 y] 69)) := below_alloc (Below.refl _ _) _
  have HC1 := Aside0.mk (Kd.C_below HC.out hb1)
  obtain ⟨b, hbe⟩ : ∃ b, W.heap.size = b := ⟨_, rfl⟩
  have HBE := Aside0.mk hbe
  have HC2 := HC1
  rw [hbe] at hr1 ⊢
  generalize W.alloc (.cells #[.int .i64 kind, .int .i64 N, .int .u8 fill, .slice Ab m cb, .bool ex, .slice Ak mk ck, .int .i64 torn, .int .i64 y] 69) = w1 at *
  have HR1 := Aside0.mk hr1
  have HB1 := Aside0.mk (show Below b W w1 from hbe ▸ hb1)
  have q3 := hr1.cell 3 _ rfl
  clear hr1 hb1 hbe HC2
  go_wp2_with (first | (
    (with_reducible refine gate_builtin (b := .append) (xs := #[.tmp 4, .tmp 6]) rfl ?_)
    at_builtin
    refine Kd.R_append_rows (Kd.int .u8) (Rr := (Kd.int .u8).K w1) (w0 := W) b rfl (.tmp 4) (.tmp 6) 29 5 (.int .u8 0) 1 rfl Tryd.underlying29 info5' rfl (by decide) (by decide) (.slice none 0 0) [] bs Ab m cb (fun _ => True) (fun _ => False) rfl rfl (Kd.R_nil _ _ _ _ _) HC1.out (fun _ _ h => h) (fun _ h => h.elim) (fun _ _ => trivial) HB1.out (by have := HBE.out; have := HB1.out.size; omega) (by have := HMM.out; simp; omega) ?_
    intro v1 w2 ho hb hg hat
    rw [List.nil_append] at ho
    have HV := Aside0.mk ho
    have HB2 := Aside0.mk hb
    have HR2 := Aside0.mk (show Rt 69 b _ w2 from (hg.block _ HR1.out.lt (fun e => by cases e)).trans HR1.out)
    clear ho hb hg hat q3))
  obtain ⟨A0, c0, e0⟩ := Kd.R_slice HV.out
  rw [HX.out] at e0
  subst e0
  go_loopw [3] (fun l wr => ∃ (Av : Option Addr) (n cv : Nat), l = .slice Av n cv ∧ Aside0 (Kd.R (Kd.int .u8) 5 wr b (fun _ => True) (.slice Av n cv) (bs ++ List.replicate (n - m) fill)) ∧ Aside0 (m ≤ n ∧ (n ≤ 128 ∨ n = m) ∧ (ex = true → n = m)) ∧ Aside0 (Rt 69 b [.int .i64 kind, .int .i64 N, .int .u8 fill, .slice Ab m cb, .bool ex, .slice Ak mk ck, .int .i64 torn, .int .i64 y] wr) ∧ Aside0 (Below b W wr)) (fun l _ => 128 - lenS l)
  · exact ⟨A0, m, c0, rfl, ⟨by rw [Nat.sub_self, List.replicate_zero, List.append_nil]; exact HV.out⟩, ⟨Nat.le_refl _, .inr rfl, fun _ => rfl⟩, HR2, HB2⟩
  · obtain ⟨Av, n, cv, rfl, HVr, HNr, HRr, HBr⟩ := hrel
    have q2 := HRr.out.cell 2 _ rfl
    have q4 := HRr.out.cell 4 _ rfl
    have HFIN := Aside0.mk (fun (h : ¬ (n < 128 ∧ ex = false)) => show sectorS fill bs ex = (bs ++ List.replicate (n - m) fill).take (if 128 < n ∧ ex = false then 128 else n) from by
      have h1 := HNr.out
      have h2 := HX.out
      unfold sectorS
      rcases ex with _ | _
      · rw [if_neg (by decide)]
        have h3 : ¬ n < 128 := fun h0 => h ⟨h0, rfl⟩
        rcases h1.2.1 with h4 | h4
        · have h5 : n = 128 := by omega
          rw [if_neg (by omega), h5, h2]
        · subst h4
          rw [h2, show 128 - n = 0 from by omega, Nat.sub_self, List.replicate_zero, List.append_nil]
          by_cases h6 : 128 < n
          · rw [if_pos ⟨h6, rfl⟩]
          · rw [if_neg (by omega), show n = 128 from by omega]
      · rw [if_pos rfl, h1.2.2 rfl, Nat.sub_self, List.replicate_zero, List.append_nil, if_neg (by simp), List.take_of_length_le (by omega)])
    by_cases cn : n < 128
    · have cn1 : decide ((n : Int) < 128) = true := decide_eq_true (by omega)
      have cn2 : decide (128 < (n : Int)) = false := decide_eq_false (by omega)
      rcases ex with _ | _
      · have HLEN := Aside0.mk (show (bs ++ List.replicate (n - m) fill).length = n by rw [List.length_append, List.length_replicate]; have := HX.out; have := HNr.out.1; omega)
        go_wp2_with (first | (
          (with_reducible refine gate_builtin (b := .append) (xs := #[.tmp 16, .tmp 19]) rfl ?_)
          at_builtin
          refine Kd.R_append (Kd.int .u8) (w0 := W) b rfl (.tmp 16) (.tmp 19) 29 5 (.int .u8 0) 1 rfl Tryd.underlying29 info5' rfl (by decide) (by decide) _ _ fill [.int .u8 fill] (fun _ => True) (fun _ => False) rfl rfl rfl (fun _ hk => hk.elim) (fun _ _ => trivial) HVr.out HBr.out (by have := HBE.out; have := HBr.out.size; omega) (by rw [HLEN.out]; omega) ?_
          intro v1 w8 ho hb hg hat
          obtain ⟨Aw, cw, ew⟩ := Kd.R_slice ho
          rw [List.length_append, HLEN.out, List.length_singleton] at ew
          subst ew
          have HO := Aside0.mk ho
          have HB8 := Aside0.mk hb
          have HR8 := Aside0.mk (show Rt 69 b _ w8 from (hg.block _ HRr.out.lt (Kd.R_ne HVr.out HRr.out (by decide))).trans HRr.out)
          clear ho hb hg hat))
        refine ⟨⟨Aw, n + 1, cw, rfl, ⟨?_⟩, ⟨by have := HNr.out.1; refine ⟨by omega, .inl (by omega), fun h => by cases h⟩⟩, HR8, HB8⟩, ?_⟩
        · have := HO.out
          rwa [List.append_assoc, ← List.replicate_succ', show n - m + 1 = n + 1 - m from by have := HNr.out.1; omega] at this
        · simp only [lenS]
          omega
      · go_wp2_with fail
        go_ret
        refine ⟨_, rfl, ?_, HBE.out ▸ HBr.out⟩
        rw [HFIN.out (by simp), if_neg (by simp), List.take_of_length_le (by rw [List.length_append, List.length_replicate]; have := HX.out; have := HNr.out.1; omega)]
        exact HBE.out ▸ HVr.out
    · have cn1 : decide ((n : Int) < 128) = false := decide_eq_false (by omega)
      have hfin := HFIN.out (fun h => cn h.1)
      have HLEN := Aside0.mk (show (bs ++ List.replicate (n - m) fill).length = n by rw [List.length_append, List.length_replicate]; have := HX.out; have := HNr.out.1; omega)
      rcases ex with _ | _
      · by_cases c8 : 128 < n
        · have cn2 : decide (128 < (n : Int)) = true := decide_eq_true (by omega)
          have cn3 : decide (128 < n) = true := decide_eq_true c8
          rw [if_pos ⟨c8, rfl⟩] at hfin
          have G3 := Aside0.mk c8
          have HF := Aside0.mk hfin
          have hncv := (Kd.R_reads' HVr.out).2.1
          have g1 : (128 : Int) ≤ (cv : Int) := by omega
          have g2 : 128 ≤ cv := by omega
          clear hfin hncv cn c8
          go_wp2_with fail
          go_ret
          refine ⟨_, rfl, ?_, HBE.out ▸ HBr.out⟩
          rw [HF.out]
          have := Kd.R_take HVr.out (m := 128) (by rw [HLEN.out]; have := G3.out; omega)
          exact HBE.out ▸ this
        · have cn2 : decide (128 < (n : Int)) = false := decide_eq_false (by omega)
          have cn3 : decide (128 < n) = false := decide_eq_false c8
          rw [if_neg (fun h => c8 h.1), List.take_of_length_le (Nat.le_of_eq HLEN.out)] at hfin
          have HF := Aside0.mk hfin
          clear hfin cn c8
          go_wp2_with fail
          go_ret
          refine ⟨_, rfl, ?_, HBE.out ▸ HBr.out⟩
          rw [HF.out]
          exact HBE.out ▸ HVr.out
      · rw [if_neg (fun h => by cases h.2), List.take_of_length_le (Nat.le_of_eq HLEN.out)] at hfin
        have HF := Aside0.mk hfin
        clear hfin
        go_wp2_with fail
        all_goals
          go_ret
          refine ⟨_, rfl, ?_, HBE.out ▸ HBr.out⟩
          rw [HF.out]
          exact HBE.out ▸ HVr.out
end Go.Proofs.YtpaonoaedjkekaaDoor.Dk
namespace Go.Proofs.YtpaonoaedjkekaaDoor.Dk
open Go Go.RowKit Go.Proofs.YtpaonoaedjkekaaDoor.PD Go.Proofs.YtpaonoaedjkekaaDoorW.PrintWords Go.Proofs.YtpaonoaedjkekaaDoorW.PrintLast Go.Proofs.YtpaonoaedjkekaaDoorW.PrintMore
set_option linter.unusedVariables false
set_option linter.unusedSimpArgs false
set_option maxHeartbeats 4000000
set_option maxRecDepth 100000
theorem sectorS_len (fill : Int) (bs : List Int) (ex : Bool) (n : Nat) (h : bs.length = n) (hn : n ≤ 140737488355200) : (sectorS fill bs ex).length + 64 < 140737488355328 := by
  unfold sectorS
  split
  · omega
  · rw [List.length_take, List.length_append, List.length_replicate]
    omega
theorem Both.now {gp B : Nat} {h : Hd} {r : Rd} {fs : List Int} {ops ops' : List (Int × List Int)} {W W' : World} (k : Both gp B h r fs ops W) {A : Option Addr} {c : Nat}
    (hd : DkAt h B fs (behindL fs ops') (.slice A ops'.length c) ops' W') {A2 : Option Addr} {c2 : Nat} (hr : RfAt r B (fun k => k ≠ h.gs) fs (.slice A2 ops'.length c2) ops' W') (hO : Oks h.n ops') (hrow : Rt 66 gp [ptr h.D, ptr r.D] W') (hb : Below B W W') : Both gp B h r fs ops' W' :=
  { row := hrow, dd := ⟨A, c, hd⟩, rr := ⟨A2, c2, hr⟩, en := k.en, q := k.q, ok := hO, bp := k.bp, b0 := k.b0, fl := k.fl.base k.b0 hb }
theorem does_write {gp B : Nat} {h : Hd} {r : Rd} {fs : List Int} {ops : List (Int × List Int)} {W : World} (k : Both gp B h r fs ops W) (N fill torn y : Int) (Ab Ak : Option Addr) (m cb mk ck : Nat) (ex : Bool) (bs : List Int) (hCb : Kd.C (Kd.int .u8) W Ab m bs) (hm8 : m ≤ 140737488355200) :
    Calls Tryd.prog 35 #[ptr gp, .agg (opV 0 N fill torn y Ab Ak m cb mk ck ex).toArray] W fun e w' => e = .returned (.bool true) ∧ ∃ h' r' fs' ops', Both gp B h' r' fs' ops' w' ∧ Below B W w' := by
  have K := Aside0.mk k
  clear k
  go_enter Tryd.func35, Tryd.ntmps35
  go_upto_region 1 with fail
  have hr3 : Rt 69 W.heap.size (opV 0 N fill torn y Ab Ak m cb mk ck ex) (W.alloc (.cells (opV 0 N fill torn y Ab Ak m cb mk ck ex).toArray 69)) := heap_alloc_new W _
  have hb1 : Below W.heap.size W (W.alloc (.cells (opV 0 N fill torn y Ab Ak m cb mk ck ex).toArray 69)) := below_alloc (Below.refl _ _) _
  obtain ⟨b3, hb3⟩ : ∃ b3, W.heap.size = b3 := ⟨_, rfl⟩
  have HB3E := Aside0.mk hb3
  rw [hb3] at hr3 ⊢
  generalize W.alloc (.cells (opV 0 N fill torn y Ab Ak m cb mk ck ex).toArray 69) = w1 at *
  have HB1 := Aside0.mk hb1
  have q0 := hr3.cell 0 _ rfl
  have HR3 := Aside0.mk hr3
  clear hr3 hb1 hb3
  have KS := Aside0.mk (K.out.stay HB1.out).1
  have HBW := Aside0.mk (K.out.stay HB1.out).2
  obtain ⟨A, c, hd⟩ := KS.out.dd
  obtain ⟨A2, c2, hr⟩ := KS.out.rr
  have HD := Aside0.mk hd
  have HR := Aside0.mk hr
  have HE := Aside0.mk KS.out.en
  have HO := Aside0.mk KS.out.ok
  have HOR := Aside0.mk (show Oks r.n ops by rw [← HE.out]; exact HO.out)
  have H0 := Aside0.mk (Nat.lt_of_lt_of_le KS.out.b0 hd.size)
  clear hd hr
  have HFIN := Aside0.mk (show ∀ w', Below w1.heap.size w1 w' → ∃ h' r' fs' ops', Both gp B h' r' fs' ops' w' ∧ Below B W w' from fun w' hb => ⟨h, r, fs, ops, (KS.out.stay hb).1, HBW.out.trans (KS.out.stay hb).2⟩)
  have MKS := Aside0.mk (show ∀ w', Below w1.heap.size w1 w' → (fun w' => (w'.cell? ⟨gp, 0, none⟩ = some (ptr h.D) ∧ w'.cell? ⟨gp, 1, none⟩ = some (ptr r.D)) ∧ (w'.cell? ⟨b3, 0, none⟩ = some (.int .i64 0) ∧ w'.cell? ⟨b3, 1, none⟩ = some (.int .i64 N) ∧ w'.cell? ⟨b3, 2, none⟩ = some (.int .u8 fill) ∧ w'.cell? ⟨b3, 3, none⟩ = some (.slice Ab m cb)) ∧ (w'.cell? ⟨b3, 4, none⟩ = some (.bool ex) ∧ w'.cell? ⟨b3, 5, none⟩ = some (.slice Ak mk ck) ∧ w'.cell? ⟨b3, 6, none⟩ = some (.int .i64 torn) ∧ w'.cell? ⟨b3, 7, none⟩ = some (.int .i64 y))) w' from fun w' hb => by
    have r1 : Rt 66 gp [ptr h.D, ptr r.D] w' := (hb.block _ KS.out.row.lt).trans KS.out.row
    have r3 : Rt 69 b3 (opV 0 N fill torn y Ab Ak m cb mk ck ex) w' := (hb.block _ HR3.out.lt).trans HR3.out
    exact ⟨⟨r1.cell 0 _ rfl, r1.cell 1 _ rfl⟩, ⟨r3.cell 0 _ rfl, r3.cell 1 _ rfl, r3.cell 2 _ rfl, r3.cell 3 _ rfl⟩, r3.cell 4 _ rfl, r3.cell 5 _ rfl, r3.cell 6 _ rfl, r3.cell 7 _ rfl⟩)
  obtain ⟨q, hq⟩ := K.out.q
  have HQ := Aside0.mk hq
  have HQR := Aside0.mk (show r.n = 128 * q by have := HE.out; omega)
  obtain ⟨sx, hsx⟩ : ∃ sx, sectorS fill bs ex = sx := ⟨_, rfl⟩
  have hl64 := sectorS_len fill bs ex m (Kd.C_len hCb) hm8
  rw [hsx] at hl64
  have HSEC := Aside0.mk (sectorOf_at 0 N fill torn y Ab Ak m cb mk ck ex bs w1 (Kd.C_below hCb HB1.out) hm8)
  obtain ⟨LW, hLW⟩ : ∃ LW, sx.length = LW := ⟨_, rfl⟩
  have HLW := Aside0.mk hLW
  have HL64 := Aside0.mk (show LW + 64 < 140737488355328 by omega)
  have HSX := Aside0.mk hsx
  clear hq hCb hm8 hsx hl64 hLW
  obtain ⟨_, ⟨_, q1, q2, q3⟩, q4, q5, q6, q7⟩ := MKS.out w1 (Below.refl _ _)
  go_upto_region 3 with fail
  go_wp2_with fail
  go_at_call 43
  refine HSEC.out.mono ?_
  rintro e wa ⟨v, rfl, hR, hb⟩
  rw [HSX.out] at hR
  have HRW := Aside0.mk hR
  obtain ⟨Aw, cw, rfl, hcw, hCw⟩ := Kd.R_reads hR
  rw [HLW.out] at hcw hCw
  have HRWa := Aside0.mk (Kd.R_bound HRW.out)
  have HCW := Aside0.mk hCw
  have HCWL := Aside0.mk hcw
  have HBa := Aside0.mk hb
  rw [HLW.out] at HRW HRWa ⊢
  clear hR hb hcw hCw HSEC q1 q2 q3 q4 q5 q6 q7
  go_wp2_with fail
  go_at_call 32
  refine (room_at sx (by rw [HLW.out]; exact HL64.out) Aw LW cw wa HLW.out HCW.out HCWL.out).mono ?_
  rintro e wb ⟨gl, cl, rfl, hm, hgl, hcl, hb⟩
  obtain ⟨n, hn⟩ : ∃ n, LW + 64 = n := ⟨_, rfl⟩
  rw [hn] at hcl ⊢
  have HN := Aside0.mk hn
  have HBb := Aside0.mk (HBa.out.trans (hb.mono HBa.out.size))
  have HM := Aside0.mk hm
  have HGL := Aside0.mk (show w1.heap.size ≤ gl by have := HBa.out.size; omega)
  have HCL := Aside0.mk hcl
  have sl1 : LW ≤ cl := by omega
  have sl2 : (LW : Int) ≤ (cl : Int) := by omega
  have HDb := Aside0.mk (HD.out.stay HBb.out)
  have HOWN := Aside0.mk (show ∀ j, Own h (.slice A ops.length c) j → j < w1.heap.size from fun j hj => (HD.out.own_lt j hj).2)
  have HRWb := Aside0.mk (Kd.R_below HRWa.out hb)
  have HRb := Aside0.mk ((HR.out.bound (ok' := fun j => j ≠ h.gs ∧ j ≠ gl) (fun j hj _ hlt => ⟨hj, fun e => by have := HGL.out; omega⟩)).stay HBb.out)
  have HRP := Aside0.mk (show Rt 66 gp [ptr h.D, ptr r.D] wb from (HBb.out.block _ KS.out.row.lt).trans KS.out.row)
  have HR3b := Aside0.mk (show Rt 69 b3 (opV 0 N fill torn y Ab Ak m cb mk ck ex) wb from (HBb.out.block _ HR3.out.lt).trans HR3.out)
  have HMW := Aside0.mk (show ∀ W' (P : Nat → Prop), Kept wb W' P → (∀ j, P j → j < w1.heap.size) → Mem W' gl (sx ++ tailL 64) ∧ Kd.C (Kd.int .u8) W' Aw LW sx from fun W' P hk hP => by
    refine ⟨HM.out.move (hk.2 _ HM.out.lt (fun e => by have := hP _ e; have := HGL.out; omega)), ?_⟩
    have := Kd.R_kept HRWb.out hk (fun j hj e => by have := hP j e; have := hj.2.1; omega)
    obtain ⟨A', c', e1, _, hC'⟩ := Kd.R_reads this
    injection e1 with e1 e2 e3
    subst e1
    rw [← e2] at hC'
    exact hC')
  have MK2 := Aside0.mk (show ∀ w', Kept wb w' (Own h (.slice A ops.length c)) → (fun w' => (w'.cell? ⟨gp, 0, none⟩ = some (ptr h.D) ∧ w'.cell? ⟨gp, 1, none⟩ = some (ptr r.D)) ∧ (w'.cell? ⟨b3, 0, none⟩ = some (.int .i64 0) ∧ w'.cell? ⟨b3, 1, none⟩ = some (.int .i64 N) ∧ w'.cell? ⟨b3, 2, none⟩ = some (.int .u8 fill) ∧ w'.cell? ⟨b3, 3, none⟩ = some (.slice Ab m cb)) ∧ (w'.cell? ⟨b3, 4, none⟩ = some (.bool ex) ∧ w'.cell? ⟨b3, 5, none⟩ = some (.slice Ak mk ck) ∧ w'.cell? ⟨b3, 6, none⟩ = some (.int .i64 torn) ∧ w'.cell? ⟨b3, 7, none⟩ = some (.int .i64 y))) w' from fun w' hk => by
    have r1 := HDb.out.other hk HRP.out (by decide) (by decide) (by decide)
    have r3 := HDb.out.other hk HR3b.out (by decide) (by decide) (by decide)
    exact ⟨⟨r1.cell 0 _ rfl, r1.cell 1 _ rfl⟩, ⟨r3.cell 0 _ rfl, r3.cell 1 _ rfl, r3.cell 2 _ rfl, r3.cell 3 _ rfl⟩, r3.cell 4 _ rfl, r3.cell 5 _ rfl, r3.cell 6 _ rfl, r3.cell 7 _ rfl⟩)
  clear hm hgl hcl hb HRWa hn
  have HFAR := Aside0.mk (show ∀ W' : World, wb.heap.size ≤ W'.heap.size → ∀ k, W'.heap.size ≤ k → k ≠ h.gs ∧ k ≠ gl from fun W' hs k hk => by
    have := HDb.out.s.lt
    have := HM.out.lt
    omega)
  obtain ⟨co, hco⟩ : ∃ co, wcode h.n N LW ops.length = co := ⟨_, rfl⟩
  have HWC := Aside0.mk hco
  obtain ⟨ops', hop⟩ : ∃ ops', wops h.n N sx ops = ops' := ⟨_, rfl⟩
  have HWO := Aside0.mk hop
  clear hco hop
  go_upto_region 5 with fail
  refine wp_region_held_drew (S := fun w' => (w'.cell? ⟨gp, 0, none⟩ = some (ptr h.D) ∧ w'.cell? ⟨gp, 1, none⟩ = some (ptr r.D)) ∧ (w'.cell? ⟨b3, 0, none⟩ = some (.int .i64 0) ∧ w'.cell? ⟨b3, 1, none⟩ = some (.int .i64 N) ∧ w'.cell? ⟨b3, 2, none⟩ = some (.int .u8 fill) ∧ w'.cell? ⟨b3, 3, none⟩ = some (.slice Ab m cb)) ∧ (w'.cell? ⟨b3, 4, none⟩ = some (.bool ex) ∧ w'.cell? ⟨b3, 5, none⟩ = some (.slice Ak mk ck) ∧ w'.cell? ⟨b3, 6, none⟩ = some (.int .i64 torn) ∧ w'.cell? ⟨b3, 7, none⟩ = some (.int .i64 y))) (by kernel_rfl) (MK2.out _ (Kept.refl _ _)) (fun hHeld => ?_)
  refine wpAnyH_take (i := 0) (oi := { dst := some 42, op := Op.move (Operand.tmp 0), type := 64, pos := "law.go:119", after := #[], guard := none }) (v := ?_) rfl (by kernel_rfl) (by kernel_rfl) (by kernel_rfl) (fun _ _ _ h => h) (Or.inl ⟨by rfl, ?_⟩) hHeld ?_
  rotate_left
  · intro w' hS; obtain ⟨⟨hS0, hS1⟩, ⟨hS2, hS3, hS4, hS5⟩, hS6, hS7, hS8, hS9⟩ := hS; go_simp; all_goals (with_reducible rfl)
  (try simp only [Act.put, List.setIfInBounds_toArray, List.set_cons_zero, List.set_cons_succ])
  refine wpAnyH_take (i := 1) (oi := { dst := some 43, op := Op.nilCheck (Operand.tmp 42), type := 0, pos := "law.go:119", after := #[{ on := 0, ground := Ground.data }], guard := none }) (v := ?_) rfl (by kernel_rfl) (by kernel_rfl) (by kernel_rfl) (fun _ _ _ h => h) (Or.inl ⟨by rfl, ?_⟩) hHeld ?_
  rotate_left
  · intro w' hS; obtain ⟨⟨hS0, hS1⟩, ⟨hS2, hS3, hS4, hS5⟩, hS6, hS7, hS8, hS9⟩ := hS; go_simp; all_goals (with_reducible rfl)
  (try simp only [Act.put, List.setIfInBounds_toArray, List.set_cons_zero, List.set_cons_succ])
  refine wpAnyH_take (i := 2) (oi := { dst := some 44, op := Op.fieldAddr 66 (Operand.tmp 43) 0, type := 0, pos := "law.go:119", after := #[{ on := 1, ground := Ground.data }], guard := none }) (v := ?_) rfl (by kernel_rfl) (by kernel_rfl) (by kernel_rfl) (fun _ _ _ h => h) (Or.inl ⟨by rfl, ?_⟩) hHeld ?_
  rotate_left
  · intro w' hS; obtain ⟨⟨hS0, hS1⟩, ⟨hS2, hS3, hS4, hS5⟩, hS6, hS7, hS8, hS9⟩ := hS; go_simp; all_goals (with_reducible rfl)
  (try simp only [Act.put, List.setIfInBounds_toArray, List.set_cons_zero, List.set_cons_succ])
  refine wpAnyH_take (i := 3) (oi := { dst := some 45, op := Op.load 25 (Operand.tmp 44), type := 25, pos := "law.go:119", after := #[{ on := 2, ground := Ground.data }], guard := none }) (v := ?_) rfl (by kernel_rfl) (by kernel_rfl) (by kernel_rfl) (fun _ _ _ h => h) (Or.inl ⟨by rfl, ?_⟩) hHeld ?_
  rotate_left
  · intro w' hS; obtain ⟨⟨hS0, hS1⟩, ⟨hS2, hS3, hS4, hS5⟩, hS6, hS7, hS8, hS9⟩ := hS; go_simp; all_goals (with_reducible rfl)
  (try simp only [Act.put, List.setIfInBounds_toArray, List.set_cons_zero, List.set_cons_succ])
  refine wpAnyH_take (i := 4) (oi := { dst := some 46, op := Op.fieldAddr 69 (Operand.tmp 3) 1, type := 0, pos := "law.go:119", after := #[], guard := none }) (v := ?_) rfl (by kernel_rfl) (by kernel_rfl) (by kernel_rfl) (fun _ _ _ h => h) (Or.inl ⟨by rfl, ?_⟩) hHeld ?_
  rotate_left
  · intro w' hS; obtain ⟨⟨hS0, hS1⟩, ⟨hS2, hS3, hS4, hS5⟩, hS6, hS7, hS8, hS9⟩ := hS; go_simp; all_goals (with_reducible rfl)
  (try simp only [Act.put, List.setIfInBounds_toArray, List.set_cons_zero, List.set_cons_succ])
  refine wpAnyH_take (i := 5) (oi := { dst := some 47, op := Op.load 3 (Operand.tmp 46), type := 3, pos := "law.go:119", after := #[{ on := 4, ground := Ground.data }], guard := none }) (v := ?_) rfl (by kernel_rfl) (by kernel_rfl) (by kernel_rfl) (fun _ _ _ h => h) (Or.inl ⟨by rfl, ?_⟩) hHeld ?_
  rotate_left
  · intro w' hS; obtain ⟨⟨hS0, hS1⟩, ⟨hS2, hS3, hS4, hS5⟩, hS6, hS7, hS8, hS9⟩ := hS; go_simp; all_goals (with_reducible rfl)
  (try simp only [Act.put, List.setIfInBounds_toArray, List.set_cons_zero, List.set_cons_succ])
  refine wpAnyH_take (i := 6) (oi := { dst := some 48, op := Op.move (Operand.tmp 6), type := 29, pos := "law.go:119", after := #[], guard := none }) (v := ?_) rfl (by kernel_rfl) (by kernel_rfl) (by kernel_rfl) (fun _ _ _ h => h) (Or.inl ⟨by rfl, ?_⟩) hHeld ?_
  rotate_left
  · intro w' hS; obtain ⟨⟨hS0, hS1⟩, ⟨hS2, hS3, hS4, hS5⟩, hS6, hS7, hS8, hS9⟩ := hS; go_simp; all_goals (with_reducible rfl)
  (try simp only [Act.put, List.setIfInBounds_toArray, List.set_cons_zero, List.set_cons_succ])
  refine wpAnyH_take (i := 7) (oi := { dst := some 49, op := Op.move (Operand.tmp 5), type := 29, pos := "law.go:119", after := #[], guard := none }) (v := ?_) rfl (by kernel_rfl) (by kernel_rfl) (by kernel_rfl) (fun _ _ _ h => h) (Or.inl ⟨by rfl, ?_⟩) hHeld ?_
  rotate_left
  · intro w' hS; obtain ⟨⟨hS0, hS1⟩, ⟨hS2, hS3, hS4, hS5⟩, hS6, hS7, hS8, hS9⟩ := hS; go_simp; all_goals (with_reducible rfl)
  (try simp only [Act.put, List.setIfInBounds_toArray, List.set_cons_zero, List.set_cons_succ])
  refine wpAnyH_take (i := 8) (oi := { dst := some 50, op := Op.call { callee := Callee.builtin Builtin.len, args := #[Operand.tmp 49], argTypes := #[29] }, type := 3, pos := "law.go:119", after := #[{ on := 7, ground := Ground.data }], guard := none }) (v := ?_) rfl (by kernel_rfl) (by kernel_rfl) (by kernel_rfl) (fun _ _ _ h => h) (Or.inl ⟨by rfl, ?_⟩) hHeld ?_
  rotate_left
  · intro w' hS; obtain ⟨⟨hS0, hS1⟩, ⟨hS2, hS3, hS4, hS5⟩, hS6, hS7, hS8, hS9⟩ := hS; go_simp; all_goals (with_reducible rfl)
  (try simp only [Act.put, List.setIfInBounds_toArray, List.set_cons_zero, List.set_cons_succ])
  refine wpAnyH_take (i := 9) (oi := { dst := some 51, op := Op.slice 29 (Operand.tmp 48) none (some (Operand.tmp 50)) none, type := 29, pos := "law.go:119", after := #[{ on := 6, ground := Ground.data }, { on := 8, ground := Ground.data }], guard := none }) (v := ?_) rfl (by kernel_rfl) (by kernel_rfl) (by kernel_rfl) (fun _ _ _ h => h) (Or.inl ⟨by rfl, ?_⟩) hHeld ?_
  rotate_left
  · intro w' hS; obtain ⟨⟨hS0, hS1⟩, ⟨hS2, hS3, hS4, hS5⟩, hS6, hS7, hS8, hS9⟩ := hS; go_simp; all_goals (with_reducible rfl)
  (try simp only [Act.put, List.setIfInBounds_toArray, List.set_cons_zero, List.set_cons_succ])
  refine wpAnyH_ready (rs := [10]) (by kernel_rfl) (by simp) ?_
  refine AllReadyH.cons (o := { dst := some 52, op := Op.call { callee := Callee.value (Operand.func 27), args := #[Operand.tmp 45, Operand.tmp 47, Operand.tmp 51], argTypes := #[25, 3, 29] }, type := 30, pos := "law.go:119", after := #[{ on := 3, ground := Ground.data }, { on := 5, ground := Ground.data }, { on := 9, ground := Ground.data }], guard := none }) rfl (fun K hK => ?_) AllReadyH.nil
  go_simp
  go_at_call 27
  have hdw := write_any (c2 := cl) (A2 := some ⟨gl, 0, none⟩) (HDb.out.stay (below_drew (Below.refl _ _))) N sx LW HLW.out q HQ.out (fun W' hk => by
    have := (HMW.out W' _ (show Kept wb W' _ from hk) HOWN.out).1.sub 0 LW (by rw [List.length_append, HLW.out]; omega) (by have := HL64.out; omega)
    rw [List.drop_zero, List.take_left' HLW.out] at this
    exact this)
  rw [HWC.out, HWO.out] at hdw
  refine hdw.mono ?_
  rintro e wc ⟨rfl, ⟨A3, c3, hd⟩, hk, hb⟩
  have HK1 := Aside0.mk (show Kept wb wc (Own h (.slice A ops.length c)) from hk)
  have HD1 := Aside0.mk hd
  have HB1c := Aside0.mk (show Below B wb wc from (below_drew (Below.refl _ _)).trans hb)
  have HR1 := Aside0.mk (HRb.out.aside HDb.out (fun _ hj => hj.1) HK1.out)
  have HW1 := Aside0.mk (HMW.out wc _ HK1.out HOWN.out)
  have HRP1 := Aside0.mk (HDb.out.other HK1.out HRP.out (by decide) (by decide) (by decide))
  have HR31 := Aside0.mk (HDb.out.other HK1.out HR3b.out (by decide) (by decide) (by decide))
  clear hd hk hb
  refine hK.out _ _ (MK2.out _ HK1.out) (fun hHeld => ?_)
  clear hK K
  (try simp only [Act.put, List.setIfInBounds_toArray, List.set_cons_zero, List.set_cons_succ])
  refine wpAnyH_take (i := 11) (oi := { dst := some 7, op := Op.assign (Operand.tmp 52), type := 30, pos := "law.go:119", after := #[{ on := 10, ground := Ground.data }, { on := 10, ground := Ground.chain }, { on := 0, ground := Ground.phase }, { on := 1, ground := Ground.phase }, { on := 2, ground := Ground.phase }, { on := 3, ground := Ground.phase }, { on := 4, ground := Ground.phase }, { on := 5, ground := Ground.phase }, { on := 6, ground := Ground.phase }, { on := 7, ground := Ground.phase }, { on := 8, ground := Ground.phase }, { on := 9, ground := Ground.phase }, { on := 10, ground := Ground.phase }], guard := none }) (v := ?_) rfl (by kernel_rfl) (by kernel_rfl) (by kernel_rfl) (fun _ _ _ h => h) (Or.inl ⟨by rfl, ?_⟩) hHeld ?_
  rotate_left
  · intro w' hS; obtain ⟨⟨hS0, hS1⟩, ⟨hS2, hS3, hS4, hS5⟩, hS6, hS7, hS8, hS9⟩ := hS; go_simp; all_goals (with_reducible rfl)
  (try simp only [Act.put, List.setIfInBounds_toArray, List.set_cons_zero, List.set_cons_succ])
  refine wpAnyH_done (by kernel_rfl) ?_ _
  (try simp only [Act.put, List.setIfInBounds_toArray, List.set_cons_zero, List.set_cons_succ])
  go_upto_region 6 with fail
  refine wp_region_held_drew (S := fun w' => (w'.cell? ⟨gp, 0, none⟩ = some (ptr h.D) ∧ w'.cell? ⟨gp, 1, none⟩ = some (ptr r.D)) ∧ (w'.cell? ⟨b3, 0, none⟩ = some (.int .i64 0) ∧ w'.cell? ⟨b3, 1, none⟩ = some (.int .i64 N) ∧ w'.cell? ⟨b3, 2, none⟩ = some (.int .u8 fill) ∧ w'.cell? ⟨b3, 3, none⟩ = some (.slice Ab m cb)) ∧ (w'.cell? ⟨b3, 4, none⟩ = some (.bool ex) ∧ w'.cell? ⟨b3, 5, none⟩ = some (.slice Ak mk ck) ∧ w'.cell? ⟨b3, 6, none⟩ = some (.int .i64 torn) ∧ w'.cell? ⟨b3, 7, none⟩ = some (.int .i64 y))) (by kernel_rfl) (MK2.out _ HK1.out) (fun hHeld => ?_)
  refine wpAnyH_take (i := 0) (oi := { dst := some 53, op := Op.move (Operand.tmp 0), type := 64, pos := "law.go:120", after := #[], guard := none }) (v := ?_) rfl (by kernel_rfl) (by kernel_rfl) (by kernel_rfl) (fun _ _ _ h => h) (Or.inl ⟨by rfl, ?_⟩) hHeld ?_
  rotate_left
  · intro w' hS; obtain ⟨⟨hS0, hS1⟩, ⟨hS2, hS3, hS4, hS5⟩, hS6, hS7, hS8, hS9⟩ := hS; go_simp; all_goals (with_reducible rfl)
  (try simp only [Act.put, List.setIfInBounds_toArray, List.set_cons_zero, List.set_cons_succ])
  refine wpAnyH_take (i := 1) (oi := { dst := some 54, op := Op.nilCheck (Operand.tmp 53), type := 0, pos := "law.go:120", after := #[{ on := 0, ground := Ground.data }], guard := none }) (v := ?_) rfl (by kernel_rfl) (by kernel_rfl) (by kernel_rfl) (fun _ _ _ h => h) (Or.inl ⟨by rfl, ?_⟩) hHeld ?_
  rotate_left
  · intro w' hS; obtain ⟨⟨hS0, hS1⟩, ⟨hS2, hS3, hS4, hS5⟩, hS6, hS7, hS8, hS9⟩ := hS; go_simp; all_goals (with_reducible rfl)
  (try simp only [Act.put, List.setIfInBounds_toArray, List.set_cons_zero, List.set_cons_succ])
  refine wpAnyH_take (i := 2) (oi := { dst := some 55, op := Op.fieldAddr 66 (Operand.tmp 54) 1, type := 0, pos := "law.go:120", after := #[{ on := 1, ground := Ground.data }], guard := none }) (v := ?_) rfl (by kernel_rfl) (by kernel_rfl) (by kernel_rfl) (fun _ _ _ h => h) (Or.inl ⟨by rfl, ?_⟩) hHeld ?_
  rotate_left
  · intro w' hS; obtain ⟨⟨hS0, hS1⟩, ⟨hS2, hS3, hS4, hS5⟩, hS6, hS7, hS8, hS9⟩ := hS; go_simp; all_goals (with_reducible rfl)
  (try simp only [Act.put, List.setIfInBounds_toArray, List.set_cons_zero, List.set_cons_succ])
  refine wpAnyH_take (i := 3) (oi := { dst := some 56, op := Op.load 61 (Operand.tmp 55), type := 61, pos := "law.go:120", after := #[{ on := 2, ground := Ground.data }], guard := none }) (v := ?_) rfl (by kernel_rfl) (by kernel_rfl) (by kernel_rfl) (fun _ _ _ h => h) (Or.inl ⟨by rfl, ?_⟩) hHeld ?_
  rotate_left
  · intro w' hS; obtain ⟨⟨hS0, hS1⟩, ⟨hS2, hS3, hS4, hS5⟩, hS6, hS7, hS8, hS9⟩ := hS; go_simp; all_goals (with_reducible rfl)
  (try simp only [Act.put, List.setIfInBounds_toArray, List.set_cons_zero, List.set_cons_succ])
  refine wpAnyH_take (i := 4) (oi := { dst := some 57, op := Op.fieldAddr 69 (Operand.tmp 3) 1, type := 0, pos := "law.go:120", after := #[], guard := none }) (v := ?_) rfl (by kernel_rfl) (by kernel_rfl) (by kernel_rfl) (fun _ _ _ h => h) (Or.inl ⟨by rfl, ?_⟩) hHeld ?_
  rotate_left
  · intro w' hS; obtain ⟨⟨hS0, hS1⟩, ⟨hS2, hS3, hS4, hS5⟩, hS6, hS7, hS8, hS9⟩ := hS; go_simp; all_goals (with_reducible rfl)
  (try simp only [Act.put, List.setIfInBounds_toArray, List.set_cons_zero, List.set_cons_succ])
  refine wpAnyH_take (i := 5) (oi := { dst := some 58, op := Op.load 3 (Operand.tmp 57), type := 3, pos := "law.go:120", after := #[{ on := 4, ground := Ground.data }], guard := none }) (v := ?_) rfl (by kernel_rfl) (by kernel_rfl) (by kernel_rfl) (fun _ _ _ h => h) (Or.inl ⟨by rfl, ?_⟩) hHeld ?_
  rotate_left
  · intro w' hS; obtain ⟨⟨hS0, hS1⟩, ⟨hS2, hS3, hS4, hS5⟩, hS6, hS7, hS8, hS9⟩ := hS; go_simp; all_goals (with_reducible rfl)
  (try simp only [Act.put, List.setIfInBounds_toArray, List.set_cons_zero, List.set_cons_succ])
  refine wpAnyH_take (i := 6) (oi := { dst := some 59, op := Op.move (Operand.tmp 5), type := 29, pos := "law.go:120", after := #[], guard := none }) (v := ?_) rfl (by kernel_rfl) (by kernel_rfl) (by kernel_rfl) (fun _ _ _ h => h) (Or.inl ⟨by rfl, ?_⟩) hHeld ?_
  rotate_left
  · intro w' hS; obtain ⟨⟨hS0, hS1⟩, ⟨hS2, hS3, hS4, hS5⟩, hS6, hS7, hS8, hS9⟩ := hS; go_simp; all_goals (with_reducible rfl)
  (try simp only [Act.put, List.setIfInBounds_toArray, List.set_cons_zero, List.set_cons_succ])
  refine wpAnyH_ready (rs := [7]) (by kernel_rfl) (by simp) ?_
  refine AllReadyH.cons (o := { dst := some 60, op := Op.call { callee := Callee.value (Operand.func 44), args := #[Operand.tmp 56, Operand.tmp 58, Operand.tmp 59], argTypes := #[61, 3, 29] }, type := 30, pos := "law.go:120", after := #[{ on := 3, ground := Ground.data }, { on := 5, ground := Ground.data }, { on := 6, ground := Ground.data }], guard := none }) rfl (fun K hK => ?_) AllReadyH.nil
  go_simp
  go_at_call 44
  have hrw := rwrite_any (c2 := cw) (HR1.out.stay (below_drew (Below.refl _ _))) (fun k hk => HFAR.out wc HK1.out.1 k hk) N sx LW HLW.out q HQR.out (Kd.C_below HW1.out.2 (below_drew (Below.refl _ _)))
  rw [← HE.out, HWC.out, HWO.out] at hrw
  refine hrw.mono ?_
  rintro e wd ⟨rfl, ⟨A4, c4, hr⟩, hk, hb⟩
  have HK2 := Aside0.mk (show Kept wc wd (ROwn r (.slice A2 ops.length c2)) from hk)
  have HR2 := Aside0.mk hr
  have HB2d := Aside0.mk (show Below B wc wd from (below_drew (Below.refl _ _)).trans hb)
  have HD2 := Aside0.mk (HD1.out.aside HR1.out HK2.out)
  have HRP2 := Aside0.mk (HR1.out.other HK2.out HRP1.out (by decide) (by decide))
  have HR32 := Aside0.mk (HR1.out.other HK2.out HR31.out (by decide) (by decide))
  have HRO := Aside0.mk (show ∀ j, ROwn r (.slice A2 ops.length c2) j → j < w1.heap.size from by
    rintro j (rfl | e)
    · exact HR.out.row.lt
    · exact Kd.R_lt HR.out.o j e.symm)
  have HK12 := Aside0.mk (show Kept wb wd (fun j => j < w1.heap.size) from (HK1.out.mono HOWN.out).then_ HK2.out (fun j hj => .inl (HRO.out j hj)))
  have HW2 := Aside0.mk (HMW.out wd _ HK12.out (fun _ h => h))
  clear hr hk hb
  refine hK.out _ _ ⟨⟨HRP2.out.cell 0 _ rfl, HRP2.out.cell 1 _ rfl⟩, ⟨HR32.out.cell 0 _ rfl, HR32.out.cell 1 _ rfl, HR32.out.cell 2 _ rfl, HR32.out.cell 3 _ rfl⟩, HR32.out.cell 4 _ rfl, HR32.out.cell 5 _ rfl, HR32.out.cell 6 _ rfl, HR32.out.cell 7 _ rfl⟩ (fun hHeld => ?_)
  clear hK K
  (try simp only [Act.put, List.setIfInBounds_toArray, List.set_cons_zero, List.set_cons_succ])
  refine wpAnyH_take (i := 8) (oi := { dst := some 8, op := Op.assign (Operand.tmp 60), type := 30, pos := "law.go:120", after := #[{ on := 7, ground := Ground.data }, { on := 7, ground := Ground.chain }, { on := 0, ground := Ground.phase }, { on := 1, ground := Ground.phase }, { on := 2, ground := Ground.phase }, { on := 3, ground := Ground.phase }, { on := 4, ground := Ground.phase }, { on := 5, ground := Ground.phase }, { on := 6, ground := Ground.phase }, { on := 7, ground := Ground.phase }], guard := none }) (v := ?_) rfl (by kernel_rfl) (by kernel_rfl) (by kernel_rfl) (fun _ _ _ h => h) (Or.inl ⟨by rfl, ?_⟩) hHeld ?_
  rotate_left
  · intro w' hS; obtain ⟨⟨hS0, hS1⟩, ⟨hS2, hS3, hS4, hS5⟩, hS6, hS7, hS8, hS9⟩ := hS; go_simp; all_goals (with_reducible rfl)
  (try simp only [Act.put, List.setIfInBounds_toArray, List.set_cons_zero, List.set_cons_succ])
  refine wpAnyH_done (by kernel_rfl) ?_ _
  (try simp only [Act.put, List.setIfInBounds_toArray, List.set_cons_zero, List.set_cons_succ])
  have hkl : (sx ++ tailL 64).length = n := by rw [List.length_append, tailL_len, HLW.out]; exact HN.out
  have HKL := Aside0.mk hkl
  have hke := kept_at sx (by rw [HLW.out]; exact HL64.out) (some ⟨gl, 0, none⟩) Aw LW cl cw wd HLW.out (by rw [HN.out]; exact HW2.out.1.allN HKL.out (by have := HL64.out; have := HN.out; omega)) (by rw [HN.out]; exact HCL.out) HW2.out.2 HCWL.out
  rw [HN.out] at hke
  have HKE := Aside0.mk hke
  clear hke hkl
  go_wp2_with fail
  go_at_call 34
  refine HKE.out.mono ?_
  rintro e w' ⟨rfl, md, rfl⟩
  have hbm : Below wd.heap.size wd (wd.drewN md) := pw_below_drewN (Below.refl _ _) md
  have HD3 := Aside0.mk (HD2.out.stay hbm)
  have HR3' := Aside0.mk (HR2.out.stay hbm)
  have HRP3 := Aside0.mk (show Rt 66 gp [ptr h.D, ptr r.D] (wd.drewN md) from (hbm.block _ HRP2.out.lt).trans HRP2.out)
  have HM3 := Aside0.mk (HW2.out.1.below hbm)
  have HBT := Aside0.mk (show Below B W (wd.drewN md) from (((HBW.out.trans (HBb.out.mono (HD.out.size))).trans HB1c.out).trans HB2d.out).trans (hbm.mono HD2.out.size))
  clear hbm HKE
  generalize wd.drewN md = we at *
  have HBGL := Aside0.mk (show B ≤ gl by have := HD.out.size; have := HGL.out; omega)
  have HGFS := Aside0.mk (show h.gf ≠ gl ∧ h.gs ≠ gl by have := HD.out.f.lt; have := HD.out.s.lt; have := HGL.out; omega)
  obtain ⟨xs, hxs⟩ : ∃ xs, sx ++ tailL 64 = xs := ⟨_, rfl⟩
  have hm3 := HM3.out
  have hkl := HKL.out
  rw [hxs] at hm3 hkl
  have HM4 := Aside0.mk hm3
  have HXL := Aside0.mk hkl
  have HN63 := Aside0.mk (show n < 140737488355328 by have := HL64.out; have := HN.out; omega)
  clear hxs hm3 hkl HM3 HKL HMW MK2 MKS HW2 HW1
  go_wp2_with fail
  go_loopw [9] (fun p wr => ∃ i : Nat, p = .int .i64 (i : Int) ∧ Aside0 (i ≤ n) ∧ Aside0 (Mem wr gl (flipL xs i)) ∧ Aside0 (Kept we wr (fun j => j = gl)) ∧ Aside0 (Below B we wr)) (fun p _ => n - (intOf p).toNat)
  · exact ⟨0, rfl, ⟨Nat.zero_le _⟩, ⟨by unfold flipL; rw [List.take_zero, List.map_nil, List.nil_append, List.drop_zero]; exact HM4.out⟩, ⟨Kept.refl _ _⟩, ⟨Below.refl _ _⟩⟩
  · obtain ⟨i, rfl, HI, HMr, HKr, HBr⟩ := hrel
    by_cases ci : i < n
    · have ci1 : decide ((i : Int) < (n : Int)) = true := decide_eq_true (by omega)
      have ci2 : (i : Int) < (n : Int) := by omega
      have ci3 : (0 : Int) ≤ (i : Int) := by omega
      have hw1 : IntKind.i64.wrap ((i : Int) + 1) = ((i + 1 : Nat) : Int) := by rw [IntWalk.i64_in _ (by have := HN63.out; omega)]; omega
      obtain ⟨x, hx⟩ : ∃ x, xs[i]? = some x := ⟨_, List.getElem?_eq_getElem (by have := HXL.out; omega)⟩
      have hget := flipL_get xs i (by have := HXL.out; omega)
      have cj := HMr.out.cell i (by rw [flipL_len]; have := HXL.out; omega)
      rw [List.getD_eq_getElem?_getD, hget, hx] at cj
      simp only [Option.getD_some] at cj
      have fj : wr.frozen? ⟨gl, i, none⟩ = false := by
        obtain ⟨cur, h1, _⟩ := HMr.out
        simp [World.frozen?, h1]
      have HX := Aside0.mk hx
      clear hget hx
      have HNEW := Aside0.mk (show Mem (wr.setCell ⟨gl, i, none⟩ (.int .u8 ((255 - x) % 256))) gl (flipL xs (i + 1)) ∧ Kept we (wr.setCell ⟨gl, i, none⟩ (.int .u8 ((255 - x) % 256))) (fun j => j = gl) ∧ Below B we (wr.setCell ⟨gl, i, none⟩ (.int .u8 ((255 - x) % 256))) from by
        refine ⟨?_, HKr.out.setCell (.inl rfl) _, HBr.out.setCell (p := ⟨gl, i, none⟩) HBGL.out _⟩
        have := HMr.out.put i (by rw [flipL_len]; have := HXL.out; omega) ((255 - x) % 256)
        rwa [flipL_set _ _ _ HX.out] at this)
      go_wp2_with fail
      refine ⟨⟨i + 1, rfl, ⟨ci⟩, ⟨HNEW.out.1⟩, ⟨HNEW.out.2.1⟩, ⟨HNEW.out.2.2⟩⟩, ?_⟩
      simp only [intOf]
      omega
    · have ci1 : decide ((i : Int) < (n : Int)) = false := decide_eq_false (by omega)
      go_wp2_with fail
      go_ret
      have hb9 := HBT.out.trans HBr.out
      exact ⟨rfl, h, r, fs, ops', K.out.now (HD3.out.past HM4.out HGFS.out.1 HGFS.out.2 HKr.out) ((HR3'.out.past HM4.out (fun _ hj => hj.2) HKr.out).mono (fun _ hj => hj.1)) (by rw [← HWO.out]; exact wops_ok HO.out q HQ.out) (HRP3.out.past HM4.out (by decide) HKr.out) hb9, hb9⟩
end Go.Proofs.YtpaonoaedjkekaaDoor.Dk
