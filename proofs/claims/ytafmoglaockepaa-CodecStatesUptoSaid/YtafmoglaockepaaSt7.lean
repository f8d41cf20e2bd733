/- What the codec writes and reads: texts of this session joined, with what is not needed left out. -/
import Derived.Test.YtafmoglaockepaaSt2
import Derived.Test.YtafmoglaockepaaSt6
import Derived.Deep.CutBlock
import Derived.Deep.DeepCutAuto
import Derived.Deep.RegionHeld3
import Derived.Deep.RegionLaw
import Derived.Test.YtafmoglaockepaaSt3
import Derived.Test.YtafmoglaockepaaSt4
import Derived.Test.YtafmoglaockepaaSt5
section
namespace Go.Proofs.Ytafmoglaockepaa.Cd
open Go Go.RowKit Go.Proofs.Ytafmoglaockepaa.Num Go.Proofs.Ytafmoglaockepaa.PG Go.Proofs.YtafmoglaockepaaW.PrintWords Go.Proofs.YtafmoglaockepaaW.PrintLast Go.Proofs.YtafmoglaockepaaW.PrintMore
set_option linter.unusedVariables false
set_option linter.unusedSimpArgs false
set_option maxHeartbeats 4000000
set_option maxRecDepth 100000
variable {g B : Nat} {A : Option Addr} {n c : Nat} {xs : List Int} {most : Nat}
theorem many_is {α β : Type} {r : Res α} {p : Nat → Res β} {u : Nat} {w : World} (hq : QSt g B A n c xs most (r.bind fun _ m => pU xs most m) w) (hu : ∀ y m, (r.bind fun _ m => pU xs most m) = .ok y m → y = u) :
    ∃ st : Res (List β), QSt g B A n c xs most st w ∧ (∀ y m, st = .ok y m → y = [] ∧ u ≤ most) ∧ st.bind (fun l m => pN p (u - 0) l m) = (r.bind fun _ m => pList xs most p m) := by
  cases r with
  | fail e q =>
    simp only [Res.bind] at hq ⊢
    exact ⟨.fail e q, hq, fun y m h => by simp at h, rfl⟩
  | ok x m =>
    cases hpu : pU xs most m with
    | fail e q =>
      simp only [Res.bind, hpu] at hq
      refine ⟨.fail e q, hq, fun y m h => by simp at h, ?_⟩
      simp only [Res.bind, pList, hpu]
    | ok k m2 =>
      simp only [Res.bind, hpu] at hq hu
      obtain rfl := hu k m2 rfl
      refine ⟨.ok [] m2, hq, fun y m h => by cases h; exact ⟨rfl, pU_le hpu⟩, ?_⟩
      simp only [Res.bind, pList, hpu, Nat.sub_zero]
theorem R_store {α : Type} {k : Kd α} {t t' S b : Nat} {w : World} {v : Value} {l : List α} {vs : List Value} (h : k.R t w S (fun _ => True) v l) (hr : Rt t' b vs w) (hne : t' ∉ t :: k.E) (cs : Array Value) : k.R t (w.setRow b cs) S (fun _ => True) v l := by
  refine Kd.R_mono (Kd.R_step (Kd.R_bound h) (fun j hj _ => setRow_other _ _ _ _ (fun e => ?_))) (fun _ _ => trivial)
  obtain ⟨_, _, _, q, hq, cs2, hc⟩ := hj
  subst e
  exact hne (by rw [blk_types hr hc]; exact hq)
theorem R_aside {α β : Type} {k : Kd α} {k' : Kd β} {t t' S S' : Nat} {ok : Nat → Prop} {w w' : World} {v v' : Value} {l : List α} {l' : List β} (h : k.R t w S (fun _ => True) v l) (hY : k'.R t' w S' ok v' l') (hne : t' ∉ t :: k.E) (hg : w.grownBy w' v'.ownBlock) : k.R t w' S (fun _ => True) v l := by
  obtain ⟨_, inner, ho, _⟩ := hY
  refine Kd.R_mono (Kd.R_step (Kd.R_bound h) (fun j hj hlt => hg.block j hlt (fun e => ?_))) (fun _ _ => trivial)
  obtain ⟨_, _, _, q, hq, cs, hc⟩ := hj
  obtain ⟨cs2, hc2⟩ := own_typed ho j e.symm
  exact hne (by rw [blk_types hc2 hc]; exact hq)
theorem held_is {α : Type} {s0 : Res α} {w : World} {t : ByteArray} {l : List S110} {a : Int}
    (k : QSt g B A n c xs most (((s0.bind fun _ m => pT xs most m).bind fun _ m => pList xs most (pLine xs most) m).bind fun _ m => pI xs m) w)
    (e0 : ∀ x m, (s0.bind fun _ m => pT xs most m) = .ok x m → x = t)
    (e1 : ∀ x m, ((s0.bind fun _ m => pT xs most m).bind fun _ m => pList xs most (pLine xs most) m) = .ok x m → x = l)
    (e2 : ∀ x m, (((s0.bind fun _ m => pT xs most m).bind fun _ m => pList xs most (pLine xs most) m).bind fun _ m => pI xs m) = .ok x m → x = a) :
    QSt g B A n c xs most (s0.bind fun _ m => pHeld xs most m) w ∧ ∀ yy m, (s0.bind fun _ m => pHeld xs most m) = .ok yy m → yy = ⟨t, l, a⟩ := by
  revert k e0 e1 e2
  unfold pHeld
  cases s0 with
  | fail e p => exact fun k _ _ _ => ⟨k, fun yy m h => by simp [Res.bind] at h⟩
  | ok u m0 =>
    simp only [Res.bind]
    cases pT xs most m0 with
    | fail e p => exact fun k _ _ _ => ⟨k, fun yy m h => by simp [Res.bind] at h⟩
    | ok q0 m1 =>
      simp only
      cases pList xs most (pLine xs most) m1 with
      | fail e p => exact fun k _ _ _ => ⟨k, fun yy m h => by simp [Res.bind] at h⟩
      | ok q1 m2 =>
        simp only
        cases pI xs m2 with
        | fail e p => exact fun k _ _ _ => ⟨k, fun yy m h => by simp [Res.bind] at h⟩
        | ok q2 m3 =>
          intro k e0 e1 e2
          refine ⟨k, fun yy m h => ?_⟩
          injection h with h1 h2
          rw [← h1, e0 _ _ rfl, e1 _ _ rfl, e2 _ _ rfl]
theorem done_is {α : Type} {s0 : Res α} {w : World} {q : S40} {a : Int}
    (k : QSt g B A n c xs most ((s0.bind fun _ m => pReq xs most m).bind fun _ m => pI xs m) w)
    (e0 : ∀ x m, (s0.bind fun _ m => pReq xs most m) = .ok x m → x = q)
    (e1 : ∀ x m, ((s0.bind fun _ m => pReq xs most m).bind fun _ m => pI xs m) = .ok x m → x = a) :
    QSt g B A n c xs most (s0.bind fun _ m => pDone xs most m) w ∧ ∀ yy m, (s0.bind fun _ m => pDone xs most m) = .ok yy m → yy = ⟨q, a⟩ := by
  revert k e0 e1
  unfold pDone
  cases s0 with
  | fail e p => exact fun k _ _ => ⟨k, fun yy m h => by simp [Res.bind] at h⟩
  | ok u m0 =>
    simp only [Res.bind]
    cases pReq xs most m0 with
    | fail e p => exact fun k _ _ => ⟨k, fun yy m h => by simp [Res.bind] at h⟩
    | ok q0 m1 =>
      simp only
      cases pI xs m1 with
      | fail e p => exact fun k _ _ => ⟨k, fun yy m h => by simp [Res.bind] at h⟩
      | ok q1 m2 =>
        intro k e0 e1
        refine ⟨k, fun yy m h => ?_⟩
        injection h with h1 h2
        rw [← h1, e0 _ _ rfl, e1 _ _ rfl]
theorem st_is {α : Type} {s0 : Res α} {w : World} {sa : Int} {sb : Int} {sc : Int} {sl : List S28} {sh : List S121} {sd : List S123}
    (k : QSt g B A n c xs most ((((((s0.bind fun _ m => pI xs m).bind fun _ m => pI xs m).bind fun _ m => pI xs m).bind fun _ m => pList xs most (pLevel xs most) m).bind fun _ m => pList xs most (pHeld xs most) m).bind fun _ m => pList xs most (pDone xs most) m) w)
    (e0 : ∀ x m, (s0.bind fun _ m => pI xs m) = .ok x m → x = sa)
    (e1 : ∀ x m, ((s0.bind fun _ m => pI xs m).bind fun _ m => pI xs m) = .ok x m → x = sb)
    (e2 : ∀ x m, (((s0.bind fun _ m => pI xs m).bind fun _ m => pI xs m).bind fun _ m => pI xs m) = .ok x m → x = sc)
    (e3 : ∀ x m, ((((s0.bind fun _ m => pI xs m).bind fun _ m => pI xs m).bind fun _ m => pI xs m).bind fun _ m => pList xs most (pLevel xs most) m) = .ok x m → x = sl)
    (e4 : ∀ x m, (((((s0.bind fun _ m => pI xs m).bind fun _ m => pI xs m).bind fun _ m => pI xs m).bind fun _ m => pList xs most (pLevel xs most) m).bind fun _ m => pList xs most (pHeld xs most) m) = .ok x m → x = sh)
    (e5 : ∀ x m, ((((((s0.bind fun _ m => pI xs m).bind fun _ m => pI xs m).bind fun _ m => pI xs m).bind fun _ m => pList xs most (pLevel xs most) m).bind fun _ m => pList xs most (pHeld xs most) m).bind fun _ m => pList xs most (pDone xs most) m) = .ok x m → x = sd) :
    QSt g B A n c xs most (s0.bind fun _ m => pSt xs most m) w ∧ ∀ yy m, (s0.bind fun _ m => pSt xs most m) = .ok yy m → yy = ⟨sa, sb, sc, sl, sh, sd⟩ := by
  revert k e0 e1 e2 e3 e4 e5
  unfold pSt
  cases s0 with
  | fail e p => exact fun k _ _ _ _ _ _ => ⟨k, fun yy m h => by simp [Res.bind] at h⟩
  | ok u m0 =>
    simp only [Res.bind]
    cases pI xs m0 with
    | fail e p => exact fun k _ _ _ _ _ _ => ⟨k, fun yy m h => by simp [Res.bind] at h⟩
    | ok q0 m1 =>
      simp only
      cases pI xs m1 with
      | fail e p => exact fun k _ _ _ _ _ _ => ⟨k, fun yy m h => by simp [Res.bind] at h⟩
      | ok q1 m2 =>
        simp only
        cases pI xs m2 with
        | fail e p => exact fun k _ _ _ _ _ _ => ⟨k, fun yy m h => by simp [Res.bind] at h⟩
        | ok q2 m3 =>
          simp only
          cases pList xs most (pLevel xs most) m3 with
          | fail e p => exact fun k _ _ _ _ _ _ => ⟨k, fun yy m h => by simp [Res.bind] at h⟩
          | ok q3 m4 =>
            simp only
            cases pList xs most (pHeld xs most) m4 with
            | fail e p => exact fun k _ _ _ _ _ _ => ⟨k, fun yy m h => by simp [Res.bind] at h⟩
            | ok q4 m5 =>
              simp only
              cases pList xs most (pDone xs most) m5 with
              | fail e p => exact fun k _ _ _ _ _ _ => ⟨k, fun yy m h => by simp [Res.bind] at h⟩
              | ok q5 m6 =>
                intro k e0 e1 e2 e3 e4 e5
                refine ⟨k, fun yy m h => ?_⟩
                injection h with h1 h2
                rw [← h1, e0 _ _ rfl, e1 _ _ rfl, e2 _ _ rfl, e3 _ _ rfl, e4 _ _ rfl, e5 _ _ rfl]
theorem refState_at (A : Option Addr) (n c : Nat) (xs : List Int) (W : World) (hC : Kd.C (Kd.int .u8) W A n xs) (hnc : n ≤ c) (hb : IsBytes xs) (hbig : n < 1000000000) :
    Calls Try.prog 38 #[.slice A n c] W fun e w' => Below W.heap.size W w' ∧ ∃ v, e = .returned (.tuple #[v, .int .i64 (endOf (whole 84 131072 xs (pSt xs 131072))).1, .int .i64 (endOf (whole 84 131072 xs (pSt xs 131072))).2]) ∧ memSt W.heap.size (outOr zeroD_st (whole 84 131072 xs (pSt xs 131072))) v w' := by
  obtain ⟨wh, hwh⟩ : ∃ wh, whole 84 131072 xs (pSt xs 131072) = wh := ⟨_, rfl⟩
  have HWH := Aside0.mk (show ((hdr 84 131072 xs).bind fun _ m => tailOf xs (pSt xs 131072 m)) = wh by rw [← hwh, whole_hdr]; rfl)
  rw [hwh]
  clear hwh
  have hb1 : Below W.heap.size W (W.alloc (.cells #[.int .i64 0, .int .i64 0, .int .i64 0, .slice none 0 0, .slice none 0 0, .slice none 0 0] 58)) := below_alloc (Below.refl _ _) _
  have o1 : Rt 58 W.heap.size [.int .i64 0, .int .i64 0, .int .i64 0, .slice none 0 0, .slice none 0 0, .slice none 0 0] (W.alloc (.cells #[.int .i64 0, .int .i64 0, .int .i64 0, .slice none 0 0, .slice none 0 0, .slice none 0 0] 58)) := heap_alloc_new W _
  have hC1 := Kd.C_below hC hb1
  have HBG := Aside0.mk (q_begin A n c xs 131072 84 (W.alloc (.cells #[.int .i64 0, .int .i64 0, .int .i64 0, .slice none 0 0, .slice none 0 0, .slice none 0 0] 58)) hC1 hnc hb hbig (by decide))
  obtain ⟨bo, hbo⟩ : ∃ bo, W.heap.size = bo := ⟨_, rfl⟩
  have HBO := Aside0.mk hbo
  rw [hbo] at o1
  have BA := Aside0.mk (show Below bo W (W.alloc (.cells #[.int .i64 0, .int .i64 0, .int .i64 0, .slice none 0 0, .slice none 0 0, .slice none 0 0] 58)) by rw [← hbo]; exact hb1)
  have OA := Aside0.mk o1
  clear hC hC1 hnc hb hbig hb1 o1 hbo
  go_enter Try.func38, Try.ntmps38
  go_upto_region 1 with fail
  have hbo := HBO.out
  rw [hbo]
  clear hbo
  generalize W.alloc (.cells #[.int .i64 0, .int .i64 0, .int .i64 0, .slice none 0 0, .slice none 0 0, .slice none 0 0] 58) = wa at *
  go_wp2_with fail
  go_at_call 64
  refine HBG.out.mono ?_
  rintro e wb ⟨rfl, hb, hq⟩
  obtain ⟨g, hg⟩ : ∃ g, wa.heap.size = g := ⟨_, rfl⟩
  rw [hg] at hb hq ⊢
  obtain ⟨s0, hs0⟩ : ∃ s0, hdr 84 131072 xs = s0 := ⟨_, rfl⟩
  have HS := HWH.out
  rw [hs0] at hq HS
  have HGO := Aside0.mk (show bo < g by have := OA.out.lt; omega)
  have K0 := Aside0.mk hq
  have B0 := Aside0.mk (show Below bo W wb from BA.out.trans (hb.mono (Nat.le_of_lt HGO.out)))
  have O0 := Aside0.mk (show Rt 58 bo [.int .i64 0, .int .i64 0, .int .i64 0, .slice none 0 0, .slice none 0 0, .slice none 0 0] wb from (hb.block bo HGO.out).trans OA.out)
  have HSS := Aside0.mk HS
  clear hb hq HS hs0 HBG HWH BA OA hg
  generalize wb = w0 at *
  go_upto_region 3 with fail
  have hb2 : Below w0.heap.size w0 (w0.alloc (.cells #[.int .i64 0, .int .i64 0, .int .i64 0, .slice none 0 0, .slice none 0 0, .slice none 0 0] 58)) := below_alloc (Below.refl _ _) _
  have r2 : Rt 58 w0.heap.size [.int .i64 0, .int .i64 0, .int .i64 0, .slice none 0 0, .slice none 0 0, .slice none 0 0] (w0.alloc (.cells #[.int .i64 0, .int .i64 0, .int .i64 0, .slice none 0 0, .slice none 0 0, .slice none 0 0] 58)) := heap_alloc_new w0 _
  obtain ⟨b, hbe⟩ : ∃ b, w0.heap.size = b := ⟨_, rfl⟩
  have HLT := Aside0.mk (show bo < g ∧ g < b by have := K0.out.lt; have := HGO.out; omega)
  have K1 := Aside0.mk (K0.out.below hb2)
  have B1 := Aside0.mk (B0.out.trans (hb2.mono (by have := HLT.out; omega)))
  have O1 := Aside0.mk (O0.out.below hb2)
  rw [hbe] at r2 ⊢
  have R1 := Aside0.mk r2
  clear hb2 r2 hbe
  generalize w0.alloc (.cells #[.int .i64 0, .int .i64 0, .int .i64 0, .slice none 0 0, .slice none 0 0, .slice none 0 0] 58) = w1 at *
  have cr0 := R1.out.cell 0 _ rfl
  have fr0 := R1.out.free 0
  go_wp2_with fail
  go_at_call 66
  refine (q_int K1.out).mono ?_
  rintro e w2 ⟨hb, hp, sa, v, rfl, rfl, hx, hq⟩
  have Xsa := Aside0.mk hx
  have K2 := Aside0.mk hq
  have B2 := Aside0.mk (show Below bo W w2 from B1.out.trans (hb.mono (by have := HLT.out; omega)))
  have R2 := Aside0.mk (show Rt 58 b [Value.int .i64 0, .int .i64 0, .int .i64 0, .slice none 0 0, .slice none 0 0, .slice none 0 0] w2 from (hp.2 b R1.out.lt (by have := HLT.out; show b ≠ g; omega)).trans R1.out)
  have O2 := Aside0.mk (show Rt 58 bo [Value.int .i64 0, .int .i64 0, .int .i64 0, .slice none 0 0, .slice none 0 0, .slice none 0 0] w2 from (hp.2 bo O1.out.lt (by have := HLT.out; show bo ≠ g; omega)).trans O1.out)
  clear hb hp hx hq cr0 fr0
  have cr0 := R2.out.cell 0 _ rfl
  have fr0 := R2.out.free 0
  go_upto_region 4 with fail
  have e1 := R2.out.set 0 (.int .i64 sa)
  rw [e1]
  clear e1 cr0 fr0
  have hl : [Value.int .i64 0, .int .i64 0, .int .i64 0, .slice none 0 0, .slice none 0 0, .slice none 0 0].set 0 (.int .i64 sa) = [Value.int .i64 sa, .int .i64 0, .int .i64 0, .slice none 0 0, .slice none 0 0, .slice none 0 0] := rfl
  rw [hl]
  clear hl
  have K3 := Aside0.mk (K2.out.aside (W' := w2.setRow b [Value.int .i64 sa, .int .i64 0, .int .i64 0, .slice none 0 0, .slice none 0 0, .slice none 0 0].toArray) (below_setRow' (Below.refl _ _) (by have := HLT.out; omega) _) (setRow_other _ _ _ _ (by have := HLT.out; omega)))
  have B3 := Aside0.mk (show Below bo W (w2.setRow b [Value.int .i64 sa, .int .i64 0, .int .i64 0, .slice none 0 0, .slice none 0 0, .slice none 0 0].toArray) from below_setRow' B2.out (by have := HLT.out; omega) _)
  have R3 := Aside0.mk (show Rt 58 b [Value.int .i64 sa, .int .i64 0, .int .i64 0, .slice none 0 0, .slice none 0 0, .slice none 0 0] (w2.setRow b [Value.int .i64 sa, .int .i64 0, .int .i64 0, .slice none 0 0, .slice none 0 0, .slice none 0 0].toArray) from R2.out.row _)
  have O3 := Aside0.mk (show Rt 58 bo [Value.int .i64 0, .int .i64 0, .int .i64 0, .slice none 0 0, .slice none 0 0, .slice none 0 0] (w2.setRow b [Value.int .i64 sa, .int .i64 0, .int .i64 0, .slice none 0 0, .slice none 0 0, .slice none 0 0].toArray) from (setRow_other _ _ _ _ (by have := HLT.out; omega)).trans O2.out)
  generalize w2.setRow b [Value.int .i64 sa, .int .i64 0, .int .i64 0, .slice none 0 0, .slice none 0 0, .slice none 0 0].toArray = w3 at *
  have cr1 := R3.out.cell 1 _ rfl
  have fr1 := R3.out.free 1
  go_wp2_with fail
  go_at_call 66
  refine (q_int K3.out).mono ?_
  rintro e w4 ⟨hb, hp, sb, v, rfl, rfl, hx, hq⟩
  have Xsb := Aside0.mk hx
  have K4 := Aside0.mk hq
  have B4 := Aside0.mk (show Below bo W w4 from B3.out.trans (hb.mono (by have := HLT.out; omega)))
  have R4 := Aside0.mk (show Rt 58 b [Value.int .i64 sa, .int .i64 0, .int .i64 0, .slice none 0 0, .slice none 0 0, .slice none 0 0] w4 from (hp.2 b R3.out.lt (by have := HLT.out; show b ≠ g; omega)).trans R3.out)
  have O4 := Aside0.mk (show Rt 58 bo [Value.int .i64 0, .int .i64 0, .int .i64 0, .slice none 0 0, .slice none 0 0, .slice none 0 0] w4 from (hp.2 bo O3.out.lt (by have := HLT.out; show bo ≠ g; omega)).trans O3.out)
  clear hb hp hx hq cr1 fr1
  have cr1 := R4.out.cell 1 _ rfl
  have fr1 := R4.out.free 1
  go_upto_region 5 with fail
  have e1 := R4.out.set 1 (.int .i64 sb)
  rw [e1]
  clear e1 cr1 fr1
  have hl : [Value.int .i64 sa, .int .i64 0, .int .i64 0, .slice none 0 0, .slice none 0 0, .slice none 0 0].set 1 (.int .i64 sb) = [Value.int .i64 sa, .int .i64 sb, .int .i64 0, .slice none 0 0, .slice none 0 0, .slice none 0 0] := rfl
  rw [hl]
  clear hl
  have K5 := Aside0.mk (K4.out.aside (W' := w4.setRow b [Value.int .i64 sa, .int .i64 sb, .int .i64 0, .slice none 0 0, .slice none 0 0, .slice none 0 0].toArray) (below_setRow' (Below.refl _ _) (by have := HLT.out; omega) _) (setRow_other _ _ _ _ (by have := HLT.out; omega)))
  have B5 := Aside0.mk (show Below bo W (w4.setRow b [Value.int .i64 sa, .int .i64 sb, .int .i64 0, .slice none 0 0, .slice none 0 0, .slice none 0 0].toArray) from below_setRow' B4.out (by have := HLT.out; omega) _)
  have R5 := Aside0.mk (show Rt 58 b [Value.int .i64 sa, .int .i64 sb, .int .i64 0, .slice none 0 0, .slice none 0 0, .slice none 0 0] (w4.setRow b [Value.int .i64 sa, .int .i64 sb, .int .i64 0, .slice none 0 0, .slice none 0 0, .slice none 0 0].toArray) from R4.out.row _)
  have O5 := Aside0.mk (show Rt 58 bo [Value.int .i64 0, .int .i64 0, .int .i64 0, .slice none 0 0, .slice none 0 0, .slice none 0 0] (w4.setRow b [Value.int .i64 sa, .int .i64 sb, .int .i64 0, .slice none 0 0, .slice none 0 0, .slice none 0 0].toArray) from (setRow_other _ _ _ _ (by have := HLT.out; omega)).trans O4.out)
  generalize w4.setRow b [Value.int .i64 sa, .int .i64 sb, .int .i64 0, .slice none 0 0, .slice none 0 0, .slice none 0 0].toArray = w5 at *
  have cr2 := R5.out.cell 2 _ rfl
  have fr2 := R5.out.free 2
  go_wp2_with fail
  go_at_call 66
  refine (q_int K5.out).mono ?_
  rintro e w6 ⟨hb, hp, sc, v, rfl, rfl, hx, hq⟩
  have Xsc := Aside0.mk hx
  have K6 := Aside0.mk hq
  have B6 := Aside0.mk (show Below bo W w6 from B5.out.trans (hb.mono (by have := HLT.out; omega)))
  have R6 := Aside0.mk (show Rt 58 b [Value.int .i64 sa, .int .i64 sb, .int .i64 0, .slice none 0 0, .slice none 0 0, .slice none 0 0] w6 from (hp.2 b R5.out.lt (by have := HLT.out; show b ≠ g; omega)).trans R5.out)
  have O6 := Aside0.mk (show Rt 58 bo [Value.int .i64 0, .int .i64 0, .int .i64 0, .slice none 0 0, .slice none 0 0, .slice none 0 0] w6 from (hp.2 bo O5.out.lt (by have := HLT.out; show bo ≠ g; omega)).trans O5.out)
  clear hb hp hx hq cr2 fr2
  have cr2 := R6.out.cell 2 _ rfl
  have fr2 := R6.out.free 2
  go_upto_region 6 with fail
  have e1 := R6.out.set 2 (.int .i64 sc)
  rw [e1]
  clear e1 cr2 fr2
  have hl : [Value.int .i64 sa, .int .i64 sb, .int .i64 0, .slice none 0 0, .slice none 0 0, .slice none 0 0].set 2 (.int .i64 sc) = [Value.int .i64 sa, .int .i64 sb, .int .i64 sc, .slice none 0 0, .slice none 0 0, .slice none 0 0] := rfl
  rw [hl]
  clear hl
  have K7 := Aside0.mk (K6.out.aside (W' := w6.setRow b [Value.int .i64 sa, .int .i64 sb, .int .i64 sc, .slice none 0 0, .slice none 0 0, .slice none 0 0].toArray) (below_setRow' (Below.refl _ _) (by have := HLT.out; omega) _) (setRow_other _ _ _ _ (by have := HLT.out; omega)))
  have B7 := Aside0.mk (show Below bo W (w6.setRow b [Value.int .i64 sa, .int .i64 sb, .int .i64 sc, .slice none 0 0, .slice none 0 0, .slice none 0 0].toArray) from below_setRow' B6.out (by have := HLT.out; omega) _)
  have R7 := Aside0.mk (show Rt 58 b [Value.int .i64 sa, .int .i64 sb, .int .i64 sc, .slice none 0 0, .slice none 0 0, .slice none 0 0] (w6.setRow b [Value.int .i64 sa, .int .i64 sb, .int .i64 sc, .slice none 0 0, .slice none 0 0, .slice none 0 0].toArray) from R6.out.row _)
  have O7 := Aside0.mk (show Rt 58 bo [Value.int .i64 0, .int .i64 0, .int .i64 0, .slice none 0 0, .slice none 0 0, .slice none 0 0] (w6.setRow b [Value.int .i64 sa, .int .i64 sb, .int .i64 sc, .slice none 0 0, .slice none 0 0, .slice none 0 0].toArray) from (setRow_other _ _ _ _ (by have := HLT.out; omega)).trans O6.out)
  generalize w6.setRow b [Value.int .i64 sa, .int .i64 sb, .int .i64 sc, .slice none 0 0, .slice none 0 0, .slice none 0 0].toArray = w7 at *
  have cr3 := R7.out.cell 3 _ rfl
  have fr3 := R7.out.free 3
  go_wp2_with fail
  go_at_call 67
  refine (q_levels K7.out (by decide)).mono ?_
  rintro e w8 ⟨hb, hp, sl, v, rfl, hE, hx, hq⟩
  obtain ⟨Asl, nsl, csl, ev⟩ := LL_slice hE
  subst ev
  have Lsl_8 := Aside0.mk (show LL (b + 1) sl (.slice Asl nsl csl) w8 from LL_alive.lower hE R7.out.lt)
  clear hE
  have Xsl := Aside0.mk hx
  have K8 := Aside0.mk hq
  have B8 := Aside0.mk (show Below bo W w8 from B7.out.trans (hb.mono (by have := HLT.out; omega)))
  have R8 := Aside0.mk (show Rt 58 b [Value.int .i64 sa, .int .i64 sb, .int .i64 sc, .slice none 0 0, .slice none 0 0, .slice none 0 0] w8 from (hp.2 b R7.out.lt (by have := HLT.out; show b ≠ g; omega)).trans R7.out)
  have O8 := Aside0.mk (show Rt 58 bo [Value.int .i64 0, .int .i64 0, .int .i64 0, .slice none 0 0, .slice none 0 0, .slice none 0 0] w8 from (hp.2 bo O7.out.lt (by have := HLT.out; show bo ≠ g; omega)).trans O7.out)
  clear hb hp hx hq cr3 fr3
  have cr3 := R8.out.cell 3 _ rfl
  have fr3 := R8.out.free 3
  go_upto_region 7 with fail
  have e1 := R8.out.set 3 (.slice Asl nsl csl)
  rw [e1]
  clear e1 cr3 fr3
  have hl : [Value.int .i64 sa, .int .i64 sb, .int .i64 sc, .slice none 0 0, .slice none 0 0, .slice none 0 0].set 3 (.slice Asl nsl csl) = [Value.int .i64 sa, .int .i64 sb, .int .i64 sc, .slice Asl nsl csl, .slice none 0 0, .slice none 0 0] := rfl
  rw [hl]
  clear hl
  have K9 := Aside0.mk (K8.out.aside (W' := w8.setRow b [Value.int .i64 sa, .int .i64 sb, .int .i64 sc, .slice Asl nsl csl, .slice none 0 0, .slice none 0 0].toArray) (below_setRow' (Below.refl _ _) (by have := HLT.out; omega) _) (setRow_other _ _ _ _ (by have := HLT.out; omega)))
  have B9 := Aside0.mk (show Below bo W (w8.setRow b [Value.int .i64 sa, .int .i64 sb, .int .i64 sc, .slice Asl nsl csl, .slice none 0 0, .slice none 0 0].toArray) from below_setRow' B8.out (by have := HLT.out; omega) _)
  have R9 := Aside0.mk (show Rt 58 b [Value.int .i64 sa, .int .i64 sb, .int .i64 sc, .slice Asl nsl csl, .slice none 0 0, .slice none 0 0] (w8.setRow b [Value.int .i64 sa, .int .i64 sb, .int .i64 sc, .slice Asl nsl csl, .slice none 0 0, .slice none 0 0].toArray) from R8.out.row _)
  have O9 := Aside0.mk (show Rt 58 bo [Value.int .i64 0, .int .i64 0, .int .i64 0, .slice none 0 0, .slice none 0 0, .slice none 0 0] (w8.setRow b [Value.int .i64 sa, .int .i64 sb, .int .i64 sc, .slice Asl nsl csl, .slice none 0 0, .slice none 0 0].toArray) from (setRow_other _ _ _ _ (by have := HLT.out; omega)).trans O8.out)
  have Lsl_9 := Aside0.mk (LL_alive.row (b := b) Lsl_8.out (by have := HLT.out; omega) [Value.int .i64 sa, .int .i64 sb, .int .i64 sc, .slice Asl nsl csl, .slice none 0 0, .slice none 0 0].toArray)
  generalize w8.setRow b [Value.int .i64 sa, .int .i64 sb, .int .i64 sc, .slice Asl nsl csl, .slice none 0 0, .slice none 0 0].toArray = w9 at *
  go_wp2_with fail
  go_at_call 96
  refine (q_many K9.out).mono ?_
  rintro e w10 ⟨hb, hp, u, v, rfl, rfl, hu, hq⟩
  have K10 := Aside0.mk hq
  have B10 := Aside0.mk (show Below bo W w10 from B9.out.trans (hb.mono (by have := HLT.out; omega)))
  have R10 := Aside0.mk (show Rt 58 b [Value.int .i64 sa, .int .i64 sb, .int .i64 sc, .slice Asl nsl csl, .slice none 0 0, .slice none 0 0] w10 from (hp.2 b R9.out.lt (by have := HLT.out; show b ≠ g; omega)).trans R9.out)
  have O10 := Aside0.mk (show Rt 58 bo [Value.int .i64 0, .int .i64 0, .int .i64 0, .slice none 0 0, .slice none 0 0, .slice none 0 0] w10 from (hp.2 bo O9.out.lt (by have := HLT.out; show bo ≠ g; omega)).trans O9.out)
  have Lsl_10 := Aside0.mk (LL_alive.kept Lsl_9.out hp (fun j hj e => by have := HLT.out; omega))
  have HI := Aside0.mk (many_is (p := pHeld xs 131072) hq hu)
  obtain ⟨T0, hT0⟩ : ∃ T, (((((s0.bind fun _ m => pI xs m).bind fun _ m => pI xs m).bind fun _ m => pI xs m).bind fun _ m => pList xs 131072 (pLevel xs 131072) m).bind fun _ m => pList xs 131072 (pHeld xs 131072) m) = T := ⟨_, rfl⟩
  rw [hT0] at HI
  have HT0 := Aside0.mk hT0
  clear hb hp hu hq hT0 K10
  go_upto_block 0 with fail
  go_cut [7] from 8 (fun v7 wc => ∃ (u : Nat) (sh : List S121) (Ash : Option Addr) (nsh csh : Nat), v7 = .int .i64 (u : Int) ∧ Aside0 (QSt g g A n c xs 131072 T0 wc) ∧ Aside0 (∀ y m, T0 = .ok y m → y = sh) ∧ Aside0 (LH (b + 1) sh (.slice Ash nsh csh) wc) ∧ Aside0 (Below bo W wc) ∧ Aside0 (Rt 58 b [Value.int .i64 sa, .int .i64 sb, .int .i64 sc, .slice Asl nsl csl, .slice Ash nsh csh, .slice none 0 0] wc) ∧ Aside0 (Rt 58 bo [Value.int .i64 0, .int .i64 0, .int .i64 0, .slice none 0 0, .slice none 0 0, .slice none 0 0] wc) ∧ Aside0 (LL (b + 1) sl (.slice Asl nsl csl) wc))
  case first =>
    go_wp2_with fail
    go_loopw [8] (fun p wr => ∃ (i : Nat) (ls : List S121) (st : Res (List S121)) (Ax : Option Addr) (nx cx : Nat), p = .int .i64 (i : Int) ∧ Aside0 (ls.length = i) ∧ Aside0 (QSt g g A n c xs 131072 st wr) ∧ Aside0 (∀ y m, st = .ok y m → y = ls ∧ i ≤ u ∧ u ≤ 131072) ∧ Aside0 (st.bind (fun l m => pN (pHeld xs 131072) (u - i) l m) = T0) ∧ Aside0 (LH (b + 1) ls (.slice Ax nx cx) wr) ∧ Aside0 (Below bo W wr) ∧ Aside0 (Rt 58 b [Value.int .i64 sa, .int .i64 sb, .int .i64 sc, .slice Asl nsl csl, .slice Ax nx cx, .slice none 0 0] wr) ∧ Aside0 (Rt 58 bo [Value.int .i64 0, .int .i64 0, .int .i64 0, .slice none 0 0, .slice none 0 0, .slice none 0 0] wr) ∧ Aside0 (LL (b + 1) sl (.slice Asl nsl csl) wr)) (fun p _ => u - (intOf p).toNat)
    · obtain ⟨st, h1, h2, h3⟩ := HI.out
      exact ⟨0, [], st, none, 0, 0, rfl, ⟨rfl⟩, ⟨h1⟩, ⟨fun y m h => ⟨(h2 y m h).1, Nat.zero_le _, (h2 y m h).2⟩⟩, ⟨h3⟩, ⟨Kd.R_nil _ _ _ _ _⟩, B10, R10, O10, Lsl_10⟩
    · obtain ⟨i, ls, st, Ax, nx, cx, rfl, HLN, HQ, HST, HPN, HR, HBr, HRr, HOr, HLsl⟩ := hrel
      by_cases ci : i < u
      rotate_left
      · have ci1 : decide ((i : Int) < (u : Int)) = false := decide_eq_false (by omega)
        have HE := Aside0.mk (show QSt g g A n c xs 131072 T0 wr ∧ ∀ y m, T0 = .ok y m → y = ls from by
          have h := HPN.out
          rw [show u - i = 0 from by omega] at h
          cases st with
          | fail e p =>
            simp only [Res.bind] at h
            rw [← h]
            exact ⟨HQ.out, fun y m h => by simp at h⟩
          | ok y m =>
            simp only [Res.bind, pN] at h
            rw [← h]
            exact ⟨HQ.out, fun z m2 h => by
              injection h with h1 _
              rw [← h1]
              exact (HST.out y m rfl).1⟩)
        have ci2 : ((i : Int) < (u : Int)) = False := eq_false (by omega)
        have ci3 : decide (i < u) = false := decide_eq_false ci
        have ci4 : (i < u) = False := eq_false ci
        obtain ⟨e, hc3, hcs⟩ := HQ.out.cell3
        clear ci hcs
        go_wp2_with fail
        go_meet
        case rel => exact ⟨u, ls, Ax, nx, cx, rfl, ⟨HE.out.1⟩, ⟨HE.out.2⟩, HR, HBr, HRr, HOr, HLsl⟩
      have ci1 : decide ((i : Int) < (u : Int)) = true := decide_eq_true (by omega)
      obtain ⟨e, hc3, hcs⟩ := HQ.out.cell3
      rcases hcs with ⟨⟨y, m, hst⟩, rfl⟩ | ⟨⟨p, hst⟩, he⟩
      rotate_left
      · have HE := Aside0.mk (show QSt g g A n c xs 131072 T0 wr ∧ ∀ y m, T0 = .ok y m → y = ls from by
          have h := HPN.out
          rw [hst] at h
          have h : Res.fail e p = T0 := h
          rw [← h, ← hst]
          exact ⟨HQ.out, fun y m h => by rw [hst] at h; simp at h⟩)
        have h1 : (e == 0) = false := by simpa using he
        have h2 : decide (e = 0) = false := decide_eq_false he
        clear he
        go_wp2_with fail
        go_meet
        case rel => exact ⟨u, ls, Ax, nx, cx, rfl, ⟨HE.out.1⟩, ⟨HE.out.2⟩, HR, HBr, HRr, HOr, HLsl⟩
      subst hst
      obtain ⟨rfl, hiu, hum⟩ := HST.out _ _ rfl
      have HUM := Aside0.mk (And.intro hiu hum)
      have hw1 : wrap64 ((i : Int) + 1) = ((i + 1 : Nat) : Int) := by unfold wrap64; omega
      clear hiu hum
      have HOU := Aside0.mk (own_under HR.out)
      go_upto_region 12 with fail
      have hr1 : Rt 121 wr.heap.size [.string ⟨#[]⟩, .slice none 0 0, .int .i64 0] (wr.alloc (.cells #[.string ⟨#[]⟩, .slice none 0 0, .int .i64 0] 121)) := heap_alloc_new wr _
      have hb1 : Below wr.heap.size wr (wr.alloc (.cells #[.string ⟨#[]⟩, .slice none 0 0, .int .i64 0] 121)) := below_alloc (Below.refl _ _) _
      obtain ⟨eb, hbe⟩ : ∃ eb, wr.heap.size = eb := ⟨_, rfl⟩
      have HL0 := HLT.out
      have HLT := Aside0.mk (show bo < g ∧ g < b ∧ b < eb by have := HRr.out.lt; omega)
      clear HL0
      have K101 := Aside0.mk (HQ.out.below hb1)
      have B101 := Aside0.mk (HBr.out.trans (hb1.mono (by have := HLT.out; omega)))
      have R101 := Aside0.mk (HRr.out.below hb1)
      have O101 := Aside0.mk (HOr.out.below hb1)
      have Lsl_101 := Aside0.mk (LL_alive.below HLsl.out hb1)
      have Y101 := Aside0.mk (show k121.R 121 (wr.alloc (.cells #[.string ⟨#[]⟩, .slice none 0 0, .int .i64 0] 121)) (b + 1) (fun j => j ≠ eb) (.slice Ax nx cx) y from Kd.R_mono (Kd.R_below (Kd.R_bound HR.out) hb1) (fun j hj e => by have := hj.2.2; omega))
      rw [hbe] at hr1 HOU ⊢
      have H101 := Aside0.mk hr1
      clear hr1 hb1 hbe hc3
      generalize wr.alloc (.cells #[.string ⟨#[]⟩, .slice none 0 0, .int .i64 0] 121) = w101 at *
      have cr0 := H101.out.cell 0 _ rfl
      have fr0 := H101.out.free 0
      go_wp2_with fail
      go_at_call 65
      refine (q_text K101.out).mono ?_
      rintro e w102 ⟨hb, hp, t, v, rfl, rfl, hx, hq⟩
      have Xt := Aside0.mk hx
      have K102 := Aside0.mk hq
      have B102 := Aside0.mk (show Below bo W w102 from B101.out.trans (hb.mono (by have := HLT.out; omega)))
      have R102 := Aside0.mk (show Rt 58 b [Value.int .i64 sa, .int .i64 sb, .int .i64 sc, .slice Asl nsl csl, .slice Ax nx cx, .slice none 0 0] w102 from (hp.2 b R101.out.lt (by have := HLT.out; show b ≠ g; omega)).trans R101.out)
      have O102 := Aside0.mk (show Rt 58 bo [Value.int .i64 0, .int .i64 0, .int .i64 0, .slice none 0 0, .slice none 0 0, .slice none 0 0] w102 from (hp.2 bo O101.out.lt (by have := HLT.out; show bo ≠ g; omega)).trans O101.out)
      have H102 := Aside0.mk (show Rt 121 eb [Value.string ⟨#[]⟩, .slice none 0 0, .int .i64 0] w102 from (hp.2 eb H101.out.lt (by have := HLT.out; show eb ≠ g; omega)).trans H101.out)
      have Lsl_102 := Aside0.mk (LL_alive.kept Lsl_101.out hp (fun j hj e => by have := HLT.out; omega))
      have Y102 := Aside0.mk (show k121.R 121 w102 (b + 1) (fun j => j ≠ eb) (.slice Ax nx cx) y from Kd.R_mono (Kd.R_kept (Kd.R_bound Y101.out) hp (fun j hj e => by have := hj.2.1; have := HLT.out; omega)) (fun j hj => hj.1))
      clear hb hp hx hq cr0 fr0
      have cr0 := H102.out.cell 0 _ rfl
      have fr0 := H102.out.free 0
      go_upto_region 13 with fail
      have e1 := H102.out.set 0 (.string t)
      rw [e1]
      clear e1 cr0 fr0
      have hl : [Value.string ⟨#[]⟩, .slice none 0 0, .int .i64 0].set 0 (.string t) = [Value.string t, .slice none 0 0, .int .i64 0] := rfl
      rw [hl]
      clear hl
      have K103 := Aside0.mk (K102.out.aside (W' := w102.setRow eb [Value.string t, .slice none 0 0, .int .i64 0].toArray) (below_setRow' (Below.refl _ _) (by have := HLT.out; omega) _) (setRow_other _ _ _ _ (by have := HLT.out; omega)))
      have B103 := Aside0.mk (show Below bo W (w102.setRow eb [Value.string t, .slice none 0 0, .int .i64 0].toArray) from below_setRow' B102.out (by have := HLT.out; omega) _)
      have R103 := Aside0.mk (show Rt 58 b [Value.int .i64 sa, .int .i64 sb, .int .i64 sc, .slice Asl nsl csl, .slice Ax nx cx, .slice none 0 0] (w102.setRow eb [Value.string t, .slice none 0 0, .int .i64 0].toArray) from (setRow_other _ _ _ _ (by have := HLT.out; omega)).trans R102.out)
      have O103 := Aside0.mk (show Rt 58 bo [Value.int .i64 0, .int .i64 0, .int .i64 0, .slice none 0 0, .slice none 0 0, .slice none 0 0] (w102.setRow eb [Value.string t, .slice none 0 0, .int .i64 0].toArray) from (setRow_other _ _ _ _ (by have := HLT.out; omega)).trans O102.out)
      have H103 := Aside0.mk (show Rt 121 eb [Value.string t, .slice none 0 0, .int .i64 0] (w102.setRow eb [Value.string t, .slice none 0 0, .int .i64 0].toArray) from H102.out.row _)
      have Lsl_103 := Aside0.mk (show LL (b + 1) sl (.slice Asl nsl csl) (w102.setRow eb [Value.string t, .slice none 0 0, .int .i64 0].toArray) from R_store Lsl_102.out H102.out (by decide) _)
      have Y103 := Aside0.mk (show k121.R 121 (w102.setRow eb [Value.string t, .slice none 0 0, .int .i64 0].toArray) (b + 1) (fun j => j ≠ eb) (.slice Ax nx cx) y from Kd.R_step Y102.out (fun j hne _ => setRow_other _ _ _ _ hne))
      generalize w102.setRow eb [Value.string t, .slice none 0 0, .int .i64 0].toArray = w103 at *
      have cr1 := H103.out.cell 1 _ rfl
      have fr1 := H103.out.free 1
      go_wp2_with fail
      go_at_call 97
      refine (q_lines K103.out (by decide)).mono ?_
      rintro e w104 ⟨hb, hp, l, v, rfl, hE, hx, hq⟩
      obtain ⟨Al, nl, cl, ev⟩ := LN_slice hE
      subst ev
      have Ll_104 := Aside0.mk (show LN (eb + 1) l (.slice Al nl cl) w104 from LN_alive.lower hE H103.out.lt)
      clear hE
      have Xl := Aside0.mk hx
      have K104 := Aside0.mk hq
      have B104 := Aside0.mk (show Below bo W w104 from B103.out.trans (hb.mono (by have := HLT.out; omega)))
      have R104 := Aside0.mk (show Rt 58 b [Value.int .i64 sa, .int .i64 sb, .int .i64 sc, .slice Asl nsl csl, .slice Ax nx cx, .slice none 0 0] w104 from (hp.2 b R103.out.lt (by have := HLT.out; show b ≠ g; omega)).trans R103.out)
      have O104 := Aside0.mk (show Rt 58 bo [Value.int .i64 0, .int .i64 0, .int .i64 0, .slice none 0 0, .slice none 0 0, .slice none 0 0] w104 from (hp.2 bo O103.out.lt (by have := HLT.out; show bo ≠ g; omega)).trans O103.out)
      have H104 := Aside0.mk (show Rt 121 eb [Value.string t, .slice none 0 0, .int .i64 0] w104 from (hp.2 eb H103.out.lt (by have := HLT.out; show eb ≠ g; omega)).trans H103.out)
      have Lsl_104 := Aside0.mk (LL_alive.kept Lsl_103.out hp (fun j hj e => by have := HLT.out; omega))
      have Y104 := Aside0.mk (show k121.R 121 w104 (b + 1) (fun j => j ≠ eb) (.slice Ax nx cx) y from Kd.R_mono (Kd.R_kept (Kd.R_bound Y103.out) hp (fun j hj e => by have := hj.2.1; have := HLT.out; omega)) (fun j hj => hj.1))
      clear hb hp hx hq cr1 fr1
      have cr1 := H104.out.cell 1 _ rfl
      have fr1 := H104.out.free 1
      go_upto_region 14 with fail
      have e1 := H104.out.set 1 (.slice Al nl cl)
      rw [e1]
      clear e1 cr1 fr1
      have hl : [Value.string t, .slice none 0 0, .int .i64 0].set 1 (.slice Al nl cl) = [Value.string t, .slice Al nl cl, .int .i64 0] := rfl
      rw [hl]
      clear hl
      have K105 := Aside0.mk (K104.out.aside (W' := w104.setRow eb [Value.string t, .slice Al nl cl, .int .i64 0].toArray) (below_setRow' (Below.refl _ _) (by have := HLT.out; omega) _) (setRow_other _ _ _ _ (by have := HLT.out; omega)))
      have B105 := Aside0.mk (show Below bo W (w104.setRow eb [Value.string t, .slice Al nl cl, .int .i64 0].toArray) from below_setRow' B104.out (by have := HLT.out; omega) _)
      have R105 := Aside0.mk (show Rt 58 b [Value.int .i64 sa, .int .i64 sb, .int .i64 sc, .slice Asl nsl csl, .slice Ax nx cx, .slice none 0 0] (w104.setRow eb [Value.string t, .slice Al nl cl, .int .i64 0].toArray) from (setRow_other _ _ _ _ (by have := HLT.out; omega)).trans R104.out)
      have O105 := Aside0.mk (show Rt 58 bo [Value.int .i64 0, .int .i64 0, .int .i64 0, .slice none 0 0, .slice none 0 0, .slice none 0 0] (w104.setRow eb [Value.string t, .slice Al nl cl, .int .i64 0].toArray) from (setRow_other _ _ _ _ (by have := HLT.out; omega)).trans O104.out)
      have H105 := Aside0.mk (show Rt 121 eb [Value.string t, .slice Al nl cl, .int .i64 0] (w104.setRow eb [Value.string t, .slice Al nl cl, .int .i64 0].toArray) from H104.out.row _)
      have Lsl_105 := Aside0.mk (show LL (b + 1) sl (.slice Asl nsl csl) (w104.setRow eb [Value.string t, .slice Al nl cl, .int .i64 0].toArray) from R_store Lsl_104.out H104.out (by decide) _)
      have Ll_105 := Aside0.mk (LN_alive.row (b := eb) Ll_104.out (by have := HLT.out; omega) [Value.string t, .slice Al nl cl, .int .i64 0].toArray)
      have Y105 := Aside0.mk (show k121.R 121 (w104.setRow eb [Value.string t, .slice Al nl cl, .int .i64 0].toArray) (b + 1) (fun j => j ≠ eb) (.slice Ax nx cx) y from Kd.R_step Y104.out (fun j hne _ => setRow_other _ _ _ _ hne))
      generalize w104.setRow eb [Value.string t, .slice Al nl cl, .int .i64 0].toArray = w105 at *
      have cr2 := H105.out.cell 2 _ rfl
      have fr2 := H105.out.free 2
      go_wp2_with fail
      go_at_call 66
      refine (q_int K105.out).mono ?_
      rintro e w106 ⟨hb, hp, a, v, rfl, rfl, hx, hq⟩
      have Xa := Aside0.mk hx
      have K106 := Aside0.mk hq
      have B106 := Aside0.mk (show Below bo W w106 from B105.out.trans (hb.mono (by have := HLT.out; omega)))
      have R106 := Aside0.mk (show Rt 58 b [Value.int .i64 sa, .int .i64 sb, .int .i64 sc, .slice Asl nsl csl, .slice Ax nx cx, .slice none 0 0] w106 from (hp.2 b R105.out.lt (by have := HLT.out; show b ≠ g; omega)).trans R105.out)
      have O106 := Aside0.mk (show Rt 58 bo [Value.int .i64 0, .int .i64 0, .int .i64 0, .slice none 0 0, .slice none 0 0, .slice none 0 0] w106 from (hp.2 bo O105.out.lt (by have := HLT.out; show bo ≠ g; omega)).trans O105.out)
      have H106 := Aside0.mk (show Rt 121 eb [Value.string t, .slice Al nl cl, .int .i64 0] w106 from (hp.2 eb H105.out.lt (by have := HLT.out; show eb ≠ g; omega)).trans H105.out)
      have Lsl_106 := Aside0.mk (LL_alive.kept Lsl_105.out hp (fun j hj e => by have := HLT.out; omega))
      have Ll_106 := Aside0.mk (LN_alive.kept Ll_105.out hp (fun j hj e => by have := HLT.out; omega))
      have Y106 := Aside0.mk (show k121.R 121 w106 (b + 1) (fun j => j ≠ eb) (.slice Ax nx cx) y from Kd.R_mono (Kd.R_kept (Kd.R_bound Y105.out) hp (fun j hj e => by have := hj.2.1; have := HLT.out; omega)) (fun j hj => hj.1))
      clear hb hp hx hq cr2 fr2
      have cr2 := H106.out.cell 2 _ rfl
      have fr2 := H106.out.free 2
      go_upto_region 15 with fail
      have e1 := H106.out.set 2 (.int .i64 a)
      rw [e1]
      clear e1 cr2 fr2
      have hl : [Value.string t, .slice Al nl cl, .int .i64 0].set 2 (.int .i64 a) = [Value.string t, .slice Al nl cl, .int .i64 a] := rfl
      rw [hl]
      clear hl
      have K107 := Aside0.mk (K106.out.aside (W' := w106.setRow eb [Value.string t, .slice Al nl cl, .int .i64 a].toArray) (below_setRow' (Below.refl _ _) (by have := HLT.out; omega) _) (setRow_other _ _ _ _ (by have := HLT.out; omega)))
      have B107 := Aside0.mk (show Below bo W (w106.setRow eb [Value.string t, .slice Al nl cl, .int .i64 a].toArray) from below_setRow' B106.out (by have := HLT.out; omega) _)
      have R107 := Aside0.mk (show Rt 58 b [Value.int .i64 sa, .int .i64 sb, .int .i64 sc, .slice Asl nsl csl, .slice Ax nx cx, .slice none 0 0] (w106.setRow eb [Value.string t, .slice Al nl cl, .int .i64 a].toArray) from (setRow_other _ _ _ _ (by have := HLT.out; omega)).trans R106.out)
      have O107 := Aside0.mk (show Rt 58 bo [Value.int .i64 0, .int .i64 0, .int .i64 0, .slice none 0 0, .slice none 0 0, .slice none 0 0] (w106.setRow eb [Value.string t, .slice Al nl cl, .int .i64 a].toArray) from (setRow_other _ _ _ _ (by have := HLT.out; omega)).trans O106.out)
      have H107 := Aside0.mk (show Rt 121 eb [Value.string t, .slice Al nl cl, .int .i64 a] (w106.setRow eb [Value.string t, .slice Al nl cl, .int .i64 a].toArray) from H106.out.row _)
      have Lsl_107 := Aside0.mk (show LL (b + 1) sl (.slice Asl nsl csl) (w106.setRow eb [Value.string t, .slice Al nl cl, .int .i64 a].toArray) from R_store Lsl_106.out H106.out (by decide) _)
      have Ll_107 := Aside0.mk (LN_alive.row (b := eb) Ll_106.out (by have := HLT.out; omega) [Value.string t, .slice Al nl cl, .int .i64 a].toArray)
      have Y107 := Aside0.mk (show k121.R 121 (w106.setRow eb [Value.string t, .slice Al nl cl, .int .i64 a].toArray) (b + 1) (fun j => j ≠ eb) (.slice Ax nx cx) y from Kd.R_step Y106.out (fun j hne _ => setRow_other _ _ _ _ hne))
      generalize w106.setRow eb [Value.string t, .slice Al nl cl, .int .i64 a].toArray = w107 at *
      have HE := held_is K107.out Xt.out Xl.out Xa.out
      have HN := Aside0.mk (oneMoreP_is HE.1 HE.2 HPN.out ci)
      clear HE
      have S7 := Aside0.mk (show b + 1 ≤ w107.heap.size by have := H107.out.lt; have := HLT.out; omega)
      have HSZ := Aside0.mk (show (y.length + 1) * 48 ≤ 140737488355328 by have := HLN.out; have := HUM.out; omega)
      have x0 := H107.out.cell 0 _ rfl
      have x1 := H107.out.cell 1 _ rfl
      have x2 := H107.out.cell 2 _ rfl
      have q4 := R107.out.cell 4 _ rfl
      have RX := Aside0.mk (show k121.R 121 w107 (b + 1) (fun _ => True) (.slice Ax nx cx) y from Kd.R_mono Y107.out (fun _ _ => trivial))
      have MX := Aside0.mk (show k121.M w107 (b + 1) (fun j => eb + 1 ≤ j) (⟨t, l, a⟩ : S121) [Value.string t, .slice Al nl cl, .int .i64 a] from k121_mkM _ _ _ ⟨t, l, a⟩ (Kd.R_lower (Kd.R_mono (Kd.R_bound Ll_107.out) (fun j hj => hj.2.1)) (by have := HLT.out; omega)))
      go_upto_region 10 with (first | (
        (with_reducible refine gate_builtin (b := .append) (xs := #[.tmp 54, .tmp 56]) rfl ?_)
        at_builtin
        refine Kd.R_append k121 (w0 := w107) (b + 1) rfl (.tmp 54) (.tmp 56) 55 121 (.agg #[.string ⟨#[]⟩, .slice none 0 0, .int .i64 0]) 48 rfl Try.underlying55 info121 rfl (by decide) (by decide) _ y ⟨t, l, a⟩ [Value.string t, .slice Al nl cl, .int .i64 a] (fun _ => True) (fun j => eb + 1 ≤ j) rfl rfl MX.out (fun j hj => ⟨trivial, fun e => by have := HOU.out j e.symm; omega⟩) (fun _ _ => trivial) RX.out (Below.refl _ _) S7.out HSZ.out ?_
        intro v1 w120 ho hb hg hat
        obtain ⟨A9, c9, ev9⟩ := Kd.R_slice ho
        obtain ⟨n9, hn9⟩ : ∃ n9, (y ++ [(⟨t, l, a⟩ : S121)]).length = n9 := ⟨_, rfl⟩
        rw [hn9] at ev9
        subst ev9
        have Lnew_120 := Aside0.mk (show LH (b + 1) (y ++ [(⟨t, l, a⟩ : S121)]) (.slice A9 n9 c9) w120 from ho)
        have K120 := Aside0.mk (HN.out.1.aside (hb.mono (by have := HLT.out; omega)) (hb.block g (by have := HLT.out; omega)))
        have B120 := Aside0.mk (show Below bo W w120 from B107.out.trans (hb.mono (by have := HLT.out; omega)))
        have R120 := Aside0.mk (show Rt 58 b [Value.int .i64 sa, .int .i64 sb, .int .i64 sc, .slice Asl nsl csl, .slice Ax nx cx, .slice none 0 0] w120 from (hb.block b (by have := HLT.out; omega)).trans R107.out)
        have O120 := Aside0.mk (show Rt 58 bo [Value.int .i64 0, .int .i64 0, .int .i64 0, .slice none 0 0, .slice none 0 0, .slice none 0 0] w120 from (hb.block bo (by have := HLT.out; omega)).trans O107.out)
        have Lsl_120 := Aside0.mk (show LL (b + 1) sl (.slice Asl nsl csl) w120 from R_aside Lsl_107.out RX.out (by decide) hg)
        have p4 := R120.out.cell 4 _ rfl
        have f4 := R120.out.free 4
        clear ho hb hg hat hn9))
      rw [R120.out.set 4 (.slice A9 n9 c9)]
      have hl : [Value.int .i64 sa, .int .i64 sb, .int .i64 sc, .slice Asl nsl csl, .slice Ax nx cx, .slice none 0 0].set 4 (.slice A9 n9 c9) = [Value.int .i64 sa, .int .i64 sb, .int .i64 sc, .slice Asl nsl csl, .slice A9 n9 c9, .slice none 0 0] := rfl
      rw [hl]
      clear hl p4 f4
      have K121 := Aside0.mk (K120.out.aside (W' := w120.setRow b [Value.int .i64 sa, .int .i64 sb, .int .i64 sc, .slice Asl nsl csl, .slice A9 n9 c9, .slice none 0 0].toArray) (below_setRow' (Below.refl _ _) (by have := HLT.out; omega) _) (setRow_other _ _ _ _ (by have := HLT.out; omega)))
      have B121 := Aside0.mk (show Below bo W (w120.setRow b [Value.int .i64 sa, .int .i64 sb, .int .i64 sc, .slice Asl nsl csl, .slice A9 n9 c9, .slice none 0 0].toArray) from below_setRow' B120.out (by have := HLT.out; omega) _)
      have R121 := Aside0.mk (show Rt 58 b [Value.int .i64 sa, .int .i64 sb, .int .i64 sc, .slice Asl nsl csl, .slice A9 n9 c9, .slice none 0 0] (w120.setRow b [Value.int .i64 sa, .int .i64 sb, .int .i64 sc, .slice Asl nsl csl, .slice A9 n9 c9, .slice none 0 0].toArray) from R120.out.row _)
      have O121 := Aside0.mk (show Rt 58 bo [Value.int .i64 0, .int .i64 0, .int .i64 0, .slice none 0 0, .slice none 0 0, .slice none 0 0] (w120.setRow b [Value.int .i64 sa, .int .i64 sb, .int .i64 sc, .slice Asl nsl csl, .slice A9 n9 c9, .slice none 0 0].toArray) from (setRow_other _ _ _ _ (by have := HLT.out; omega)).trans O120.out)
      have Lsl_121 := Aside0.mk (LL_alive.row (b := b) Lsl_120.out (by have := HLT.out; omega) [Value.int .i64 sa, .int .i64 sb, .int .i64 sc, .slice Asl nsl csl, .slice A9 n9 c9, .slice none 0 0].toArray)
      have Lnew_121 := Aside0.mk (LH_alive.row (b := b) Lnew_120.out (by have := HLT.out; omega) [Value.int .i64 sa, .int .i64 sb, .int .i64 sc, .slice Asl nsl csl, .slice A9 n9 c9, .slice none 0 0].toArray)
      generalize w120.setRow b [Value.int .i64 sa, .int .i64 sb, .int .i64 sc, .slice Asl nsl csl, .slice A9 n9 c9, .slice none 0 0].toArray = w121 at *
      go_wp2_with fail
      refine ⟨⟨i + 1, y ++ [⟨t, l, a⟩], oneMoreP (pHeld xs 131072) m y, A9, n9, c9, congrArg (Value.int .i64) (by omega), ⟨by rw [List.length_append, HLN.out]; rfl⟩, K121, ⟨fun l m2 h => ⟨HN.out.2.1 l m2 h, ci, HUM.out.2⟩⟩, ⟨HN.out.2.2⟩, Lnew_121, B121, R121, O121, Lsl_121⟩, ?_⟩
      rw [hw1]
      show u - (((i + 1 : Nat) : Int)).toNat < u - ((i : Nat) : Int).toNat
      omega
  case rest =>
    obtain ⟨u, sh, Ash, nsh, csh, rfl, K11, Esh, Lsh_11, B11, R11, O11, Lsl_11⟩ := hcut
    obtain ⟨w11, hw11⟩ : ∃ w, w = wc := ⟨_, rfl⟩
    subst hw11
    clear HI K9 B10 R10 O10 Lsl_10
    rw [← HT0.out] at K11 Esh
    go_wp2_with fail
    go_at_call 96
    refine (q_many K11.out).mono ?_
    rintro e w12 ⟨hb, hp, u, v, rfl, rfl, hu, hq⟩
    have K12 := Aside0.mk hq
    have B12 := Aside0.mk (show Below bo W w12 from B11.out.trans (hb.mono (by have := HLT.out; omega)))
    have R12 := Aside0.mk (show Rt 58 b [Value.int .i64 sa, .int .i64 sb, .int .i64 sc, .slice Asl nsl csl, .slice Ash nsh csh, .slice none 0 0] w12 from (hp.2 b R11.out.lt (by have := HLT.out; show b ≠ g; omega)).trans R11.out)
    have O12 := Aside0.mk (show Rt 58 bo [Value.int .i64 0, .int .i64 0, .int .i64 0, .slice none 0 0, .slice none 0 0, .slice none 0 0] w12 from (hp.2 bo O11.out.lt (by have := HLT.out; show bo ≠ g; omega)).trans O11.out)
    have Lsl_12 := Aside0.mk (LL_alive.kept Lsl_11.out hp (fun j hj e => by have := HLT.out; omega))
    have Lsh_12 := Aside0.mk (LH_alive.kept Lsh_11.out hp (fun j hj e => by have := HLT.out; omega))
    have HI := Aside0.mk (many_is (p := pDone xs 131072) hq hu)
    obtain ⟨T1, hT1⟩ : ∃ T, ((((((s0.bind fun _ m => pI xs m).bind fun _ m => pI xs m).bind fun _ m => pI xs m).bind fun _ m => pList xs 131072 (pLevel xs 131072) m).bind fun _ m => pList xs 131072 (pHeld xs 131072) m).bind fun _ m => pList xs 131072 (pDone xs 131072) m) = T := ⟨_, rfl⟩
    rw [hT1] at HI
    have HT1 := Aside0.mk hT1
    clear hb hp hu hq hT1 K12
    go_upto_block 2 with fail
    go_cut [7] from 8 (fun v7 wc => ∃ (u : Nat) (sd : List S123) (Asd : Option Addr) (nsd csd : Nat), v7 = .int .i64 (u : Int) ∧ Aside0 (QSt g g A n c xs 131072 T1 wc) ∧ Aside0 (∀ y m, T1 = .ok y m → y = sd) ∧ Aside0 (LD (b + 1) sd (.slice Asd nsd csd) wc) ∧ Aside0 (Below bo W wc) ∧ Aside0 (Rt 58 b [Value.int .i64 sa, .int .i64 sb, .int .i64 sc, .slice Asl nsl csl, .slice Ash nsh csh, .slice Asd nsd csd] wc) ∧ Aside0 (Rt 58 bo [Value.int .i64 0, .int .i64 0, .int .i64 0, .slice none 0 0, .slice none 0 0, .slice none 0 0] wc) ∧ Aside0 (LL (b + 1) sl (.slice Asl nsl csl) wc) ∧ Aside0 (LH (b + 1) sh (.slice Ash nsh csh) wc))
    case first =>
      go_wp2_with fail
      go_loopw [10] (fun p wr => ∃ (i : Nat) (ls : List S123) (st : Res (List S123)) (Ax : Option Addr) (nx cx : Nat), p = .int .i64 (i : Int) ∧ Aside0 (ls.length = i) ∧ Aside0 (QSt g g A n c xs 131072 st wr) ∧ Aside0 (∀ y m, st = .ok y m → y = ls ∧ i ≤ u ∧ u ≤ 131072) ∧ Aside0 (st.bind (fun l m => pN (pDone xs 131072) (u - i) l m) = T1) ∧ Aside0 (LD (b + 1) ls (.slice Ax nx cx) wr) ∧ Aside0 (Below bo W wr) ∧ Aside0 (Rt 58 b [Value.int .i64 sa, .int .i64 sb, .int .i64 sc, .slice Asl nsl csl, .slice Ash nsh csh, .slice Ax nx cx] wr) ∧ Aside0 (Rt 58 bo [Value.int .i64 0, .int .i64 0, .int .i64 0, .slice none 0 0, .slice none 0 0, .slice none 0 0] wr) ∧ Aside0 (LL (b + 1) sl (.slice Asl nsl csl) wr) ∧ Aside0 (LH (b + 1) sh (.slice Ash nsh csh) wr)) (fun p _ => u - (intOf p).toNat)
      · obtain ⟨st, h1, h2, h3⟩ := HI.out
        exact ⟨0, [], st, none, 0, 0, rfl, ⟨rfl⟩, ⟨h1⟩, ⟨fun y m h => ⟨(h2 y m h).1, Nat.zero_le _, (h2 y m h).2⟩⟩, ⟨h3⟩, ⟨Kd.R_nil _ _ _ _ _⟩, B12, R12, O12, Lsl_12, Lsh_12⟩
      · obtain ⟨i, ls, st, Ax, nx, cx, rfl, HLN, HQ, HST, HPN, HR, HBr, HRr, HOr, HLsl, HLsh⟩ := hrel
        by_cases ci : i < u
        rotate_left
        · have ci1 : decide ((i : Int) < (u : Int)) = false := decide_eq_false (by omega)
          have HE := Aside0.mk (show QSt g g A n c xs 131072 T1 wr ∧ ∀ y m, T1 = .ok y m → y = ls from by
            have h := HPN.out
            rw [show u - i = 0 from by omega] at h
            cases st with
            | fail e p =>
              simp only [Res.bind] at h
              rw [← h]
              exact ⟨HQ.out, fun y m h => by simp at h⟩
            | ok y m =>
              simp only [Res.bind, pN] at h
              rw [← h]
              exact ⟨HQ.out, fun z m2 h => by
                injection h with h1 _
                rw [← h1]
                exact (HST.out y m rfl).1⟩)
          have ci2 : ((i : Int) < (u : Int)) = False := eq_false (by omega)
          have ci3 : decide (i < u) = false := decide_eq_false ci
          have ci4 : (i < u) = False := eq_false ci
          obtain ⟨e, hc3, hcs⟩ := HQ.out.cell3
          clear ci hcs
          go_wp2_with fail
          go_meet
          case rel => exact ⟨u, ls, Ax, nx, cx, rfl, ⟨HE.out.1⟩, ⟨HE.out.2⟩, HR, HBr, HRr, HOr, HLsl, HLsh⟩
        have ci1 : decide ((i : Int) < (u : Int)) = true := decide_eq_true (by omega)
        obtain ⟨e, hc3, hcs⟩ := HQ.out.cell3
        rcases hcs with ⟨⟨y, m, hst⟩, rfl⟩ | ⟨⟨p, hst⟩, he⟩
        rotate_left
        · have HE := Aside0.mk (show QSt g g A n c xs 131072 T1 wr ∧ ∀ y m, T1 = .ok y m → y = ls from by
            have h := HPN.out
            rw [hst] at h
            have h : Res.fail e p = T1 := h
            rw [← h, ← hst]
            exact ⟨HQ.out, fun y m h => by rw [hst] at h; simp at h⟩)
          have h1 : (e == 0) = false := by simpa using he
          have h2 : decide (e = 0) = false := decide_eq_false he
          clear he
          go_wp2_with fail
          go_meet
          case rel => exact ⟨u, ls, Ax, nx, cx, rfl, ⟨HE.out.1⟩, ⟨HE.out.2⟩, HR, HBr, HRr, HOr, HLsl, HLsh⟩
        subst hst
        obtain ⟨rfl, hiu, hum⟩ := HST.out _ _ rfl
        have HUM := Aside0.mk (And.intro hiu hum)
        have hw1 : wrap64 ((i : Int) + 1) = ((i + 1 : Nat) : Int) := by unfold wrap64; omega
        clear hiu hum
        have HOU := Aside0.mk (own_under HR.out)
        go_upto_region 21 with fail
        have hr1 : Rt 123 wr.heap.size [.string ⟨#[]⟩, .int .i64 0, .slice none 0 0, .string ⟨#[]⟩, .int .i64 0, .int .i64 0, .int .i64 0] (wr.alloc (.cells #[.string ⟨#[]⟩, .int .i64 0, .slice none 0 0, .string ⟨#[]⟩, .int .i64 0, .int .i64 0, .int .i64 0] 123)) := heap_alloc_new wr _
        have hb1 : Below wr.heap.size wr (wr.alloc (.cells #[.string ⟨#[]⟩, .int .i64 0, .slice none 0 0, .string ⟨#[]⟩, .int .i64 0, .int .i64 0, .int .i64 0] 123)) := below_alloc (Below.refl _ _) _
        obtain ⟨eb, hbe⟩ : ∃ eb, wr.heap.size = eb := ⟨_, rfl⟩
        have HL0 := HLT.out
        have HLT := Aside0.mk (show bo < g ∧ g < b ∧ b < eb by have := HRr.out.lt; omega)
        clear HL0
        have K101 := Aside0.mk (HQ.out.below hb1)
        have B101 := Aside0.mk (HBr.out.trans (hb1.mono (by have := HLT.out; omega)))
        have R101 := Aside0.mk (HRr.out.below hb1)
        have O101 := Aside0.mk (HOr.out.below hb1)
        have Lsl_101 := Aside0.mk (LL_alive.below HLsl.out hb1)
        have Lsh_101 := Aside0.mk (LH_alive.below HLsh.out hb1)
        have Y101 := Aside0.mk (show k123.R 123 (wr.alloc (.cells #[.string ⟨#[]⟩, .int .i64 0, .slice none 0 0, .string ⟨#[]⟩, .int .i64 0, .int .i64 0, .int .i64 0] 123)) (b + 1) (fun j => j ≠ eb) (.slice Ax nx cx) y from Kd.R_mono (Kd.R_below (Kd.R_bound HR.out) hb1) (fun j hj e => by have := hj.2.2; omega))
        rw [hbe] at hr1 HOU ⊢
        have H101 := Aside0.mk hr1
        clear hr1 hb1 hbe hc3
        generalize wr.alloc (.cells #[.string ⟨#[]⟩, .int .i64 0, .slice none 0 0, .string ⟨#[]⟩, .int .i64 0, .int .i64 0, .int .i64 0] 123) = w101 at *
        have cr0 := H101.out.cell 0 _ rfl
        have fr0 := H101.out.free 0
        have cr1 := H101.out.cell 1 _ rfl
        have fr1 := H101.out.free 1
        have cr2 := H101.out.cell 2 _ rfl
        have fr2 := H101.out.free 2
        have cr3 := H101.out.cell 3 _ rfl
        have fr3 := H101.out.free 3
        have cr4 := H101.out.cell 4 _ rfl
        have fr4 := H101.out.free 4
        have cr5 := H101.out.cell 5 _ rfl
        have fr5 := H101.out.free 5
        go_wp2_with fail
        go_at_call 76
        refine (q_request K101.out (by decide)).mono ?_
        rintro e w102 ⟨hb, hp, q, v, rfl, hE, hx, hq⟩
        obtain ⟨Aq, nq, cq, ev, hE⟩ := hE
        subst ev
        have Lq_102 := Aside0.mk (show LN (eb + 1) q.f2 (.slice Aq nq cq) w102 from LN_alive.lower hE H101.out.lt)
        clear hE
        have Xq := Aside0.mk hx
        have K102 := Aside0.mk hq
        have B102 := Aside0.mk (show Below bo W w102 from B101.out.trans (hb.mono (by have := HLT.out; omega)))
        have R102 := Aside0.mk (show Rt 58 b [Value.int .i64 sa, .int .i64 sb, .int .i64 sc, .slice Asl nsl csl, .slice Ash nsh csh, .slice Ax nx cx] w102 from (hp.2 b R101.out.lt (by have := HLT.out; show b ≠ g; omega)).trans R101.out)
        have O102 := Aside0.mk (show Rt 58 bo [Value.int .i64 0, .int .i64 0, .int .i64 0, .slice none 0 0, .slice none 0 0, .slice none 0 0] w102 from (hp.2 bo O101.out.lt (by have := HLT.out; show bo ≠ g; omega)).trans O101.out)
        have H102 := Aside0.mk (show Rt 123 eb [Value.string ⟨#[]⟩, .int .i64 0, .slice none 0 0, .string ⟨#[]⟩, .int .i64 0, .int .i64 0, .int .i64 0] w102 from (hp.2 eb H101.out.lt (by have := HLT.out; show eb ≠ g; omega)).trans H101.out)
        have Lsl_102 := Aside0.mk (LL_alive.kept Lsl_101.out hp (fun j hj e => by have := HLT.out; omega))
        have Lsh_102 := Aside0.mk (LH_alive.kept Lsh_101.out hp (fun j hj e => by have := HLT.out; omega))
        have Y102 := Aside0.mk (show k123.R 123 w102 (b + 1) (fun j => j ≠ eb) (.slice Ax nx cx) y from Kd.R_mono (Kd.R_kept (Kd.R_bound Y101.out) hp (fun j hj e => by have := hj.2.1; have := HLT.out; omega)) (fun j hj => hj.1))
        clear hb hp hx hq cr0 fr0 cr1 fr1 cr2 fr2 cr3 fr3 cr4 fr4 cr5 fr5
        have cr0 := H102.out.cell 0 _ rfl
        have fr0 := H102.out.free 0
        have cr1 := H102.out.cell 1 _ rfl
        have fr1 := H102.out.free 1
        have cr2 := H102.out.cell 2 _ rfl
        have fr2 := H102.out.free 2
        have cr3 := H102.out.cell 3 _ rfl
        have fr3 := H102.out.free 3
        have cr4 := H102.out.cell 4 _ rfl
        have fr4 := H102.out.free 4
        have cr5 := H102.out.cell 5 _ rfl
        have fr5 := H102.out.free 5
        go_upto_region 22 with fail
        have e1 := H102.out.fill6 0 (.string q.f0) (.int .i64 q.f1) (.slice Aq nq cq) (.string q.f3) (.int .i64 q.f4) (.int .i64 q.f5)
        simp only [Nat.reduceAdd, List.set_cons_zero, List.set_cons_succ] at e1
        rw [e1]
        clear e1 cr0 fr0 cr1 fr1 cr2 fr2 cr3 fr3 cr4 fr4 cr5 fr5
        have K103 := Aside0.mk (K102.out.aside (W' := w102.setRow eb [Value.string q.f0, .int .i64 q.f1, .slice Aq nq cq, .string q.f3, .int .i64 q.f4, .int .i64 q.f5, .int .i64 0].toArray) (below_setRow' (Below.refl _ _) (by have := HLT.out; omega) _) (setRow_other _ _ _ _ (by have := HLT.out; omega)))
        have B103 := Aside0.mk (show Below bo W (w102.setRow eb [Value.string q.f0, .int .i64 q.f1, .slice Aq nq cq, .string q.f3, .int .i64 q.f4, .int .i64 q.f5, .int .i64 0].toArray) from below_setRow' B102.out (by have := HLT.out; omega) _)
        have R103 := Aside0.mk (show Rt 58 b [Value.int .i64 sa, .int .i64 sb, .int .i64 sc, .slice Asl nsl csl, .slice Ash nsh csh, .slice Ax nx cx] (w102.setRow eb [Value.string q.f0, .int .i64 q.f1, .slice Aq nq cq, .string q.f3, .int .i64 q.f4, .int .i64 q.f5, .int .i64 0].toArray) from (setRow_other _ _ _ _ (by have := HLT.out; omega)).trans R102.out)
        have O103 := Aside0.mk (show Rt 58 bo [Value.int .i64 0, .int .i64 0, .int .i64 0, .slice none 0 0, .slice none 0 0, .slice none 0 0] (w102.setRow eb [Value.string q.f0, .int .i64 q.f1, .slice Aq nq cq, .string q.f3, .int .i64 q.f4, .int .i64 q.f5, .int .i64 0].toArray) from (setRow_other _ _ _ _ (by have := HLT.out; omega)).trans O102.out)
        have H103 := Aside0.mk (show Rt 123 eb [Value.string q.f0, .int .i64 q.f1, .slice Aq nq cq, .string q.f3, .int .i64 q.f4, .int .i64 q.f5, .int .i64 0] (w102.setRow eb [Value.string q.f0, .int .i64 q.f1, .slice Aq nq cq, .string q.f3, .int .i64 q.f4, .int .i64 q.f5, .int .i64 0].toArray) from H102.out.row _)
        have Lsl_103 := Aside0.mk (show LL (b + 1) sl (.slice Asl nsl csl) (w102.setRow eb [Value.string q.f0, .int .i64 q.f1, .slice Aq nq cq, .string q.f3, .int .i64 q.f4, .int .i64 q.f5, .int .i64 0].toArray) from R_store Lsl_102.out H102.out (by decide) _)
        have Lsh_103 := Aside0.mk (show LH (b + 1) sh (.slice Ash nsh csh) (w102.setRow eb [Value.string q.f0, .int .i64 q.f1, .slice Aq nq cq, .string q.f3, .int .i64 q.f4, .int .i64 q.f5, .int .i64 0].toArray) from R_store Lsh_102.out H102.out (by decide) _)
        have Lq_103 := Aside0.mk (LN_alive.row (b := eb) Lq_102.out (by have := HLT.out; omega) [Value.string q.f0, .int .i64 q.f1, .slice Aq nq cq, .string q.f3, .int .i64 q.f4, .int .i64 q.f5, .int .i64 0].toArray)
        have Y103 := Aside0.mk (show k123.R 123 (w102.setRow eb [Value.string q.f0, .int .i64 q.f1, .slice Aq nq cq, .string q.f3, .int .i64 q.f4, .int .i64 q.f5, .int .i64 0].toArray) (b + 1) (fun j => j ≠ eb) (.slice Ax nx cx) y from Kd.R_step Y102.out (fun j hne _ => setRow_other _ _ _ _ hne))
        generalize w102.setRow eb [Value.string q.f0, .int .i64 q.f1, .slice Aq nq cq, .string q.f3, .int .i64 q.f4, .int .i64 q.f5, .int .i64 0].toArray = w103 at *
        have cr6 := H103.out.cell 6 _ rfl
        have fr6 := H103.out.free 6
        go_wp2_with fail
        go_at_call 66
        refine (q_int K103.out).mono ?_
        rintro e w104 ⟨hb, hp, a, v, rfl, rfl, hx, hq⟩
        have Xa := Aside0.mk hx
        have K104 := Aside0.mk hq
        have B104 := Aside0.mk (show Below bo W w104 from B103.out.trans (hb.mono (by have := HLT.out; omega)))
        have R104 := Aside0.mk (show Rt 58 b [Value.int .i64 sa, .int .i64 sb, .int .i64 sc, .slice Asl nsl csl, .slice Ash nsh csh, .slice Ax nx cx] w104 from (hp.2 b R103.out.lt (by have := HLT.out; show b ≠ g; omega)).trans R103.out)
        have O104 := Aside0.mk (show Rt 58 bo [Value.int .i64 0, .int .i64 0, .int .i64 0, .slice none 0 0, .slice none 0 0, .slice none 0 0] w104 from (hp.2 bo O103.out.lt (by have := HLT.out; show bo ≠ g; omega)).trans O103.out)
        have H104 := Aside0.mk (show Rt 123 eb [Value.string q.f0, .int .i64 q.f1, .slice Aq nq cq, .string q.f3, .int .i64 q.f4, .int .i64 q.f5, .int .i64 0] w104 from (hp.2 eb H103.out.lt (by have := HLT.out; show eb ≠ g; omega)).trans H103.out)
        have Lsl_104 := Aside0.mk (LL_alive.kept Lsl_103.out hp (fun j hj e => by have := HLT.out; omega))
        have Lsh_104 := Aside0.mk (LH_alive.kept Lsh_103.out hp (fun j hj e => by have := HLT.out; omega))
        have Lq_104 := Aside0.mk (LN_alive.kept Lq_103.out hp (fun j hj e => by have := HLT.out; omega))
        have Y104 := Aside0.mk (show k123.R 123 w104 (b + 1) (fun j => j ≠ eb) (.slice Ax nx cx) y from Kd.R_mono (Kd.R_kept (Kd.R_bound Y103.out) hp (fun j hj e => by have := hj.2.1; have := HLT.out; omega)) (fun j hj => hj.1))
        clear hb hp hx hq cr6 fr6
        have cr6 := H104.out.cell 6 _ rfl
        have fr6 := H104.out.free 6
        go_upto_region 23 with fail
        have e1 := H104.out.set 6 (.int .i64 a)
        rw [e1]
        clear e1 cr6 fr6
        have hl : [Value.string q.f0, .int .i64 q.f1, .slice Aq nq cq, .string q.f3, .int .i64 q.f4, .int .i64 q.f5, .int .i64 0].set 6 (.int .i64 a) = [Value.string q.f0, .int .i64 q.f1, .slice Aq nq cq, .string q.f3, .int .i64 q.f4, .int .i64 q.f5, .int .i64 a] := rfl
        rw [hl]
        clear hl
        have K105 := Aside0.mk (K104.out.aside (W' := w104.setRow eb [Value.string q.f0, .int .i64 q.f1, .slice Aq nq cq, .string q.f3, .int .i64 q.f4, .int .i64 q.f5, .int .i64 a].toArray) (below_setRow' (Below.refl _ _) (by have := HLT.out; omega) _) (setRow_other _ _ _ _ (by have := HLT.out; omega)))
        have B105 := Aside0.mk (show Below bo W (w104.setRow eb [Value.string q.f0, .int .i64 q.f1, .slice Aq nq cq, .string q.f3, .int .i64 q.f4, .int .i64 q.f5, .int .i64 a].toArray) from below_setRow' B104.out (by have := HLT.out; omega) _)
        have R105 := Aside0.mk (show Rt 58 b [Value.int .i64 sa, .int .i64 sb, .int .i64 sc, .slice Asl nsl csl, .slice Ash nsh csh, .slice Ax nx cx] (w104.setRow eb [Value.string q.f0, .int .i64 q.f1, .slice Aq nq cq, .string q.f3, .int .i64 q.f4, .int .i64 q.f5, .int .i64 a].toArray) from (setRow_other _ _ _ _ (by have := HLT.out; omega)).trans R104.out)
        have O105 := Aside0.mk (show Rt 58 bo [Value.int .i64 0, .int .i64 0, .int .i64 0, .slice none 0 0, .slice none 0 0, .slice none 0 0] (w104.setRow eb [Value.string q.f0, .int .i64 q.f1, .slice Aq nq cq, .string q.f3, .int .i64 q.f4, .int .i64 q.f5, .int .i64 a].toArray) from (setRow_other _ _ _ _ (by have := HLT.out; omega)).trans O104.out)
        have H105 := Aside0.mk (show Rt 123 eb [Value.string q.f0, .int .i64 q.f1, .slice Aq nq cq, .string q.f3, .int .i64 q.f4, .int .i64 q.f5, .int .i64 a] (w104.setRow eb [Value.string q.f0, .int .i64 q.f1, .slice Aq nq cq, .string q.f3, .int .i64 q.f4, .int .i64 q.f5, .int .i64 a].toArray) from H104.out.row _)
        have Lsl_105 := Aside0.mk (show LL (b + 1) sl (.slice Asl nsl csl) (w104.setRow eb [Value.string q.f0, .int .i64 q.f1, .slice Aq nq cq, .string q.f3, .int .i64 q.f4, .int .i64 q.f5, .int .i64 a].toArray) from R_store Lsl_104.out H104.out (by decide) _)
        have Lsh_105 := Aside0.mk (show LH (b + 1) sh (.slice Ash nsh csh) (w104.setRow eb [Value.string q.f0, .int .i64 q.f1, .slice Aq nq cq, .string q.f3, .int .i64 q.f4, .int .i64 q.f5, .int .i64 a].toArray) from R_store Lsh_104.out H104.out (by decide) _)
        have Lq_105 := Aside0.mk (LN_alive.row (b := eb) Lq_104.out (by have := HLT.out; omega) [Value.string q.f0, .int .i64 q.f1, .slice Aq nq cq, .string q.f3, .int .i64 q.f4, .int .i64 q.f5, .int .i64 a].toArray)
        have Y105 := Aside0.mk (show k123.R 123 (w104.setRow eb [Value.string q.f0, .int .i64 q.f1, .slice Aq nq cq, .string q.f3, .int .i64 q.f4, .int .i64 q.f5, .int .i64 a].toArray) (b + 1) (fun j => j ≠ eb) (.slice Ax nx cx) y from Kd.R_step Y104.out (fun j hne _ => setRow_other _ _ _ _ hne))
        generalize w104.setRow eb [Value.string q.f0, .int .i64 q.f1, .slice Aq nq cq, .string q.f3, .int .i64 q.f4, .int .i64 q.f5, .int .i64 a].toArray = w105 at *
        have HE := done_is K105.out Xq.out Xa.out
        have HN := Aside0.mk (oneMoreP_is HE.1 HE.2 HPN.out ci)
        clear HE
        have S7 := Aside0.mk (show b + 1 ≤ w105.heap.size by have := H105.out.lt; have := HLT.out; omega)
        have HSZ := Aside0.mk (show (y.length + 1) * 88 ≤ 140737488355328 by have := HLN.out; have := HUM.out; omega)
        have x0 := H105.out.cell 0 _ rfl
        have x1 := H105.out.cell 1 _ rfl
        have x2 := H105.out.cell 2 _ rfl
        have x3 := H105.out.cell 3 _ rfl
        have x4 := H105.out.cell 4 _ rfl
        have x5 := H105.out.cell 5 _ rfl
        have x6 := H105.out.cell 6 _ rfl
        have q5 := R105.out.cell 5 _ rfl
        have RX := Aside0.mk (show k123.R 123 w105 (b + 1) (fun _ => True) (.slice Ax nx cx) y from Kd.R_mono Y105.out (fun _ _ => trivial))
        have MX := Aside0.mk (show k123.M w105 (b + 1) (fun j => eb + 1 ≤ j) (⟨q, a⟩ : S123) [Value.string q.f0, .int .i64 q.f1, .slice Aq nq cq, .string q.f3, .int .i64 q.f4, .int .i64 q.f5, .int .i64 a] from k123_mkM _ _ _ ⟨q, a⟩ (Kd.R_lower (Kd.R_mono (Kd.R_bound Lq_105.out) (fun j hj => hj.2.1)) (by have := HLT.out; omega)))
        go_upto_region 19 with (first | (
          (with_reducible refine gate_builtin (b := .append) (xs := #[.tmp 81, .tmp 83]) rfl ?_)
          at_builtin
          refine Kd.R_append k123 (w0 := w105) (b + 1) rfl (.tmp 81) (.tmp 83) 56 123 (.agg #[.string ⟨#[]⟩, .int .i64 0, .slice none 0 0, .string ⟨#[]⟩, .int .i64 0, .int .i64 0, .int .i64 0]) 88 rfl Try.underlying56 info123 rfl (by decide) (by decide) _ y ⟨q, a⟩ [Value.string q.f0, .int .i64 q.f1, .slice Aq nq cq, .string q.f3, .int .i64 q.f4, .int .i64 q.f5, .int .i64 a] (fun _ => True) (fun j => eb + 1 ≤ j) rfl rfl MX.out (fun j hj => ⟨trivial, fun e => by have := HOU.out j e.symm; omega⟩) (fun _ _ => trivial) RX.out (Below.refl _ _) S7.out HSZ.out ?_
          intro v1 w120 ho hb hg hat
          obtain ⟨A9, c9, ev9⟩ := Kd.R_slice ho
          obtain ⟨n9, hn9⟩ : ∃ n9, (y ++ [(⟨q, a⟩ : S123)]).length = n9 := ⟨_, rfl⟩
          rw [hn9] at ev9
          subst ev9
          have Lnew_120 := Aside0.mk (show LD (b + 1) (y ++ [(⟨q, a⟩ : S123)]) (.slice A9 n9 c9) w120 from ho)
          have K120 := Aside0.mk (HN.out.1.aside (hb.mono (by have := HLT.out; omega)) (hb.block g (by have := HLT.out; omega)))
          have B120 := Aside0.mk (show Below bo W w120 from B105.out.trans (hb.mono (by have := HLT.out; omega)))
          have R120 := Aside0.mk (show Rt 58 b [Value.int .i64 sa, .int .i64 sb, .int .i64 sc, .slice Asl nsl csl, .slice Ash nsh csh, .slice Ax nx cx] w120 from (hb.block b (by have := HLT.out; omega)).trans R105.out)
          have O120 := Aside0.mk (show Rt 58 bo [Value.int .i64 0, .int .i64 0, .int .i64 0, .slice none 0 0, .slice none 0 0, .slice none 0 0] w120 from (hb.block bo (by have := HLT.out; omega)).trans O105.out)
          have Lsl_120 := Aside0.mk (show LL (b + 1) sl (.slice Asl nsl csl) w120 from R_aside Lsl_105.out RX.out (by decide) hg)
          have Lsh_120 := Aside0.mk (show LH (b + 1) sh (.slice Ash nsh csh) w120 from R_aside Lsh_105.out RX.out (by decide) hg)
          have p5 := R120.out.cell 5 _ rfl
          have f5 := R120.out.free 5
          clear ho hb hg hat hn9))
        rw [R120.out.set 5 (.slice A9 n9 c9)]
        have hl : [Value.int .i64 sa, .int .i64 sb, .int .i64 sc, .slice Asl nsl csl, .slice Ash nsh csh, .slice Ax nx cx].set 5 (.slice A9 n9 c9) = [Value.int .i64 sa, .int .i64 sb, .int .i64 sc, .slice Asl nsl csl, .slice Ash nsh csh, .slice A9 n9 c9] := rfl
        rw [hl]
        clear hl p5 f5
        have K121 := Aside0.mk (K120.out.aside (W' := w120.setRow b [Value.int .i64 sa, .int .i64 sb, .int .i64 sc, .slice Asl nsl csl, .slice Ash nsh csh, .slice A9 n9 c9].toArray) (below_setRow' (Below.refl _ _) (by have := HLT.out; omega) _) (setRow_other _ _ _ _ (by have := HLT.out; omega)))
        have B121 := Aside0.mk (show Below bo W (w120.setRow b [Value.int .i64 sa, .int .i64 sb, .int .i64 sc, .slice Asl nsl csl, .slice Ash nsh csh, .slice A9 n9 c9].toArray) from below_setRow' B120.out (by have := HLT.out; omega) _)
        have R121 := Aside0.mk (show Rt 58 b [Value.int .i64 sa, .int .i64 sb, .int .i64 sc, .slice Asl nsl csl, .slice Ash nsh csh, .slice A9 n9 c9] (w120.setRow b [Value.int .i64 sa, .int .i64 sb, .int .i64 sc, .slice Asl nsl csl, .slice Ash nsh csh, .slice A9 n9 c9].toArray) from R120.out.row _)
        have O121 := Aside0.mk (show Rt 58 bo [Value.int .i64 0, .int .i64 0, .int .i64 0, .slice none 0 0, .slice none 0 0, .slice none 0 0] (w120.setRow b [Value.int .i64 sa, .int .i64 sb, .int .i64 sc, .slice Asl nsl csl, .slice Ash nsh csh, .slice A9 n9 c9].toArray) from (setRow_other _ _ _ _ (by have := HLT.out; omega)).trans O120.out)
        have Lsl_121 := Aside0.mk (LL_alive.row (b := b) Lsl_120.out (by have := HLT.out; omega) [Value.int .i64 sa, .int .i64 sb, .int .i64 sc, .slice Asl nsl csl, .slice Ash nsh csh, .slice A9 n9 c9].toArray)
        have Lsh_121 := Aside0.mk (LH_alive.row (b := b) Lsh_120.out (by have := HLT.out; omega) [Value.int .i64 sa, .int .i64 sb, .int .i64 sc, .slice Asl nsl csl, .slice Ash nsh csh, .slice A9 n9 c9].toArray)
        have Lnew_121 := Aside0.mk (LD_alive.row (b := b) Lnew_120.out (by have := HLT.out; omega) [Value.int .i64 sa, .int .i64 sb, .int .i64 sc, .slice Asl nsl csl, .slice Ash nsh csh, .slice A9 n9 c9].toArray)
        generalize w120.setRow b [Value.int .i64 sa, .int .i64 sb, .int .i64 sc, .slice Asl nsl csl, .slice Ash nsh csh, .slice A9 n9 c9].toArray = w121 at *
        go_wp2_with fail
        refine ⟨⟨i + 1, y ++ [⟨q, a⟩], oneMoreP (pDone xs 131072) m y, A9, n9, c9, congrArg (Value.int .i64) (by omega), ⟨by rw [List.length_append, HLN.out]; rfl⟩, K121, ⟨fun l m2 h => ⟨HN.out.2.1 l m2 h, ci, HUM.out.2⟩⟩, ⟨HN.out.2.2⟩, Lnew_121, B121, R121, O121, Lsl_121, Lsh_121⟩, ?_⟩
        rw [hw1]
        show u - (((i + 1 : Nat) : Int)).toNat < u - ((i : Nat) : Int).toNat
        omega
    case rest =>
      obtain ⟨u, sd, Asd, nsd, csd, rfl, K13, Esd, Lsd_13, B13, R13, O13, Lsl_13, Lsh_13⟩ := hcut
      obtain ⟨w13, hw13⟩ : ∃ w, w = wc := ⟨_, rfl⟩
      subst hw13
      clear HI K11 B12 R12 O12 Lsl_12 Lsh_12
      rw [← HT1.out] at K13 Esd
      have hk := st_is K13.out Xsa.out Xsb.out Xsc.out Xsl.out Esh.out Esd.out
      have HI := fin_is hk.1 hk.2
      have hQE := q_end hk.1
      rw [HI.1, HSS.out] at hQE
      have HQE := Aside0.mk hQE
      have HI2 := HI.2
      rw [HSS.out] at HI2
      clear hQE HI hk
      go_wp2_with fail
      go_at_call 68
      refine HQE.out.mono ?_
      rintro e w14 ⟨hb, hp, rfl⟩
      have B14 := Aside0.mk (show Below bo W w14 from B13.out.trans (hb.mono (by have := HLT.out; omega)))
      have O14 := Aside0.mk (show Rt 58 bo [Value.int .i64 0, .int .i64 0, .int .i64 0, .slice none 0 0, .slice none 0 0, .slice none 0 0] w14 from (hp.2 bo O13.out.lt (by have := HLT.out; show bo ≠ g; omega)).trans O13.out)
      have R14 := Aside0.mk (show Rt 58 b [Value.int .i64 sa, .int .i64 sb, .int .i64 sc, .slice Asl nsl csl, .slice Ash nsh csh, .slice Asd nsd csd] w14 from (hp.2 b R13.out.lt (by have := HLT.out; show b ≠ g; omega)).trans R13.out)
      have Lsl_14 := Aside0.mk (LL_alive.kept Lsl_13.out hp (fun j hj e => by have := HLT.out; omega))
      have Lsh_14 := Aside0.mk (LH_alive.kept Lsh_13.out hp (fun j hj e => by have := HLT.out; omega))
      have Lsd_14 := Aside0.mk (LD_alive.kept Lsd_13.out hp (fun j hj e => by have := HLT.out; omega))
      clear hb hp HQE
      have z0 := O14.out.cell 0 _ rfl
      have f0 := O14.out.free 0
      have z1 := O14.out.cell 1 _ rfl
      have f1 := O14.out.free 1
      have z2 := O14.out.cell 2 _ rfl
      have f2 := O14.out.free 2
      have z3 := O14.out.cell 3 _ rfl
      have f3 := O14.out.free 3
      have z4 := O14.out.cell 4 _ rfl
      have f4 := O14.out.free 4
      have z5 := O14.out.cell 5 _ rfl
      have f5 := O14.out.free 5
      rcases HI2 with ⟨m, rfl⟩ | ⟨e, p, rfl, he⟩
      · have x0 := R14.out.cell 0 _ rfl
        have x1 := R14.out.cell 1 _ rfl
        have x2 := R14.out.cell 2 _ rfl
        have x3 := R14.out.cell 3 _ rfl
        have x4 := R14.out.cell 4 _ rfl
        have x5 := R14.out.cell 5 _ rfl
        simp only [endOf]
        go_wp2_with fail
        rw [O14.out.full_st]
        have R3 : Rt 58 bo [Value.int .i64 sa, .int .i64 sb, .int .i64 sc, .slice Asl nsl csl, .slice Ash nsh csh, .slice Asd nsd csd] (w14.setRow bo [Value.int .i64 sa, .int .i64 sb, .int .i64 sc, .slice Asl nsl csl, .slice Ash nsh csh, .slice Asd nsd csd].toArray) := O14.out.row _
        have Lsl_3 := LL_alive.row (b := bo) Lsl_14.out (by have := HLT.out; omega) [Value.int .i64 sa, .int .i64 sb, .int .i64 sc, .slice Asl nsl csl, .slice Ash nsh csh, .slice Asd nsd csd].toArray
        have Lsh_3 := LH_alive.row (b := bo) Lsh_14.out (by have := HLT.out; omega) [Value.int .i64 sa, .int .i64 sb, .int .i64 sc, .slice Asl nsl csl, .slice Ash nsh csh, .slice Asd nsd csd].toArray
        have Lsd_3 := LD_alive.row (b := bo) Lsd_14.out (by have := HLT.out; omega) [Value.int .i64 sa, .int .i64 sb, .int .i64 sc, .slice Asl nsl csl, .slice Ash nsh csh, .slice Asd nsd csd].toArray
        have B3 : Below bo W (w14.setRow bo [Value.int .i64 sa, .int .i64 sb, .int .i64 sc, .slice Asl nsl csl, .slice Ash nsh csh, .slice Asd nsd csd].toArray) := below_setRow' B14.out (Nat.le_refl _) _
        clear z0 f0 x0 z1 f1 x1 z2 f2 x2 z3 f3 x3 z4 f4 x4 z5 f5 x5
        generalize w14.setRow bo [Value.int .i64 sa, .int .i64 sb, .int .i64 sc, .slice Asl nsl csl, .slice Ash nsh csh, .slice Asd nsd csd].toArray = w15 at *
        have x0 := R3.cell 0 _ rfl
        have x1 := R3.cell 1 _ rfl
        have x2 := R3.cell 2 _ rfl
        have x3 := R3.cell 3 _ rfl
        have x4 := R3.cell 4 _ rfl
        have x5 := R3.cell 5 _ rfl
        refine ⟨rfl, ?_⟩
        simp [results, Try.results38, go_sem, x0, x1, x2, x3, x4, x5]
        rw [HBO.out]
        exact ⟨B3, _, ⟨rfl, rfl, rfl⟩, Asl, nsl, csl, Ash, nsh, csh, Asd, nsd, csd, rfl, LL_alive.lower Lsl_3 (by have := HLT.out; omega), LH_alive.lower Lsh_3 (by have := HLT.out; omega), LD_alive.lower Lsd_3 (by have := HLT.out; omega)⟩
      · have h1 : (e == 0) = false := by simpa using he
        have h2 : decide (e = 0) = false := decide_eq_false he
        have h3 : (e != 0) = true := by simpa using he
        simp only [endOf]
        go_wp2_with fail
        rw [O14.out.same 0 _ rfl, O14.out.same 1 _ rfl, O14.out.same 2 _ rfl, O14.out.same 3 _ rfl, O14.out.same 4 _ rfl, O14.out.same 5 _ rfl]
        refine ⟨rfl, ?_⟩
        simp [results, Try.results38, go_sem, z0, z1, z2, z3, z4, z5]
        rw [HBO.out]
        exact ⟨B14.out, _, ⟨rfl, rfl, rfl⟩, none, 0, 0, none, 0, 0, none, 0, 0, rfl, Kd.R_nil _ _ _ _ _, Kd.R_nil _ _ _ _ _, Kd.R_nil _ _ _ _ _⟩
end Go.Proofs.Ytafmoglaockepaa.Cd
end
section
namespace Go.Proofs.Ytafmoglaockepaa.Cd
open Go Go.RowKit Go.Proofs.Ytafmoglaockepaa.Mine Go.Proofs.Ytafmoglaockepaa.Num Go.Proofs.Ytafmoglaockepaa.PG Go.Proofs.YtafmoglaockepaaW.PrintWords Go.Proofs.YtafmoglaockepaaW.PrintLast Go.Proofs.YtafmoglaockepaaW.PrintMore
set_option linter.unusedVariables false
set_option linter.unusedSimpArgs false
set_option maxHeartbeats 4000000
set_option maxRecDepth 100000
theorem states_walk (x : StD) (Aal : Option Addr) (cal : Nat) (Aah : Option Addr) (cah : Nat) (Aad : Option Addr) (cad : Nat) (A2 : Option Addr) (n2 c2 : Nat) (xs : List Int) (W : World)
    (hCl : Kd.C k28 W Aal x.f3.length x.f3 ∧ x.f3.length ≤ cal) (hCh : Kd.C k121 W Aah x.f4.length x.f4 ∧ x.f4.length ≤ cah) (hCd : Kd.C k123 W Aad x.f5.length x.f5 ∧ x.f5.length ≤ cad)
    (hok : Int64 x.f0 ∧ Int64 x.f1 ∧ Int64 x.f2 ∧ LevOk x.f3 ∧ HeldsOk x.f4 ∧ DonesOk x.f5) (hsum : sumS x ≤ 1048576)
    (hC2 : Kd.C (Kd.int .u8) W A2 n2 xs) (hnc2 : n2 ≤ c2) (hby : IsBytes xs) (hn2 : n2 ≤ 1048576) :
    Calls Try.prog 6 #[.agg #[.int .i64 x.f0, .int .i64 x.f1, .int .i64 x.f2, .slice Aal x.f3.length cal, .slice Aah x.f4.length cah, .slice Aad x.f5.length cad], .slice A2 n2 c2] W fun e w' => e = .returned (.bool true) ∧ Below W.heap.size W w' := by
  obtain rfl : xs.length = n2 := Kd.C_len hC2
  have HCl := Aside0.mk (fun W' (hb : Below W.heap.size W W') => Kd.C_below hCl.1 hb)
  have HNl := Aside0.mk hCl.2
  have HCh := Aside0.mk (fun W' (hb : Below W.heap.size W W') => Kd.C_below hCh.1 hb)
  have HNh := Aside0.mk hCh.2
  have HCd := Aside0.mk (fun W' (hb : Below W.heap.size W W') => Kd.C_below hCd.1 hb)
  have HNd := Aside0.mk hCd.2
  have HC2 := Aside0.mk (fun W' (hb : Below W.heap.size W W') => Kd.C_below hC2 hb)
  have HNC2 := Aside0.mk hnc2
  have HOK := Aside0.mk hok
  have HSUM := Aside0.mk hsum
  have HBY := Aside0.mk hby
  have HN2 := Aside0.mk hn2
  have HLN := Aside0.mk (show x.f3.length ≤ 1048576 ∧ x.f4.length ≤ 1048576 ∧ x.f5.length ≤ 1048576 ∧ (∀ y ∈ x.f4, y.f1.length ≤ 1048576) ∧ (∀ y ∈ x.f5, y.f0.f2.length ≤ 1048576) from by
    have h3 := sumL_count x.f3
    have h4 := sumHs_count x.f4
    have h5 := sumDs_count x.f5
    have hq : sumS x = sumL x.f3 + sumHs x.f4 + sumDs x.f5 := rfl
    refine ⟨by omega, by omega, by omega, fun y hy => ?_, fun y hy => ?_⟩
    · have := sumHs_mem _ y hy
      have := sumN_count y.f1
      omega
    · have := sumDs_mem _ y hy
      have := sumN_count y.f0.f2
      unfold sumQ at this
      unfold sumQ at *
      omega)
  have HBU := Aside0.mk (show bulkS x ≤ 15728800 by have := bulkS_sum x; omega)
  have hb1 : Below W.heap.size W (W.alloc (.cells #[.int .i64 x.f0, .int .i64 x.f1, .int .i64 x.f2, .slice Aal x.f3.length cal, .slice Aah x.f4.length cah, .slice Aad x.f5.length cad] 58)) := below_alloc (Below.refl _ _) _
  have r1 : Rt 58 W.heap.size [.int .i64 x.f0, .int .i64 x.f1, .int .i64 x.f2, .slice Aal x.f3.length cal, .slice Aah x.f4.length cah, .slice Aad x.f5.length cad] (W.alloc (.cells #[.int .i64 x.f0, .int .i64 x.f1, .int .i64 x.f2, .slice Aal x.f3.length cal, .slice Aah x.f4.length cah, .slice Aad x.f5.length cad] 58)) := heap_alloc_new W _
  obtain ⟨bo, hbo⟩ : ∃ bo, W.heap.size = bo := ⟨_, rfl⟩
  have HBO := Aside0.mk hbo
  rw [hbo] at r1 hb1
  have R1 := Aside0.mk r1
  have B1 := Aside0.mk hb1
  clear hCl hCh hCd hC2 hnc2 hok hsum hby hn2 hb1 r1 hbo
  go_enter Try.func6, Try.ntmps6
  go_upto_region 1 with fail
  have hbo := HBO.out
  rw [hbo]
  clear hbo
  generalize W.alloc (.cells #[.int .i64 x.f0, .int .i64 x.f1, .int .i64 x.f2, .slice Aal x.f3.length cal, .slice Aah x.f4.length cah, .slice Aad x.f5.length cad] 58) = w1 at *
  obtain ⟨kb, hkb⟩ := bulk_ok x (by have := HSUM.out; omega)
  have HWT := Aside0.mk (larderlaw09_bulk.calls kb x.f0 x.f1 x.f2 Aal cal x.f3 Aah cah x.f4 Aad cad x.f5 (sumS x) w1 (HCl.out w1 (by rw [HBO.out]; exact B1.out)) HNl.out (HCh.out w1 (by rw [HBO.out]; exact B1.out)) HNh.out (HCd.out w1 (by rw [HBO.out]; exact B1.out)) HNd.out hkb)
  clear hkb
  have q0 := R1.out.cell 0 _ rfl
  have q1 := R1.out.cell 1 _ rfl
  have q2 := R1.out.cell 2 _ rfl
  have q3 := R1.out.cell 3 _ rfl
  have q4 := R1.out.cell 4 _ rfl
  have q5 := R1.out.cell 5 _ rfl
  go_wp2_with fail
  go_at_call 32
  refine HWT.out.mono ?_
  rintro e w2 ⟨rfl, hb⟩
  have R2 := Aside0.mk (R1.out.below hb)
  have B2 := Aside0.mk (B1.out.trans (hb.mono (Nat.le_of_lt R1.out.lt)))
  obtain ⟨s, hs⟩ : ∃ s, sumS x = s := ⟨_, rfl⟩
  have HS := Aside0.mk hs
  have hg1 : decide ((1048576 : Int) < ((s : Nat) : Int)) = false := decide_eq_false (by have := HSUM.out; omega)
  have hg2 : decide (1048576 < s) = false := decide_eq_false (by have := HSUM.out; omega)
  rw [hs]
  clear hb hs q0 q1 q2 q3 q4 q5 HWT
  have HLC := Aside0.mk (larderref09_CopyState.calls _ x.f0 x.f1 x.f2 Aal cal x.f3 Aah cah x.f4 Aad cad x.f5 x.f0 x.f1 x.f2 x.f3 x.f4 x.f5 w2 (HCl.out w2 (by rw [HBO.out]; exact B2.out)) HNl.out (HCh.out w2 (by rw [HBO.out]; exact B2.out)) HNh.out (HCd.out w2 (by rw [HBO.out]; exact B2.out)) HNd.out (copy_ok x (by have := HLN.out.1; omega) (by have := HLN.out.2.1; omega) (fun y hy => by have := HLN.out.2.2.2.1 y hy; omega) (by have := HLN.out.2.2.1; omega) (fun y hy => by have := HLN.out.2.2.2.2 y hy; omega)))
  have q0 := R2.out.cell 0 _ rfl
  have q1 := R2.out.cell 1 _ rfl
  have q2 := R2.out.cell 2 _ rfl
  have q3 := R2.out.cell 3 _ rfl
  have q4 := R2.out.cell 4 _ rfl
  have q5 := R2.out.cell 5 _ rfl
  go_wp2_with fail
  go_at_call 33
  refine HLC.out.mono ?_
  rintro e w3 ⟨v3, v4, v5, rfl, hR3, hR4, hR5, hb⟩
  obtain ⟨Aol, col, rfl, hol, hCol⟩ := Kd.R_reads hR3
  obtain ⟨Aoh, coh, rfl, hoh, hCoh⟩ := Kd.S_reads hR4
  obtain ⟨Aod, cod, rfl, hod, hCod⟩ := Kd.S_reads hR5
  have R3 := Aside0.mk (R2.out.below hb)
  have B3 := Aside0.mk (B2.out.trans (hb.mono (Nat.le_of_lt R2.out.lt)))
  have HCO := Aside0.mk (And.intro hol (And.intro hoh hod))
  clear hg1 hg2 q0 q1 q2 q3 q4 q5 HLC
  go_upto_region 4 with fail
  have hb4 : Below w3.heap.size w3 (w3.alloc (.cells #[.int .i64 x.f0, .int .i64 x.f1, .int .i64 x.f2, .slice Aol x.f3.length col, .slice Aoh x.f4.length coh, .slice Aod x.f5.length cod] 58)) := below_alloc (Below.refl _ _) _
  have r4 : Rt 58 w3.heap.size [.int .i64 x.f0, .int .i64 x.f1, .int .i64 x.f2, .slice Aol x.f3.length col, .slice Aoh x.f4.length coh, .slice Aod x.f5.length cod] (w3.alloc (.cells #[.int .i64 x.f0, .int .i64 x.f1, .int .i64 x.f2, .slice Aol x.f3.length col, .slice Aoh x.f4.length coh, .slice Aod x.f5.length cod] 58)) := heap_alloc_new w3 _
  obtain ⟨b4, hb4e⟩ : ∃ b4, w3.heap.size = b4 := ⟨_, rfl⟩
  have R4 := Aside0.mk (R3.out.below hb4)
  have B4 := Aside0.mk (B3.out.trans (hb4.mono (Nat.le_of_lt R3.out.lt)))
  have CO4 := Aside0.mk (And.intro (Kd.C_below hCol hb4) (And.intro (Kd.C_below hCoh hb4) (Kd.C_below hCod hb4)))
  rw [hb4e] at r4 ⊢
  have O4 := Aside0.mk r4
  clear hb4 r4 hb4e hb hCol hol hCoh hoh hCod hod hR3 hR4 hR5
  generalize w3.alloc (.cells #[.int .i64 x.f0, .int .i64 x.f1, .int .i64 x.f2, .slice Aol x.f3.length col, .slice Aoh x.f4.length coh, .slice Aod x.f5.length cod] 58) = w4 at *
  have HPR := Aside0.mk (PutState_at x w4 Aol col CO4.out.1 Aoh coh CO4.out.2.1 Aod cod CO4.out.2.2 HOK.out.1 HOK.out.2.1 HOK.out.2.2.1 HOK.out.2.2.2.1 HOK.out.2.2.2.2.1 HOK.out.2.2.2.2.2 (by have := HBU.out; omega))
  have HRP := Aside0.mk (refPutState_ok x HOK.out.1 HOK.out.2.1 HOK.out.2.2.1 HOK.out.2.2.2.1 HOK.out.2.2.2.2.1 HOK.out.2.2.2.2.2 (by have := HBU.out; omega) 1048576 HLN.out.1 HLN.out.2.2.2.1 HLN.out.2.2.2.2 _ (Nat.le_refl _))
  obtain ⟨P, hP⟩ : ∃ P, putOut 131072 (84 :: encS x) = P := ⟨_, rfl⟩
  obtain ⟨ec, hec⟩ : ∃ ec, putCode 131072 (84 :: encS x) = ec := ⟨_, rfl⟩
  rw [hP, hec] at HPR HRP
  clear hP hec
  have o0 := O4.out.cell 0 _ rfl
  have o1 := O4.out.cell 1 _ rfl
  have o2 := O4.out.cell 2 _ rfl
  have o3 := O4.out.cell 3 _ rfl
  have o4 := O4.out.cell 4 _ rfl
  have o5 := O4.out.cell 5 _ rfl
  go_wp2_with fail
  go_at_call 34
  refine HPR.out.mono ?_
  rintro e w5 ⟨v, rfl, hR, hb⟩
  obtain ⟨Ap, cp, rfl, hcp, hPC⟩ := Kd.R_reads hR
  have R5 := Aside0.mk (R4.out.below hb)
  have O5 := Aside0.mk (O4.out.below hb)
  have B5 := Aside0.mk (B4.out.trans (hb.mono (Nat.le_of_lt R4.out.lt)))
  have CO5 := Aside0.mk (And.intro (Kd.C_below CO4.out.1 hb) (And.intro (Kd.C_below CO4.out.2.1 hb) (Kd.C_below CO4.out.2.2 hb)))
  have CP5 := Aside0.mk hPC
  have HRC := Aside0.mk (larderref09_PutState.calls _ x.f0 x.f1 x.f2 Aal cal x.f3 Aah cah x.f4 Aad cad x.f5 P ec w5 (HCl.out w5 (by rw [HBO.out]; exact B5.out)) HNl.out (HCh.out w5 (by rw [HBO.out]; exact B5.out)) HNh.out (HCd.out w5 (by rw [HBO.out]; exact B5.out)) HNd.out HRP.out)
  clear hR hb hPC hcp o0 o1 o2 o3 o4 o5 HPR
  have q0 := R5.out.cell 0 _ rfl
  have q1 := R5.out.cell 1 _ rfl
  have q2 := R5.out.cell 2 _ rfl
  have q3 := R5.out.cell 3 _ rfl
  have q4 := R5.out.cell 4 _ rfl
  have q5 := R5.out.cell 5 _ rfl
  go_wp2_with fail
  go_at_call 35
  refine HRC.out.mono ?_
  rintro e w6 ⟨v, rfl, hR, hb⟩
  obtain ⟨Aq, cq, rfl, hcq, hQC⟩ := Kd.R_reads hR
  have R6 := Aside0.mk (R5.out.below hb)
  have O6 := Aside0.mk (O5.out.below hb)
  have B6 := Aside0.mk (B5.out.trans (hb.mono (Nat.le_of_lt R5.out.lt)))
  have CO6 := Aside0.mk (And.intro (Kd.C_below CO5.out.1 hb) (And.intro (Kd.C_below CO5.out.2.1 hb) (Kd.C_below CO5.out.2.2 hb)))
  have s1 : (convert 26 9 (.slice Ap P.length cp)).run Try.prog w6 = .ok (.string (strOfNums P)) w6 := Kd.C_string Try.underlying26 Try.underlying5 Try.underlying9 (Kd.C_below CP5.out hb)
  have s2 : (convert 26 9 (.slice Aq P.length cq)).run Try.prog w6 = .ok (.string (strOfNums P)) w6 := Kd.C_string Try.underlying26 Try.underlying5 Try.underlying9 hQC
  have t1 : ((strOfNums P).toList == (strOfNums P).toList) = true := by simp
  have t2 : ((strOfNums P).toList != (strOfNums P).toList) = false := by simp
  have u1 : (ec == ec) = true := by simp
  have u2 : (ec != ec) = false := by simp
  have HKP := Aside0.mk (sameState_at x Aol col Aoh coh Aod cod Aal cal Aah cah Aad cad w6 CO6.out.1 HCO.out.1 CO6.out.2.1 HCO.out.2.1 CO6.out.2.2 HCO.out.2.2 (HCl.out w6 (by rw [HBO.out]; exact B6.out)) HNl.out (HCh.out w6 (by rw [HBO.out]; exact B6.out)) HNh.out (HCd.out w6 (by rw [HBO.out]; exact B6.out)) HNd.out)
  clear hR hb hQC hcq q0 q1 q2 q3 q4 q5 HRC
  have q0 := R6.out.cell 0 _ rfl
  have q1 := R6.out.cell 1 _ rfl
  have q2 := R6.out.cell 2 _ rfl
  have q3 := R6.out.cell 3 _ rfl
  have q4 := R6.out.cell 4 _ rfl
  have q5 := R6.out.cell 5 _ rfl
  have o0 := O6.out.cell 0 _ rfl
  have o1 := O6.out.cell 1 _ rfl
  have o2 := O6.out.cell 2 _ rfl
  have o3 := O6.out.cell 3 _ rfl
  have o4 := O6.out.cell 4 _ rfl
  have o5 := O6.out.cell 5 _ rfl
  go_wp2_with fail
  go_at_call 36
  refine HKP.out.mono ?_
  rintro e w7 ⟨rfl, hb⟩
  have B7 := Aside0.mk (B6.out.trans (hb.mono (Nat.le_of_lt R6.out.lt)))
  have S7 := Aside0.mk (show bo ≤ w7.heap.size from Nat.le_trans (Nat.le_of_lt R6.out.lt) hb.size)
  clear hb s1 s2 t1 t2 u1 u2 q0 q1 q2 q3 q4 q5 HKP o0 o1 o2 o3 o4 o5
  have HLE := Aside0.mk (larderref01_Lent.calls A2 c2 xs xs w7 (HC2.out w7 (by rw [HBO.out]; exact B7.out)) HNC2.out (by unfold larderref01_Lent.f; rw [if_pos (by have := HN2.out; omega)]))
  go_wp2_with fail
  go_at_call 14
  refine HLE.out.mono ?_
  rintro e w8 ⟨v, rfl, hR, ⟨hsp, hcsp⟩, hb⟩
  obtain ⟨Am, cm, rfl, hcm, hMC⟩ := Kd.R_reads hR
  have B8 := Aside0.mk (B7.out.trans (hb.mono S7.out))
  have S8 := Aside0.mk (Nat.le_trans S7.out hb.size)
  have CM8 := Aside0.mk hMC
  have HCM := Aside0.mk hcm
  have CS8 := Aside0.mk (show Kd.C (Kd.int .u8) w8 Am (xs ++ marks9).length (xs ++ marks9) from hsp)
  have HCS := Aside0.mk (show (xs ++ marks9).length ≤ cm from hcsp)
  have HRA := Aside0.mk (State_at Am xs.length cm xs w8 hMC hcm HBY.out (by have := HN2.out; omega))
  clear hR hsp hcsp hb hMC hcm HLE
  obtain ⟨wh, hwh⟩ : ∃ wh, whole 84 131072 xs (pSt xs 131072) = wh := ⟨_, rfl⟩
  have HWH := Aside0.mk hwh
  rw [hwh] at HRA
  clear hwh
  go_wp2_with fail
  go_at_call 37
  refine HRA.out.mono ?_
  rintro e w9 ⟨hb, v, rfl, A5l, n5l, c5l, A5h, n5h, c5h, A5d, n5d, c5d, rfl, hR5l, hR5h, hR5d⟩
  obtain ⟨y, hx⟩ : ∃ y, outOr zeroD_st wh = y := ⟨_, rfl⟩
  rw [hx] at hR5l hR5h hR5d ⊢
  obtain ⟨A5l', c5l', e5l, hc5l, hC5l⟩ := Kd.R_reads hR5l
  injection e5l with e1 e2 e3
  subst e1 e2 e3
  obtain ⟨A5h', c5h', e5h, hc5h, hC5h⟩ := Kd.R_reads hR5h
  injection e5h with e1 e2 e3
  subst e1 e2 e3
  obtain ⟨A5d', c5d', e5d, hc5d, hC5d⟩ := Kd.R_reads hR5d
  injection e5d with e1 e2 e3
  subst e1 e2 e3
  have C59 := Aside0.mk (And.intro hC5l (And.intro hC5h hC5d))
  have HC5 := Aside0.mk (And.intro hc5l (And.intro hc5h hc5d))
  clear hR5l hC5l hc5l hR5h hC5h hc5h hR5d hC5d hc5d
  have B9 := Aside0.mk (B8.out.trans (hb.mono S8.out))
  have S9 := Aside0.mk (Nat.le_trans S8.out hb.size)
  have CM9 := Aside0.mk (Kd.C_below CM8.out hb)
  have CS9 := Aside0.mk (Kd.C_below CS8.out hb)
  have HX := Aside0.mk hx
  obtain ⟨g1, hg1⟩ : ∃ g1, (endOf wh).1 = g1 := ⟨_, rfl⟩
  obtain ⟨g2, hg2⟩ : ∃ g2, (endOf wh).2 = g2 := ⟨_, rfl⟩
  rw [hg1, hg2]
  have HG := Aside0.mk (And.intro hg1 hg2)
  clear hb HRA hx hg1 hg2
  go_upto_region 10 with fail
  have hb7 : Below w9.heap.size w9 (w9.alloc (.cells #[.int .i64 y.f0, .int .i64 y.f1, .int .i64 y.f2, .slice A5l y.f3.length c5l, .slice A5h y.f4.length c5h, .slice A5d y.f5.length c5d] 58)) := below_alloc (Below.refl _ _) _
  have r7 : Rt 58 w9.heap.size [.int .i64 y.f0, .int .i64 y.f1, .int .i64 y.f2, .slice A5l y.f3.length c5l, .slice A5h y.f4.length c5h, .slice A5d y.f5.length c5d] (w9.alloc (.cells #[.int .i64 y.f0, .int .i64 y.f1, .int .i64 y.f2, .slice A5l y.f3.length c5l, .slice A5h y.f4.length c5h, .slice A5d y.f5.length c5d] 58)) := heap_alloc_new w9 _
  obtain ⟨b10, hb7e⟩ : ∃ b7, w9.heap.size = b7 := ⟨_, rfl⟩
  have B10 := Aside0.mk (B9.out.trans (hb7.mono S9.out))
  have S10 := Aside0.mk (Nat.le_trans S9.out hb7.size)
  have CM10 := Aside0.mk (Kd.C_below CM9.out hb7)
  have CS10 := Aside0.mk (Kd.C_below CS9.out hb7)
  have C510 := Aside0.mk (And.intro (Kd.C_below C59.out.1 hb7) (And.intro (Kd.C_below C59.out.2.1 hb7) (Kd.C_below C59.out.2.2 hb7)))
  rw [hb7e] at r7 ⊢
  have R10 := Aside0.mk r7
  clear hb7 r7 hb7e
  generalize w9.alloc (.cells #[.int .i64 y.f0, .int .i64 y.f1, .int .i64 y.f2, .slice A5l y.f3.length c5l, .slice A5h y.f4.length c5h, .slice A5d y.f5.length c5d] 58) = w10 at *
  have HRB := Aside0.mk (refState_at A2 xs.length c2 xs w10 (HC2.out w10 (by rw [HBO.out]; exact B10.out)) HNC2.out HBY.out (by have := HN2.out; omega))
  rw [HWH.out, HG.out.1, HG.out.2, HX.out] at HRB
  go_wp2_with fail
  go_at_call 38
  refine HRB.out.mono ?_
  rintro e w11 ⟨hb, v, rfl, A6l, n6l, c6l, A6h, n6h, c6h, A6d, n6d, c6d, rfl, hR6l, hR6h, hR6d⟩
  obtain ⟨A6l', c6l', e6l, hc6l, hC6l⟩ := Kd.R_reads hR6l
  injection e6l with e1 e2 e3
  subst e1 e2 e3
  obtain ⟨A6h', c6h', e6h, hc6h, hC6h⟩ := Kd.R_reads hR6h
  injection e6h with e1 e2 e3
  subst e1 e2 e3
  obtain ⟨A6d', c6d', e6d, hc6d, hC6d⟩ := Kd.R_reads hR6d
  injection e6d with e1 e2 e3
  subst e1 e2 e3
  have hb9 : Below w11.heap.size w11 (w11.alloc (.cells #[.int .i64 y.f0, .int .i64 y.f1, .int .i64 y.f2, .slice A6l y.f3.length c6l, .slice A6h y.f4.length c6h, .slice A6d y.f5.length c6d] 58)) := below_alloc (Below.refl _ _) _
  have hb' := hb.trans (hb9.mono hb.size)
  have r9 : Rt 58 w11.heap.size [.int .i64 y.f0, .int .i64 y.f1, .int .i64 y.f2, .slice A6l y.f3.length c6l, .slice A6h y.f4.length c6h, .slice A6d y.f5.length c6d] (w11.alloc (.cells #[.int .i64 y.f0, .int .i64 y.f1, .int .i64 y.f2, .slice A6l y.f3.length c6l, .slice A6h y.f4.length c6h, .slice A6d y.f5.length c6d] 58)) := heap_alloc_new w11 _
  obtain ⟨b12, hb9e⟩ : ∃ b9, w11.heap.size = b9 := ⟨_, rfl⟩
  have B12 := Aside0.mk (B10.out.trans (hb'.mono S10.out))
  have S12 := Aside0.mk (Nat.le_trans S10.out hb'.size)
  have CM12 := Aside0.mk (Kd.C_below CM10.out hb')
  have CS12 := Aside0.mk (Kd.C_below CS10.out hb')
  have C512 := Aside0.mk (And.intro (Kd.C_below C510.out.1 hb') (And.intro (Kd.C_below C510.out.2.1 hb') (Kd.C_below C510.out.2.2 hb')))
  have C612 := Aside0.mk (And.intro (Kd.C_below hC6l hb9) (And.intro (Kd.C_below hC6h hb9) (Kd.C_below hC6d hb9)))
  have HC6 := Aside0.mk (And.intro hc6l (And.intro hc6h hc6d))
  clear hR6l hC6l hc6l hR6h hC6h hc6h hR6d hC6d hc6d
  have R1012 := Aside0.mk (R10.out.below hb')
  go_upto_region 11 with fail
  rw [hb9e] at r9
  have R12 := Aside0.mk r9
  clear hb9 r9 hb9e hb hb' HRB
  generalize w11.alloc (.cells #[.int .i64 y.f0, .int .i64 y.f1, .int .i64 y.f2, .slice A6l y.f3.length c6l, .slice A6h y.f4.length c6h, .slice A6d y.f5.length c6d] 58) = w12 at *
  have HSR := Aside0.mk (sameState_at y A5l c5l A5h c5h A5d c5d A6l c6l A6h c6h A6d c6d w12 C512.out.1 HC5.out.1 C512.out.2.1 HC5.out.2.1 C512.out.2.2 HC5.out.2.2 C612.out.1 HC6.out.1 C612.out.2.1 HC6.out.2.1 C612.out.2.2 HC6.out.2.2)
  have q0 := R1012.out.cell 0 _ rfl
  have p0 := R12.out.cell 0 _ rfl
  have q1 := R1012.out.cell 1 _ rfl
  have p1 := R12.out.cell 1 _ rfl
  have q2 := R1012.out.cell 2 _ rfl
  have p2 := R12.out.cell 2 _ rfl
  have q3 := R1012.out.cell 3 _ rfl
  have p3 := R12.out.cell 3 _ rfl
  have q4 := R1012.out.cell 4 _ rfl
  have p4 := R12.out.cell 4 _ rfl
  have q5 := R1012.out.cell 5 _ rfl
  have p5 := R12.out.cell 5 _ rfl
  have u1 : (g1 == g1) = true := by simp
  have u2 : (g2 == g2) = true := by simp
  go_wp2_with fail
  go_at_call 36
  refine HSR.out.mono ?_
  rintro e w13 ⟨rfl, hb⟩
  have B13 := Aside0.mk (B12.out.trans (hb.mono S12.out))
  have S13 := Aside0.mk (Nat.le_trans S12.out hb.size)
  have HKT := Aside0.mk (larderref01_Kept.calls Am cm xs A2 c2 xs true w13 (Kd.C_below CM12.out hb) HCM.out (HC2.out w13 (by rw [HBO.out]; exact B13.out)) HNC2.out (Kd.C_below CS12.out hb) HCS.out (by unfold larderref01_Kept.f; rw [if_pos rfl]))
  clear hb HSR q0 p0 q1 p1 q2 p2 q3 p3 q4 p4 q5 p5
  go_wp2_with fail
  go_at_call 18
  refine HKT.out.mono ?_
  rintro e w14 ⟨rfl, hd⟩
  have hb : Below w13.heap.size w13 w14 := by
    obtain ⟨md, rfl⟩ := hd
    exact pw_below_drewN (Below.refl _ _) md
  have B14 := Aside0.mk (B13.out.trans (hb.mono S13.out))
  clear hd hb
  go_wp2_with fail
  go_ret
  rw [HBO.out]
  exact ⟨rfl, B14.out⟩
end Go.Proofs.Ytafmoglaockepaa.Cd
end
