/- The document's reader: levels, walked. -/
import Derived.Test.YtafmoglaockepaaRe4
import Derived.Deep.RegionHeld3
import Derived.Deep.RegionLaw
namespace Go.Proofs.Ytafmoglaockepaa.Cd
open Go Go.RowKit Go.Proofs.Ytafmoglaockepaa.Num Go.Proofs.Ytafmoglaockepaa.PG Go.Proofs.YtafmoglaockepaaW.PrintWords Go.Proofs.YtafmoglaockepaaW.PrintLast Go.Proofs.YtafmoglaockepaaW.PrintMore
set_option linter.unusedVariables false
set_option linter.unusedSimpArgs false
set_option maxHeartbeats 4000000
set_option maxRecDepth 100000
variable {g B : Nat} {A : Option Addr} {n c : Nat} {xs : List Int} {most : Nat}
/-- Where a reading stands, without its value. -/
def Res.shape {α : Type} : Res α → Res Unit
  | .ok _ m => .ok () m
  | .fail e p => .fail e p
theorem QSt.like {α β : Type} {r : Res α} {r' : Res β} {W : World} (k : QSt g B A n c xs most r W) (h : r.shape = r'.shape) : QSt g B A n c xs most r' W := by
  cases r <;> cases r' <;> simp only [Res.shape] at h
  · injection h with _ h2
    subst h2
    exact k
  · simp at h
  · simp at h
  · injection h with h1 h2
    subst h1 h2
    exact k
theorem QSt.cell3 {α : Type} {r : Res α} {W : World} (k : QSt g B A n c xs most r W) : ∃ e, W.cell? ⟨g, 3, none⟩ = some (.int .i64 e) ∧ ((∃ x m, r = .ok x m) ∧ e = 0 ∨ (∃ p, r = .fail e p) ∧ e ≠ 0) := by
  cases r with
  | ok x m => exact ⟨0, (QAt.row k).cell 3 _ rfl, .inl ⟨⟨x, m, rfl⟩, rfl⟩⟩
  | fail e p => exact ⟨e, k.2.choose_spec.row.cell 3 _ rfl, .inr ⟨⟨p, rfl⟩, k.1⟩⟩
theorem pU_le {m k m' : Nat} (h : pU xs most m = .ok k m') : k ≤ most := by
  unfold pU at h
  cases hr : took m (ug 0 0 (xs.drop m)) with
  | fail e p => rw [hr] at h; simp [Res.bind] at h
  | ok u m2 =>
    rw [hr] at h
    simp only [Res.bind] at h
    split at h
    · simp at h
    · injection h with h1 h2
      omega
/-- One more level. -/
def oneMore (xs : List Int) (most m : Nat) (l : List S28) : Res (List S28) := (pLevel xs most m).bind fun x m => .ok (l ++ [x]) m
theorem oneMore_is {m u i : Nat} {y : List S28} {T : Res (List S28)} {t : ByteArray} {a z : Int} {w7 : World}
    (k : QSt g B A n c xs most (((((Res.ok y m : Res (List S28)).bind fun _ m => pT xs most m)).bind fun _ m => pI xs m).bind fun _ m => pI xs m) w7)
    (h0 : ∀ y' m', ((Res.ok y m : Res (List S28)).bind fun _ m => pT xs most m) = .ok y' m' → y' = t)
    (h1 : ∀ y' m', ((((Res.ok y m : Res (List S28)).bind fun _ m => pT xs most m)).bind fun _ m => pI xs m) = .ok y' m' → y' = a)
    (h2 : ∀ y' m', (((((Res.ok y m : Res (List S28)).bind fun _ m => pT xs most m)).bind fun _ m => pI xs m).bind fun _ m => pI xs m) = .ok y' m' → y' = z)
    (hT : (Res.ok y m).bind (fun l m => pN (pLevel xs most) (u - i) l m) = T) (ci : i < u) :
    QSt g B A n c xs most (oneMore xs most m y) w7 ∧ (∀ l m2, oneMore xs most m y = .ok l m2 → l = y ++ [⟨t, a, z⟩]) ∧ (oneMore xs most m y).bind (fun l m => pN (pLevel xs most) (u - (i + 1)) l m) = T := by
  rw [show u - i = (u - (i + 1)) + 1 from by omega] at hT
  simp only [Res.bind, pN] at hT
  unfold oneMore
  revert k h0 h1 h2 hT
  unfold pLevel
  simp only [Res.bind]
  cases pT xs most m with
  | fail e p => exact fun k _ _ _ hT => ⟨k, fun l m2 h => by simp at h, hT⟩
  | ok t' m1 =>
    simp only
    cases pI xs m1 with
    | fail e p => exact fun k _ _ _ hT => ⟨k, fun l m2 h => by simp at h, hT⟩
    | ok a' m2 =>
      simp only
      cases pI xs m2 with
      | fail e p => exact fun k _ _ _ hT => ⟨k, fun l m2 h => by simp at h, hT⟩
      | ok z' m3 =>
        intro k h0 h1 h2 hT
        refine ⟨k, fun l m4 h => ?_, hT⟩
        injection h with h3 h4
        rw [← h3, h0 _ _ rfl, h1 _ _ rfl, h2 _ _ rfl]
theorem q_levels {α : Type} {r : Res α} {W : World} (k : QSt g B A n c xs most r W) (hmb : most < 1000000000) :
    Calls Try.prog 67 #[ptr g] W fun e w' => Below B W w' ∧ Kept W w' (fun j => j = g) ∧ OutQ g B A n c xs most (fun l v w' => k28.R 28 w' W.heap.size (fun _ => True) v l) (r.bind fun _ m => pList xs most (pLevel xs most) m) e w' := by
  have HK := Aside0.mk k
  have HMB := Aside0.mk hmb
  have HMY := Aside0.mk (q_many k)
  clear k hmb
  go_enter Try.func67, Try.ntmps67
  go_wp2_with fail
  go_at_call 96
  refine HMY.out.mono ?_
  rintro e w1 ⟨hb, hp, u, v, rfl, rfl, hu, hq⟩
  obtain ⟨S0, hS0⟩ : ∃ S0, W.heap.size = S0 := ⟨_, rfl⟩
  have HS0 := Aside0.mk hS0
  have HLT := Aside0.mk (show g < S0 ∧ B ≤ S0 by have := HK.out.lt; have := HK.out.size; omega)
  obtain ⟨T, hT⟩ : ∃ T, (r.bind fun _ m => pList xs most (pLevel xs most) m) = T := ⟨_, rfl⟩
  have HT := Aside0.mk hT
  have B1 := Aside0.mk hb
  have P1 := Aside0.mk hp
  have HI := Aside0.mk (show ∃ st : Res (List S28), QSt g B A n c xs most st w1 ∧ (∀ y m, st = .ok y m → y = [] ∧ u ≤ most) ∧ st.bind (fun l m => pN (pLevel xs most) (u - 0) l m) = T from by
    cases r with
    | fail e p =>
      simp only [Res.bind] at hT hq ⊢
      exact ⟨.fail e p, hq, fun y m h => by simp at h, hT⟩
    | ok x m =>
      cases hpu : pU xs most m with
      | fail e p =>
        simp only [Res.bind, hpu] at hq
        refine ⟨.fail e p, hq, fun y m h => by simp at h, ?_⟩
        simp only [Res.bind, pList, hpu] at hT ⊢
        exact hT
      | ok k m2 =>
        simp only [Res.bind, hpu] at hq hu
        obtain rfl := hu k m2 rfl
        refine ⟨.ok [] m2, hq, fun y m h => by cases h; exact ⟨rfl, pU_le hpu⟩, ?_⟩
        simp only [Res.bind, pList, hpu, Nat.sub_zero] at hT ⊢
        exact hT)
  clear hb hp hu hq hT hS0 HMY
  go_wp2_with fail
  go_loopw [3, 5] (fun v p wr => ∃ (i : Nat) (l : List S28) (st : Res (List S28)), p = .int .i64 (i : Int) ∧ Aside0 (l.length = i) ∧ Aside0 (QSt g B A n c xs most st wr) ∧ Aside0 (∀ y m, st = .ok y m → y = l ∧ i ≤ u ∧ u ≤ most) ∧ Aside0 (st.bind (fun l m => pN (pLevel xs most) (u - i) l m) = T) ∧ Aside0 (k28.R 28 wr S0 (fun _ => True) v l) ∧ Aside0 (Below B W wr) ∧ Aside0 (Kept W wr (fun j => j = g))) (fun _ p _ => u - (intOf p).toNat)
  · obtain ⟨st, h1, h2, h3⟩ := HI.out
    exact ⟨0, [], st, rfl, ⟨rfl⟩, ⟨h1⟩, ⟨fun y m h => ⟨(h2 y m h).1, Nat.zero_le _, (h2 y m h).2⟩⟩, ⟨h3⟩, ⟨Kd.R_nil _ _ _ _ _⟩, B1, P1⟩
  · obtain ⟨i, l, st, rfl, HLN, HQ, HST, HPN, HR, HBr, HPr⟩ := hrel
    by_cases ci : i < u
    rotate_left
    · have ci1 : decide ((i : Int) < (u : Int)) = false := decide_eq_false (by omega)
      have HE := Aside0.mk (show QSt g B A n c xs most T wr ∧ ∀ y m, T = .ok y m → y = l from by
        have h := HPN.out
        rw [show u - i = 0 from by omega] at h
        cases st with
        | fail e p =>
          simp only [Res.bind] at h
          subst h
          exact ⟨HQ.out, fun y m h => by simp at h⟩
        | ok y m =>
          simp only [Res.bind, pN] at h
          subst h
          exact ⟨HQ.out, fun z m2 h => by
            injection h with h1 _
            rw [← h1]
            exact (HST.out y m rfl).1⟩)
      have ci2 : ((i : Int) < (u : Int)) = False := eq_false (by omega)
      have ci3 : decide (i < u) = false := decide_eq_false ci
      have ci4 : (i < u) = False := eq_false ci
      obtain ⟨e, hc3, hcs⟩ := HQ.out.cell3
      clear ci hcs
      go_wp2_with fail
      go_ret
      rw [HT.out, HS0.out]
      exact ⟨HBr.out, HPr.out, l, _, rfl, HR.out, HE.out.2, HE.out.1⟩
    have ci1 : decide ((i : Int) < (u : Int)) = true := decide_eq_true (by omega)
    obtain ⟨e, hc3, hcs⟩ := HQ.out.cell3
    rcases hcs with ⟨⟨y, m, hst⟩, rfl⟩ | ⟨⟨p, hst⟩, he⟩
    rotate_left
    · subst hst
      have h1 : (e == 0) = false := by simpa using he
      have h2 : decide (e = 0) = false := decide_eq_false he
      clear he
      go_wp2_with fail
      go_ret
      rw [HT.out, HS0.out]
      have hT : Res.fail e p = T := HPN.out
      subst hT
      exact ⟨HBr.out, HPr.out, l, _, rfl, HR.out, fun y m h => by simp at h, HQ.out⟩
    subst hst
    obtain ⟨rfl, hiu, hum⟩ := HST.out _ _ rfl
    have HUM := Aside0.mk (And.intro hiu hum)
    have hw1 : wrap64 ((i : Int) + 1) = ((i + 1 : Nat) : Int) := by have := HMB.out; unfold wrap64; omega
    clear hiu hum
    go_upto_region 7 with fail
    have hr1 : Rt 28 wr.heap.size [.string ⟨#[]⟩, .int .i64 0, .int .i64 0] (wr.alloc (.cells #[.string ⟨#[]⟩, .int .i64 0, .int .i64 0] 28)) := heap_alloc_new wr _
    have hb1 : Below wr.heap.size wr (wr.alloc (.cells #[.string ⟨#[]⟩, .int .i64 0, .int .i64 0] 28)) := below_alloc (Below.refl _ _) _
    obtain ⟨b, hbe⟩ : ∃ b, wr.heap.size = b := ⟨_, rfl⟩
    have HBL := Aside0.mk (show g < b ∧ B ≤ b ∧ S0 ≤ b by have := HPr.out.1; have := HS0.out; have := HLT.out; omega)
    have HBE := Aside0.mk hbe
    have K1 := Aside0.mk (HQ.out.below hb1)
    have B1' := Aside0.mk (HBr.out.trans (hb1.mono HQ.out.size))
    have P1' := Aside0.mk (HPr.out.then_ (Kept.of_below hb1 (fun j => j = g)) (fun _ h => .inl h))
    have L1 := Aside0.mk (show k28.R 28 (wr.alloc (.cells #[.string ⟨#[]⟩, .int .i64 0, .int .i64 0] 28)) S0 (fun j => j ≠ b) u3 y from Kd.R_mono (Kd.R_below (Kd.R_bound HR.out) hb1) (fun j hj e => by have := hj.2.2; omega))
    rw [hbe] at hr1 ⊢
    have R1 := Aside0.mk hr1
    clear hr1 hb1 hbe hc3
    generalize wr.alloc (.cells #[.string ⟨#[]⟩, .int .i64 0, .int .i64 0] 28) = w1 at *
    have cr := R1.out.cell 0 _ rfl
    have fr := R1.out.free 0
    go_wp2_with fail
    go_at_call 65
    refine (q_text K1.out).mono ?_
    rintro e w2 ⟨hb, hp, t, v, rfl, rfl, hx, hq⟩
    have X0 := Aside0.mk hx
    have K2 := Aside0.mk hq
    have B2' := Aside0.mk (B1'.out.trans hb)
    have P2' := Aside0.mk (P1'.out.then_ hp (fun _ h => .inl h))
    have R2 := Aside0.mk (show Rt 28 b [Value.string ⟨#[]⟩, .int .i64 0, .int .i64 0] w2 from (hp.2 b R1.out.lt (by have := HBL.out; show b ≠ g; omega)).trans R1.out)
    have L2 := Aside0.mk (show k28.R 28 w2 S0 (fun j => j ≠ b) u3 y from Kd.R_mono (Kd.R_kept (Kd.R_bound L1.out) hp (fun j hj e => by have := hj.2.1; have := HLT.out; omega)) (fun j hj => hj.1))
    clear hb hp hx hq cr fr
    have cr := R2.out.cell 0 _ rfl
    have fr := R2.out.free 0
    go_upto_region 8 with fail
    have e1 := R2.out.set 0 (.string t)
    rw [e1]
    clear e1 cr fr
    have hl : [Value.string ⟨#[]⟩, .int .i64 0, .int .i64 0].set 0 (.string t) = [Value.string t, .int .i64 0, .int .i64 0] := rfl
    rw [hl]
    clear hl
    have K3 := Aside0.mk (K2.out.aside (W' := w2.setRow b [Value.string t, .int .i64 0, .int .i64 0].toArray) (below_setRow' (Below.refl _ _) HBL.out.2.1 _) (setRow_other _ _ _ _ (by have := HBL.out; omega)))
    have B3' := Aside0.mk (show Below B W (w2.setRow b [Value.string t, .int .i64 0, .int .i64 0].toArray) from below_setRow' B2'.out HBL.out.2.1 _)
    have P3' := Aside0.mk (show Kept W (w2.setRow b [Value.string t, .int .i64 0, .int .i64 0].toArray) (fun j => j = g) from ⟨by rw [setRow_size]; exact P2'.out.1, fun j hj hn => (setRow_other _ _ _ _ (by have := HBL.out; have := HS0.out; omega)).trans (P2'.out.2 j hj hn)⟩)
    have R3 := Aside0.mk (show Rt 28 b [Value.string t, .int .i64 0, .int .i64 0] (w2.setRow b [Value.string t, .int .i64 0, .int .i64 0].toArray) from R2.out.row _)
    have L3 := Aside0.mk (show k28.R 28 (w2.setRow b [Value.string t, .int .i64 0, .int .i64 0].toArray) S0 (fun j => j ≠ b) u3 y from Kd.R_step L2.out (fun j hne _ => setRow_other _ _ _ _ hne))
    generalize w2.setRow b [Value.string t, .int .i64 0, .int .i64 0].toArray = w3 at *
    have cr := R3.out.cell 1 _ rfl
    have fr := R3.out.free 1
    go_wp2_with fail
    go_at_call 66
    refine (q_int K3.out).mono ?_
    rintro e w4 ⟨hb, hp, a, v, rfl, rfl, hx, hq⟩
    have X1 := Aside0.mk hx
    have K4 := Aside0.mk hq
    have B4' := Aside0.mk (B3'.out.trans hb)
    have P4' := Aside0.mk (P3'.out.then_ hp (fun _ h => .inl h))
    have R4 := Aside0.mk (show Rt 28 b [Value.string t, .int .i64 0, .int .i64 0] w4 from (hp.2 b R3.out.lt (by have := HBL.out; show b ≠ g; omega)).trans R3.out)
    have L4 := Aside0.mk (show k28.R 28 w4 S0 (fun j => j ≠ b) u3 y from Kd.R_mono (Kd.R_kept (Kd.R_bound L3.out) hp (fun j hj e => by have := hj.2.1; have := HLT.out; omega)) (fun j hj => hj.1))
    clear hb hp hx hq cr fr
    have cr := R4.out.cell 1 _ rfl
    have fr := R4.out.free 1
    go_upto_region 9 with fail
    have e1 := R4.out.set 1 (.int .i64 a)
    rw [e1]
    clear e1 cr fr
    have hl : [Value.string t, .int .i64 0, .int .i64 0].set 1 (.int .i64 a) = [Value.string t, .int .i64 a, .int .i64 0] := rfl
    rw [hl]
    clear hl
    have K5 := Aside0.mk (K4.out.aside (W' := w4.setRow b [Value.string t, .int .i64 a, .int .i64 0].toArray) (below_setRow' (Below.refl _ _) HBL.out.2.1 _) (setRow_other _ _ _ _ (by have := HBL.out; omega)))
    have B5' := Aside0.mk (show Below B W (w4.setRow b [Value.string t, .int .i64 a, .int .i64 0].toArray) from below_setRow' B4'.out HBL.out.2.1 _)
    have P5' := Aside0.mk (show Kept W (w4.setRow b [Value.string t, .int .i64 a, .int .i64 0].toArray) (fun j => j = g) from ⟨by rw [setRow_size]; exact P4'.out.1, fun j hj hn => (setRow_other _ _ _ _ (by have := HBL.out; have := HS0.out; omega)).trans (P4'.out.2 j hj hn)⟩)
    have R5 := Aside0.mk (show Rt 28 b [Value.string t, .int .i64 a, .int .i64 0] (w4.setRow b [Value.string t, .int .i64 a, .int .i64 0].toArray) from R4.out.row _)
    have L5 := Aside0.mk (show k28.R 28 (w4.setRow b [Value.string t, .int .i64 a, .int .i64 0].toArray) S0 (fun j => j ≠ b) u3 y from Kd.R_step L4.out (fun j hne _ => setRow_other _ _ _ _ hne))
    generalize w4.setRow b [Value.string t, .int .i64 a, .int .i64 0].toArray = w5 at *
    have cr := R5.out.cell 2 _ rfl
    have fr := R5.out.free 2
    go_wp2_with fail
    go_at_call 66
    refine (q_int K5.out).mono ?_
    rintro e w6 ⟨hb, hp, z, v, rfl, rfl, hx, hq⟩
    have X2 := Aside0.mk hx
    have K6 := Aside0.mk hq
    have B6' := Aside0.mk (B5'.out.trans hb)
    have P6' := Aside0.mk (P5'.out.then_ hp (fun _ h => .inl h))
    have R6 := Aside0.mk (show Rt 28 b [Value.string t, .int .i64 a, .int .i64 0] w6 from (hp.2 b R5.out.lt (by have := HBL.out; show b ≠ g; omega)).trans R5.out)
    have L6 := Aside0.mk (show k28.R 28 w6 S0 (fun j => j ≠ b) u3 y from Kd.R_mono (Kd.R_kept (Kd.R_bound L5.out) hp (fun j hj e => by have := hj.2.1; have := HLT.out; omega)) (fun j hj => hj.1))
    clear hb hp hx hq cr fr
    have cr := R6.out.cell 2 _ rfl
    have fr := R6.out.free 2
    go_upto_region 10 with fail
    have e1 := R6.out.set 2 (.int .i64 z)
    rw [e1]
    clear e1 cr fr
    have hl : [Value.string t, .int .i64 a, .int .i64 0].set 2 (.int .i64 z) = [Value.string t, .int .i64 a, .int .i64 z] := rfl
    rw [hl]
    clear hl
    have K7 := Aside0.mk (K6.out.aside (W' := w6.setRow b [Value.string t, .int .i64 a, .int .i64 z].toArray) (below_setRow' (Below.refl _ _) HBL.out.2.1 _) (setRow_other _ _ _ _ (by have := HBL.out; omega)))
    have B7' := Aside0.mk (show Below B W (w6.setRow b [Value.string t, .int .i64 a, .int .i64 z].toArray) from below_setRow' B6'.out HBL.out.2.1 _)
    have P7' := Aside0.mk (show Kept W (w6.setRow b [Value.string t, .int .i64 a, .int .i64 z].toArray) (fun j => j = g) from ⟨by rw [setRow_size]; exact P6'.out.1, fun j hj hn => (setRow_other _ _ _ _ (by have := HBL.out; have := HS0.out; omega)).trans (P6'.out.2 j hj hn)⟩)
    have R7 := Aside0.mk (show Rt 28 b [Value.string t, .int .i64 a, .int .i64 z] (w6.setRow b [Value.string t, .int .i64 a, .int .i64 z].toArray) from R6.out.row _)
    have L7 := Aside0.mk (show k28.R 28 (w6.setRow b [Value.string t, .int .i64 a, .int .i64 z].toArray) S0 (fun j => j ≠ b) u3 y from Kd.R_step L6.out (fun j hne _ => setRow_other _ _ _ _ hne))
    generalize w6.setRow b [Value.string t, .int .i64 a, .int .i64 z].toArray = w7 at *
    have HN := Aside0.mk (oneMore_is K7.out X0.out X1.out X2.out HPN.out ci)
    have S7 := Aside0.mk (show S0 ≤ w7.heap.size by have := P7'.out.1; have := HS0.out; omega)
    have HSZ := Aside0.mk (show (y.length + 1) * 32 ≤ 140737488355328 by have := HLN.out; have := HUM.out; have := HMB.out; omega)
    have x0 := R7.out.cell 0 _ rfl
    have x1 := R7.out.cell 1 _ rfl
    have x2 := R7.out.cell 2 _ rfl
    have RX := Aside0.mk (show k28.R 28 w7 S0 (fun _ => True) u3 y from Kd.R_mono L7.out (fun _ _ => trivial))
    go_wp2_with (first | (
      (with_reducible refine gate_builtin (b := .append) (xs := #[.tmp 31, .tmp 33]) rfl ?_)
      at_builtin
      refine Kd.R_append k28 (w0 := w7) S0 rfl (.tmp 31) (.tmp 33) 23 28 (.agg #[.string ⟨#[]⟩, .int .i64 0, .int .i64 0]) 32 rfl Try.underlying23 info28 rfl (by decide) (by decide) _ y ⟨t, a, z⟩ [.string t, .int .i64 a, .int .i64 z] (fun _ => True) (fun _ => False) rfl rfl (k28_mkM _ _ _ ⟨t, a, z⟩) (fun _ h => h.elim) (fun _ _ => trivial) RX.out (Below.refl _ _) S7.out HSZ.out ?_
      intro v1 w8 ho hb hg hat
      have HO8 := Aside0.mk ho
      have K8 := Aside0.mk (HN.out.1.aside (hb.mono HLT.out.2) (hb.block g HLT.out.1))
      have B8' := Aside0.mk (B7'.out.trans (hb.mono HLT.out.2))
      have P8' := Aside0.mk (show Kept W w8 (fun j => j = g) from ⟨Nat.le_trans P7'.out.1 hb.size, fun j hj hn => (hb.block j (by have := HS0.out; omega)).trans (P7'.out.2 j hj hn)⟩)
      clear ho hb hg hat))
    refine ⟨⟨i + 1, y ++ [⟨t, a, z⟩], oneMore xs most m y, congrArg (Value.int .i64) (by omega), ⟨by rw [List.length_append, HLN.out]; rfl⟩, K8, ⟨fun l m2 h => ⟨HN.out.2.1 l m2 h, ci, HUM.out.2⟩⟩, ⟨HN.out.2.2⟩, HO8, B8', P8'⟩, ?_⟩
    rw [hw1]
    show u - (((i + 1 : Nat) : Int)).toNat < u - ((i : Nat) : Int).toNat
    omega
end Go.Proofs.Ytafmoglaockepaa.Cd
