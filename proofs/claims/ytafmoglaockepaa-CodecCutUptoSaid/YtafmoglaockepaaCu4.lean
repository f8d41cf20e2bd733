/- What the codec writes and reads: texts of this session joined, with what is not needed left out. -/
import Derived.Test.YtafmoglaockepaaCu2
import Derived.Test.YtafmoglaockepaaCu3
import Derived.Deep.RegionHeld3
import Derived.Deep.RegionLaw
import Derived.Defers
import Derived.Recover
section
namespace Go.Proofs.Ytafmoglaockepaa.Cd
open Go Go.RowKit Go.Proofs.Ytafmoglaockepaa.Num Go.Proofs.Ytafmoglaockepaa.PG Go.Proofs.YtafmoglaockepaaW.PrintWords Go.Proofs.YtafmoglaockepaaW.PrintLast Go.Proofs.YtafmoglaockepaaW.PrintMore
set_option linter.unusedVariables false
set_option linter.unusedSimpArgs false
set_option maxHeartbeats 4000000
set_option maxRecDepth 100000
theorem r_levels {g B : Nat} {A : Option Addr} {n c : Nat} {xs : List Int} {m most : Nat} {W : World} (k : CrAt g B A n c xs m most W) :
    Calls Try.prog 63 #[ptr g] W fun e w' => Below B W w' ∧ Kept W w' (fun j => j = g) ∧ OutR g B A n c xs most (fun l v w' => k28.R 28 w' W.heap.size (fun _ => True) v l) (pList xs most (pLevel xs most) m) e w' := by
  have HK := Aside0.mk k
  have hr2 : Rt 101 W.heap.size [ptr g] (W.alloc (.cells #[ptr g] 101)) := heap_alloc_new W _
  have hb1 : Below W.heap.size W (W.alloc (.cells #[ptr g] 101)) := below_alloc (Below.refl _ _) _
  have hmf : ∀ (fn : Fn) (first cap : Array Value) (w : World), (Instr.makeFunc fn first cap).run Try.prog w = .ok (.func fn first cap) w := fun _ _ _ _ => rfl
  have HSZ := Aside0.mk hb1.size
  clear k
  go_enter Try.func63, Try.ntmps63
  go_upto_region 1 with fail
  obtain ⟨b2, hb2⟩ : ∃ b2, W.heap.size = b2 := ⟨_, rfl⟩
  have HBE := Aside0.mk hb2
  have K1 := Aside0.mk (HK.out.below hb1)
  have B1 := Aside0.mk (hb1.mono HK.out.size)
  have P1 := Aside0.mk (Kept.of_below hb1 (fun j => j = g))
  rw [hb2] at hr2 ⊢
  have R1 := Aside0.mk hr2
  clear hr2 hb1 hb2
  generalize W.alloc (.cells #[ptr g] 101) = w1 at *
  have c0 := R1.out.cell 0 _ rfl
  go_wp2_with fail
  go_at_call 118
  refine (r_levelList K1.out R1.out).mono ?_
  rintro e w2 ⟨hb, hp, ho⟩
  have hbt := B1.out.trans hb
  have hpt := P1.out.then_ hp (fun _ h => .inl h)
  rcases hq : pList xs most (pLevel xs most) m with ⟨l, m2⟩ | ⟨er, p⟩
  · rw [hq] at ho
    obtain ⟨v, he, hR, hk⟩ : ∃ v, e = .returned v ∧ k28.R 28 w2 w1.heap.size (fun _ => True) v l ∧ CrAt g B A n c xs m2 most w2 := ho
    subst he
    have HR := Aside0.mk (show k28.R 28 w2 W.heap.size (fun _ => True) v l from Kd.R_lower hR HSZ.out)
    have K2 := Aside0.mk hk
    have B2 := Aside0.mk hbt
    have P2 := Aside0.mk hpt
    have HQ := Aside0.mk hq
    clear hb hp hbt hpt hR hk hq c0 hmf
    try clear ho
    go_wp2_with fail
    go_ret
    rw [HBE.out] at *
    refine ⟨B2.out, P2.out, ?_⟩
    rw [HQ.out]
    exact ⟨v, rfl, HR.out, K2.out⟩
  · rw [hq] at ho
    have ho : e = gaveUp er p := ho
    subst ho
    refine ⟨rfl, hbt, hpt, ?_⟩
    rw [hq]
    rfl
structure RepD where
  id : ByteArray
  er : Int
  line : Int
  levs : List S28
  now : Int
def pReply (xs : List Int) (most : Nat) (m : Nat) : Res RepD :=
  (pT xs most m).bind fun id m => (pI xs m).bind fun er m => (pI xs m).bind fun line m => (pList xs most (pLevel xs most) m).bind fun l m => (pI xs m).bind fun now m => .ok ⟨id, er, line, l, now⟩ m
def encRep (S0 : Nat) (x : RepD) (v : Value) (w : World) : Prop := ∃ A n c, v = .agg #[.string x.id, .int .i64 x.er, .int .i64 x.line, .slice A n c, .int .i64 x.now] ∧ k28.R 28 w S0 (fun _ => True) (.slice A n c) x.levs
theorem r_replyF {g B : Nat} {A : Option Addr} {n c : Nat} {xs : List Int} {m most : Nat} {W : World} (k : CrAt g B A n c xs m most W) :
    Calls Try.prog 60 #[ptr g] W fun e w' => Below B W w' ∧ Kept W w' (fun j => j = g) ∧ OutR g B A n c xs most (encRep W.heap.size) (pReply xs most m) e w' := by
  have HK := Aside0.mk k
  clear k
  go_enter Try.func60, Try.ntmps60
  go_upto_region 1 with fail
  have hr1 : Rt 25 W.heap.size [.string ⟨#[]⟩, .int .i64 0, .int .i64 0, .slice none 0 0, .int .i64 0] (W.alloc (.cells #[.string ⟨#[]⟩, .int .i64 0, .int .i64 0, .slice none 0 0, .int .i64 0] 25)) := heap_alloc_new W _
  have hb1 : Below W.heap.size W (W.alloc (.cells #[.string ⟨#[]⟩, .int .i64 0, .int .i64 0, .slice none 0 0, .int .i64 0] 25)) := below_alloc (Below.refl _ _) _
  obtain ⟨b, hbe⟩ : ∃ b, W.heap.size = b := ⟨_, rfl⟩
  have K1 := Aside0.mk (HK.out.below hb1)
  have B1 := Aside0.mk (hb1.mono HK.out.size)
  have P1 := Aside0.mk (Kept.of_below hb1 (fun j => j = g))
  have HBE := Aside0.mk hbe
  have HLT := Aside0.mk (show g < b ∧ B ≤ b by have := HK.out.row.lt; have := HK.out.size; omega)
  rw [hbe] at hr1 ⊢
  have R1 := Aside0.mk hr1
  clear hr1 hb1 hbe
  generalize W.alloc (.cells #[.string ⟨#[]⟩, .int .i64 0, .int .i64 0, .slice none 0 0, .int .i64 0] 25) = w1 at *
  have cr := R1.out.cell 0 _ rfl
  have fr := R1.out.free 0
  go_wp2_with fail
  go_at_call 61
  refine (r_text K1.out).mono ?_
  rintro e w2 ⟨hb, hp, ho⟩
  have hbt := B1.out.trans hb
  have hpt := P1.out.then_ hp (fun _ h => .inl h)
  rcases hq : pT xs most m with ⟨t, m1⟩ | ⟨er, p⟩
  rotate_left
  · rw [hq] at ho
    have ho : e = gaveUp er p := ho
    subst ho
    refine ⟨rfl, hbt, hpt, ?_⟩
    have e9 : pReply xs most m = Res.fail er p := by
      unfold pReply
      simp only [Res.bind, hq]
    rw [e9]
    rfl
  rw [hq] at ho
  obtain ⟨he, hk⟩ : e = .returned (.string t) ∧ CrAt g B A n c xs m1 most w2 := ho
  subst he
  have HQ0 := Aside0.mk hq
  have K2 := Aside0.mk hk
  have B2 := Aside0.mk hbt
  have P2 := Aside0.mk hpt
  have R2 := Aside0.mk (show Rt 25 b [.string ⟨#[]⟩, .int .i64 0, .int .i64 0, .slice none 0 0, .int .i64 0] w2 from (hp.2 b R1.out.lt (by have := HLT.out; show b ≠ g; omega)).trans R1.out)
  clear hb hp hbt hpt hq hk cr fr
  try clear ho
  have cr := R2.out.cell 0 _ rfl
  have fr := R2.out.free 0
  go_upto_region 2 with fail
  have e1 := R2.out.set 0 (.string t)
  rw [e1]
  clear e1 cr fr
  have hl : [Value.string ⟨#[]⟩, .int .i64 0, .int .i64 0, .slice none 0 0, .int .i64 0].set 0 (.string t) = [Value.string t, .int .i64 0, .int .i64 0, .slice none 0 0, .int .i64 0] := rfl
  rw [hl]
  clear hl
  have K3 := Aside0.mk (show CrAt g B A n c xs m1 most (w2.setRow b [Value.string t, .int .i64 0, .int .i64 0, .slice none 0 0, .int .i64 0].toArray) from K2.out.aside (below_setRow' (Below.refl _ _) HLT.out.2 _) (setRow_other _ _ _ _ (by have := HLT.out; omega)))
  have B3 := Aside0.mk (show Below B W (w2.setRow b [Value.string t, .int .i64 0, .int .i64 0, .slice none 0 0, .int .i64 0].toArray) from below_setRow' B2.out HLT.out.2 _)
  have P3 := Aside0.mk (show Kept W (w2.setRow b [Value.string t, .int .i64 0, .int .i64 0, .slice none 0 0, .int .i64 0].toArray) (fun j => j = g) from ⟨by rw [setRow_size]; exact P2.out.1, fun j hj hn => (setRow_other _ _ _ _ (by have := HBE.out; omega)).trans (P2.out.2 j hj hn)⟩)
  have R3 := Aside0.mk (show Rt 25 b [Value.string t, .int .i64 0, .int .i64 0, .slice none 0 0, .int .i64 0] (w2.setRow b [Value.string t, .int .i64 0, .int .i64 0, .slice none 0 0, .int .i64 0].toArray) from R2.out.row _)
  generalize w2.setRow b [Value.string t, .int .i64 0, .int .i64 0, .slice none 0 0, .int .i64 0].toArray = w3 at *
  have cr := R3.out.cell 1 _ rfl
  have fr := R3.out.free 1
  go_wp2_with fail
  go_at_call 62
  refine (r_int K3.out).mono ?_
  rintro e w4 ⟨hb, hp, ho⟩
  have hbt := B3.out.trans hb
  have hpt := P3.out.then_ hp (fun _ h => .inl h)
  rcases hq : pI xs m1 with ⟨a, m2⟩ | ⟨er, p⟩
  rotate_left
  · rw [hq] at ho
    have ho : e = gaveUp er p := ho
    subst ho
    refine ⟨rfl, hbt, hpt, ?_⟩
    have e9 : pReply xs most m = Res.fail er p := by
      unfold pReply
      simp only [Res.bind, HQ0.out, hq]
    rw [e9]
    rfl
  rw [hq] at ho
  obtain ⟨he, hk⟩ : e = .returned (.int .i64 a) ∧ CrAt g B A n c xs m2 most w4 := ho
  subst he
  have HQ1 := Aside0.mk hq
  have K4 := Aside0.mk hk
  have B4 := Aside0.mk hbt
  have P4 := Aside0.mk hpt
  have R4 := Aside0.mk (show Rt 25 b [.string t, .int .i64 0, .int .i64 0, .slice none 0 0, .int .i64 0] w4 from (hp.2 b R3.out.lt (by have := HLT.out; show b ≠ g; omega)).trans R3.out)
  clear hb hp hbt hpt hq hk cr fr
  try clear ho
  have cr := R4.out.cell 1 _ rfl
  have fr := R4.out.free 1
  go_upto_region 3 with fail
  have e1 := R4.out.set 1 (.int .i64 a)
  rw [e1]
  clear e1 cr fr
  have hl : [Value.string t, .int .i64 0, .int .i64 0, .slice none 0 0, .int .i64 0].set 1 (.int .i64 a) = [Value.string t, .int .i64 a, .int .i64 0, .slice none 0 0, .int .i64 0] := rfl
  rw [hl]
  clear hl
  have K5 := Aside0.mk (show CrAt g B A n c xs m2 most (w4.setRow b [Value.string t, .int .i64 a, .int .i64 0, .slice none 0 0, .int .i64 0].toArray) from K4.out.aside (below_setRow' (Below.refl _ _) HLT.out.2 _) (setRow_other _ _ _ _ (by have := HLT.out; omega)))
  have B5 := Aside0.mk (show Below B W (w4.setRow b [Value.string t, .int .i64 a, .int .i64 0, .slice none 0 0, .int .i64 0].toArray) from below_setRow' B4.out HLT.out.2 _)
  have P5 := Aside0.mk (show Kept W (w4.setRow b [Value.string t, .int .i64 a, .int .i64 0, .slice none 0 0, .int .i64 0].toArray) (fun j => j = g) from ⟨by rw [setRow_size]; exact P4.out.1, fun j hj hn => (setRow_other _ _ _ _ (by have := HBE.out; omega)).trans (P4.out.2 j hj hn)⟩)
  have R5 := Aside0.mk (show Rt 25 b [Value.string t, .int .i64 a, .int .i64 0, .slice none 0 0, .int .i64 0] (w4.setRow b [Value.string t, .int .i64 a, .int .i64 0, .slice none 0 0, .int .i64 0].toArray) from R4.out.row _)
  generalize w4.setRow b [Value.string t, .int .i64 a, .int .i64 0, .slice none 0 0, .int .i64 0].toArray = w5 at *
  have cr := R5.out.cell 2 _ rfl
  have fr := R5.out.free 2
  go_wp2_with fail
  go_at_call 62
  refine (r_int K5.out).mono ?_
  rintro e w6 ⟨hb, hp, ho⟩
  have hbt := B5.out.trans hb
  have hpt := P5.out.then_ hp (fun _ h => .inl h)
  rcases hq : pI xs m2 with ⟨z, m3⟩ | ⟨er, p⟩
  rotate_left
  · rw [hq] at ho
    have ho : e = gaveUp er p := ho
    subst ho
    refine ⟨rfl, hbt, hpt, ?_⟩
    have e9 : pReply xs most m = Res.fail er p := by
      unfold pReply
      simp only [Res.bind, HQ0.out, HQ1.out, hq]
    rw [e9]
    rfl
  rw [hq] at ho
  obtain ⟨he, hk⟩ : e = .returned (.int .i64 z) ∧ CrAt g B A n c xs m3 most w6 := ho
  subst he
  have HQ2 := Aside0.mk hq
  have K6 := Aside0.mk hk
  have B6 := Aside0.mk hbt
  have P6 := Aside0.mk hpt
  have R6 := Aside0.mk (show Rt 25 b [.string t, .int .i64 a, .int .i64 0, .slice none 0 0, .int .i64 0] w6 from (hp.2 b R5.out.lt (by have := HLT.out; show b ≠ g; omega)).trans R5.out)
  clear hb hp hbt hpt hq hk cr fr
  try clear ho
  have cr := R6.out.cell 2 _ rfl
  have fr := R6.out.free 2
  go_upto_region 4 with fail
  have e1 := R6.out.set 2 (.int .i64 z)
  rw [e1]
  clear e1 cr fr
  have hl : [Value.string t, .int .i64 a, .int .i64 0, .slice none 0 0, .int .i64 0].set 2 (.int .i64 z) = [Value.string t, .int .i64 a, .int .i64 z, .slice none 0 0, .int .i64 0] := rfl
  rw [hl]
  clear hl
  have K7 := Aside0.mk (show CrAt g B A n c xs m3 most (w6.setRow b [Value.string t, .int .i64 a, .int .i64 z, .slice none 0 0, .int .i64 0].toArray) from K6.out.aside (below_setRow' (Below.refl _ _) HLT.out.2 _) (setRow_other _ _ _ _ (by have := HLT.out; omega)))
  have B7 := Aside0.mk (show Below B W (w6.setRow b [Value.string t, .int .i64 a, .int .i64 z, .slice none 0 0, .int .i64 0].toArray) from below_setRow' B6.out HLT.out.2 _)
  have P7 := Aside0.mk (show Kept W (w6.setRow b [Value.string t, .int .i64 a, .int .i64 z, .slice none 0 0, .int .i64 0].toArray) (fun j => j = g) from ⟨by rw [setRow_size]; exact P6.out.1, fun j hj hn => (setRow_other _ _ _ _ (by have := HBE.out; omega)).trans (P6.out.2 j hj hn)⟩)
  have R7 := Aside0.mk (show Rt 25 b [Value.string t, .int .i64 a, .int .i64 z, .slice none 0 0, .int .i64 0] (w6.setRow b [Value.string t, .int .i64 a, .int .i64 z, .slice none 0 0, .int .i64 0].toArray) from R6.out.row _)
  generalize w6.setRow b [Value.string t, .int .i64 a, .int .i64 z, .slice none 0 0, .int .i64 0].toArray = w7 at *
  have cr := R7.out.cell 3 _ rfl
  have fr := R7.out.free 3
  go_wp2_with fail
  go_at_call 63
  refine (r_levels K7.out).mono ?_
  rintro e w8 ⟨hb, hp, ho⟩
  have hbt := B7.out.trans hb
  have hpt := P7.out.then_ hp (fun _ h => .inl h)
  rcases hq : pList xs most (pLevel xs most) m3 with ⟨l, m4⟩ | ⟨er, p⟩
  rotate_left
  · rw [hq] at ho
    have ho : e = gaveUp er p := ho
    subst ho
    refine ⟨rfl, hbt, hpt, ?_⟩
    have e9 : pReply xs most m = Res.fail er p := by
      unfold pReply
      simp only [Res.bind, HQ0.out, HQ1.out, HQ2.out, hq]
    rw [e9]
    rfl
  rw [hq] at ho
  obtain ⟨v, he, hRl, hk⟩ : ∃ v, e = .returned v ∧ k28.R 28 w8 w7.heap.size (fun _ => True) v l ∧ CrAt g B A n c xs m4 most w8 := ho
  obtain ⟨Al, cl, ev⟩ := Kd.R_slice hRl
  obtain ⟨nl, hnl⟩ : ∃ nl, l.length = nl := ⟨_, rfl⟩
  rw [hnl] at ev
  subst ev
  have L8 := Aside0.mk (show k28.R 28 w8 (b + 1) (fun _ => True) (.slice Al nl cl) l from Kd.R_lower hRl R7.out.lt)
  clear hRl hnl
  subst he
  have HQ3 := Aside0.mk hq
  have K8 := Aside0.mk hk
  have B8 := Aside0.mk hbt
  have P8 := Aside0.mk hpt
  have R8 := Aside0.mk (show Rt 25 b [.string t, .int .i64 a, .int .i64 z, .slice none 0 0, .int .i64 0] w8 from (hp.2 b R7.out.lt (by have := HLT.out; show b ≠ g; omega)).trans R7.out)
  clear hb hp hbt hpt hq hk cr fr
  try clear ho
  have cr := R8.out.cell 3 _ rfl
  have fr := R8.out.free 3
  go_upto_region 5 with fail
  have e1 := R8.out.set 3 (.slice Al nl cl)
  rw [e1]
  clear e1 cr fr
  have hl : [Value.string t, .int .i64 a, .int .i64 z, .slice none 0 0, .int .i64 0].set 3 (.slice Al nl cl) = [Value.string t, .int .i64 a, .int .i64 z, .slice Al nl cl, .int .i64 0] := rfl
  rw [hl]
  clear hl
  have K9 := Aside0.mk (show CrAt g B A n c xs m4 most (w8.setRow b [Value.string t, .int .i64 a, .int .i64 z, .slice Al nl cl, .int .i64 0].toArray) from K8.out.aside (below_setRow' (Below.refl _ _) HLT.out.2 _) (setRow_other _ _ _ _ (by have := HLT.out; omega)))
  have B9 := Aside0.mk (show Below B W (w8.setRow b [Value.string t, .int .i64 a, .int .i64 z, .slice Al nl cl, .int .i64 0].toArray) from below_setRow' B8.out HLT.out.2 _)
  have P9 := Aside0.mk (show Kept W (w8.setRow b [Value.string t, .int .i64 a, .int .i64 z, .slice Al nl cl, .int .i64 0].toArray) (fun j => j = g) from ⟨by rw [setRow_size]; exact P8.out.1, fun j hj hn => (setRow_other _ _ _ _ (by have := HBE.out; omega)).trans (P8.out.2 j hj hn)⟩)
  have R9 := Aside0.mk (show Rt 25 b [Value.string t, .int .i64 a, .int .i64 z, .slice Al nl cl, .int .i64 0] (w8.setRow b [Value.string t, .int .i64 a, .int .i64 z, .slice Al nl cl, .int .i64 0].toArray) from R8.out.row _)
  have L9 := Aside0.mk (show k28.R 28 (w8.setRow b [Value.string t, .int .i64 a, .int .i64 z, .slice Al nl cl, .int .i64 0].toArray) (b + 1) (fun _ => True) (.slice Al nl cl) l from Kd.R_mono (Kd.R_step (Kd.R_bound L8.out) (fun j hj _ => setRow_other _ _ _ _ (by have := hj.2.1; omega))) (fun _ _ => trivial))
  generalize w8.setRow b [Value.string t, .int .i64 a, .int .i64 z, .slice Al nl cl, .int .i64 0].toArray = w9 at *
  have cr := R9.out.cell 4 _ rfl
  have fr := R9.out.free 4
  go_wp2_with fail
  go_at_call 62
  refine (r_int K9.out).mono ?_
  rintro e w10 ⟨hb, hp, ho⟩
  have hbt := B9.out.trans hb
  have hpt := P9.out.then_ hp (fun _ h => .inl h)
  rcases hq : pI xs m4 with ⟨y, m5⟩ | ⟨er, p⟩
  rotate_left
  · rw [hq] at ho
    have ho : e = gaveUp er p := ho
    subst ho
    refine ⟨rfl, hbt, hpt, ?_⟩
    have e9 : pReply xs most m = Res.fail er p := by
      unfold pReply
      simp only [Res.bind, HQ0.out, HQ1.out, HQ2.out, HQ3.out, hq]
    rw [e9]
    rfl
  rw [hq] at ho
  obtain ⟨he, hk⟩ : e = .returned (.int .i64 y) ∧ CrAt g B A n c xs m5 most w10 := ho
  subst he
  have HQ4 := Aside0.mk hq
  have K10 := Aside0.mk hk
  have B10 := Aside0.mk hbt
  have P10 := Aside0.mk hpt
  have R10 := Aside0.mk (show Rt 25 b [.string t, .int .i64 a, .int .i64 z, .slice Al nl cl, .int .i64 0] w10 from (hp.2 b R9.out.lt (by have := HLT.out; show b ≠ g; omega)).trans R9.out)
  have L10 := Aside0.mk (show k28.R 28 w10 (b + 1) (fun _ => True) (.slice Al nl cl) l from Kd.R_mono (Kd.R_kept (Kd.R_bound L9.out) hp (fun j hj e => by have := hj.2.1; have := HLT.out; omega)) (fun _ _ => trivial))
  clear hb hp hbt hpt hq hk cr fr
  try clear ho
  have cr := R10.out.cell 4 _ rfl
  have fr := R10.out.free 4
  go_upto_region 6 with fail
  have e1 := R10.out.set 4 (.int .i64 y)
  rw [e1]
  clear e1 cr fr
  have hl : [Value.string t, .int .i64 a, .int .i64 z, .slice Al nl cl, .int .i64 0].set 4 (.int .i64 y) = [Value.string t, .int .i64 a, .int .i64 z, .slice Al nl cl, .int .i64 y] := rfl
  rw [hl]
  clear hl
  have K11 := Aside0.mk (show CrAt g B A n c xs m5 most (w10.setRow b [Value.string t, .int .i64 a, .int .i64 z, .slice Al nl cl, .int .i64 y].toArray) from K10.out.aside (below_setRow' (Below.refl _ _) HLT.out.2 _) (setRow_other _ _ _ _ (by have := HLT.out; omega)))
  have B11 := Aside0.mk (show Below B W (w10.setRow b [Value.string t, .int .i64 a, .int .i64 z, .slice Al nl cl, .int .i64 y].toArray) from below_setRow' B10.out HLT.out.2 _)
  have P11 := Aside0.mk (show Kept W (w10.setRow b [Value.string t, .int .i64 a, .int .i64 z, .slice Al nl cl, .int .i64 y].toArray) (fun j => j = g) from ⟨by rw [setRow_size]; exact P10.out.1, fun j hj hn => (setRow_other _ _ _ _ (by have := HBE.out; omega)).trans (P10.out.2 j hj hn)⟩)
  have R11 := Aside0.mk (show Rt 25 b [Value.string t, .int .i64 a, .int .i64 z, .slice Al nl cl, .int .i64 y] (w10.setRow b [Value.string t, .int .i64 a, .int .i64 z, .slice Al nl cl, .int .i64 y].toArray) from R10.out.row _)
  have L11 := Aside0.mk (show k28.R 28 (w10.setRow b [Value.string t, .int .i64 a, .int .i64 z, .slice Al nl cl, .int .i64 y].toArray) (b + 1) (fun _ => True) (.slice Al nl cl) l from Kd.R_mono (Kd.R_step (Kd.R_bound L10.out) (fun j hj _ => setRow_other _ _ _ _ (by have := hj.2.1; omega))) (fun _ _ => trivial))
  generalize w10.setRow b [Value.string t, .int .i64 a, .int .i64 z, .slice Al nl cl, .int .i64 y].toArray = w11 at *
  have c0 := R11.out.cell 0 _ rfl
  have c1 := R11.out.cell 1 _ rfl
  have c2 := R11.out.cell 2 _ rfl
  have c3 := R11.out.cell 3 _ rfl
  have c4 := R11.out.cell 4 _ rfl
  have f0 := R11.out.free 0
  have f1 := R11.out.free 1
  have f2 := R11.out.free 2
  have f3 := R11.out.free 3
  have f4 := R11.out.free 4
  go_wp2_with fail
  rw [R11.out.same 0 _ rfl, R11.out.same 1 _ rfl, R11.out.same 2 _ rfl, R11.out.same 3 _ rfl, R11.out.same 4 _ rfl]
  refine bodyPost_ret (results_cell_row rfl _ _ b 25 _ (0, 0) _ rfl R11.out Try.underlying25 rfl (by kernel_rfl)) rfl ?_
  refine ⟨B11.out, P11.out, ?_⟩
  have e9 : pReply xs most m = Res.ok ⟨t, a, z, l, y⟩ m5 := by
    unfold pReply
    simp only [Res.bind, HQ0.out, HQ1.out, HQ2.out, HQ3.out, HQ4.out]
  rw [e9, HBE.out]
  exact ⟨_, rfl, ⟨Al, nl, cl, rfl, Kd.R_lower L11.out (Nat.le_succ _)⟩, K11.out⟩
end Go.Proofs.Ytafmoglaockepaa.Cd
end
section
namespace Go.Proofs.Ytafmoglaockepaa.Cd
open Go Go.RowKit Go.Proofs.Ytafmoglaockepaa.Num Go.Proofs.Ytafmoglaockepaa.PG Go.Proofs.YtafmoglaockepaaW.PrintWords Go.Proofs.YtafmoglaockepaaW.PrintLast Go.Proofs.YtafmoglaockepaaW.PrintMore
set_option linter.unusedVariables false
set_option linter.unusedSimpArgs false
set_option maxHeartbeats 4000000
set_option maxRecDepth 100000
section
variable {P : Program} {ops : Array Oper} {Q : Exit → Act → List Frame → World → Prop} {cs : List Frame}
theorem wpOpsS_of (hl : ¬ LetsOut (fun e a w => Q e a cs w)) : ∀ (l : List Nat) (a : Act) (w : World), wpOps P ops (fun e a' w' => Q e a' cs w') l a w → wpOpsS P ops Q l a cs w
  | [], a, w, h => h
  | i :: rest, a, w, h => by
    simp only [wpOps] at h
    simp only [wpOpsS]
    cases ho : ops[i]? with
    | none =>
      simp only [ho] at h
      exact wpOpsS_of hl rest a w h
    | some o =>
      simp only [ho] at h
      by_cases hw : Region.wanted o (yielded ops a.tmps) = true
      · simp only [hw, if_true] at h ⊢
        rcases h with h | ⟨_, h⟩
        · have h := Oper.wp_mono (fun a w hh => wpOpsS_of hl rest a w hh) h
          unfold Oper.wp at h
          generalize (execOp a.eval o).run P w = r at h ⊢
          split
          · exact h.elim
          · exact h
        · exact absurd h hl
      · simp only [hw] at h ⊢
        exact wpOpsS_of hl rest _ w h
theorem wpS_recovers {id : Nat} {o : Oper} {l : List Oper} {a : Act} {w : World} {v : Value} {cs' : List Frame} (hw : Region.wanted o (yielded (o :: l).toArray a.tmps) = true) (hr : (execOp a.eval o).run P w = .ok .recover w)
    (hrec : recoverD cs = some (v, cs')) (hl : ¬ LetsOut (fun e a w => Q e a cs' w)) (h : wpList P (o :: l).toArray (fun e a' w' => Q e a' cs' w') l (a.put o.dst v) w) : (Code.region id (o :: l).toArray false).wpS P Q a cs w := by
  refine wpS_region ?_
  rw [List.size_toArray, List.length_cons, List.range_eq_range', List.range'_succ]
  simp only [wpOpsS]
  have h0 : (o :: l).toArray[0]? = some o := by simp
  simp only [h0, hw, if_true, hr, hrec]
  refine wpOpsS_of hl _ _ _ ?_
  rw [wpOps_eq_wpList l 1 (by intro j; simp [Nat.add_comm])]
  exact h
theorem wpS_recovers_none {id : Nat} {o : Oper} {l : List Oper} {a : Act} {w : World} (hw : Region.wanted o (yielded (o :: l).toArray a.tmps) = true) (hr : (execOp a.eval o).run P w = .ok .recover w)
    (hrec : recoverD cs = none) (hl : ¬ LetsOut (fun e a w => Q e a cs w)) (h : wpList P (o :: l).toArray (fun e a' w' => Q e a' cs w') l (a.put o.dst .nilIface) w) : (Code.region id (o :: l).toArray false).wpS P Q a cs w := by
  refine wpS_region ?_
  rw [List.size_toArray, List.length_cons, List.range_eq_range', List.range'_succ]
  simp only [wpOpsS]
  have h0 : (o :: l).toArray[0]? = some o := by simp
  simp only [h0, hw, if_true, hr, hrec]
  refine wpOpsS_of hl _ _ _ ?_
  rw [wpOps_eq_wpList l 1 (by intro j; simp [Nat.add_comm])]
  exact h
end
abbrev zeroRep : List Value := [.string ⟨#[]⟩, .int .i64 0, .int .i64 0, .slice none 0 0, .int .i64 0]
theorem catch_fault {bo be ba : Nat} {ve va : Value} (er p : Int) (older : List PanicEntry) (w : World) (ho : Rt 25 bo zeroRep w) (he : Rt 22 be [ve] w) (ha : Rt 3 ba [va] w) (h1 : bo ≠ be) (h2 : bo ≠ ba) (h3 : be ≠ ba) :
    CallsD Try.prog 114 #[ptr bo, ptr be, ptr ba] (.panicking ({ v := fault er p, recovered := false } :: older)) w fun e u' w' =>
      e = .returned (.tuple #[]) ∧ u' = .panicking ({ v := fault er p, recovered := true } :: older) ∧ Rt 25 bo zeroRep w' ∧ Rt 22 be [.int .i64 er] w' ∧ Rt 3 ba [.int .i64 p] w' ∧ Kept w w' (fun j => j = bo ∨ j = be ∨ j = ba) ∧ ∀ B, B ≤ be → B ≤ ba → B ≤ w.heap.size → Below B w w' := by
  have HO := Aside0.mk ho
  have HE := Aside0.mk he
  have HA := Aside0.mk ha
  have hu155 := Try.underlying155
  clear ho he ha
  refine callsD_of_wpS Try.func114 rfl fun c₀ cs hu => ?_
  simp only [Try.ntmps114, List.size_toArray, List.length_cons, List.length_nil, Nat.reduceAdd, Nat.reduceSub, Array.replicate_succ, Array.replicate_zero, List.push_toArray, List.append_toArray, List.nil_append, List.cons_append]
  apply wpS_seq
  refine wpS_recovers (v := fault er p) (cs' := { c₀ with mode := .panicking ({ v := fault er p, recovered := true } :: older) } :: cs) (by rfl) (by simp [go_sem]) (by simp [recoverD, hu]) ?_ ?_
  · rintro ⟨a, w, u', h, _⟩
    cases h
  simp only [Act.put, List.setIfInBounds_toArray, List.set_cons_zero, List.set_cons_succ]
  unfold fault
  have hTA : ∀ v w, (Instr.typeAssert (.iface 155 v) 20 155 true).run Try.prog w = .ok (.tuple #[v, .bool true]) w := fun v w => by
    simp [Instr.typeAssert, run_underlying hu155]
  go_wp2_with fail
  simp only [Exit.thenS]
  refine wpS_of_wp ?_
  have hb1 : Below w.heap.size w (w.alloc (.cells #[.int .i64 er, .int .i64 p] 155)) := below_alloc (Below.refl _ _) _
  have hr3 : Rt 155 w.heap.size [.int .i64 er, .int .i64 p] (w.alloc (.cells #[.int .i64 er, .int .i64 p] 155)) := heap_alloc_new w _
  obtain ⟨b3, hb3⟩ : ∃ b3, w.heap.size = b3 := ⟨_, rfl⟩
  have HB3E := Aside0.mk hb3
  have O1 := Aside0.mk (HO.out.below hb1)
  have E1 := Aside0.mk (HE.out.below hb1)
  have A1 := Aside0.mk (HA.out.below hb1)
  have P1 := Aside0.mk (Kept.of_below hb1 (fun j => j = bo ∨ j = be ∨ j = ba))
  have W1 := Aside0.mk (show Below w.heap.size w (w.alloc (.cells #[.int .i64 er, .int .i64 p] 155)) from hb1)
  rw [hb3] at hr3 ⊢
  have R1 := Aside0.mk hr3
  clear hb1 hr3 hb3 hTA hu155 hu
  generalize w.alloc (.cells #[.int .i64 er, .int .i64 p] 155) = w1 at *
  go_upto_region 3 with fail
  have hb1 : Below w1.heap.size w1 (w1.alloc (.cells #[.string ⟨#[]⟩, .int .i64 0, .int .i64 0, .slice none 0 0, .int .i64 0] 25)) := below_alloc (Below.refl _ _) _
  have hr5 : Rt 25 w1.heap.size zeroRep (w1.alloc (.cells #[.string ⟨#[]⟩, .int .i64 0, .int .i64 0, .slice none 0 0, .int .i64 0] 25)) := heap_alloc_new w1 _
  obtain ⟨b5, hb5⟩ : ∃ b5, w1.heap.size = b5 := ⟨_, rfl⟩
  have O2 := Aside0.mk (O1.out.below hb1)
  have E2 := Aside0.mk (E1.out.below hb1)
  have A2 := Aside0.mk (A1.out.below hb1)
  have R2 := Aside0.mk (R1.out.below hb1)
  have P2 := Aside0.mk (P1.out.below hb1)
  have W2 := Aside0.mk (W1.out.trans (hb1.mono W1.out.size))
  rw [hb5] at hr5 ⊢
  have Z2 := Aside0.mk hr5
  clear hb1 hr5 hb5 O1 E1 A1 R1 P1 W1
  generalize w1.alloc (.cells #[.string ⟨#[]⟩, .int .i64 0, .int .i64 0, .slice none 0 0, .int .i64 0] 25) = w2 at *
  have MKS := Aside0.mk (show ∀ w' : World, (∀ j t (u : Array Value), w2.heap[j]? = some (Obj.cells u t (0, 0)) → t ≠ 22 → t ≠ 3 → w'.heap[j]? = w2.heap[j]?) → (fun w' : World => (w'.cell? ⟨b5, 0, none⟩ = some (.string ⟨#[]⟩) ∧ w'.cell? ⟨b5, 1, none⟩ = some (.int .i64 0) ∧ w'.cell? ⟨b5, 2, none⟩ = some (.int .i64 0) ∧ w'.cell? ⟨b5, 3, none⟩ = some (.slice none 0 0) ∧ w'.cell? ⟨b5, 4, none⟩ = some (.int .i64 0)) ∧ w'.cell? ⟨b3, 0, none⟩ = some (.int .i64 er) ∧ w'.cell? ⟨b3, 1, none⟩ = some (.int .i64 p)) w' from fun w' hw => by
    have z : Rt 25 b5 zeroRep w' := (hw b5 25 _ Z2.out (by decide) (by decide)).trans Z2.out
    have r : Rt 155 b3 [.int .i64 er, .int .i64 p] w' := (hw b3 155 _ R2.out (by decide) (by decide)).trans R2.out
    exact ⟨⟨z.cell 0 _ rfl, z.cell 1 _ rfl, z.cell 2 _ rfl, z.cell 3 _ rfl, z.cell 4 _ rfl⟩, r.cell 0 _ rfl, r.cell 1 _ rfl⟩)
  refine wp_region_held_drew (S := fun w' : World => (w'.cell? ⟨b5, 0, none⟩ = some (.string ⟨#[]⟩) ∧ w'.cell? ⟨b5, 1, none⟩ = some (.int .i64 0) ∧ w'.cell? ⟨b5, 2, none⟩ = some (.int .i64 0) ∧ w'.cell? ⟨b5, 3, none⟩ = some (.slice none 0 0) ∧ w'.cell? ⟨b5, 4, none⟩ = some (.int .i64 0)) ∧ w'.cell? ⟨b3, 0, none⟩ = some (.int .i64 er) ∧ w'.cell? ⟨b3, 1, none⟩ = some (.int .i64 p)) (by kernel_rfl) (MKS.out _ (fun _ _ _ _ _ _ => rfl)) (fun hHeld => ?_)
  refine wpAnyH_take (i := 0) (oi := { dst := some 12, op := Op.load 25 (Operand.tmp 5), type := 25, pos := "read.go:88", after := #[], guard := none }) (v := ?_) rfl (by kernel_rfl) (by kernel_rfl) (by kernel_rfl) (fun _ _ _ h => h) (Or.inl ⟨by rfl, ?_⟩) hHeld ?_
  rotate_left
  · intro w' hS; obtain ⟨⟨hS0, hS1, hS2, hS3, hS4⟩, hS5, hS6⟩ := hS; go_simp; all_goals (with_reducible rfl)
  (try simp only [Act.put, List.setIfInBounds_toArray, List.set_cons_zero, List.set_cons_succ])
  refine wpAnyH_take (i := 1) (oi := { dst := some 13, op := Op.fieldAddr 155 (Operand.tmp 3) 0, type := 0, pos := "read.go:88", after := #[{ on := 5, ground := Ground.gcOnly Departure.lateStores }], guard := none }) (v := ?_) rfl (by kernel_rfl) (by kernel_rfl) (by kernel_rfl) (fun _ _ _ h => h) (Or.inl ⟨by rfl, ?_⟩) hHeld ?_
  rotate_left
  · intro w' hS; obtain ⟨⟨hS0, hS1, hS2, hS3, hS4⟩, hS5, hS6⟩ := hS; go_simp; all_goals (with_reducible rfl)
  (try simp only [Act.put, List.setIfInBounds_toArray, List.set_cons_zero, List.set_cons_succ])
  refine wpAnyH_take (i := 2) (oi := { dst := some 14, op := Op.load 22 (Operand.tmp 13), type := 22, pos := "read.go:88", after := #[{ on := 1, ground := Ground.data }, { on := 5, ground := Ground.gcOnly Departure.lateStores }], guard := none }) (v := ?_) rfl (by kernel_rfl) (by kernel_rfl) (by kernel_rfl) (fun _ _ _ h => h) (Or.inl ⟨by rfl, ?_⟩) hHeld ?_
  rotate_left
  · intro w' hS; obtain ⟨⟨hS0, hS1, hS2, hS3, hS4⟩, hS5, hS6⟩ := hS; go_simp; all_goals (with_reducible rfl)
  (try simp only [Act.put, List.setIfInBounds_toArray, List.set_cons_zero, List.set_cons_succ])
  refine wpAnyH_take (i := 3) (oi := { dst := some 15, op := Op.fieldAddr 155 (Operand.tmp 3) 1, type := 0, pos := "read.go:88", after := #[{ on := 6, ground := Ground.gcOnly Departure.lateStores }], guard := none }) (v := ?_) rfl (by kernel_rfl) (by kernel_rfl) (by kernel_rfl) (fun _ _ _ h => h) (Or.inl ⟨by rfl, ?_⟩) hHeld ?_
  rotate_left
  · intro w' hS; obtain ⟨⟨hS0, hS1, hS2, hS3, hS4⟩, hS5, hS6⟩ := hS; go_simp; all_goals (with_reducible rfl)
  (try simp only [Act.put, List.setIfInBounds_toArray, List.set_cons_zero, List.set_cons_succ])
  refine wpAnyH_take (i := 4) (oi := { dst := some 16, op := Op.load 3 (Operand.tmp 15), type := 3, pos := "read.go:88", after := #[{ on := 3, ground := Ground.data }, { on := 6, ground := Ground.gcOnly Departure.lateStores }], guard := none }) (v := ?_) rfl (by kernel_rfl) (by kernel_rfl) (by kernel_rfl) (fun _ _ _ h => h) (Or.inl ⟨by rfl, ?_⟩) hHeld ?_
  rotate_left
  · intro w' hS; obtain ⟨⟨hS0, hS1, hS2, hS3, hS4⟩, hS5, hS6⟩ := hS; go_simp; all_goals (with_reducible rfl)
  (try simp only [Act.put, List.setIfInBounds_toArray, List.set_cons_zero, List.set_cons_succ])
  refine wpAnyH_ready (rs := [5]) (by kernel_rfl) (by simp) ?_
  refine AllReadyH.cons (o := { dst := none, op := Op.store 25 (Operand.tmp 0) (Operand.tmp 12), type := 0, pos := "read.go:88", after := #[{ on := 0, ground := Ground.data }, { on := 0, ground := Ground.phase }, { on := 1, ground := Ground.textOnly Departure.lateStores }, { on := 2, ground := Ground.textOnly Departure.lateStores }, { on := 3, ground := Ground.textOnly Departure.lateStores }, { on := 4, ground := Ground.textOnly Departure.lateStores }], guard := none }) rfl (fun K hK => ?_) AllReadyH.nil
  have d0 := O2.out.cell 0 _ rfl
  have d1 := O2.out.cell 1 _ rfl
  have d2 := O2.out.cell 2 _ rfl
  have d3 := O2.out.cell 3 _ rfl
  have d4 := O2.out.cell 4 _ rfl
  have f0 := O2.out.free 0
  have f1 := O2.out.free 1
  have f2 := O2.out.free 2
  have f3 := O2.out.free 3
  have f4 := O2.out.free 4
  go_simp
  rw [O2.out.same 0 _ rfl, O2.out.same 1 _ rfl, O2.out.same 2 _ rfl, O2.out.same 3 _ rfl, O2.out.same 4 _ rfl]
  clear d0 d1 d2 d3 d4 f0 f1 f2 f3 f4
  refine hK.out _ _ (MKS.out _ (fun _ _ _ _ _ _ => rfl)) (fun hHeld => ?_)
  clear hK K
  (try simp only [Act.put, List.setIfInBounds_toArray, List.set_cons_zero, List.set_cons_succ])
  refine wpAnyH_ready (rs := [6]) (by kernel_rfl) (by simp) ?_
  refine AllReadyH.cons (o := { dst := none, op := Op.store 22 (Operand.tmp 1) (Operand.tmp 14), type := 0, pos := "read.go:88", after := #[{ on := 2, ground := Ground.data }, { on := 5, ground := Ground.chain }, { on := 0, ground := Ground.phase }, { on := 1, ground := Ground.phase }, { on := 2, ground := Ground.phase }, { on := 3, ground := Ground.textOnly Departure.lateStores }, { on := 4, ground := Ground.textOnly Departure.lateStores }, { on := 5, ground := Ground.phase }], guard := none }) rfl (fun K hK => ?_) AllReadyH.nil
  have d0 := E2.out.cell 0 _ rfl
  have f0 := E2.out.free 0
  go_simp
  rw [E2.out.set 0 (.int .i64 er), show [ve].set 0 (.int .i64 er) = [Value.int .i64 er] from rfl]
  have E6 := Aside0.mk (show Rt 22 be [.int .i64 er] (w2.setRow be [Value.int .i64 er].toArray) from E2.out.row _)
  have A6 := Aside0.mk (show Rt 3 ba [va] (w2.setRow be [Value.int .i64 er].toArray) from (setRow_other _ _ _ _ (Ne.symm h3)).trans A2.out)
  clear d0 f0
  refine hK.out _ _ (MKS.out _ (fun j t u hj h22 h3' => setRow_other _ _ _ _ (fun e => h22 (by rw [e] at hj; exact blk_types hj E2.out)))) (fun hHeld => ?_)
  clear hK K
  (try simp only [Act.put, List.setIfInBounds_toArray, List.set_cons_zero, List.set_cons_succ])
  refine wpAnyH_ready (rs := [7]) (by kernel_rfl) (by simp) ?_
  refine AllReadyH.cons (o := { dst := none, op := Op.store 3 (Operand.tmp 2) (Operand.tmp 16), type := 0, pos := "read.go:88", after := #[{ on := 4, ground := Ground.data }, { on := 6, ground := Ground.chain }, { on := 0, ground := Ground.phase }, { on := 1, ground := Ground.phase }, { on := 2, ground := Ground.phase }, { on := 3, ground := Ground.phase }, { on := 4, ground := Ground.phase }, { on := 5, ground := Ground.phase }, { on := 6, ground := Ground.phase }], guard := none }) rfl (fun K hK => ?_) AllReadyH.nil
  have d0 := A6.out.cell 0 _ rfl
  have f0 := A6.out.free 0
  go_simp
  rw [A6.out.set 0 (.int .i64 p), show [va].set 0 (.int .i64 p) = [Value.int .i64 p] from rfl]
  have A7 := Aside0.mk (show Rt 3 ba [.int .i64 p] ((w2.setRow be [Value.int .i64 er].toArray).setRow ba [Value.int .i64 p].toArray) from A6.out.row _)
  have E7 := Aside0.mk (show Rt 22 be [.int .i64 er] ((w2.setRow be [Value.int .i64 er].toArray).setRow ba [Value.int .i64 p].toArray) from (setRow_other _ _ _ _ h3).trans E6.out)
  have O7 := Aside0.mk (show Rt 25 bo zeroRep ((w2.setRow be [Value.int .i64 er].toArray).setRow ba [Value.int .i64 p].toArray) from (setRow_other _ _ _ _ h2).trans ((setRow_other _ _ _ _ h1).trans O2.out))
  have P7 := Aside0.mk (show Kept w ((w2.setRow be [Value.int .i64 er].toArray).setRow ba [Value.int .i64 p].toArray) (fun j => j = bo ∨ j = be ∨ j = ba) from ⟨by rw [setRow_size, setRow_size]; exact P2.out.1, fun j hj hn => (setRow_other _ _ _ _ (fun e => hn (.inr (.inr e)))).trans ((setRow_other _ _ _ _ (fun e => hn (.inr (.inl e)))).trans (P2.out.2 j hj hn))⟩)
  clear d0 f0
  refine hK.out _ _ (MKS.out _ (fun j t u hj h22 h3' => (setRow_other _ _ _ _ (fun e => h3' (by rw [e] at hj; exact blk_types hj A2.out))).trans (setRow_other _ _ _ _ (fun e => h22 (by rw [e] at hj; exact blk_types hj E2.out))))) (fun hHeld => ?_)
  clear hK K
  (try simp only [Act.put, List.setIfInBounds_toArray, List.set_cons_zero, List.set_cons_succ])
  refine wpAnyH_done (by kernel_rfl) ?_ _
  (try simp only [Act.put, List.setIfInBounds_toArray, List.set_cons_zero, List.set_cons_succ])
  try simp only [Exit.then]
  refine ⟨rfl, _, rfl, ?_⟩
  refine ⟨.tuple #[], by simp [results, Try.f114, Try.results114], rfl, rfl, O7.out, E7.out, A7.out, P7.out, fun B h1 h2 h3 => ?_⟩
  exact below_drew (below_setRow' (below_setRow' (W2.out.mono (by have := HB3E.out; omega)) h1 _) h2 _)
theorem catch_idle {bo be ba : Nat} (w : World) :
    CallsD Try.prog 114 #[ptr bo, ptr be, ptr ba] .returning w fun e u' w' => e = .returned (.tuple #[]) ∧ u' = .returning ∧ Below w.heap.size w w' := by
  have hu155 := Try.underlying155
  refine callsD_of_wpS Try.func114 rfl fun c₀ cs hu => ?_
  simp only [Try.ntmps114, List.size_toArray, List.length_cons, List.length_nil, Nat.reduceAdd, Nat.reduceSub, Array.replicate_succ, Array.replicate_zero, List.push_toArray, List.append_toArray, List.nil_append, List.cons_append]
  apply wpS_seq
  refine wpS_recovers_none (by rfl) (by simp [go_sem]) (by simp [recoverD, hu]) ?_ ?_
  · rintro ⟨a, w, u', h, _⟩
    cases h
  simp only [Act.put, List.setIfInBounds_toArray, List.set_cons_zero, List.set_cons_succ]
  obtain ⟨i, hi, hz, _, _⟩ : ∃ i, Try.prog.info? 155 = some i ∧ i.zero = some (.agg #[.int .i64 0, .int .i64 0]) ∧ i.size = 2 ∧ True := by
    have h : (Try.prog.info? 155).map (fun i => (i.zero, i.size)) = some (some (.agg #[.int .i64 0, .int .i64 0]), 2) := by kernel_rfl
    obtain ⟨i, hi, he⟩ := Option.map_eq_some_iff.1 h
    simp only [Prod.mk.injEq] at he
    exact ⟨i, hi, he.1, he.2, trivial⟩
  have hTA : ∀ w, (Instr.typeAssert .nilIface 20 155 true).run Try.prog w = .ok (.tuple #[.agg #[.int .i64 0, .int .i64 0], .bool false]) w := fun w => by
    simp [Instr.typeAssert, run_underlying hu155, zeroValue, typeInfo, hi, hz]
  have hb1 : Below w.heap.size w (w.alloc (.cells #[.int .i64 0, .int .i64 0] 155)) := below_alloc (Below.refl _ _) _
  have HB := Aside0.mk hb1
  clear hb1
  go_wp2_with fail
  simp only [Exit.thenS]
  refine wpS_of_wp ?_
  go_wp2_with fail
  refine ⟨rfl, .returning, ?_, .tuple #[], by simp [results, Try.f114, Try.results114], rfl, rfl, HB.out⟩
  rw [← hu]
end Go.Proofs.Ytafmoglaockepaa.Cd
end
section
namespace Go.Proofs.Ytafmoglaockepaa.Cd
open Go Go.RowKit Go.Proofs.Ytafmoglaockepaa.Num Go.Proofs.Ytafmoglaockepaa.PG Go.Proofs.YtafmoglaockepaaW.PrintWords Go.Proofs.YtafmoglaockepaaW.PrintLast Go.Proofs.YtafmoglaockepaaW.PrintMore
set_option linter.unusedVariables false
set_option linter.unusedSimpArgs false
set_option maxHeartbeats 4000000
set_option maxRecDepth 100000
def endOf {α : Type} : Res α → Int × Int
  | .ok _ _ => (0, 0)
  | .fail e p => (e, p)
def repOut (S0 : Nat) (r : Res RepD) (v : Value) (w : World) : Prop :=
  match r with
  | .ok x _ => encRep S0 x v w
  | .fail _ _ => v = .agg zeroRep.toArray
theorem read_reply (A : Option Addr) (n c : Nat) (xs : List Int) (W : World) (hC : Kd.C (Kd.int .u8) W A n xs) (hnc : n ≤ c) (hb : IsBytes xs) (hbig : n < 1000000000) :
    Calls Try.prog 59 #[.slice A n c, .int .u8 82, .int .i64 4096, .func (.func 60) #[] #[]] W fun e w' => Below W.heap.size W w' ∧ ∃ v, e = .returned (.tuple #[v, .int .i64 (endOf (whole 82 4096 xs (pReply xs 4096))).1, .int .i64 (endOf (whole 82 4096 xs (pReply xs 4096))).2]) ∧ repOut W.heap.size (whole 82 4096 xs (pReply xs 4096)) v w' := by
  have HC := Aside0.mk hC
  have HNC := Aside0.mk hnc
  have HBY := Aside0.mk hb
  have HBIG := Aside0.mk hbig
  have HLEN := Aside0.mk (show xs.length = n from Kd.C_len hC)
  have hmf : ∀ (fn : Fn) (first cap : Array Value) (w : World), (Instr.makeFunc fn first cap).run Try.prog w = .ok (.func fn first cap) w := fun _ _ _ _ => rfl
  clear hC hnc hb hbig
  obtain ⟨bo, hbo⟩ : ∃ bo, W.heap.size = bo := ⟨_, rfl⟩
  have HBO := Aside0.mk hbo
  clear hbo
  go_enter_defers Try.func59, Try.ntmps59
  go_upto_region 3 with fail
  have hb1 : Below W.heap.size W (W.alloc (.cells #[.string ⟨#[]⟩, .int .i64 0, .int .i64 0, .slice none 0 0, .int .i64 0] 25)) := below_alloc (Below.refl _ _) _
  have o1 : Rt 25 W.heap.size zeroRep (W.alloc (.cells #[.string ⟨#[]⟩, .int .i64 0, .int .i64 0, .slice none 0 0, .int .i64 0] 25)) := heap_alloc_new W _
  have s1 : (W.alloc (.cells #[.string ⟨#[]⟩, .int .i64 0, .int .i64 0, .slice none 0 0, .int .i64 0] 25)).heap.size = W.heap.size + 1 := by simp
  generalize W.alloc (.cells #[.string ⟨#[]⟩, .int .i64 0, .int .i64 0, .slice none 0 0, .int .i64 0] 25) = wa at *
  have hb2 : Below wa.heap.size wa (wa.alloc (.cells #[.int .i64 0] 22)) := below_alloc (Below.refl _ _) _
  have e2 : Rt 22 wa.heap.size [.int .i64 0] (wa.alloc (.cells #[.int .i64 0] 22)) := heap_alloc_new wa _
  have o2 := o1.below hb2
  have s2 : (wa.alloc (.cells #[.int .i64 0] 22)).heap.size = wa.heap.size + 1 := by simp
  have hc2 := hb1.trans (hb2.mono hb1.size)
  generalize wa.alloc (.cells #[.int .i64 0] 22) = wb at *
  have hb3 : Below wb.heap.size wb (wb.alloc (.cells #[.int .i64 0] 3)) := below_alloc (Below.refl _ _) _
  have a3 : Rt 3 wb.heap.size [.int .i64 0] (wb.alloc (.cells #[.int .i64 0] 3)) := heap_alloc_new wb _
  have o3 := o2.below hb3
  have e3 := e2.below hb3
  have s3 : (wb.alloc (.cells #[.int .i64 0] 3)).heap.size = wb.heap.size + 1 := by simp
  have hc3 := hc2.trans (hb3.mono hc2.size)
  generalize wb.alloc (.cells #[.int .i64 0] 3) = wc at *
  have hb4 : Below wc.heap.size wc (wc.alloc (.cells #[.slice A n c, .int .i64 0, .int .i64 4096] 158)) := below_alloc (Below.refl _ _) _
  have g4 : Rt 158 wc.heap.size [.slice A n c, .int .i64 0, .int .i64 4096] (wc.alloc (.cells #[.slice A n c, .int .i64 0, .int .i64 4096] 158)) := heap_alloc_new wc _
  have o4 := o3.below hb4
  have e4 := e3.below hb4
  have a4 := a3.below hb4
  have hc4 := hc3.trans (hb4.mono hc3.size)
  have s4 : (wc.alloc (.cells #[.slice A n c, .int .i64 0, .int .i64 4096] 158)).heap.size = wc.heap.size + 1 := by simp
  generalize wc.alloc (.cells #[.slice A n c, .int .i64 0, .int .i64 4096] 158) = w4 at *
  rw [s3, s2, s1] at g4 s4
  rw [s2, s1] at a4
  rw [s1] at e4
  obtain ⟨be, hbe⟩ : ∃ be, W.heap.size + 1 = be := ⟨_, rfl⟩
  rw [hbe] at e4 a4 g4 s4 ⊢
  obtain ⟨ba, hba⟩ : ∃ ba, be + 1 = ba := ⟨_, rfl⟩
  rw [hba] at a4 g4 s4 ⊢
  obtain ⟨g, hg⟩ : ∃ g, ba + 1 = g := ⟨_, rfl⟩
  rw [hg] at g4 s4 ⊢
  rw [HBO.out] at o4 hbe ⊢
  have O4 := Aside0.mk o4
  have E4 := Aside0.mk e4
  have A4 := Aside0.mk a4
  have G4 := Aside0.mk g4
  have B4 := Aside0.mk (show Below bo W w4 by rw [← HBO.out]; exact hc4)
  have HORD := Aside0.mk (show be = bo + 1 ∧ ba = bo + 2 ∧ g = bo + 3 ∧ w4.heap.size = bo + 4 by omega)
  clear hb1 o1 s1 hb2 e2 o2 s2 hc2 hb3 a3 o3 e3 s3 hc3 hb4 o4 e4 a4 hc4 s4 hbe hba hg g4 hmf
  have HFAULT := Aside0.mk (show ∀ (er p : Int) (w : World), Rt 25 bo zeroRep w → Rt 22 be [.int .i64 0] w → Rt 3 ba [.int .i64 0] w → Below bo W w → CallsD Try.prog 114 #[ptr bo, ptr be, ptr ba] (.panicking [{ v := fault er p, recovered := false }]) w fun e u' w' =>
      e = .returned (.tuple #[]) ∧ u' = .panicking [{ v := fault er p, recovered := true }] ∧ Rt 25 bo zeroRep w' ∧ Rt 22 be [.int .i64 er] w' ∧ Rt 3 ba [.int .i64 p] w' ∧ Below bo W w' from fun er p w ho he ha hb => by
    have := HORD.out
    refine (catch_fault er p [] w ho he ha (by omega) (by omega) (by omega)).mono ?_
    rintro e u' w' ⟨h1, h2, h3, h4, h5, _, h6⟩
    exact ⟨h1, h2, h3, h4, h5, hb.trans (h6 bo (by omega) (by omega) (by have := hb.size; have := HBO.out; omega))⟩)
  by_cases hl : 4096 < n
  · have d1 : decide ((4096 : Int) < (n : Int)) = true := decide_eq_true (by omega)
    have d2 : decide (4096 < n) = true := decide_eq_true hl
    have HR := Aside0.mk (show whole 82 4096 xs (pReply xs 4096) = Res.fail 1 0 by
      unfold whole
      rw [HLEN.out, if_pos hl])
    clear hl
    go_wp2_with fail
    refine leaves_cons (f := 114) (args := #[ptr bo, ptr be, ptr ba]) (by simp) (by simp [go_sem]) ?_
    refine (HFAULT.out 1 0 w4 O4.out E4.out A4.out B4.out).mono ?_
    rintro e u' w' ⟨rfl, rfl, ho, he, ha, hb⟩
    have x0 := ho.cell 0 _ rfl
    have x1 := ho.cell 1 _ rfl
    have x2 := ho.cell 2 _ rfl
    have x3 := ho.cell 3 _ rfl
    have x4 := ho.cell 4 _ rfl
    have y0 := he.cell 0 _ rfl
    have z0 := ha.cell 0 _ rfl
    rw [HR.out]
    simp [Leaves, settle, results, Try.results59, go_sem, x0, x1, x2, x3, x4, y0, z0]
    exact ⟨by rw [HBO.out]; exact hb, _, ⟨rfl, rfl, rfl⟩, rfl⟩
  have d1 : decide ((4096 : Int) < (n : Int)) = false := decide_eq_false (by omega)
  have d2 : decide (4096 < n) = false := decide_eq_false hl
  have HL := Aside0.mk hl
  clear hl
  rcases Nat.eq_zero_or_pos n with hz | hz
  · have HR := Aside0.mk (show whole 82 4096 xs (pReply xs 4096) = Res.fail 3 0 by
      unfold whole
      rw [HLEN.out, if_neg HL.out, if_pos hz])
    have d3 : ((n : Int) == 0) = true := by simpa using hz
    have d4 : decide (n = 0) = true := decide_eq_true hz
    have d5 : (n : Int) = 0 := by omega
    go_wp2_with fail
    refine leaves_cons (f := 114) (args := #[ptr bo, ptr be, ptr ba]) (by simp) (by simp [go_sem]) ?_
    refine (HFAULT.out 3 0 w4 O4.out E4.out A4.out B4.out).mono ?_
    rintro e u' w' ⟨rfl, rfl, ho, he, ha, hb⟩
    have x0 := ho.cell 0 _ rfl
    have x1 := ho.cell 1 _ rfl
    have x2 := ho.cell 2 _ rfl
    have x3 := ho.cell 3 _ rfl
    have x4 := ho.cell 4 _ rfl
    have y0 := he.cell 0 _ rfl
    have z0 := ha.cell 0 _ rfl
    rw [HR.out]
    simp [Leaves, settle, results, Try.results59, go_sem, x0, x1, x2, x3, x4, y0, z0]
    exact ⟨by rw [HBO.out]; exact hb, _, ⟨rfl, rfl, rfl⟩, rfl⟩
  have d3 : ((n : Int) == 0) = false := by simp; omega
  have d4 : decide (n = 0) = false := decide_eq_false (by omega)
  have HZ := Aside0.mk hz
  have i0 : (0 : Int) < (n : Int) := by omega
  have hCx := Kd.C_below HC.out (show Below W.heap.size W w4 by rw [HBO.out]; exact B4.out)
  obtain ⟨ad, rfl, hcell⟩ := (Kd.reads_of_C (d := (0 : Int)) (h1 := fun _ => rfl) hCx).2.2 hz
  have k0 := hcell 0 hz
  obtain ⟨x, hx⟩ : ∃ x, xs.getD 0 0 = x := ⟨_, rfl⟩
  rw [hx] at k0
  have HX := Aside0.mk (show xs.headD 0 = x by rw [← hx]; cases xs <;> rfl)
  have k1 : w4.cell? ad = some (.int .u8 x) := by
    have e : ad.add 0 = ad := by simp [Addr.add]
    rwa [e] at k0
  clear hz hCx hcell hx
  by_cases hk : x = 82
  rotate_left
  · have HR := Aside0.mk (show whole 82 4096 xs (pReply xs 4096) = Res.fail 90 0 by
      unfold whole
      rw [HLEN.out, if_neg HL.out, if_neg (by have := HZ.out; omega), HX.out, if_pos hk])
    have d5 : (x != 82) = true := by simpa using hk
    have d6 : (x == 82) = false := by simpa using hk
    have d7 : decide (x = 82) = false := decide_eq_false hk
    clear hk
    go_wp2_with fail
    refine leaves_cons (f := 114) (args := #[ptr bo, ptr be, ptr ba]) (by simp) (by simp [go_sem]) ?_
    refine (HFAULT.out 90 0 w4 O4.out E4.out A4.out B4.out).mono ?_
    rintro e u' w' ⟨rfl, rfl, ho, he, ha, hb⟩
    have x0 := ho.cell 0 _ rfl
    have x1 := ho.cell 1 _ rfl
    have x2 := ho.cell 2 _ rfl
    have x3 := ho.cell 3 _ rfl
    have x4 := ho.cell 4 _ rfl
    have y0 := he.cell 0 _ rfl
    have z0 := ha.cell 0 _ rfl
    rw [HR.out]
    simp [Leaves, settle, results, Try.results59, go_sem, x0, x1, x2, x3, x4, y0, z0]
    exact ⟨by rw [HBO.out]; exact hb, _, ⟨rfl, rfl, rfl⟩, rfl⟩
  subst hk
  have hg1 := G4.out.cell 1 _ rfl
  have fg1 := G4.out.free 1
  go_upto_region 10 with fail
  rw [G4.out.set 1 (.int .i64 1)]
  have hl1 : [Value.slice (some ad) n c, .int .i64 0, .int .i64 4096].set 1 (.int .i64 1) = [Value.slice (some ad) n c, .int .i64 1, .int .i64 4096] := rfl
  rw [hl1]
  have K4 : CrAt g bo (some ad) n c xs 0 4096 w4 := ⟨G4.out, fun W' hb => Kd.C_below HC.out (by rw [HBO.out]; exact B4.out.trans hb), by have := HORD.out; omega, HNC.out, Nat.zero_le _, HBIG.out, by decide, HBY.out⟩
  have hmv := K4.moved (m' := 1) HZ.out
  have e1 : (((1 : Nat) : Int)) = 1 := rfl
  have e2 : (((4096 : Nat) : Int)) = 4096 := rfl
  rw [e1, e2] at hmv
  have K5 := Aside0.mk hmv.1
  have B5 := Aside0.mk (B4.out.trans hmv.2.1)
  have O5 := Aside0.mk (show Rt 25 bo zeroRep (w4.setRow g [Value.slice (some ad) n c, .int .i64 1, .int .i64 4096].toArray) from (setRow_other _ _ _ _ (by have := HORD.out; omega)).trans O4.out)
  have E5 := Aside0.mk (show Rt 22 be [.int .i64 0] (w4.setRow g [Value.slice (some ad) n c, .int .i64 1, .int .i64 4096].toArray) from (setRow_other _ _ _ _ (by have := HORD.out; omega)).trans E4.out)
  have A5 := Aside0.mk (show Rt 3 ba [.int .i64 0] (w4.setRow g [Value.slice (some ad) n c, .int .i64 1, .int .i64 4096].toArray) from (setRow_other _ _ _ _ (by have := HORD.out; omega)).trans A4.out)
  have S5 := Aside0.mk (show bo + 4 ≤ (w4.setRow g [Value.slice (some ad) n c, .int .i64 1, .int .i64 4096].toArray).heap.size by rw [setRow_size]; have := HORD.out; omega)
  clear hmv K4 hl1 e1 e2 hg1 fg1 k0 k1 d1 d2 d3 d4 i0
  generalize w4.setRow g [Value.slice (some ad) n c, .int .i64 1, .int .i64 4096].toArray = w5 at *
  have HW := Aside0.mk (show whole 82 4096 xs (pReply xs 4096) = (pReply xs 4096 1).bind fun x n => if n < xs.length then .fail 4 (n : Int) else .ok x n by
    unfold whole
    rw [HLEN.out, if_neg HL.out, if_neg (by have := HZ.out; omega), HX.out, if_neg (by decide)])
  go_wp2_with fail
  go_at_call 60
  refine (r_replyF K5.out).mono ?_
  rintro e w6 ⟨hb, hp, ho⟩
  have O6 := Aside0.mk (show Rt 25 bo zeroRep w6 from (hp.2 bo O5.out.lt (by have := HORD.out; show bo ≠ g; omega)).trans O5.out)
  have E6 := Aside0.mk (show Rt 22 be [.int .i64 0] w6 from (hp.2 be E5.out.lt (by have := HORD.out; show be ≠ g; omega)).trans E5.out)
  have A6 := Aside0.mk (show Rt 3 ba [.int .i64 0] w6 from (hp.2 ba A5.out.lt (by have := HORD.out; show ba ≠ g; omega)).trans A5.out)
  have B6 := Aside0.mk (B5.out.trans hb)
  rcases hq : pReply xs 4096 1 with ⟨x, m2⟩ | ⟨er, p⟩
  rotate_left
  · rw [hq] at ho
    have ho : e = gaveUp er p := ho
    subst ho
    have HR := Aside0.mk (show whole 82 4096 xs (pReply xs 4096) = Res.fail er p by rw [HW.out, hq]; rfl)
    clear hb hp hq
    simp only [gaveUp]
    refine leaves_cons (f := 114) (args := #[ptr bo, ptr be, ptr ba]) (by simp) (by simp [go_sem]) ?_
    refine (HFAULT.out er p w6 O6.out E6.out A6.out B6.out).mono ?_
    rintro e u' w' ⟨rfl, rfl, ho, he, ha, hb⟩
    have x0 := ho.cell 0 _ rfl
    have x1 := ho.cell 1 _ rfl
    have x2 := ho.cell 2 _ rfl
    have x3 := ho.cell 3 _ rfl
    have x4 := ho.cell 4 _ rfl
    have y0 := he.cell 0 _ rfl
    have z0 := ha.cell 0 _ rfl
    rw [HR.out]
    simp [Leaves, settle, results, Try.results59, go_sem, x0, x1, x2, x3, x4, y0, z0]
    exact ⟨by rw [HBO.out]; exact hb, _, ⟨rfl, rfl, rfl⟩, rfl⟩
  rw [hq] at ho
  obtain ⟨v, he, ⟨A', n', c', hv, hR⟩, hk⟩ : ∃ v, e = .returned v ∧ encRep w5.heap.size x v w6 ∧ CrAt g bo (some ad) n c xs m2 4096 w6 := ho
  subst he hv
  have K6 := Aside0.mk hk
  have L6 := Aside0.mk (show k28.R 28 w6 (bo + 4) (fun _ => True) (.slice A' n' c') x.levs from Kd.R_lower hR S5.out)
  have HQ := Aside0.mk hq
  clear hb hp hq hR hk
  try clear ho
  go_upto_region 11 with fail
  have hb7 : Below w6.heap.size w6 (w6.alloc (.cells #[.string x.id, .int .i64 x.er, .int .i64 x.line, .slice A' n' c', .int .i64 x.now] 25)) := below_alloc (Below.refl _ _) _
  have r7 : Rt 25 w6.heap.size [.string x.id, .int .i64 x.er, .int .i64 x.line, .slice A' n' c', .int .i64 x.now] (w6.alloc (.cells #[.string x.id, .int .i64 x.er, .int .i64 x.line, .slice A' n' c', .int .i64 x.now] 25)) := heap_alloc_new w6 _
  obtain ⟨bx, hbx⟩ : ∃ bx, w6.heap.size = bx := ⟨_, rfl⟩
  have O7 := Aside0.mk (O6.out.below hb7)
  have E7 := Aside0.mk (E6.out.below hb7)
  have A7 := Aside0.mk (A6.out.below hb7)
  have K7 := Aside0.mk (K6.out.below hb7)
  have L7 := Aside0.mk (Kd.R_below L6.out hb7)
  have B7 := Aside0.mk (B6.out.trans (hb7.mono (by have := B6.out.size; have := HBO.out; omega)))
  have B7' := B7.out
  rw [hbx] at r7 ⊢
  have R7 := Aside0.mk r7
  clear hb7 r7 hbx B7'
  generalize w6.alloc (.cells #[.string x.id, .int .i64 x.er, .int .i64 x.line, .slice A' n' c', .int .i64 x.now] 25) = w7 at *
  have hm7 := K7.out.row.cell 1 _ rfl
  by_cases ht : m2 < n
  · have d1 : decide ((m2 : Int) < (n : Int)) = true := decide_eq_true (by omega)
    have d2 : decide (m2 < n) = true := decide_eq_true ht
    have HR := Aside0.mk (show whole 82 4096 xs (pReply xs 4096) = Res.fail 4 (m2 : Int) by
      rw [HW.out, HQ.out]
      show (if m2 < xs.length then Res.fail 4 (m2 : Int) else Res.ok x m2) = _
      rw [HLEN.out, if_pos ht])
    clear ht
    go_wp2_with fail
    refine leaves_cons (f := 114) (args := #[ptr bo, ptr be, ptr ba]) (by simp) (by simp [go_sem]) ?_
    refine (HFAULT.out 4 (m2 : Int) w7 O7.out E7.out A7.out B7.out).mono ?_
    rintro e u' w' ⟨rfl, rfl, ho, he, ha, hb⟩
    have x0 := ho.cell 0 _ rfl
    have x1 := ho.cell 1 _ rfl
    have x2 := ho.cell 2 _ rfl
    have x3 := ho.cell 3 _ rfl
    have x4 := ho.cell 4 _ rfl
    have y0 := he.cell 0 _ rfl
    have z0 := ha.cell 0 _ rfl
    rw [HR.out]
    simp [Leaves, settle, results, Try.results59, go_sem, x0, x1, x2, x3, x4, y0, z0]
    exact ⟨by rw [HBO.out]; exact hb, _, ⟨rfl, rfl, rfl⟩, rfl⟩
  have d1 : decide ((m2 : Int) < (n : Int)) = false := decide_eq_false (by omega)
  have d2 : decide (m2 < n) = false := decide_eq_false ht
  have HR := Aside0.mk (show whole 82 4096 xs (pReply xs 4096) = Res.ok x m2 by
    rw [HW.out, HQ.out]
    show (if m2 < xs.length then Res.fail 4 (m2 : Int) else Res.ok x m2) = _
    rw [HLEN.out, if_neg ht])
  clear ht
  have c0 := R7.out.cell 0 _ rfl
  have c1 := R7.out.cell 1 _ rfl
  have c2 := R7.out.cell 2 _ rfl
  have c3 := R7.out.cell 3 _ rfl
  have c4 := R7.out.cell 4 _ rfl
  have z0 := O7.out.cell 0 _ rfl
  have z1 := O7.out.cell 1 _ rfl
  have z2 := O7.out.cell 2 _ rfl
  have z3 := O7.out.cell 3 _ rfl
  have z4 := O7.out.cell 4 _ rfl
  have f0 := O7.out.free 0
  have f1 := O7.out.free 1
  have f2 := O7.out.free 2
  have f3 := O7.out.free 3
  have f4 := O7.out.free 4
  have y0 := E7.out.cell 0 _ rfl
  have y1 := E7.out.free 0
  have a0 := A7.out.cell 0 _ rfl
  have a1 := A7.out.free 0
  have hne1 : be ≠ bo := by have := HORD.out; omega
  have hne2 : ba ≠ bo := by have := HORD.out; omega
  have hne3 : ba ≠ be := by have := HORD.out; omega
  go_wp2_with fail
  clear c0 c1 c2 c3 c4 z0 z1 z2 z3 z4 f0 f1 f2 f3 f4 y0 y1 a0 a1 d1 d2 hm7
  have q := O7.out.set 0 (.string x.id)
  rw [show ([Value.string ⟨#[]⟩, .int .i64 0, .int .i64 0, .slice none 0 0, .int .i64 0]).set 0 (.string x.id) = [Value.string x.id, .int .i64 0, .int .i64 0, .slice none 0 0, .int .i64 0] from rfl] at q
  rw [q]
  have O8 := Aside0.mk (show Rt 25 bo [Value.string x.id, .int .i64 0, .int .i64 0, .slice none 0 0, .int .i64 0] (w7.setRow bo ([Value.string x.id, .int .i64 0, .int .i64 0, .slice none 0 0, .int .i64 0]).toArray) from O7.out.row _)
  have E8 := Aside0.mk (show Rt 22 be [.int .i64 0] (w7.setRow bo ([Value.string x.id, .int .i64 0, .int .i64 0, .slice none 0 0, .int .i64 0]).toArray) from (setRow_other _ _ _ _ hne1).trans E7.out)
  have A8 := Aside0.mk (show Rt 3 ba [.int .i64 0] (w7.setRow bo ([Value.string x.id, .int .i64 0, .int .i64 0, .slice none 0 0, .int .i64 0]).toArray) from (setRow_other _ _ _ _ hne2).trans A7.out)
  have L8 := Aside0.mk (show k28.R 28 (w7.setRow bo ([Value.string x.id, .int .i64 0, .int .i64 0, .slice none 0 0, .int .i64 0]).toArray) (bo + 4) (fun _ => True) (.slice A' n' c') x.levs from Kd.R_mono (Kd.R_step (Kd.R_bound L7.out) (fun j hj _ => setRow_other _ _ _ _ (by have := hj.2.1; omega))) (fun _ _ => trivial))
  have B8 := Aside0.mk (show Below bo W (w7.setRow bo ([Value.string x.id, .int .i64 0, .int .i64 0, .slice none 0 0, .int .i64 0]).toArray) from below_setRow' B7.out (Nat.le_refl _) _)
  clear q
  generalize w7.setRow bo ([Value.string x.id, .int .i64 0, .int .i64 0, .slice none 0 0, .int .i64 0]).toArray = w8 at *
  have q := O8.out.set 1 (.int .i64 x.er)
  rw [show ([Value.string x.id, .int .i64 0, .int .i64 0, .slice none 0 0, .int .i64 0]).set 1 (.int .i64 x.er) = [Value.string x.id, .int .i64 x.er, .int .i64 0, .slice none 0 0, .int .i64 0] from rfl] at q
  rw [q]
  have O9 := Aside0.mk (show Rt 25 bo [Value.string x.id, .int .i64 x.er, .int .i64 0, .slice none 0 0, .int .i64 0] (w8.setRow bo ([Value.string x.id, .int .i64 x.er, .int .i64 0, .slice none 0 0, .int .i64 0]).toArray) from O8.out.row _)
  have E9 := Aside0.mk (show Rt 22 be [.int .i64 0] (w8.setRow bo ([Value.string x.id, .int .i64 x.er, .int .i64 0, .slice none 0 0, .int .i64 0]).toArray) from (setRow_other _ _ _ _ hne1).trans E8.out)
  have A9 := Aside0.mk (show Rt 3 ba [.int .i64 0] (w8.setRow bo ([Value.string x.id, .int .i64 x.er, .int .i64 0, .slice none 0 0, .int .i64 0]).toArray) from (setRow_other _ _ _ _ hne2).trans A8.out)
  have L9 := Aside0.mk (show k28.R 28 (w8.setRow bo ([Value.string x.id, .int .i64 x.er, .int .i64 0, .slice none 0 0, .int .i64 0]).toArray) (bo + 4) (fun _ => True) (.slice A' n' c') x.levs from Kd.R_mono (Kd.R_step (Kd.R_bound L8.out) (fun j hj _ => setRow_other _ _ _ _ (by have := hj.2.1; omega))) (fun _ _ => trivial))
  have B9 := Aside0.mk (show Below bo W (w8.setRow bo ([Value.string x.id, .int .i64 x.er, .int .i64 0, .slice none 0 0, .int .i64 0]).toArray) from below_setRow' B8.out (Nat.le_refl _) _)
  clear q
  generalize w8.setRow bo ([Value.string x.id, .int .i64 x.er, .int .i64 0, .slice none 0 0, .int .i64 0]).toArray = w9 at *
  have q := O9.out.set 2 (.int .i64 x.line)
  rw [show ([Value.string x.id, .int .i64 x.er, .int .i64 0, .slice none 0 0, .int .i64 0]).set 2 (.int .i64 x.line) = [Value.string x.id, .int .i64 x.er, .int .i64 x.line, .slice none 0 0, .int .i64 0] from rfl] at q
  rw [q]
  have O10 := Aside0.mk (show Rt 25 bo [Value.string x.id, .int .i64 x.er, .int .i64 x.line, .slice none 0 0, .int .i64 0] (w9.setRow bo ([Value.string x.id, .int .i64 x.er, .int .i64 x.line, .slice none 0 0, .int .i64 0]).toArray) from O9.out.row _)
  have E10 := Aside0.mk (show Rt 22 be [.int .i64 0] (w9.setRow bo ([Value.string x.id, .int .i64 x.er, .int .i64 x.line, .slice none 0 0, .int .i64 0]).toArray) from (setRow_other _ _ _ _ hne1).trans E9.out)
  have A10 := Aside0.mk (show Rt 3 ba [.int .i64 0] (w9.setRow bo ([Value.string x.id, .int .i64 x.er, .int .i64 x.line, .slice none 0 0, .int .i64 0]).toArray) from (setRow_other _ _ _ _ hne2).trans A9.out)
  have L10 := Aside0.mk (show k28.R 28 (w9.setRow bo ([Value.string x.id, .int .i64 x.er, .int .i64 x.line, .slice none 0 0, .int .i64 0]).toArray) (bo + 4) (fun _ => True) (.slice A' n' c') x.levs from Kd.R_mono (Kd.R_step (Kd.R_bound L9.out) (fun j hj _ => setRow_other _ _ _ _ (by have := hj.2.1; omega))) (fun _ _ => trivial))
  have B10 := Aside0.mk (show Below bo W (w9.setRow bo ([Value.string x.id, .int .i64 x.er, .int .i64 x.line, .slice none 0 0, .int .i64 0]).toArray) from below_setRow' B9.out (Nat.le_refl _) _)
  clear q
  generalize w9.setRow bo ([Value.string x.id, .int .i64 x.er, .int .i64 x.line, .slice none 0 0, .int .i64 0]).toArray = w10 at *
  have q := O10.out.set 3 (.slice A' n' c')
  rw [show ([Value.string x.id, .int .i64 x.er, .int .i64 x.line, .slice none 0 0, .int .i64 0]).set 3 (.slice A' n' c') = [Value.string x.id, .int .i64 x.er, .int .i64 x.line, .slice A' n' c', .int .i64 0] from rfl] at q
  rw [q]
  have O11 := Aside0.mk (show Rt 25 bo [Value.string x.id, .int .i64 x.er, .int .i64 x.line, .slice A' n' c', .int .i64 0] (w10.setRow bo ([Value.string x.id, .int .i64 x.er, .int .i64 x.line, .slice A' n' c', .int .i64 0]).toArray) from O10.out.row _)
  have E11 := Aside0.mk (show Rt 22 be [.int .i64 0] (w10.setRow bo ([Value.string x.id, .int .i64 x.er, .int .i64 x.line, .slice A' n' c', .int .i64 0]).toArray) from (setRow_other _ _ _ _ hne1).trans E10.out)
  have A11 := Aside0.mk (show Rt 3 ba [.int .i64 0] (w10.setRow bo ([Value.string x.id, .int .i64 x.er, .int .i64 x.line, .slice A' n' c', .int .i64 0]).toArray) from (setRow_other _ _ _ _ hne2).trans A10.out)
  have L11 := Aside0.mk (show k28.R 28 (w10.setRow bo ([Value.string x.id, .int .i64 x.er, .int .i64 x.line, .slice A' n' c', .int .i64 0]).toArray) (bo + 4) (fun _ => True) (.slice A' n' c') x.levs from Kd.R_mono (Kd.R_step (Kd.R_bound L10.out) (fun j hj _ => setRow_other _ _ _ _ (by have := hj.2.1; omega))) (fun _ _ => trivial))
  have B11 := Aside0.mk (show Below bo W (w10.setRow bo ([Value.string x.id, .int .i64 x.er, .int .i64 x.line, .slice A' n' c', .int .i64 0]).toArray) from below_setRow' B10.out (Nat.le_refl _) _)
  clear q
  generalize w10.setRow bo ([Value.string x.id, .int .i64 x.er, .int .i64 x.line, .slice A' n' c', .int .i64 0]).toArray = w11 at *
  have q := O11.out.set 4 (.int .i64 x.now)
  rw [show ([Value.string x.id, .int .i64 x.er, .int .i64 x.line, .slice A' n' c', .int .i64 0]).set 4 (.int .i64 x.now) = [Value.string x.id, .int .i64 x.er, .int .i64 x.line, .slice A' n' c', .int .i64 x.now] from rfl] at q
  rw [q]
  have O12 := Aside0.mk (show Rt 25 bo [Value.string x.id, .int .i64 x.er, .int .i64 x.line, .slice A' n' c', .int .i64 x.now] (w11.setRow bo ([Value.string x.id, .int .i64 x.er, .int .i64 x.line, .slice A' n' c', .int .i64 x.now]).toArray) from O11.out.row _)
  have E12 := Aside0.mk (show Rt 22 be [.int .i64 0] (w11.setRow bo ([Value.string x.id, .int .i64 x.er, .int .i64 x.line, .slice A' n' c', .int .i64 x.now]).toArray) from (setRow_other _ _ _ _ hne1).trans E11.out)
  have A12 := Aside0.mk (show Rt 3 ba [.int .i64 0] (w11.setRow bo ([Value.string x.id, .int .i64 x.er, .int .i64 x.line, .slice A' n' c', .int .i64 x.now]).toArray) from (setRow_other _ _ _ _ hne2).trans A11.out)
  have L12 := Aside0.mk (show k28.R 28 (w11.setRow bo ([Value.string x.id, .int .i64 x.er, .int .i64 x.line, .slice A' n' c', .int .i64 x.now]).toArray) (bo + 4) (fun _ => True) (.slice A' n' c') x.levs from Kd.R_mono (Kd.R_step (Kd.R_bound L11.out) (fun j hj _ => setRow_other _ _ _ _ (by have := hj.2.1; omega))) (fun _ _ => trivial))
  have B12 := Aside0.mk (show Below bo W (w11.setRow bo ([Value.string x.id, .int .i64 x.er, .int .i64 x.line, .slice A' n' c', .int .i64 x.now]).toArray) from below_setRow' B11.out (Nat.le_refl _) _)
  clear q
  generalize w11.setRow bo ([Value.string x.id, .int .i64 x.er, .int .i64 x.line, .slice A' n' c', .int .i64 x.now]).toArray = w12 at *
  rw [E12.out.same 0 _ rfl, A12.out.same 0 _ rfl]
  refine leaves_cons (f := 114) (args := #[ptr bo, ptr be, ptr ba]) (by simp) (by simp [go_sem]) ?_
  refine (catch_idle (bo := bo) (be := be) (ba := ba) w12).mono ?_
  rintro e u' w' ⟨rfl, rfl, hb⟩
  have ho := O12.out.below hb
  have he := E12.out.below hb
  have ha := A12.out.below hb
  have hR := Kd.R_below L12.out hb
  have x0 := ho.cell 0 _ rfl
  have x1 := ho.cell 1 _ rfl
  have x2 := ho.cell 2 _ rfl
  have x3 := ho.cell 3 _ rfl
  have x4 := ho.cell 4 _ rfl
  have y0 := he.cell 0 _ rfl
  have z0 := ha.cell 0 _ rfl
  rw [HR.out]
  simp [Leaves, settle, results, Try.results59, go_sem, x0, x1, x2, x3, x4, y0, z0]
  refine ⟨by rw [HBO.out]; exact B12.out.trans (hb.mono (by have := B12.out.size; have := HBO.out; omega)), _, ⟨rfl, rfl, rfl⟩, A', n', c', rfl, Kd.R_lower hR (by have := HBO.out; omega)⟩
end Go.Proofs.Ytafmoglaockepaa.Cd
end
section
namespace Go.Proofs.Ytafmoglaockepaa.Cd
open Go Go.RowKit Go.Proofs.Ytafmoglaockepaa.Num Go.Proofs.Ytafmoglaockepaa.PG Go.Proofs.YtafmoglaockepaaW.PrintWords Go.Proofs.YtafmoglaockepaaW.PrintLast Go.Proofs.YtafmoglaockepaaW.PrintMore
set_option linter.unusedVariables false
set_option linter.unusedSimpArgs false
set_option maxHeartbeats 4000000
set_option maxRecDepth 100000
def zeroD : RepD := ⟨⟨#[]⟩, 0, 0, [], 0⟩
def outD (r : Res RepD) : RepD :=
  match r with
  | .ok x _ => x
  | .fail _ _ => zeroD
theorem enc_of_out {S0 : Nat} {r : Res RepD} {v : Value} {w : World} (h : repOut S0 r v w) : encRep S0 (outD r) v w := by
  cases r with
  | ok x n => exact h
  | fail e p =>
    have h : v = .agg zeroRep.toArray := h
    subst h
    exact ⟨none, 0, 0, rfl, Kd.R_nil _ _ _ _ _⟩
theorem setRow_again (W : World) (g : Nat) (xs ys : Array Value) : (W.setRow g xs).setRow g ys = W.setRow g ys := by
  obtain ⟨heap, tape, drawn, os, output⟩ := W
  simp only [World.setRow, World.mk.injEq, and_true]
  apply Array.ext
  · simp
  · intro i h1 h2
    have hi : i < heap.size := by simpa using h1
    by_cases e : g = i
    · subst e
      rcases ho : heap[g] with _ | _ <;> simp [Array.getElem_modify, ho]
    · simp [Array.getElem_modify, e]
theorem Rt.fill5 {t b : Nat} {z0 z1 z2 z3 z4 : Value} {W : World} (h : Rt t b [z0, z1, z2, z3, z4] W) (a0 a1 a2 a3 a4 : Value) :
    ((((W.setCell ⟨b, 0, none⟩ a0).setCell ⟨b, 1, none⟩ a1).setCell ⟨b, 2, none⟩ a2).setCell ⟨b, 3, none⟩ a3).setCell ⟨b, 4, none⟩ a4 = W.setRow b [a0, a1, a2, a3, a4].toArray := by
  rw [h.set 0 a0]
  have h0 : Rt t b [a0, z1, z2, z3, z4] (W.setRow b ([z0, z1, z2, z3, z4].set 0 a0).toArray) := h.row _
  rw [h0.set 1 a1, setRow_again]
  have h1 : Rt t b [a0, a1, z2, z3, z4] (W.setRow b ([a0, z1, z2, z3, z4].set 1 a1).toArray) := h.row _
  rw [h1.set 2 a2, setRow_again]
  have h2 : Rt t b [a0, a1, a2, z3, z4] (W.setRow b ([a0, a1, z2, z3, z4].set 2 a2).toArray) := h.row _
  rw [h2.set 3 a3, setRow_again]
  have h3 : Rt t b [a0, a1, a2, a3, z4] (W.setRow b ([a0, a1, a2, z3, z4].set 3 a3).toArray) := h.row _
  rw [h3.set 4 a4, setRow_again]
  rfl
theorem Reply_at (A : Option Addr) (n c : Nat) (xs : List Int) (W : World) (hC : Kd.C (Kd.int .u8) W A n xs) (hnc : n ≤ c) (hb : IsBytes xs) (hbig : n < 1000000000) :
    Calls Try.prog 15 #[.slice A n c] W fun e w' => Below W.heap.size W w' ∧ ∃ v, e = .returned (.tuple #[v, .int .i64 (endOf (whole 82 4096 xs (pReply xs 4096))).1, .int .i64 (endOf (whole 82 4096 xs (pReply xs 4096))).2]) ∧ encRep W.heap.size (outD (whole 82 4096 xs (pReply xs 4096))) v w' := by
  have hb1 : Below W.heap.size W (W.alloc (.cells #[.string ⟨#[]⟩, .int .i64 0, .int .i64 0, .slice none 0 0, .int .i64 0] 25)) := below_alloc (Below.refl _ _) _
  have r1 : Rt 25 W.heap.size zeroRep (W.alloc (.cells #[.string ⟨#[]⟩, .int .i64 0, .int .i64 0, .slice none 0 0, .int .i64 0] 25)) := heap_alloc_new W _
  have hC1 := Kd.C_below hC hb1
  have HRD := Aside0.mk (read_reply A n c xs (W.alloc (.cells #[.string ⟨#[]⟩, .int .i64 0, .int .i64 0, .slice none 0 0, .int .i64 0] 25)) hC1 hnc hb hbig)
  generalize whole 82 4096 xs (pReply xs 4096) = rr at *
  have B1 := Aside0.mk hb1
  clear hC hC1 hnc hb hbig
  go_enter Try.func15, Try.ntmps15
  go_upto_region 1 with fail
  obtain ⟨b, hbe⟩ : ∃ b, W.heap.size = b := ⟨_, rfl⟩
  have HBE := Aside0.mk hbe
  rw [hbe] at r1 ⊢
  have R1 := Aside0.mk r1
  clear hb1 r1 hbe
  generalize W.alloc (.cells #[.string ⟨#[]⟩, .int .i64 0, .int .i64 0, .slice none 0 0, .int .i64 0] 25) = w1 at *
  go_wp2_with fail
  go_at_call 59
  refine HRD.out.mono ?_
  rintro e w2 ⟨hb, v, rfl, ho⟩
  obtain ⟨A', n', c', hv, hR⟩ := enc_of_out ho
  subst hv
  obtain ⟨x, hx⟩ : ∃ x, outD rr = x := ⟨_, rfl⟩
  obtain ⟨ec, hec⟩ : ∃ ec, (endOf rr).1 = ec := ⟨_, rfl⟩
  obtain ⟨ep, hep⟩ : ∃ ep, (endOf rr).2 = ep := ⟨_, rfl⟩
  rw [hx] at hR ⊢
  rw [hec, hep]
  have HX := Aside0.mk (And.intro hx (And.intro hec hep))
  have R2 := Aside0.mk (R1.out.below hb)
  have L2 := Aside0.mk (show k28.R 28 w2 (b + 1) (fun _ => True) (.slice A' n' c') x.levs from Kd.R_lower hR R1.out.lt)
  have B2 := Aside0.mk (show Below W.heap.size W w2 from B1.out.trans (hb.mono B1.out.size))
  clear hb ho hR HRD hx hec hep
  have z0 := R2.out.cell 0 _ rfl
  have z1 := R2.out.cell 1 _ rfl
  have z2 := R2.out.cell 2 _ rfl
  have z3 := R2.out.cell 3 _ rfl
  have z4 := R2.out.cell 4 _ rfl
  have f0 := R2.out.free 0
  have f1 := R2.out.free 1
  have f2 := R2.out.free 2
  have f3 := R2.out.free 3
  have f4 := R2.out.free 4
  go_wp2_with fail
  rw [R2.out.fill5]
  have R3 : Rt 25 b [.string x.id, .int .i64 x.er, .int .i64 x.line, .slice A' n' c', .int .i64 x.now] (w2.setRow b [Value.string x.id, .int .i64 x.er, .int .i64 x.line, .slice A' n' c', .int .i64 x.now].toArray) := R2.out.row _
  have L3 : k28.R 28 (w2.setRow b [Value.string x.id, .int .i64 x.er, .int .i64 x.line, .slice A' n' c', .int .i64 x.now].toArray) (b + 1) (fun _ => True) (.slice A' n' c') x.levs := Kd.R_mono (Kd.R_step (Kd.R_bound L2.out) (fun j hj _ => setRow_other _ _ _ _ (by have := hj.2.1; omega))) (fun _ _ => trivial)
  have B3 : Below W.heap.size W (w2.setRow b [Value.string x.id, .int .i64 x.er, .int .i64 x.line, .slice A' n' c', .int .i64 x.now].toArray) := below_setRow' B2.out (Nat.le_of_eq HBE.out) _
  clear z0 z1 z2 z3 z4 f0 f1 f2 f3 f4
  generalize w2.setRow b [Value.string x.id, .int .i64 x.er, .int .i64 x.line, .slice A' n' c', .int .i64 x.now].toArray = w3 at *
  have x0 := R3.cell 0 _ rfl
  have x1 := R3.cell 1 _ rfl
  have x2 := R3.cell 2 _ rfl
  have x3 := R3.cell 3 _ rfl
  have x4 := R3.cell 4 _ rfl
  refine ⟨rfl, ?_⟩
  simp [results, Try.results15, go_sem, x0, x1, x2, x3, x4]
  refine ⟨B3, _, ⟨rfl, HX.out.2.1.symm, HX.out.2.2.symm⟩, ?_⟩
  rw [HX.out.1]
  exact ⟨A', n', c', rfl, Kd.R_lower L3 (by have := HBE.out; omega)⟩
end Go.Proofs.Ytafmoglaockepaa.Cd
end
section
namespace Go.Proofs.Ytafmoglaockepaa.Cd
open Go Go.RowKit Go.Proofs.Ytafmoglaockepaa.Num Go.Proofs.Ytafmoglaockepaa.PG Go.Proofs.YtafmoglaockepaaW.PrintWords Go.Proofs.YtafmoglaockepaaW.PrintLast Go.Proofs.YtafmoglaockepaaW.PrintMore
set_option linter.unusedVariables false
set_option linter.unusedSimpArgs false
set_option maxHeartbeats 4000000
set_option maxRecDepth 100000
structure Alive {α : Type} (E : Nat → α → Value → World → Prop) : Prop where
  lower : ∀ {S S' : Nat} {x : α} {v : Value} {w : World}, E S x v w → S' ≤ S → E S' x v w
  keep : ∀ {S : Nat} {x : α} {v : Value} {w w' : World}, E S x v w → (∀ j, S ≤ j → j < w.heap.size → w'.heap[j]? = w.heap[j]?) → E S x v w'
section
variable {α : Type} {E : Nat → α → Value → World → Prop}
theorem Alive.below (h : Alive E) {S : Nat} {x : α} {v : Value} {w w' : World} (e : E S x v w) (hb : Below w.heap.size w w') : E S x v w' := h.keep e (fun j _ hj => hb.block j hj)
theorem Alive.kept (h : Alive E) {S : Nat} {x : α} {v : Value} {w w' : World} {p : Nat → Prop} (e : E S x v w) (hk : Kept w w' p) (hp : ∀ j, S ≤ j → ¬ p j) : E S x v w' := h.keep e (fun j h1 hj => hk.2 j hj (hp j h1))
theorem Alive.row (h : Alive E) {S : Nat} {x : α} {v : Value} {w : World} (e : E S x v w) {b : Nat} (hb : b < S) (cs : Array Value) : E S x v (w.setRow b cs) := h.keep e (fun j h1 _ => setRow_other _ _ _ _ (by omega))
end
theorem alive_R {α : Type} (k : Kd α) (t : Nat) : Alive (fun S l v w => k.R t w S (fun _ => True) v l) :=
  ⟨fun h hs => Kd.R_lower h hs, fun h hk => Kd.R_mono (Kd.R_step (Kd.R_bound h) (fun j hj _ => hk j hj.2.1 hj.2.2.1)) (fun _ _ => trivial)⟩
theorem own_under {α : Type} {k : Kd α} {t S : Nat} {ok : Nat → Prop} {w : World} {v : Value} {l : List α} (h : k.R t w S ok v l) : ∀ j, v.ownBlock = some j → j < w.heap.size := fun j hj => ((Kd.R_bound h).1 j hj).2.2.1
abbrev LL (S : Nat) (l : List S28) (v : Value) (w : World) : Prop := k28.R 28 w S (fun _ => True) v l
abbrev LN (S : Nat) (l : List S110) (v : Value) (w : World) : Prop := k110.R 110 w S (fun _ => True) v l
abbrev LH (S : Nat) (l : List S121) (v : Value) (w : World) : Prop := k121.R 121 w S (fun _ => True) v l
abbrev LD (S : Nat) (l : List S123) (v : Value) (w : World) : Prop := k123.R 123 w S (fun _ => True) v l
theorem LL_alive : Alive LL := alive_R k28 28
theorem LN_alive : Alive LN := alive_R k110 110
theorem LH_alive : Alive LH := alive_R k121 121
theorem LD_alive : Alive LD := alive_R k123 123
theorem LL_slice {S : Nat} {l : List S28} {v : Value} {w : World} (h : LL S l v w) : ∃ A n c, v = .slice A n c := by
  obtain ⟨A, c, e⟩ := Kd.R_slice h
  exact ⟨A, _, c, e⟩
theorem LN_slice {S : Nat} {l : List S110} {v : Value} {w : World} (h : LN S l v w) : ∃ A n c, v = .slice A n c := by
  obtain ⟨A, c, e⟩ := Kd.R_slice h
  exact ⟨A, _, c, e⟩
theorem LH_slice {S : Nat} {l : List S121} {v : Value} {w : World} (h : LH S l v w) : ∃ A n c, v = .slice A n c := by
  obtain ⟨A, c, e⟩ := Kd.R_slice h
  exact ⟨A, _, c, e⟩
theorem LD_slice {S : Nat} {l : List S123} {v : Value} {w : World} (h : LD S l v w) : ∃ A n c, v = .slice A n c := by
  obtain ⟨A, c, e⟩ := Kd.R_slice h
  exact ⟨A, _, c, e⟩
def pLine (xs : List Int) (most : Nat) (m : Nat) : Res S110 :=
  (pT xs most m).bind fun t m => (pI xs m).bind fun a m => .ok ⟨t, a⟩ m
def memLine (_S : Nat) (x : S110) (v : Value) (_w : World) : Prop := v = .agg #[.string x.f0, .int .i64 x.f1]
theorem r_line {g B gb : Nat} {A : Option Addr} {n c : Nat} {xs : List Int} {m most : Nat} {W : World} (k : CrAt g B A n c xs m most W) (hbx : Rt 101 gb [ptr g] W) :
    Calls Try.prog 131 #[ptr gb] W fun e w' => Below B W w' ∧ Kept W w' (fun j => j = g) ∧ OutR g B A n c xs most (memLine W.heap.size) (pLine xs most m) e w' := by
  have HK := Aside0.mk k
  have HBX := Aside0.mk hbx
  have HNE := Aside0.mk (show gb ≠ g from fun e => by
    have h2 := hbx
    rw [e] at h2
    have := blk_types h2 k.row
    omega)
  clear k hbx
  go_enter Try.func131, Try.ntmps131
  go_upto_region 1 with fail
  have hr1 : Rt 110 W.heap.size [.string ⟨#[]⟩, .int .i64 0] (W.alloc (.cells #[.string ⟨#[]⟩, .int .i64 0] 110)) := heap_alloc_new W _
  have hb1 : Below W.heap.size W (W.alloc (.cells #[.string ⟨#[]⟩, .int .i64 0] 110)) := below_alloc (Below.refl _ _) _
  obtain ⟨b, hbe⟩ : ∃ b, W.heap.size = b := ⟨_, rfl⟩
  have K1 := Aside0.mk (HK.out.below hb1)
  have X1 := Aside0.mk (HBX.out.below hb1)
  have B1 := Aside0.mk (hb1.mono HK.out.size)
  have P1 := Aside0.mk (Kept.of_below hb1 (fun j => j = g))
  have HBE := Aside0.mk (show W.heap.size ≤ b by omega)
  have HLT := Aside0.mk (show g < b ∧ B ≤ b ∧ gb < b by have := HK.out.row.lt; have := HK.out.size; have := HBX.out.lt; omega)
  rw [hbe] at hr1
  rw [hbe]
  have R1 := Aside0.mk hr1
  clear hr1 hb1 hbe
  generalize W.alloc (.cells #[.string ⟨#[]⟩, .int .i64 0] 110) = w1 at *
  have cx := X1.out.cell 0 _ rfl
  have cr0 := R1.out.cell 0 _ rfl
  have fr0 := R1.out.free 0
  go_wp2_with fail
  go_at_call 61
  refine (r_text K1.out).mono ?_
  rintro e w2 ⟨hb, hp, ho⟩
  have hbt := B1.out.trans hb
  have hpt := P1.out.then_ hp (fun _ h => .inl h)
  rcases hq : pT xs most m with ⟨t, m1⟩ | ⟨er, p⟩
  rotate_left
  · rw [hq] at ho
    have ho : e = gaveUp er p := ho
    subst ho
    refine ⟨rfl, hbt, hpt, ?_⟩
    have e9 : pLine xs most m = Res.fail er p := by
      unfold pLine
      simp only [Res.bind, hq]
    rw [e9]
    rfl
  rw [hq] at ho
  obtain ⟨he, hk⟩ : e = .returned (.string t) ∧ CrAt g B A n c xs m1 most w2 := ho
  subst he
  have HQ0 := Aside0.mk hq
  have K2 := Aside0.mk hk
  have B2 := Aside0.mk hbt
  have P2 := Aside0.mk hpt
  have R2 := Aside0.mk (show Rt 110 b [.string ⟨#[]⟩, .int .i64 0] w2 from (hp.2 b R1.out.lt (by have := HLT.out; show b ≠ g; omega)).trans R1.out)
  have X2 := Aside0.mk (show Rt 101 gb [ptr g] w2 from (hp.2 gb X1.out.lt HNE.out).trans X1.out)
  clear hb hp hbt hpt hq hk cr0 fr0
  try clear ho
  clear cx
  have cr0 := R2.out.cell 0 _ rfl
  have fr0 := R2.out.free 0
  go_upto_region 2 with fail
  have e1 := R2.out.set 0 (.string t)
  rw [e1]
  clear e1 cr0 fr0
  have hl : [Value.string ⟨#[]⟩, .int .i64 0].set 0 (.string t) = [Value.string t, .int .i64 0] := rfl
  rw [hl]
  clear hl
  have K3 := Aside0.mk (show CrAt g B A n c xs m1 most (w2.setRow b [Value.string t, .int .i64 0].toArray) from K2.out.aside (below_setRow' (Below.refl _ _) HLT.out.2.1 _) (setRow_other _ _ _ _ (by have := HLT.out; omega)))
  have B3 := Aside0.mk (show Below B W (w2.setRow b [Value.string t, .int .i64 0].toArray) from below_setRow' B2.out HLT.out.2.1 _)
  have P3 := Aside0.mk (show Kept W (w2.setRow b [Value.string t, .int .i64 0].toArray) (fun j => j = g) from ⟨by rw [setRow_size]; exact P2.out.1, fun j hj hn => (setRow_other _ _ _ _ (by have := HBE.out; omega)).trans (P2.out.2 j hj hn)⟩)
  have R3 := Aside0.mk (show Rt 110 b [Value.string t, .int .i64 0] (w2.setRow b [Value.string t, .int .i64 0].toArray) from R2.out.row _)
  have X3 := Aside0.mk (show Rt 101 gb [ptr g] (w2.setRow b [Value.string t, .int .i64 0].toArray) from (setRow_other _ _ _ _ (by have := HLT.out; omega)).trans X2.out)
  generalize w2.setRow b [Value.string t, .int .i64 0].toArray = w3 at *
  have cx := X3.out.cell 0 _ rfl
  have cr1 := R3.out.cell 1 _ rfl
  have fr1 := R3.out.free 1
  go_wp2_with fail
  go_at_call 62
  refine (r_int K3.out).mono ?_
  rintro e w4 ⟨hb, hp, ho⟩
  have hbt := B3.out.trans hb
  have hpt := P3.out.then_ hp (fun _ h => .inl h)
  rcases hq : pI xs m1 with ⟨a, m2⟩ | ⟨er, p⟩
  rotate_left
  · rw [hq] at ho
    have ho : e = gaveUp er p := ho
    subst ho
    refine ⟨rfl, hbt, hpt, ?_⟩
    have e9 : pLine xs most m = Res.fail er p := by
      unfold pLine
      simp only [Res.bind, HQ0.out, hq]
    rw [e9]
    rfl
  rw [hq] at ho
  obtain ⟨he, hk⟩ : e = .returned (.int .i64 a) ∧ CrAt g B A n c xs m2 most w4 := ho
  subst he
  have HQ1 := Aside0.mk hq
  have K4 := Aside0.mk hk
  have B4 := Aside0.mk hbt
  have P4 := Aside0.mk hpt
  have R4 := Aside0.mk (show Rt 110 b [.string t, .int .i64 0] w4 from (hp.2 b R3.out.lt (by have := HLT.out; show b ≠ g; omega)).trans R3.out)
  have X4 := Aside0.mk (show Rt 101 gb [ptr g] w4 from (hp.2 gb X3.out.lt HNE.out).trans X3.out)
  clear hb hp hbt hpt hq hk cr1 fr1
  try clear ho
  clear cx
  have cr1 := R4.out.cell 1 _ rfl
  have fr1 := R4.out.free 1
  go_upto_region 3 with fail
  have e1 := R4.out.set 1 (.int .i64 a)
  rw [e1]
  clear e1 cr1 fr1
  have hl : [Value.string t, .int .i64 0].set 1 (.int .i64 a) = [Value.string t, .int .i64 a] := rfl
  rw [hl]
  clear hl
  have K5 := Aside0.mk (show CrAt g B A n c xs m2 most (w4.setRow b [Value.string t, .int .i64 a].toArray) from K4.out.aside (below_setRow' (Below.refl _ _) HLT.out.2.1 _) (setRow_other _ _ _ _ (by have := HLT.out; omega)))
  have B5 := Aside0.mk (show Below B W (w4.setRow b [Value.string t, .int .i64 a].toArray) from below_setRow' B4.out HLT.out.2.1 _)
  have P5 := Aside0.mk (show Kept W (w4.setRow b [Value.string t, .int .i64 a].toArray) (fun j => j = g) from ⟨by rw [setRow_size]; exact P4.out.1, fun j hj hn => (setRow_other _ _ _ _ (by have := HBE.out; omega)).trans (P4.out.2 j hj hn)⟩)
  have R5 := Aside0.mk (show Rt 110 b [Value.string t, .int .i64 a] (w4.setRow b [Value.string t, .int .i64 a].toArray) from R4.out.row _)
  have X5 := Aside0.mk (show Rt 101 gb [ptr g] (w4.setRow b [Value.string t, .int .i64 a].toArray) from (setRow_other _ _ _ _ (by have := HLT.out; omega)).trans X4.out)
  generalize w4.setRow b [Value.string t, .int .i64 a].toArray = w5 at *
  have c0 := R5.out.cell 0 _ rfl
  have f0 := R5.out.free 0
  have c1 := R5.out.cell 1 _ rfl
  have f1 := R5.out.free 1
  go_wp2_with fail
  rw [R5.out.same 0 _ rfl, R5.out.same 1 _ rfl]
  refine bodyPost_ret (results_cell_row rfl _ _ b 110 _ (0, 0) _ rfl R5.out Try.underlying110 rfl (by kernel_rfl)) rfl ?_
  refine ⟨B5.out, P5.out, ?_⟩
  have e9 : pLine xs most m = Res.ok ⟨t, a⟩ m2 := by
    unfold pLine
    simp only [Res.bind, HQ0.out, HQ1.out]
  rw [e9]
  exact ⟨_, rfl, rfl, K5.out⟩
end Go.Proofs.Ytafmoglaockepaa.Cd
end
section
namespace Go.Proofs.Ytafmoglaockepaa.Cd
open Go Go.RowKit Go.Proofs.Ytafmoglaockepaa.Num Go.Proofs.Ytafmoglaockepaa.PG Go.Proofs.YtafmoglaockepaaW.PrintWords Go.Proofs.YtafmoglaockepaaW.PrintLast Go.Proofs.YtafmoglaockepaaW.PrintMore
set_option linter.unusedVariables false
set_option linter.unusedSimpArgs false
set_option maxHeartbeats 4000000
set_option maxRecDepth 100000
theorem r_lineList {g B gb : Nat} {A : Option Addr} {n c : Nat} {xs : List Int} {m most : Nat} {W : World} (k : CrAt g B A n c xs m most W) (hbx : Rt 101 gb [ptr g] W) :
    Calls Try.prog 130 #[ptr g, .func (.func 131) #[] #[ptr gb]] W fun e w' => Below B W w' ∧ Kept W w' (fun j => j = g) ∧ OutR g B A n c xs most (LN W.heap.size) (pList xs most (pLine xs most) m) e w' := by
  have HK := Aside0.mk k
  have HBX := Aside0.mk hbx
  have HNE := Aside0.mk (show gb ≠ g from fun e => by
    have h2 := hbx
    rw [e] at h2
    have := blk_types h2 k.row
    omega)
  have c1 : (m : Int) ≤ (n : Int) := by have := k.le; omega
  have c2 : (n : Int) ≤ (c : Int) := by have := k.nc; omega
  have c3 : (0 : Int) ≤ (m : Int) := by omega
  have MKS := Aside0.mk (show ∀ w', Below W.heap.size W w' → (fun w' => w'.cell? ⟨g, 0, none⟩ = some (.slice A n c) ∧ w'.cell? ⟨g, 1, none⟩ = some (.int .i64 (m : Int)) ∧ w'.cell? ⟨g, 2, none⟩ = some (.int .i64 (most : Int))) w' from fun w' hb => by
    have r := HK.out.row.below hb
    exact ⟨r.cell 0 _ rfl, r.cell 1 _ rfl, r.cell 2 _ rfl⟩)
  clear k hbx
  have hdl := HK.out.dl
  have hul := ug_lt (xs.drop m) 0 0 (by omega) (by decide) (HK.out.by_.drop m)
  obtain ⟨q, hq⟩ : ∃ q, ug 0 0 (xs.drop m) = q := ⟨_, rfl⟩
  have HQ := Aside0.mk hq
  have hpl := ug_place xs m n HK.out.len HK.out.le
  have HF := Aside0.mk (show ∀ w', Below W.heap.size W w' → Calls Try.prog 129 #[.slice (if c = m then A else A.map (·.add m)) (n - m) (c - m)] w' fun e w2 => e = .returned (.tuple #[.int .u64 q.1, .int .i64 q.2.1, .int .i64 q.2.2]) ∧ Drawn0 w' w2 from fun w' hb => by
    have := frame_Uint.calls ((xs.drop m).length + 2) (if c = m then A else A.map (·.add m)) (c - m) (xs.drop m) q.1 q.2.1 q.2.2 w' (HK.out.rest (hb.mono HK.out.size)) (by rw [hdl]; have := HK.out.nc; omega) (by rw [frame_uint _ (HK.out.by_.drop m) (by rw [hdl]; have := HK.out.big; omega) _ (by omega), hq])
    rwa [hdl] at this)
  rw [hq] at hpl hul
  obtain ⟨v, d, er⟩ := q
  obtain ⟨dn, hdn⟩ : ∃ dn : Nat, d = (dn : Int) := ⟨d.toNat, by have h1 : 0 ≤ d := hpl.1; omega⟩
  subst hdn
  obtain ⟨u, hu⟩ : ∃ u : Nat, v = (u : Int) := ⟨v.toNat, by have h1 : 0 ≤ v := hul.1; omega⟩
  subst hu
  have HPL := Aside0.mk (show m + dn ≤ n by have h1 : (dn : Int) ≤ ((n - m : Nat) : Int) := hpl.2; have := HK.out.le; omega)
  have HUL := Aside0.mk (show u < 18446744073709551616 by have h1 : (u : Int) < 18446744073709551616 := hul.2; omega)
  clear hdl hq hpl hul
  have cm := (MKS.out W (Below.refl _ _)).2.1
  go_enter Try.func130, Try.ntmps130
  go_upto_region 2 with fail
  refine wp_region_held_drew (S := fun w' => w'.cell? ⟨g, 0, none⟩ = some (.slice A n c) ∧ w'.cell? ⟨g, 1, none⟩ = some (.int .i64 (m : Int)) ∧ w'.cell? ⟨g, 2, none⟩ = some (.int .i64 (most : Int))) (by kernel_rfl) (MKS.out _ (below_drew (Below.refl _ _))) (fun hHeld => ?_)
  refine wpAnyH_take (i := 0) (oi := { dst := some 15, op := Op.move (Operand.tmp 0), type := 101, pos := "read.go:44", after := #[], guard := none }) (v := ?_) rfl (by kernel_rfl) (by kernel_rfl) (by kernel_rfl) (fun _ _ _ h => h) (Or.inl ⟨by rfl, ?_⟩) hHeld ?_
  rotate_left
  · intro w' hS; obtain ⟨hS0, hS1, hS2⟩ := hS; go_simp; all_goals (with_reducible rfl)
  (try simp only [Act.put, List.setIfInBounds_toArray, List.set_cons_zero, List.set_cons_succ])
  refine wpAnyH_take (i := 1) (oi := { dst := some 16, op := Op.nilCheck (Operand.tmp 15), type := 0, pos := "read.go:44", after := #[{ on := 0, ground := Ground.data }], guard := none }) (v := ?_) rfl (by kernel_rfl) (by kernel_rfl) (by kernel_rfl) (fun _ _ _ h => h) (Or.inl ⟨by rfl, ?_⟩) hHeld ?_
  rotate_left
  · intro w' hS; obtain ⟨hS0, hS1, hS2⟩ := hS; go_simp; all_goals (with_reducible rfl)
  (try simp only [Act.put, List.setIfInBounds_toArray, List.set_cons_zero, List.set_cons_succ])
  refine wpAnyH_take (i := 2) (oi := { dst := some 17, op := Op.fieldAddr 158 (Operand.tmp 16) 0, type := 0, pos := "read.go:44", after := #[{ on := 1, ground := Ground.data }], guard := none }) (v := ?_) rfl (by kernel_rfl) (by kernel_rfl) (by kernel_rfl) (fun _ _ _ h => h) (Or.inl ⟨by rfl, ?_⟩) hHeld ?_
  rotate_left
  · intro w' hS; obtain ⟨hS0, hS1, hS2⟩ := hS; go_simp; all_goals (with_reducible rfl)
  (try simp only [Act.put, List.setIfInBounds_toArray, List.set_cons_zero, List.set_cons_succ])
  refine wpAnyH_take (i := 3) (oi := { dst := some 18, op := Op.load 26 (Operand.tmp 17), type := 26, pos := "read.go:44", after := #[{ on := 2, ground := Ground.data }], guard := none }) (v := ?_) rfl (by kernel_rfl) (by kernel_rfl) (by kernel_rfl) (fun _ _ _ h => h) (Or.inl ⟨by rfl, ?_⟩) hHeld ?_
  rotate_left
  · intro w' hS; obtain ⟨hS0, hS1, hS2⟩ := hS; go_simp; all_goals (with_reducible rfl)
  (try simp only [Act.put, List.setIfInBounds_toArray, List.set_cons_zero, List.set_cons_succ])
  refine wpAnyH_take (i := 4) (oi := { dst := some 19, op := Op.move (Operand.tmp 0), type := 101, pos := "read.go:44", after := #[], guard := none }) (v := ?_) rfl (by kernel_rfl) (by kernel_rfl) (by kernel_rfl) (fun _ _ _ h => h) (Or.inl ⟨by rfl, ?_⟩) hHeld ?_
  rotate_left
  · intro w' hS; obtain ⟨hS0, hS1, hS2⟩ := hS; go_simp; all_goals (with_reducible rfl)
  (try simp only [Act.put, List.setIfInBounds_toArray, List.set_cons_zero, List.set_cons_succ])
  refine wpAnyH_take (i := 5) (oi := { dst := some 20, op := Op.nilCheck (Operand.tmp 19), type := 0, pos := "read.go:44", after := #[{ on := 4, ground := Ground.data }], guard := none }) (v := ?_) rfl (by kernel_rfl) (by kernel_rfl) (by kernel_rfl) (fun _ _ _ h => h) (Or.inl ⟨by rfl, ?_⟩) hHeld ?_
  rotate_left
  · intro w' hS; obtain ⟨hS0, hS1, hS2⟩ := hS; go_simp; all_goals (with_reducible rfl)
  (try simp only [Act.put, List.setIfInBounds_toArray, List.set_cons_zero, List.set_cons_succ])
  refine wpAnyH_take (i := 6) (oi := { dst := some 21, op := Op.fieldAddr 158 (Operand.tmp 20) 1, type := 0, pos := "read.go:44", after := #[{ on := 5, ground := Ground.data }], guard := none }) (v := ?_) rfl (by kernel_rfl) (by kernel_rfl) (by kernel_rfl) (fun _ _ _ h => h) (Or.inl ⟨by rfl, ?_⟩) hHeld ?_
  rotate_left
  · intro w' hS; obtain ⟨hS0, hS1, hS2⟩ := hS; go_simp; all_goals (with_reducible rfl)
  (try simp only [Act.put, List.setIfInBounds_toArray, List.set_cons_zero, List.set_cons_succ])
  refine wpAnyH_take (i := 7) (oi := { dst := some 22, op := Op.load 3 (Operand.tmp 21), type := 3, pos := "read.go:44", after := #[{ on := 6, ground := Ground.data }], guard := none }) (v := ?_) rfl (by kernel_rfl) (by kernel_rfl) (by kernel_rfl) (fun _ _ _ h => h) (Or.inl ⟨by rfl, ?_⟩) hHeld ?_
  rotate_left
  · intro w' hS; obtain ⟨hS0, hS1, hS2⟩ := hS; go_simp; all_goals (with_reducible rfl)
  (try simp only [Act.put, List.setIfInBounds_toArray, List.set_cons_zero, List.set_cons_succ])
  refine wpAnyH_take (i := 8) (oi := { dst := some 23, op := Op.slice 26 (Operand.tmp 18) (some (Operand.tmp 22)) none none, type := 26, pos := "read.go:44", after := #[{ on := 3, ground := Ground.data }, { on := 7, ground := Ground.data }], guard := none }) (v := ?_) rfl (by kernel_rfl) (by kernel_rfl) (by kernel_rfl) (fun _ _ _ h => h) (Or.inl ⟨by rfl, ?_⟩) hHeld ?_
  rotate_left
  · intro w' hS; obtain ⟨hS0, hS1, hS2⟩ := hS; go_simp; all_goals (with_reducible rfl)
  (try simp only [Act.put, List.setIfInBounds_toArray, List.set_cons_zero, List.set_cons_succ])
  refine wpAnyH_ready (rs := [9]) (by kernel_rfl) (by simp) ?_
  refine AllReadyH.cons (o := { dst := some 24, op := Op.call { callee := Callee.value (Operand.func 129), args := #[Operand.tmp 23], argTypes := #[26] }, type := 169, pos := "read.go:44", after := #[{ on := 8, ground := Ground.data }], guard := none }) rfl (fun K hK => ?_) AllReadyH.nil
  go_simp
  go_at_call 129
  refine (HF.out _ (below_drew (Below.refl _ _))).mono ?_
  rintro e wa ⟨rfl, hd⟩
  have HB1 := Aside0.mk (show Below W.heap.size W wa from by
    obtain ⟨md, rfl⟩ := hd
    exact pw_below_drewN (below_drew (Below.refl _ _)) md)
  clear hd
  refine hK.out _ _ (MKS.out _ HB1.out) (fun hHeld => ?_)
  clear hK K
  (try simp only [Act.put, List.setIfInBounds_toArray, List.set_cons_zero, List.set_cons_succ])
  refine wpAnyH_take (i := 10) (oi := { dst := some 14, op := Op.move (Operand.tmp 24), type := 169, pos := "read.go:44", after := #[{ on := 9, ground := Ground.data }], guard := none }) (v := ?_) rfl (by kernel_rfl) (by kernel_rfl) (by kernel_rfl) (fun _ _ _ h => h) (Or.inl ⟨by rfl, ?_⟩) hHeld ?_
  rotate_left
  · intro w' hS; obtain ⟨hS0, hS1, hS2⟩ := hS; go_simp; all_goals (with_reducible rfl)
  (try simp only [Act.put, List.setIfInBounds_toArray, List.set_cons_zero, List.set_cons_succ])
  refine wpAnyH_take (i := 11) (oi := { dst := some 25, op := Op.extract (Operand.tmp 14) 0, type := 151, pos := "read.go:44", after := #[{ on := 10, ground := Ground.data }], guard := none }) (v := ?_) rfl (by kernel_rfl) (by kernel_rfl) (by kernel_rfl) (fun _ _ _ h => h) (Or.inl ⟨by rfl, ?_⟩) hHeld ?_
  rotate_left
  · intro w' hS; obtain ⟨hS0, hS1, hS2⟩ := hS; go_simp; all_goals (with_reducible rfl)
  (try simp only [Act.put, List.setIfInBounds_toArray, List.set_cons_zero, List.set_cons_succ])
  refine wpAnyH_take (i := 12) (oi := { dst := some 26, op := Op.extract (Operand.tmp 14) 1, type := 3, pos := "read.go:44", after := #[{ on := 10, ground := Ground.data }, { on := 14, ground := Ground.gcOnly Departure.lateStores }], guard := none }) (v := ?_) rfl (by kernel_rfl) (by kernel_rfl) (by kernel_rfl) (fun _ _ _ h => h) (Or.inl ⟨by rfl, ?_⟩) hHeld ?_
  rotate_left
  · intro w' hS; obtain ⟨hS0, hS1, hS2⟩ := hS; go_simp; all_goals (with_reducible rfl)
  (try simp only [Act.put, List.setIfInBounds_toArray, List.set_cons_zero, List.set_cons_succ])
  refine wpAnyH_take (i := 13) (oi := { dst := some 27, op := Op.extract (Operand.tmp 14) 2, type := 22, pos := "read.go:44", after := #[{ on := 10, ground := Ground.data }, { on := 15, ground := Ground.gcOnly Departure.lateStores }], guard := none }) (v := ?_) rfl (by kernel_rfl) (by kernel_rfl) (by kernel_rfl) (fun _ _ _ h => h) (Or.inl ⟨by rfl, ?_⟩) hHeld ?_
  rotate_left
  · intro w' hS; obtain ⟨hS0, hS1, hS2⟩ := hS; go_simp; all_goals (with_reducible rfl)
  (try simp only [Act.put, List.setIfInBounds_toArray, List.set_cons_zero, List.set_cons_succ])
  refine wpAnyH_take (i := 14) (oi := { dst := some 6, op := Op.assign (Operand.tmp 25), type := 151, pos := "read.go:44", after := #[{ on := 11, ground := Ground.data }, { on := 9, ground := Ground.chain }, { on := 0, ground := Ground.phase }, { on := 1, ground := Ground.phase }, { on := 2, ground := Ground.phase }, { on := 3, ground := Ground.phase }, { on := 4, ground := Ground.phase }, { on := 5, ground := Ground.phase }, { on := 6, ground := Ground.phase }, { on := 7, ground := Ground.phase }, { on := 8, ground := Ground.phase }, { on := 9, ground := Ground.phase }, { on := 10, ground := Ground.phase }, { on := 11, ground := Ground.phase }, { on := 12, ground := Ground.textOnly Departure.lateStores }, { on := 13, ground := Ground.textOnly Departure.lateStores }], guard := none }) (v := ?_) rfl (by kernel_rfl) (by kernel_rfl) (by kernel_rfl) (fun _ _ _ h => h) (Or.inl ⟨by rfl, ?_⟩) hHeld ?_
  rotate_left
  · intro w' hS; obtain ⟨hS0, hS1, hS2⟩ := hS; go_simp; all_goals (with_reducible rfl)
  (try simp only [Act.put, List.setIfInBounds_toArray, List.set_cons_zero, List.set_cons_succ])
  refine wpAnyH_take (i := 15) (oi := { dst := some 7, op := Op.assign (Operand.tmp 26), type := 3, pos := "read.go:44", after := #[{ on := 12, ground := Ground.data }, { on := 14, ground := Ground.chain }, { on := 0, ground := Ground.phase }, { on := 1, ground := Ground.phase }, { on := 2, ground := Ground.phase }, { on := 3, ground := Ground.phase }, { on := 4, ground := Ground.phase }, { on := 5, ground := Ground.phase }, { on := 6, ground := Ground.phase }, { on := 7, ground := Ground.phase }, { on := 8, ground := Ground.phase }, { on := 9, ground := Ground.phase }, { on := 10, ground := Ground.phase }, { on := 11, ground := Ground.phase }, { on := 12, ground := Ground.phase }, { on := 13, ground := Ground.textOnly Departure.lateStores }, { on := 14, ground := Ground.phase }], guard := none }) (v := ?_) rfl (by kernel_rfl) (by kernel_rfl) (by kernel_rfl) (fun _ _ _ h => h) (Or.inl ⟨by rfl, ?_⟩) hHeld ?_
  rotate_left
  · intro w' hS; obtain ⟨hS0, hS1, hS2⟩ := hS; go_simp; all_goals (with_reducible rfl)
  (try simp only [Act.put, List.setIfInBounds_toArray, List.set_cons_zero, List.set_cons_succ])
  refine wpAnyH_take (i := 16) (oi := { dst := some 8, op := Op.assign (Operand.tmp 27), type := 22, pos := "read.go:44", after := #[{ on := 13, ground := Ground.data }, { on := 15, ground := Ground.chain }, { on := 0, ground := Ground.phase }, { on := 1, ground := Ground.phase }, { on := 2, ground := Ground.phase }, { on := 3, ground := Ground.phase }, { on := 4, ground := Ground.phase }, { on := 5, ground := Ground.phase }, { on := 6, ground := Ground.phase }, { on := 7, ground := Ground.phase }, { on := 8, ground := Ground.phase }, { on := 9, ground := Ground.phase }, { on := 10, ground := Ground.phase }, { on := 11, ground := Ground.phase }, { on := 12, ground := Ground.phase }, { on := 13, ground := Ground.phase }, { on := 14, ground := Ground.phase }, { on := 15, ground := Ground.phase }], guard := none }) (v := ?_) rfl (by kernel_rfl) (by kernel_rfl) (by kernel_rfl) (fun _ _ _ h => h) (Or.inl ⟨by rfl, ?_⟩) hHeld ?_
  rotate_left
  · intro w' hS; obtain ⟨hS0, hS1, hS2⟩ := hS; go_simp; all_goals (with_reducible rfl)
  (try simp only [Act.put, List.setIfInBounds_toArray, List.set_cons_zero, List.set_cons_succ])
  refine wpAnyH_done (by kernel_rfl) ?_ _
  (try simp only [Act.put, List.setIfInBounds_toArray, List.set_cons_zero, List.set_cons_succ])
  clear HF cm
  generalize (if c = m then A else Option.map (fun x => x.add m) A) = Am at *
  by_cases he : er = 0
  rotate_left
  · have HP := Aside0.mk (show pList xs most (pLine xs most) m = Res.fail er ((m : Int) + (dn : Int)) from by
      unfold pList pU took
      rw [HQ.out, if_neg he]
      rfl)
    have HE := Aside0.mk he
    clear he
    go_wp2_with fail
    go_at_call 116
    refine (took_fail (HK.out.below HB1.out) (dn : Int) er (by have := HPL.out; have := HK.out.big; omega) HE.out).mono ?_
    rintro e w2 ⟨rfl, rfl⟩
    refine ⟨rfl, HB1.out.mono HK.out.size, Kept.of_below HB1.out _, ?_⟩
    rw [HP.out]
    rfl
  subst he
  go_wp2_with fail
  go_at_call 116
  refine (took_ok (HK.out.below HB1.out) dn HPL.out).mono ?_
  rintro e w2 ⟨rfl, hk, hb, hkp⟩
  have K2 := Aside0.mk hk
  have B2 := Aside0.mk ((HB1.out.mono HK.out.size).trans hb)
  have P2 := Aside0.mk ((Kept.of_below HB1.out (fun j => j = g)).then_ hkp (fun _ h => .inl h))
  have X2 := Aside0.mk (show Rt 101 gb [ptr g] w2 from (hkp.2 gb (Nat.lt_of_lt_of_le HBX.out.lt HB1.out.size) HNE.out).trans (HBX.out.below HB1.out))
  have hm2 := hk.row.cell 2 _ rfl
  have hw64 : IntKind.u64.wrap (most : Int) = (most : Int) := by have := HK.out.mb; rw [IntKind.wrap_u64]; omega
  clear hk hb hkp
  by_cases hu : most < u
  · have HP := Aside0.mk (show pList xs most (pLine xs most) m = Res.fail 91 (m : Int) from by
      unfold pList pU took
      rw [HQ.out, if_pos rfl]
      simp only [Res.bind]
      rw [if_pos (by omega)])
    have d1 : decide ((most : Int) < (u : Int)) = true := decide_eq_true (by omega)
    have d2 : decide (most < u) = true := decide_eq_true hu
    clear hu
    go_wp2_with fail
    refine ⟨rfl, B2.out, P2.out, ?_⟩
    rw [HP.out]
    rfl
  have HP := Aside0.mk (show pList xs most (pLine xs most) m = pN (pLine xs most) u [] (m + dn) from by
    unfold pList pU took
    rw [HQ.out, if_pos rfl]
    simp only [Res.bind]
    rw [if_neg (by omega), Int.toNat_natCast, Int.toNat_natCast])
  have HU := Aside0.mk (show u ≤ most by omega)
  have d1 : decide ((most : Int) < (u : Int)) = false := decide_eq_false (by omega)
  have d2 : decide (most < u) = false := decide_eq_false hu
  clear hu
  go_wp2_with fail
  clear hm2 hw64 d1 d2 c1 c2 c3
  obtain ⟨S0, hS0⟩ : ∃ S0, W.heap.size = S0 := ⟨_, rfl⟩
  have HS0 := Aside0.mk hS0
  have HLT := Aside0.mk (show g < S0 ∧ gb < S0 ∧ B ≤ S0 by have := HK.out.row.lt; have := HBX.out.lt; have := HK.out.size; omega)
  clear hS0
  go_loopw [9, 43] (fun v p wr => ∃ (i m' : Nat) (l : List S110), p = .int .u64 (i : Int) ∧ Aside0 (i ≤ u) ∧ Aside0 (l.length = i) ∧ Aside0 (pN (pLine xs most) u [] (m + dn) = pN (pLine xs most) (u - i) l m') ∧ Aside0 (LN S0 l v wr) ∧ Aside0 (CrAt g B A n c xs m' most wr) ∧ Aside0 (Below B W wr) ∧ Aside0 (Kept W wr (fun j => j = g)) ∧ Aside0 (Rt 101 gb [ptr g] wr)) (fun _ p _ => u - (intOf p).toNat)
  · exact ⟨0, m + dn, [], rfl, ⟨Nat.zero_le _⟩, ⟨rfl⟩, ⟨rfl⟩, ⟨Kd.R_nil _ _ _ _ _⟩, K2, B2, P2, X2⟩
  · obtain ⟨i, m', l, rfl, HI, HLN, HPN, HR, HKr, HBr, HPr, HXr⟩ := hrel
    by_cases ci : i < u
    · have ci1 : decide ((i : Int) < (u : Int)) = true := decide_eq_true (by omega)
      have hw1 : IntKind.u64.wrap ((i : Int) + 1) = ((i + 1 : Nat) : Int) := by rw [IntKind.wrap_u64]; have := HUL.out; omega
      have HOU := Aside0.mk (own_under HR.out)
      go_wp2_with fail
      go_at_call 131
      refine (r_line HKr.out HXr.out).mono ?_
      rintro e w5 ⟨hb, hp, ho⟩
      have hbt := HBr.out.trans hb
      have hpt := HPr.out.then_ hp (fun _ h => .inl h)
      have hpn : pN (pLine xs most) (u - i) l m' = (pLine xs most m').bind fun x mm => pN (pLine xs most) (u - (i + 1)) (l ++ [x]) mm := by
        rw [show u - i = (u - (i + 1)) + 1 from by omega]
        rfl
      rcases hq : pLine xs most m' with ⟨x, m2⟩ | ⟨er, p⟩
      rotate_left
      · rw [hq] at ho hpn
        have ho : e = gaveUp er p := ho
        subst ho
        refine ⟨rfl, hbt, hpt, ?_⟩
        rw [HP.out, HPN.out, hpn]
        rfl
      rw [hq] at ho hpn
      obtain ⟨vx, he, hx, hk⟩ : ∃ vx, e = .returned vx ∧ memLine wr.heap.size x vx w5 ∧ CrAt g B A n c xs m2 most w5 := ho
      subst he
      have SR := Aside0.mk (show S0 ≤ wr.heap.size by have := HPr.out.1; have := HS0.out; omega)
      have hx : vx = .agg #[.string x.f0, .int .i64 x.f1] := hx
      subst hx
      have MX := Aside0.mk (show k110.M w5 S0 (fun j => wr.heap.size ≤ j) x [.string x.f0, .int .i64 x.f1] from k110_mkM _ _ _ x)
      have K5 := Aside0.mk hk
      have B5 := Aside0.mk hbt
      have P5 := Aside0.mk hpt
      have X5 := Aside0.mk (show Rt 101 gb [ptr g] w5 from (hp.2 gb HXr.out.lt HNE.out).trans HXr.out)
      have R5 := Aside0.mk (show LN S0 l _ w5 from LN_alive.kept HR.out hp (fun j hj e => by have := HLT.out; omega))
      have HPN2 := Aside0.mk (HPN.out.trans hpn)
      have S5 := Aside0.mk (show S0 ≤ w5.heap.size by have := hpt.1; have := HS0.out; omega)
      have HSZ := Aside0.mk (show (l.length + 1) * 24 ≤ 140737488355328 by have := HLN.out; have := HI.out; have := HU.out; have := HK.out.mb; omega)
      have SR5 := Aside0.mk hp.1
      obtain ⟨T0, hT0⟩ : ∃ T0, wr.heap.size = T0 := ⟨_, rfl⟩
      rw [hT0] at HOU SR SR5 MX
      clear hb hp hbt hpt hpn hq hk hT0
      try clear ho
      go_wp2_with (first | (
        (with_reducible refine gate_builtin (b := .append) (xs := #[.tmp 45, .tmp 48]) rfl ?_)
        at_builtin
        refine Kd.R_append k110 (w0 := w5) S0 rfl (.tmp 45) (.tmp 48) 38 110 (.agg #[.string ⟨#[]⟩, .int .i64 0]) 24 rfl Try.underlying38 info110 rfl (by decide) (by decide) _ l x [.string x.f0, .int .i64 x.f1] (fun _ => True) (fun j => T0 ≤ j) rfl rfl MX.out (fun j hj => ⟨trivial, fun e => by have := HOU.out j e.symm; omega⟩) (fun _ _ => trivial) R5.out (Below.refl _ _) S5.out HSZ.out ?_
        intro v1 w6 ho hb hg hat
        have HO6 := Aside0.mk ho
        have K6 := Aside0.mk (K5.out.aside (hb.mono HLT.out.2.2) (hb.block g HLT.out.1))
        have B6 := Aside0.mk (B5.out.trans (hb.mono HLT.out.2.2))
        have P6 := Aside0.mk (show Kept W w6 (fun j => j = g) from ⟨Nat.le_trans P5.out.1 hb.size, fun j hj hn => (hb.block j (by have := HS0.out; omega)).trans (P5.out.2 j hj hn)⟩)
        have X6 := Aside0.mk (show Rt 101 gb [ptr g] w6 from (hb.block gb HLT.out.2.1).trans X5.out)
        clear ho hb hg hat))
      refine ⟨⟨i + 1, m2, l ++ [x], congrArg (Value.int .u64) (by omega), ⟨ci⟩, ⟨by rw [List.length_append, HLN.out]; rfl⟩, HPN2, HO6, K6, B6, P6, X6⟩, ?_⟩
      simp only [intOf]
      omega
    · have ci1 : decide ((i : Int) < (u : Int)) = false := decide_eq_false (by omega)
      obtain rfl : i = u := by have := HI.out; omega
      go_wp2_with fail
      go_ret
      refine ⟨HBr.out, HPr.out, ?_⟩
      rw [HP.out, HPN.out, Nat.sub_self, HS0.out]
      exact ⟨_, rfl, HR.out, HKr.out⟩
theorem r_lines {g B : Nat} {A : Option Addr} {n c : Nat} {xs : List Int} {m most : Nat} {W : World} (k : CrAt g B A n c xs m most W) :
    Calls Try.prog 93 #[ptr g] W fun e w' => Below B W w' ∧ Kept W w' (fun j => j = g) ∧ OutR g B A n c xs most (LN W.heap.size) (pList xs most (pLine xs most) m) e w' := by
  have HK := Aside0.mk k
  have hr2 : Rt 101 W.heap.size [ptr g] (W.alloc (.cells #[ptr g] 101)) := heap_alloc_new W _
  have hb1 : Below W.heap.size W (W.alloc (.cells #[ptr g] 101)) := below_alloc (Below.refl _ _) _
  have hmf : ∀ (fn : Fn) (first cap : Array Value) (w : World), (Instr.makeFunc fn first cap).run Try.prog w = .ok (.func fn first cap) w := fun _ _ _ _ => rfl
  have HSZ := Aside0.mk hb1.size
  clear k
  go_enter Try.func93, Try.ntmps93
  go_upto_region 1 with fail
  obtain ⟨b2, hb2⟩ : ∃ b2, W.heap.size = b2 := ⟨_, rfl⟩
  have HBE := Aside0.mk hb2
  have K1 := Aside0.mk (HK.out.below hb1)
  have B1 := Aside0.mk (hb1.mono HK.out.size)
  have P1 := Aside0.mk (Kept.of_below hb1 (fun j => j = g))
  rw [hb2] at hr2 ⊢
  have R1 := Aside0.mk hr2
  clear hr2 hb1 hb2
  generalize W.alloc (.cells #[ptr g] 101) = w1 at *
  have c0 := R1.out.cell 0 _ rfl
  go_wp2_with fail
  go_at_call 130
  refine (r_lineList K1.out R1.out).mono ?_
  rintro e w2 ⟨hb, hp, ho⟩
  have hbt := B1.out.trans hb
  have hpt := P1.out.then_ hp (fun _ h => .inl h)
  rcases hq : pList xs most (pLine xs most) m with ⟨l, m2⟩ | ⟨er, p⟩
  · rw [hq] at ho
    obtain ⟨v, he, hR, hk⟩ : ∃ v, e = .returned v ∧ LN w1.heap.size l v w2 ∧ CrAt g B A n c xs m2 most w2 := ho
    subst he
    have HR := Aside0.mk (show LN W.heap.size l v w2 from LN_alive.lower hR HSZ.out)
    have K2 := Aside0.mk hk
    have B2 := Aside0.mk hbt
    have P2 := Aside0.mk hpt
    have HQ := Aside0.mk hq
    clear hb hp hbt hpt hR hk hq c0 hmf
    try clear ho
    go_wp2_with fail
    go_ret
    rw [HBE.out] at *
    refine ⟨B2.out, P2.out, ?_⟩
    rw [HQ.out]
    exact ⟨v, rfl, HR.out, K2.out⟩
  · rw [hq] at ho
    have ho : e = gaveUp er p := ho
    subst ho
    refine ⟨rfl, hbt, hpt, ?_⟩
    rw [hq]
    rfl
end Go.Proofs.Ytafmoglaockepaa.Cd
end
section
namespace Go.Proofs.Ytafmoglaockepaa.Cd
open Go Go.RowKit Go.Proofs.Ytafmoglaockepaa.Num Go.Proofs.Ytafmoglaockepaa.PG Go.Proofs.YtafmoglaockepaaW.PrintWords Go.Proofs.YtafmoglaockepaaW.PrintLast Go.Proofs.YtafmoglaockepaaW.PrintMore
set_option linter.unusedVariables false
set_option linter.unusedSimpArgs false
set_option maxHeartbeats 4000000
set_option maxRecDepth 100000
theorem Rt.fill6 {t b : Nat} {zs : List Value} {W : World} (h : Rt t b zs W) (k : Nat) (a0 a1 a2 a3 a4 a5 : Value) :
    (((((W.setCell ⟨b, k, none⟩ a0).setCell ⟨b, k + 1, none⟩ a1).setCell ⟨b, k + 2, none⟩ a2).setCell ⟨b, k + 3, none⟩ a3).setCell ⟨b, k + 4, none⟩ a4).setCell ⟨b, k + 5, none⟩ a5 = W.setRow b ((((((zs.set k a0).set (k + 1) a1).set (k + 2) a2).set (k + 3) a3).set (k + 4) a4).set (k + 5) a5).toArray := by
  rw [h.set k a0, (h.row _).set (k + 1) a1, setRow_again, (h.row _).set (k + 2) a2, setRow_again, (h.row _).set (k + 3) a3, setRow_again, (h.row _).set (k + 4) a4, setRow_again, (h.row _).set (k + 5) a5, setRow_again]
def pReq (xs : List Int) (most : Nat) (m : Nat) : Res S40 :=
  (pT xs most m).bind fun t m => (pI xs m).bind fun a m => (pList xs most (pLine xs most) m).bind fun l m => (pT xs most m).bind fun h m => (pI xs m).bind fun y m => (pI xs m).bind fun z m => .ok ⟨t, a, l, h, y, z⟩ m
def memReq (S : Nat) (x : S40) (v : Value) (w : World) : Prop := ∃ Al nl cl, v = .agg #[.string x.f0, .int .i64 x.f1, .slice Al nl cl, .string x.f3, .int .i64 x.f4, .int .i64 x.f5] ∧ LN S x.f2 (.slice Al nl cl) w
theorem r_request {g B : Nat} {A : Option Addr} {n c : Nat} {xs : List Int} {m most : Nat} {W : World} (k : CrAt g B A n c xs m most W) :
    Calls Try.prog 75 #[ptr g] W fun e w' => Below B W w' ∧ Kept W w' (fun j => j = g) ∧ OutR g B A n c xs most (memReq W.heap.size) (pReq xs most m) e w' := by
  have HK := Aside0.mk k
  clear k
  go_enter Try.func75, Try.ntmps75
  go_upto_region 1 with fail
  have hr1 : Rt 40 W.heap.size [.string ⟨#[]⟩, .int .i64 0, .slice none 0 0, .string ⟨#[]⟩, .int .i64 0, .int .i64 0] (W.alloc (.cells #[.string ⟨#[]⟩, .int .i64 0, .slice none 0 0, .string ⟨#[]⟩, .int .i64 0, .int .i64 0] 40)) := heap_alloc_new W _
  have hb1 : Below W.heap.size W (W.alloc (.cells #[.string ⟨#[]⟩, .int .i64 0, .slice none 0 0, .string ⟨#[]⟩, .int .i64 0, .int .i64 0] 40)) := below_alloc (Below.refl _ _) _
  obtain ⟨b, hbe⟩ : ∃ b, W.heap.size = b := ⟨_, rfl⟩
  have K1 := Aside0.mk (HK.out.below hb1)
  have B1 := Aside0.mk (hb1.mono HK.out.size)
  have P1 := Aside0.mk (Kept.of_below hb1 (fun j => j = g))
  have HBE := Aside0.mk (show W.heap.size ≤ b by omega)
  have HLT := Aside0.mk (show g < b ∧ B ≤ b by have := HK.out.row.lt; have := HK.out.size; omega)
  rw [hbe] at hr1
  rw [hbe]
  have R1 := Aside0.mk hr1
  clear hr1 hb1 hbe
  generalize W.alloc (.cells #[.string ⟨#[]⟩, .int .i64 0, .slice none 0 0, .string ⟨#[]⟩, .int .i64 0, .int .i64 0] 40) = w1 at *
  have cr0 := R1.out.cell 0 _ rfl
  have fr0 := R1.out.free 0
  go_wp2_with fail
  go_at_call 61
  refine (r_text K1.out).mono ?_
  rintro e w2 ⟨hb, hp, ho⟩
  have hbt := B1.out.trans hb
  have hpt := P1.out.then_ hp (fun _ h => .inl h)
  rcases hq : pT xs most m with ⟨t, m1⟩ | ⟨er, p⟩
  rotate_left
  · rw [hq] at ho
    have ho : e = gaveUp er p := ho
    subst ho
    refine ⟨rfl, hbt, hpt, ?_⟩
    have e9 : pReq xs most m = Res.fail er p := by
      unfold pReq
      simp only [Res.bind, hq]
    rw [e9]
    rfl
  rw [hq] at ho
  obtain ⟨he, hk⟩ : e = .returned (.string t) ∧ CrAt g B A n c xs m1 most w2 := ho
  subst he
  have HQ0 := Aside0.mk hq
  have K2 := Aside0.mk hk
  have B2 := Aside0.mk hbt
  have P2 := Aside0.mk hpt
  have R2 := Aside0.mk (show Rt 40 b [.string ⟨#[]⟩, .int .i64 0, .slice none 0 0, .string ⟨#[]⟩, .int .i64 0, .int .i64 0] w2 from (hp.2 b R1.out.lt (by have := HLT.out; show b ≠ g; omega)).trans R1.out)
  clear hb hp hbt hpt hq hk cr0 fr0
  try clear ho
  have cr0 := R2.out.cell 0 _ rfl
  have fr0 := R2.out.free 0
  go_upto_region 2 with fail
  have e1 := R2.out.set 0 (.string t)
  rw [e1]
  clear e1 cr0 fr0
  have hl : [Value.string ⟨#[]⟩, .int .i64 0, .slice none 0 0, .string ⟨#[]⟩, .int .i64 0, .int .i64 0].set 0 (.string t) = [Value.string t, .int .i64 0, .slice none 0 0, .string ⟨#[]⟩, .int .i64 0, .int .i64 0] := rfl
  rw [hl]
  clear hl
  have K3 := Aside0.mk (show CrAt g B A n c xs m1 most (w2.setRow b [Value.string t, .int .i64 0, .slice none 0 0, .string ⟨#[]⟩, .int .i64 0, .int .i64 0].toArray) from K2.out.aside (below_setRow' (Below.refl _ _) HLT.out.2 _) (setRow_other _ _ _ _ (by have := HLT.out; omega)))
  have B3 := Aside0.mk (show Below B W (w2.setRow b [Value.string t, .int .i64 0, .slice none 0 0, .string ⟨#[]⟩, .int .i64 0, .int .i64 0].toArray) from below_setRow' B2.out HLT.out.2 _)
  have P3 := Aside0.mk (show Kept W (w2.setRow b [Value.string t, .int .i64 0, .slice none 0 0, .string ⟨#[]⟩, .int .i64 0, .int .i64 0].toArray) (fun j => j = g) from ⟨by rw [setRow_size]; exact P2.out.1, fun j hj hn => (setRow_other _ _ _ _ (by have := HBE.out; omega)).trans (P2.out.2 j hj hn)⟩)
  have R3 := Aside0.mk (show Rt 40 b [Value.string t, .int .i64 0, .slice none 0 0, .string ⟨#[]⟩, .int .i64 0, .int .i64 0] (w2.setRow b [Value.string t, .int .i64 0, .slice none 0 0, .string ⟨#[]⟩, .int .i64 0, .int .i64 0].toArray) from R2.out.row _)
  generalize w2.setRow b [Value.string t, .int .i64 0, .slice none 0 0, .string ⟨#[]⟩, .int .i64 0, .int .i64 0].toArray = w3 at *
  have cr1 := R3.out.cell 1 _ rfl
  have fr1 := R3.out.free 1
  go_wp2_with fail
  go_at_call 62
  refine (r_int K3.out).mono ?_
  rintro e w4 ⟨hb, hp, ho⟩
  have hbt := B3.out.trans hb
  have hpt := P3.out.then_ hp (fun _ h => .inl h)
  rcases hq : pI xs m1 with ⟨a, m2⟩ | ⟨er, p⟩
  rotate_left
  · rw [hq] at ho
    have ho : e = gaveUp er p := ho
    subst ho
    refine ⟨rfl, hbt, hpt, ?_⟩
    have e9 : pReq xs most m = Res.fail er p := by
      unfold pReq
      simp only [Res.bind, HQ0.out, hq]
    rw [e9]
    rfl
  rw [hq] at ho
  obtain ⟨he, hk⟩ : e = .returned (.int .i64 a) ∧ CrAt g B A n c xs m2 most w4 := ho
  subst he
  have HQ1 := Aside0.mk hq
  have K4 := Aside0.mk hk
  have B4 := Aside0.mk hbt
  have P4 := Aside0.mk hpt
  have R4 := Aside0.mk (show Rt 40 b [.string t, .int .i64 0, .slice none 0 0, .string ⟨#[]⟩, .int .i64 0, .int .i64 0] w4 from (hp.2 b R3.out.lt (by have := HLT.out; show b ≠ g; omega)).trans R3.out)
  clear hb hp hbt hpt hq hk cr1 fr1
  try clear ho
  have cr1 := R4.out.cell 1 _ rfl
  have fr1 := R4.out.free 1
  go_upto_region 3 with fail
  have e1 := R4.out.set 1 (.int .i64 a)
  rw [e1]
  clear e1 cr1 fr1
  have hl : [Value.string t, .int .i64 0, .slice none 0 0, .string ⟨#[]⟩, .int .i64 0, .int .i64 0].set 1 (.int .i64 a) = [Value.string t, .int .i64 a, .slice none 0 0, .string ⟨#[]⟩, .int .i64 0, .int .i64 0] := rfl
  rw [hl]
  clear hl
  have K5 := Aside0.mk (show CrAt g B A n c xs m2 most (w4.setRow b [Value.string t, .int .i64 a, .slice none 0 0, .string ⟨#[]⟩, .int .i64 0, .int .i64 0].toArray) from K4.out.aside (below_setRow' (Below.refl _ _) HLT.out.2 _) (setRow_other _ _ _ _ (by have := HLT.out; omega)))
  have B5 := Aside0.mk (show Below B W (w4.setRow b [Value.string t, .int .i64 a, .slice none 0 0, .string ⟨#[]⟩, .int .i64 0, .int .i64 0].toArray) from below_setRow' B4.out HLT.out.2 _)
  have P5 := Aside0.mk (show Kept W (w4.setRow b [Value.string t, .int .i64 a, .slice none 0 0, .string ⟨#[]⟩, .int .i64 0, .int .i64 0].toArray) (fun j => j = g) from ⟨by rw [setRow_size]; exact P4.out.1, fun j hj hn => (setRow_other _ _ _ _ (by have := HBE.out; omega)).trans (P4.out.2 j hj hn)⟩)
  have R5 := Aside0.mk (show Rt 40 b [Value.string t, .int .i64 a, .slice none 0 0, .string ⟨#[]⟩, .int .i64 0, .int .i64 0] (w4.setRow b [Value.string t, .int .i64 a, .slice none 0 0, .string ⟨#[]⟩, .int .i64 0, .int .i64 0].toArray) from R4.out.row _)
  generalize w4.setRow b [Value.string t, .int .i64 a, .slice none 0 0, .string ⟨#[]⟩, .int .i64 0, .int .i64 0].toArray = w5 at *
  have cr2 := R5.out.cell 2 _ rfl
  have fr2 := R5.out.free 2
  go_wp2_with fail
  go_at_call 93
  refine (r_lines K5.out).mono ?_
  rintro e w6 ⟨hb, hp, ho⟩
  have hbt := B5.out.trans hb
  have hpt := P5.out.then_ hp (fun _ h => .inl h)
  rcases hq : pList xs most (pLine xs most) m2 with ⟨l, m3⟩ | ⟨er, p⟩
  rotate_left
  · rw [hq] at ho
    have ho : e = gaveUp er p := ho
    subst ho
    refine ⟨rfl, hbt, hpt, ?_⟩
    have e9 : pReq xs most m = Res.fail er p := by
      unfold pReq
      simp only [Res.bind, HQ0.out, HQ1.out, hq]
    rw [e9]
    rfl
  rw [hq] at ho
  obtain ⟨v, he, hE, hk⟩ : ∃ v, e = .returned v ∧ LN w5.heap.size l v w6 ∧ CrAt g B A n c xs m3 most w6 := ho
  obtain ⟨Al, nl, cl, ev⟩ := LN_slice hE
  subst ev
  have Ll_6 := Aside0.mk (show LN (b + 1) l (.slice Al nl cl) w6 from LN_alive.lower hE R5.out.lt)
  clear hE
  subst he
  have HQ2 := Aside0.mk hq
  have K6 := Aside0.mk hk
  have B6 := Aside0.mk hbt
  have P6 := Aside0.mk hpt
  have R6 := Aside0.mk (show Rt 40 b [.string t, .int .i64 a, .slice none 0 0, .string ⟨#[]⟩, .int .i64 0, .int .i64 0] w6 from (hp.2 b R5.out.lt (by have := HLT.out; show b ≠ g; omega)).trans R5.out)
  clear hb hp hbt hpt hq hk cr2 fr2
  try clear ho
  have cr2 := R6.out.cell 2 _ rfl
  have fr2 := R6.out.free 2
  go_upto_region 4 with fail
  have e1 := R6.out.set 2 (.slice Al nl cl)
  rw [e1]
  clear e1 cr2 fr2
  have hl : [Value.string t, .int .i64 a, .slice none 0 0, .string ⟨#[]⟩, .int .i64 0, .int .i64 0].set 2 (.slice Al nl cl) = [Value.string t, .int .i64 a, .slice Al nl cl, .string ⟨#[]⟩, .int .i64 0, .int .i64 0] := rfl
  rw [hl]
  clear hl
  have K7 := Aside0.mk (show CrAt g B A n c xs m3 most (w6.setRow b [Value.string t, .int .i64 a, .slice Al nl cl, .string ⟨#[]⟩, .int .i64 0, .int .i64 0].toArray) from K6.out.aside (below_setRow' (Below.refl _ _) HLT.out.2 _) (setRow_other _ _ _ _ (by have := HLT.out; omega)))
  have B7 := Aside0.mk (show Below B W (w6.setRow b [Value.string t, .int .i64 a, .slice Al nl cl, .string ⟨#[]⟩, .int .i64 0, .int .i64 0].toArray) from below_setRow' B6.out HLT.out.2 _)
  have P7 := Aside0.mk (show Kept W (w6.setRow b [Value.string t, .int .i64 a, .slice Al nl cl, .string ⟨#[]⟩, .int .i64 0, .int .i64 0].toArray) (fun j => j = g) from ⟨by rw [setRow_size]; exact P6.out.1, fun j hj hn => (setRow_other _ _ _ _ (by have := HBE.out; omega)).trans (P6.out.2 j hj hn)⟩)
  have R7 := Aside0.mk (show Rt 40 b [Value.string t, .int .i64 a, .slice Al nl cl, .string ⟨#[]⟩, .int .i64 0, .int .i64 0] (w6.setRow b [Value.string t, .int .i64 a, .slice Al nl cl, .string ⟨#[]⟩, .int .i64 0, .int .i64 0].toArray) from R6.out.row _)
  have Ll_7 := Aside0.mk (LN_alive.row Ll_6.out (Nat.lt_succ_self b) [Value.string t, .int .i64 a, .slice Al nl cl, .string ⟨#[]⟩, .int .i64 0, .int .i64 0].toArray)
  generalize w6.setRow b [Value.string t, .int .i64 a, .slice Al nl cl, .string ⟨#[]⟩, .int .i64 0, .int .i64 0].toArray = w7 at *
  have cr3 := R7.out.cell 3 _ rfl
  have fr3 := R7.out.free 3
  go_wp2_with fail
  go_at_call 61
  refine (r_text K7.out).mono ?_
  rintro e w8 ⟨hb, hp, ho⟩
  have hbt := B7.out.trans hb
  have hpt := P7.out.then_ hp (fun _ h => .inl h)
  rcases hq : pT xs most m3 with ⟨h, m4⟩ | ⟨er, p⟩
  rotate_left
  · rw [hq] at ho
    have ho : e = gaveUp er p := ho
    subst ho
    refine ⟨rfl, hbt, hpt, ?_⟩
    have e9 : pReq xs most m = Res.fail er p := by
      unfold pReq
      simp only [Res.bind, HQ0.out, HQ1.out, HQ2.out, hq]
    rw [e9]
    rfl
  rw [hq] at ho
  obtain ⟨he, hk⟩ : e = .returned (.string h) ∧ CrAt g B A n c xs m4 most w8 := ho
  subst he
  have HQ3 := Aside0.mk hq
  have K8 := Aside0.mk hk
  have B8 := Aside0.mk hbt
  have P8 := Aside0.mk hpt
  have R8 := Aside0.mk (show Rt 40 b [.string t, .int .i64 a, .slice Al nl cl, .string ⟨#[]⟩, .int .i64 0, .int .i64 0] w8 from (hp.2 b R7.out.lt (by have := HLT.out; show b ≠ g; omega)).trans R7.out)
  have Ll_8 := Aside0.mk (LN_alive.kept Ll_7.out hp (fun j hj e => by have := HLT.out; omega))
  clear hb hp hbt hpt hq hk cr3 fr3
  try clear ho
  have cr3 := R8.out.cell 3 _ rfl
  have fr3 := R8.out.free 3
  go_upto_region 5 with fail
  have e1 := R8.out.set 3 (.string h)
  rw [e1]
  clear e1 cr3 fr3
  have hl : [Value.string t, .int .i64 a, .slice Al nl cl, .string ⟨#[]⟩, .int .i64 0, .int .i64 0].set 3 (.string h) = [Value.string t, .int .i64 a, .slice Al nl cl, .string h, .int .i64 0, .int .i64 0] := rfl
  rw [hl]
  clear hl
  have K9 := Aside0.mk (show CrAt g B A n c xs m4 most (w8.setRow b [Value.string t, .int .i64 a, .slice Al nl cl, .string h, .int .i64 0, .int .i64 0].toArray) from K8.out.aside (below_setRow' (Below.refl _ _) HLT.out.2 _) (setRow_other _ _ _ _ (by have := HLT.out; omega)))
  have B9 := Aside0.mk (show Below B W (w8.setRow b [Value.string t, .int .i64 a, .slice Al nl cl, .string h, .int .i64 0, .int .i64 0].toArray) from below_setRow' B8.out HLT.out.2 _)
  have P9 := Aside0.mk (show Kept W (w8.setRow b [Value.string t, .int .i64 a, .slice Al nl cl, .string h, .int .i64 0, .int .i64 0].toArray) (fun j => j = g) from ⟨by rw [setRow_size]; exact P8.out.1, fun j hj hn => (setRow_other _ _ _ _ (by have := HBE.out; omega)).trans (P8.out.2 j hj hn)⟩)
  have R9 := Aside0.mk (show Rt 40 b [Value.string t, .int .i64 a, .slice Al nl cl, .string h, .int .i64 0, .int .i64 0] (w8.setRow b [Value.string t, .int .i64 a, .slice Al nl cl, .string h, .int .i64 0, .int .i64 0].toArray) from R8.out.row _)
  have Ll_9 := Aside0.mk (LN_alive.row Ll_8.out (Nat.lt_succ_self b) [Value.string t, .int .i64 a, .slice Al nl cl, .string h, .int .i64 0, .int .i64 0].toArray)
  generalize w8.setRow b [Value.string t, .int .i64 a, .slice Al nl cl, .string h, .int .i64 0, .int .i64 0].toArray = w9 at *
  have cr4 := R9.out.cell 4 _ rfl
  have fr4 := R9.out.free 4
  go_wp2_with fail
  go_at_call 62
  refine (r_int K9.out).mono ?_
  rintro e w10 ⟨hb, hp, ho⟩
  have hbt := B9.out.trans hb
  have hpt := P9.out.then_ hp (fun _ h => .inl h)
  rcases hq : pI xs m4 with ⟨y, m5⟩ | ⟨er, p⟩
  rotate_left
  · rw [hq] at ho
    have ho : e = gaveUp er p := ho
    subst ho
    refine ⟨rfl, hbt, hpt, ?_⟩
    have e9 : pReq xs most m = Res.fail er p := by
      unfold pReq
      simp only [Res.bind, HQ0.out, HQ1.out, HQ2.out, HQ3.out, hq]
    rw [e9]
    rfl
  rw [hq] at ho
  obtain ⟨he, hk⟩ : e = .returned (.int .i64 y) ∧ CrAt g B A n c xs m5 most w10 := ho
  subst he
  have HQ4 := Aside0.mk hq
  have K10 := Aside0.mk hk
  have B10 := Aside0.mk hbt
  have P10 := Aside0.mk hpt
  have R10 := Aside0.mk (show Rt 40 b [.string t, .int .i64 a, .slice Al nl cl, .string h, .int .i64 0, .int .i64 0] w10 from (hp.2 b R9.out.lt (by have := HLT.out; show b ≠ g; omega)).trans R9.out)
  have Ll_10 := Aside0.mk (LN_alive.kept Ll_9.out hp (fun j hj e => by have := HLT.out; omega))
  clear hb hp hbt hpt hq hk cr4 fr4
  try clear ho
  have cr4 := R10.out.cell 4 _ rfl
  have fr4 := R10.out.free 4
  go_upto_region 6 with fail
  have e1 := R10.out.set 4 (.int .i64 y)
  rw [e1]
  clear e1 cr4 fr4
  have hl : [Value.string t, .int .i64 a, .slice Al nl cl, .string h, .int .i64 0, .int .i64 0].set 4 (.int .i64 y) = [Value.string t, .int .i64 a, .slice Al nl cl, .string h, .int .i64 y, .int .i64 0] := rfl
  rw [hl]
  clear hl
  have K11 := Aside0.mk (show CrAt g B A n c xs m5 most (w10.setRow b [Value.string t, .int .i64 a, .slice Al nl cl, .string h, .int .i64 y, .int .i64 0].toArray) from K10.out.aside (below_setRow' (Below.refl _ _) HLT.out.2 _) (setRow_other _ _ _ _ (by have := HLT.out; omega)))
  have B11 := Aside0.mk (show Below B W (w10.setRow b [Value.string t, .int .i64 a, .slice Al nl cl, .string h, .int .i64 y, .int .i64 0].toArray) from below_setRow' B10.out HLT.out.2 _)
  have P11 := Aside0.mk (show Kept W (w10.setRow b [Value.string t, .int .i64 a, .slice Al nl cl, .string h, .int .i64 y, .int .i64 0].toArray) (fun j => j = g) from ⟨by rw [setRow_size]; exact P10.out.1, fun j hj hn => (setRow_other _ _ _ _ (by have := HBE.out; omega)).trans (P10.out.2 j hj hn)⟩)
  have R11 := Aside0.mk (show Rt 40 b [Value.string t, .int .i64 a, .slice Al nl cl, .string h, .int .i64 y, .int .i64 0] (w10.setRow b [Value.string t, .int .i64 a, .slice Al nl cl, .string h, .int .i64 y, .int .i64 0].toArray) from R10.out.row _)
  have Ll_11 := Aside0.mk (LN_alive.row Ll_10.out (Nat.lt_succ_self b) [Value.string t, .int .i64 a, .slice Al nl cl, .string h, .int .i64 y, .int .i64 0].toArray)
  generalize w10.setRow b [Value.string t, .int .i64 a, .slice Al nl cl, .string h, .int .i64 y, .int .i64 0].toArray = w11 at *
  have cr5 := R11.out.cell 5 _ rfl
  have fr5 := R11.out.free 5
  go_wp2_with fail
  go_at_call 62
  refine (r_int K11.out).mono ?_
  rintro e w12 ⟨hb, hp, ho⟩
  have hbt := B11.out.trans hb
  have hpt := P11.out.then_ hp (fun _ h => .inl h)
  rcases hq : pI xs m5 with ⟨z, m6⟩ | ⟨er, p⟩
  rotate_left
  · rw [hq] at ho
    have ho : e = gaveUp er p := ho
    subst ho
    refine ⟨rfl, hbt, hpt, ?_⟩
    have e9 : pReq xs most m = Res.fail er p := by
      unfold pReq
      simp only [Res.bind, HQ0.out, HQ1.out, HQ2.out, HQ3.out, HQ4.out, hq]
    rw [e9]
    rfl
  rw [hq] at ho
  obtain ⟨he, hk⟩ : e = .returned (.int .i64 z) ∧ CrAt g B A n c xs m6 most w12 := ho
  subst he
  have HQ5 := Aside0.mk hq
  have K12 := Aside0.mk hk
  have B12 := Aside0.mk hbt
  have P12 := Aside0.mk hpt
  have R12 := Aside0.mk (show Rt 40 b [.string t, .int .i64 a, .slice Al nl cl, .string h, .int .i64 y, .int .i64 0] w12 from (hp.2 b R11.out.lt (by have := HLT.out; show b ≠ g; omega)).trans R11.out)
  have Ll_12 := Aside0.mk (LN_alive.kept Ll_11.out hp (fun j hj e => by have := HLT.out; omega))
  clear hb hp hbt hpt hq hk cr5 fr5
  try clear ho
  have cr5 := R12.out.cell 5 _ rfl
  have fr5 := R12.out.free 5
  go_upto_region 7 with fail
  have e1 := R12.out.set 5 (.int .i64 z)
  rw [e1]
  clear e1 cr5 fr5
  have hl : [Value.string t, .int .i64 a, .slice Al nl cl, .string h, .int .i64 y, .int .i64 0].set 5 (.int .i64 z) = [Value.string t, .int .i64 a, .slice Al nl cl, .string h, .int .i64 y, .int .i64 z] := rfl
  rw [hl]
  clear hl
  have K13 := Aside0.mk (show CrAt g B A n c xs m6 most (w12.setRow b [Value.string t, .int .i64 a, .slice Al nl cl, .string h, .int .i64 y, .int .i64 z].toArray) from K12.out.aside (below_setRow' (Below.refl _ _) HLT.out.2 _) (setRow_other _ _ _ _ (by have := HLT.out; omega)))
  have B13 := Aside0.mk (show Below B W (w12.setRow b [Value.string t, .int .i64 a, .slice Al nl cl, .string h, .int .i64 y, .int .i64 z].toArray) from below_setRow' B12.out HLT.out.2 _)
  have P13 := Aside0.mk (show Kept W (w12.setRow b [Value.string t, .int .i64 a, .slice Al nl cl, .string h, .int .i64 y, .int .i64 z].toArray) (fun j => j = g) from ⟨by rw [setRow_size]; exact P12.out.1, fun j hj hn => (setRow_other _ _ _ _ (by have := HBE.out; omega)).trans (P12.out.2 j hj hn)⟩)
  have R13 := Aside0.mk (show Rt 40 b [Value.string t, .int .i64 a, .slice Al nl cl, .string h, .int .i64 y, .int .i64 z] (w12.setRow b [Value.string t, .int .i64 a, .slice Al nl cl, .string h, .int .i64 y, .int .i64 z].toArray) from R12.out.row _)
  have Ll_13 := Aside0.mk (LN_alive.row Ll_12.out (Nat.lt_succ_self b) [Value.string t, .int .i64 a, .slice Al nl cl, .string h, .int .i64 y, .int .i64 z].toArray)
  generalize w12.setRow b [Value.string t, .int .i64 a, .slice Al nl cl, .string h, .int .i64 y, .int .i64 z].toArray = w13 at *
  have c0 := R13.out.cell 0 _ rfl
  have f0 := R13.out.free 0
  have c1 := R13.out.cell 1 _ rfl
  have f1 := R13.out.free 1
  have c2 := R13.out.cell 2 _ rfl
  have f2 := R13.out.free 2
  have c3 := R13.out.cell 3 _ rfl
  have f3 := R13.out.free 3
  have c4 := R13.out.cell 4 _ rfl
  have f4 := R13.out.free 4
  have c5 := R13.out.cell 5 _ rfl
  have f5 := R13.out.free 5
  go_wp2_with fail
  rw [R13.out.same 0 _ rfl, R13.out.same 1 _ rfl, R13.out.same 2 _ rfl, R13.out.same 3 _ rfl, R13.out.same 4 _ rfl, R13.out.same 5 _ rfl]
  refine bodyPost_ret (results_cell_row rfl _ _ b 40 _ (0, 0) _ rfl R13.out Try.underlying40 rfl (by kernel_rfl)) rfl ?_
  refine ⟨B13.out, P13.out, ?_⟩
  have e9 : pReq xs most m = Res.ok ⟨t, a, l, h, y, z⟩ m6 := by
    unfold pReq
    simp only [Res.bind, HQ0.out, HQ1.out, HQ2.out, HQ3.out, HQ4.out, HQ5.out]
  rw [e9]
  exact ⟨_, rfl, ⟨Al, nl, cl, rfl, LN_alive.lower Ll_13.out (Nat.le_succ_of_le HBE.out)⟩, K13.out⟩
end Go.Proofs.Ytafmoglaockepaa.Cd
end
section
namespace Go.Proofs.Ytafmoglaockepaa.Cd
open Go Go.RowKit Go.Proofs.Ytafmoglaockepaa.Num Go.Proofs.Ytafmoglaockepaa.PG Go.Proofs.YtafmoglaockepaaW.PrintWords Go.Proofs.YtafmoglaockepaaW.PrintLast Go.Proofs.YtafmoglaockepaaW.PrintMore
set_option linter.unusedVariables false
set_option linter.unusedSimpArgs false
set_option maxHeartbeats 4000000
set_option maxRecDepth 100000
def RdOut {α : Type} (enc : Nat → α → Value → World → Prop) (zero : List Value) (S0 : Nat) (r : Res α) (v : Value) (w : World) : Prop :=
  match r with
  | .ok x _ => enc S0 x v w
  | .fail _ _ => v = .agg zero.toArray
def outOr {α : Type} (z : α) (r : Res α) : α :=
  match r with
  | .ok x _ => x
  | .fail _ _ => z
abbrev zero_req : List Value := [.string ⟨#[]⟩, .int .i64 0, .slice none 0 0, .string ⟨#[]⟩, .int .i64 0, .int .i64 0]
theorem catch_req {bo be ba : Nat} {ve va : Value} (er p : Int) (older : List PanicEntry) (w : World) (ho : Rt 40 bo zero_req w) (he : Rt 22 be [ve] w) (ha : Rt 3 ba [va] w) (h1 : bo ≠ be) (h2 : bo ≠ ba) (h3 : be ≠ ba) :
    CallsD Try.prog 123 #[ptr bo, ptr be, ptr ba] (.panicking ({ v := fault er p, recovered := false } :: older)) w fun e u' w' =>
      e = .returned (.tuple #[]) ∧ u' = .panicking ({ v := fault er p, recovered := true } :: older) ∧ Rt 40 bo zero_req w' ∧ Rt 22 be [.int .i64 er] w' ∧ Rt 3 ba [.int .i64 p] w' ∧ Kept w w' (fun j => j = bo ∨ j = be ∨ j = ba) ∧ ∀ B, B ≤ be → B ≤ ba → B ≤ w.heap.size → Below B w w' := by
  have HO := Aside0.mk ho
  have HE := Aside0.mk he
  have HA := Aside0.mk ha
  have hu155 := Try.underlying155
  clear ho he ha
  refine callsD_of_wpS Try.func123 rfl fun c₀ cs hu => ?_
  simp only [Try.ntmps123, List.size_toArray, List.length_cons, List.length_nil, Nat.reduceAdd, Nat.reduceSub, Array.replicate_succ, Array.replicate_zero, List.push_toArray, List.append_toArray, List.nil_append, List.cons_append]
  apply wpS_seq
  refine wpS_recovers (v := fault er p) (cs' := { c₀ with mode := .panicking ({ v := fault er p, recovered := true } :: older) } :: cs) (by rfl) (by simp [go_sem]) (by simp [recoverD, hu]) ?_ ?_
  · rintro ⟨a, w, u', h, _⟩
    cases h
  simp only [Act.put, List.setIfInBounds_toArray, List.set_cons_zero, List.set_cons_succ]
  unfold fault
  have hTA : ∀ v w, (Instr.typeAssert (.iface 155 v) 20 155 true).run Try.prog w = .ok (.tuple #[v, .bool true]) w := fun v w => by
    simp [Instr.typeAssert, run_underlying hu155]
  go_wp2_with fail
  simp only [Exit.thenS]
  refine wpS_of_wp ?_
  have hb1 : Below w.heap.size w (w.alloc (.cells #[.int .i64 er, .int .i64 p] 155)) := below_alloc (Below.refl _ _) _
  have hr3 : Rt 155 w.heap.size [.int .i64 er, .int .i64 p] (w.alloc (.cells #[.int .i64 er, .int .i64 p] 155)) := heap_alloc_new w _
  obtain ⟨b3, hb3⟩ : ∃ b3, w.heap.size = b3 := ⟨_, rfl⟩
  have HB3E := Aside0.mk hb3
  have O1 := Aside0.mk (HO.out.below hb1)
  have E1 := Aside0.mk (HE.out.below hb1)
  have A1 := Aside0.mk (HA.out.below hb1)
  have P1 := Aside0.mk (Kept.of_below hb1 (fun j => j = bo ∨ j = be ∨ j = ba))
  have W1 := Aside0.mk (show Below w.heap.size w (w.alloc (.cells #[.int .i64 er, .int .i64 p] 155)) from hb1)
  rw [hb3] at hr3 ⊢
  have R1 := Aside0.mk hr3
  clear hb1 hr3 hb3 hTA hu155 hu
  generalize w.alloc (.cells #[.int .i64 er, .int .i64 p] 155) = w1 at *
  go_upto_region 3 with fail
  have hb1 : Below w1.heap.size w1 (w1.alloc (.cells #[.string ⟨#[]⟩, .int .i64 0, .slice none 0 0, .string ⟨#[]⟩, .int .i64 0, .int .i64 0] 40)) := below_alloc (Below.refl _ _) _
  have hr5 : Rt 40 w1.heap.size zero_req (w1.alloc (.cells #[.string ⟨#[]⟩, .int .i64 0, .slice none 0 0, .string ⟨#[]⟩, .int .i64 0, .int .i64 0] 40)) := heap_alloc_new w1 _
  obtain ⟨b5, hb5⟩ : ∃ b5, w1.heap.size = b5 := ⟨_, rfl⟩
  have O2 := Aside0.mk (O1.out.below hb1)
  have E2 := Aside0.mk (E1.out.below hb1)
  have A2 := Aside0.mk (A1.out.below hb1)
  have R2 := Aside0.mk (R1.out.below hb1)
  have P2 := Aside0.mk (P1.out.below hb1)
  have W2 := Aside0.mk (W1.out.trans (hb1.mono W1.out.size))
  rw [hb5] at hr5 ⊢
  have Z2 := Aside0.mk hr5
  clear hb1 hr5 hb5 O1 E1 A1 R1 P1 W1
  generalize w1.alloc (.cells #[.string ⟨#[]⟩, .int .i64 0, .slice none 0 0, .string ⟨#[]⟩, .int .i64 0, .int .i64 0] 40) = w2 at *
  have MKS := Aside0.mk (show ∀ w' : World, (∀ j t (u : Array Value), w2.heap[j]? = some (Obj.cells u t (0, 0)) → t ≠ 22 → t ≠ 3 → w'.heap[j]? = w2.heap[j]?) → (fun w' : World => (w'.cell? ⟨b5, 0, none⟩ = some (.string ⟨#[]⟩) ∧ w'.cell? ⟨b5, 1, none⟩ = some (.int .i64 0) ∧ w'.cell? ⟨b5, 2, none⟩ = some (.slice none 0 0) ∧ w'.cell? ⟨b5, 3, none⟩ = some (.string ⟨#[]⟩) ∧ w'.cell? ⟨b5, 4, none⟩ = some (.int .i64 0) ∧ w'.cell? ⟨b5, 5, none⟩ = some (.int .i64 0)) ∧ w'.cell? ⟨b3, 0, none⟩ = some (.int .i64 er) ∧ w'.cell? ⟨b3, 1, none⟩ = some (.int .i64 p)) w' from fun w' hw => by
    have z : Rt 40 b5 zero_req w' := (hw b5 40 _ Z2.out (by decide) (by decide)).trans Z2.out
    have r : Rt 155 b3 [.int .i64 er, .int .i64 p] w' := (hw b3 155 _ R2.out (by decide) (by decide)).trans R2.out
    exact ⟨⟨z.cell 0 _ rfl, z.cell 1 _ rfl, z.cell 2 _ rfl, z.cell 3 _ rfl, z.cell 4 _ rfl, z.cell 5 _ rfl⟩, r.cell 0 _ rfl, r.cell 1 _ rfl⟩)
  refine wp_region_held_drew (S := fun w' : World => (w'.cell? ⟨b5, 0, none⟩ = some (.string ⟨#[]⟩) ∧ w'.cell? ⟨b5, 1, none⟩ = some (.int .i64 0) ∧ w'.cell? ⟨b5, 2, none⟩ = some (.slice none 0 0) ∧ w'.cell? ⟨b5, 3, none⟩ = some (.string ⟨#[]⟩) ∧ w'.cell? ⟨b5, 4, none⟩ = some (.int .i64 0) ∧ w'.cell? ⟨b5, 5, none⟩ = some (.int .i64 0)) ∧ w'.cell? ⟨b3, 0, none⟩ = some (.int .i64 er) ∧ w'.cell? ⟨b3, 1, none⟩ = some (.int .i64 p)) (by kernel_rfl) (MKS.out _ (fun _ _ _ _ _ _ => rfl)) (fun hHeld => ?_)
  refine wpAnyH_take (i := 0) (oi := { dst := some 12, op := Op.load 40 (Operand.tmp 5), type := 40, pos := "read.go:88", after := #[], guard := none }) (v := ?_) rfl (by kernel_rfl) (by kernel_rfl) (by kernel_rfl) (fun _ _ _ h => h) (Or.inl ⟨by rfl, ?_⟩) hHeld ?_
  rotate_left
  · intro w' hS; obtain ⟨⟨hS0, hS1, hS2, hS3, hS4, hS5⟩, hS6, hS7⟩ := hS; go_simp; all_goals (with_reducible rfl)
  (try simp only [Act.put, List.setIfInBounds_toArray, List.set_cons_zero, List.set_cons_succ])
  refine wpAnyH_take (i := 1) (oi := { dst := some 13, op := Op.fieldAddr 155 (Operand.tmp 3) 0, type := 0, pos := "read.go:88", after := #[{ on := 5, ground := Ground.gcOnly Departure.lateStores }], guard := none }) (v := ?_) rfl (by kernel_rfl) (by kernel_rfl) (by kernel_rfl) (fun _ _ _ h => h) (Or.inl ⟨by rfl, ?_⟩) hHeld ?_
  rotate_left
  · intro w' hS; obtain ⟨⟨hS0, hS1, hS2, hS3, hS4, hS5⟩, hS6, hS7⟩ := hS; go_simp; all_goals (with_reducible rfl)
  (try simp only [Act.put, List.setIfInBounds_toArray, List.set_cons_zero, List.set_cons_succ])
  refine wpAnyH_take (i := 2) (oi := { dst := some 14, op := Op.load 22 (Operand.tmp 13), type := 22, pos := "read.go:88", after := #[{ on := 1, ground := Ground.data }, { on := 5, ground := Ground.gcOnly Departure.lateStores }], guard := none }) (v := ?_) rfl (by kernel_rfl) (by kernel_rfl) (by kernel_rfl) (fun _ _ _ h => h) (Or.inl ⟨by rfl, ?_⟩) hHeld ?_
  rotate_left
  · intro w' hS; obtain ⟨⟨hS0, hS1, hS2, hS3, hS4, hS5⟩, hS6, hS7⟩ := hS; go_simp; all_goals (with_reducible rfl)
  (try simp only [Act.put, List.setIfInBounds_toArray, List.set_cons_zero, List.set_cons_succ])
  refine wpAnyH_take (i := 3) (oi := { dst := some 15, op := Op.fieldAddr 155 (Operand.tmp 3) 1, type := 0, pos := "read.go:88", after := #[{ on := 6, ground := Ground.gcOnly Departure.lateStores }], guard := none }) (v := ?_) rfl (by kernel_rfl) (by kernel_rfl) (by kernel_rfl) (fun _ _ _ h => h) (Or.inl ⟨by rfl, ?_⟩) hHeld ?_
  rotate_left
  · intro w' hS; obtain ⟨⟨hS0, hS1, hS2, hS3, hS4, hS5⟩, hS6, hS7⟩ := hS; go_simp; all_goals (with_reducible rfl)
  (try simp only [Act.put, List.setIfInBounds_toArray, List.set_cons_zero, List.set_cons_succ])
  refine wpAnyH_take (i := 4) (oi := { dst := some 16, op := Op.load 3 (Operand.tmp 15), type := 3, pos := "read.go:88", after := #[{ on := 3, ground := Ground.data }, { on := 6, ground := Ground.gcOnly Departure.lateStores }], guard := none }) (v := ?_) rfl (by kernel_rfl) (by kernel_rfl) (by kernel_rfl) (fun _ _ _ h => h) (Or.inl ⟨by rfl, ?_⟩) hHeld ?_
  rotate_left
  · intro w' hS; obtain ⟨⟨hS0, hS1, hS2, hS3, hS4, hS5⟩, hS6, hS7⟩ := hS; go_simp; all_goals (with_reducible rfl)
  (try simp only [Act.put, List.setIfInBounds_toArray, List.set_cons_zero, List.set_cons_succ])
  refine wpAnyH_ready (rs := [5]) (by kernel_rfl) (by simp) ?_
  refine AllReadyH.cons (o := { dst := none, op := Op.store 40 (Operand.tmp 0) (Operand.tmp 12), type := 0, pos := "read.go:88", after := #[{ on := 0, ground := Ground.data }, { on := 0, ground := Ground.phase }, { on := 1, ground := Ground.textOnly Departure.lateStores }, { on := 2, ground := Ground.textOnly Departure.lateStores }, { on := 3, ground := Ground.textOnly Departure.lateStores }, { on := 4, ground := Ground.textOnly Departure.lateStores }], guard := none }) rfl (fun K hK => ?_) AllReadyH.nil
  have d0 := O2.out.cell 0 _ rfl
  have d1 := O2.out.cell 1 _ rfl
  have d2 := O2.out.cell 2 _ rfl
  have d3 := O2.out.cell 3 _ rfl
  have d4 := O2.out.cell 4 _ rfl
  have d5 := O2.out.cell 5 _ rfl
  have f0 := O2.out.free 0
  have f1 := O2.out.free 1
  have f2 := O2.out.free 2
  have f3 := O2.out.free 3
  have f4 := O2.out.free 4
  have f5 := O2.out.free 5
  go_simp
  rw [O2.out.same 0 _ rfl, O2.out.same 1 _ rfl, O2.out.same 2 _ rfl, O2.out.same 3 _ rfl, O2.out.same 4 _ rfl, O2.out.same 5 _ rfl]
  clear d0 d1 d2 d3 d4 d5 f0 f1 f2 f3 f4 f5
  refine hK.out _ _ (MKS.out _ (fun _ _ _ _ _ _ => rfl)) (fun hHeld => ?_)
  clear hK K
  (try simp only [Act.put, List.setIfInBounds_toArray, List.set_cons_zero, List.set_cons_succ])
  refine wpAnyH_ready (rs := [6]) (by kernel_rfl) (by simp) ?_
  refine AllReadyH.cons (o := { dst := none, op := Op.store 22 (Operand.tmp 1) (Operand.tmp 14), type := 0, pos := "read.go:88", after := #[{ on := 2, ground := Ground.data }, { on := 5, ground := Ground.chain }, { on := 0, ground := Ground.phase }, { on := 1, ground := Ground.phase }, { on := 2, ground := Ground.phase }, { on := 3, ground := Ground.textOnly Departure.lateStores }, { on := 4, ground := Ground.textOnly Departure.lateStores }, { on := 5, ground := Ground.phase }], guard := none }) rfl (fun K hK => ?_) AllReadyH.nil
  have d0 := E2.out.cell 0 _ rfl
  have f0 := E2.out.free 0
  go_simp
  rw [E2.out.set 0 (.int .i64 er), show [ve].set 0 (.int .i64 er) = [Value.int .i64 er] from rfl]
  have E6 := Aside0.mk (show Rt 22 be [.int .i64 er] (w2.setRow be [Value.int .i64 er].toArray) from E2.out.row _)
  have A6 := Aside0.mk (show Rt 3 ba [va] (w2.setRow be [Value.int .i64 er].toArray) from (setRow_other _ _ _ _ (Ne.symm h3)).trans A2.out)
  clear d0 f0
  refine hK.out _ _ (MKS.out _ (fun j t u hj h22 h3' => setRow_other _ _ _ _ (fun e => h22 (by rw [e] at hj; exact blk_types hj E2.out)))) (fun hHeld => ?_)
  clear hK K
  (try simp only [Act.put, List.setIfInBounds_toArray, List.set_cons_zero, List.set_cons_succ])
  refine wpAnyH_ready (rs := [7]) (by kernel_rfl) (by simp) ?_
  refine AllReadyH.cons (o := { dst := none, op := Op.store 3 (Operand.tmp 2) (Operand.tmp 16), type := 0, pos := "read.go:88", after := #[{ on := 4, ground := Ground.data }, { on := 6, ground := Ground.chain }, { on := 0, ground := Ground.phase }, { on := 1, ground := Ground.phase }, { on := 2, ground := Ground.phase }, { on := 3, ground := Ground.phase }, { on := 4, ground := Ground.phase }, { on := 5, ground := Ground.phase }, { on := 6, ground := Ground.phase }], guard := none }) rfl (fun K hK => ?_) AllReadyH.nil
  have d0 := A6.out.cell 0 _ rfl
  have f0 := A6.out.free 0
  go_simp
  rw [A6.out.set 0 (.int .i64 p), show [va].set 0 (.int .i64 p) = [Value.int .i64 p] from rfl]
  have A7 := Aside0.mk (show Rt 3 ba [.int .i64 p] ((w2.setRow be [Value.int .i64 er].toArray).setRow ba [Value.int .i64 p].toArray) from A6.out.row _)
  have E7 := Aside0.mk (show Rt 22 be [.int .i64 er] ((w2.setRow be [Value.int .i64 er].toArray).setRow ba [Value.int .i64 p].toArray) from (setRow_other _ _ _ _ h3).trans E6.out)
  have O7 := Aside0.mk (show Rt 40 bo zero_req ((w2.setRow be [Value.int .i64 er].toArray).setRow ba [Value.int .i64 p].toArray) from (setRow_other _ _ _ _ h2).trans ((setRow_other _ _ _ _ h1).trans O2.out))
  have P7 := Aside0.mk (show Kept w ((w2.setRow be [Value.int .i64 er].toArray).setRow ba [Value.int .i64 p].toArray) (fun j => j = bo ∨ j = be ∨ j = ba) from ⟨by rw [setRow_size, setRow_size]; exact P2.out.1, fun j hj hn => (setRow_other _ _ _ _ (fun e => hn (.inr (.inr e)))).trans ((setRow_other _ _ _ _ (fun e => hn (.inr (.inl e)))).trans (P2.out.2 j hj hn))⟩)
  clear d0 f0
  refine hK.out _ _ (MKS.out _ (fun j t u hj h22 h3' => (setRow_other _ _ _ _ (fun e => h3' (by rw [e] at hj; exact blk_types hj A2.out))).trans (setRow_other _ _ _ _ (fun e => h22 (by rw [e] at hj; exact blk_types hj E2.out))))) (fun hHeld => ?_)
  clear hK K
  (try simp only [Act.put, List.setIfInBounds_toArray, List.set_cons_zero, List.set_cons_succ])
  refine wpAnyH_done (by kernel_rfl) ?_ _
  (try simp only [Act.put, List.setIfInBounds_toArray, List.set_cons_zero, List.set_cons_succ])
  try simp only [Exit.then]
  refine ⟨rfl, _, rfl, ?_⟩
  refine ⟨.tuple #[], by simp [results, Try.f123, Try.results123], rfl, rfl, O7.out, E7.out, A7.out, P7.out, fun B h1 h2 h3 => ?_⟩
  exact below_drew (below_setRow' (below_setRow' (W2.out.mono (by have := HB3E.out; omega)) h1 _) h2 _)
theorem idle_req {bo be ba : Nat} (w : World) :
    CallsD Try.prog 123 #[ptr bo, ptr be, ptr ba] .returning w fun e u' w' => e = .returned (.tuple #[]) ∧ u' = .returning ∧ Below w.heap.size w w' := by
  have hu155 := Try.underlying155
  refine callsD_of_wpS Try.func123 rfl fun c₀ cs hu => ?_
  simp only [Try.ntmps123, List.size_toArray, List.length_cons, List.length_nil, Nat.reduceAdd, Nat.reduceSub, Array.replicate_succ, Array.replicate_zero, List.push_toArray, List.append_toArray, List.nil_append, List.cons_append]
  apply wpS_seq
  refine wpS_recovers_none (by rfl) (by simp [go_sem]) (by simp [recoverD, hu]) ?_ ?_
  · rintro ⟨a, w, u', h, _⟩
    cases h
  simp only [Act.put, List.setIfInBounds_toArray, List.set_cons_zero, List.set_cons_succ]
  obtain ⟨i, hi, hz, _, _⟩ : ∃ i, Try.prog.info? 155 = some i ∧ i.zero = some (.agg #[.int .i64 0, .int .i64 0]) ∧ i.size = 2 ∧ True := by
    have h : (Try.prog.info? 155).map (fun i => (i.zero, i.size)) = some (some (.agg #[.int .i64 0, .int .i64 0]), 2) := by kernel_rfl
    obtain ⟨i, hi, he⟩ := Option.map_eq_some_iff.1 h
    simp only [Prod.mk.injEq] at he
    exact ⟨i, hi, he.1, he.2, trivial⟩
  have hTA : ∀ w, (Instr.typeAssert .nilIface 20 155 true).run Try.prog w = .ok (.tuple #[.agg #[.int .i64 0, .int .i64 0], .bool false]) w := fun w => by
    simp [Instr.typeAssert, run_underlying hu155, zeroValue, typeInfo, hi, hz]
  have hb1 : Below w.heap.size w (w.alloc (.cells #[.int .i64 0, .int .i64 0] 155)) := below_alloc (Below.refl _ _) _
  have HB := Aside0.mk hb1
  clear hb1
  go_wp2_with fail
  simp only [Exit.thenS]
  refine wpS_of_wp ?_
  go_wp2_with fail
  refine ⟨rfl, .returning, ?_, .tuple #[], by simp [results, Try.f123, Try.results123], rfl, rfl, HB.out⟩
  rw [← hu]
end Go.Proofs.Ytafmoglaockepaa.Cd
end
section
namespace Go.Proofs.Ytafmoglaockepaa.Cd
open Go Go.RowKit Go.Proofs.Ytafmoglaockepaa.Num Go.Proofs.Ytafmoglaockepaa.PG Go.Proofs.YtafmoglaockepaaW.PrintWords Go.Proofs.YtafmoglaockepaaW.PrintLast Go.Proofs.YtafmoglaockepaaW.PrintMore
set_option linter.unusedVariables false
set_option linter.unusedSimpArgs false
set_option maxHeartbeats 4000000
set_option maxRecDepth 100000
structure RecD where
  f0 : Int
  f1 : S40
def pRec (xs : List Int) (most : Nat) (m : Nat) : Res RecD :=
  (pI xs m).bind fun a m => (pReq xs most m).bind fun rq m => .ok ⟨a, rq⟩ m
def memRec (S : Nat) (x : RecD) (v : Value) (w : World) : Prop := ∃ Arq nrq crq, v = .agg #[.int .i64 x.f0, .string x.f1.f0, .int .i64 x.f1.f1, .slice Arq nrq crq, .string x.f1.f3, .int .i64 x.f1.f4, .int .i64 x.f1.f5] ∧ LN S x.f1.f2 (.slice Arq nrq crq) w
theorem r_record {g B : Nat} {A : Option Addr} {n c : Nat} {xs : List Int} {m most : Nat} {W : World} (k : CrAt g B A n c xs m most W) :
    Calls Try.prog 80 #[ptr g] W fun e w' => Below B W w' ∧ Kept W w' (fun j => j = g) ∧ OutR g B A n c xs most (memRec W.heap.size) (pRec xs most m) e w' := by
  have HK := Aside0.mk k
  clear k
  go_enter Try.func80, Try.ntmps80
  go_upto_region 1 with fail
  have hr1 : Rt 49 W.heap.size [.int .i64 0, .string ⟨#[]⟩, .int .i64 0, .slice none 0 0, .string ⟨#[]⟩, .int .i64 0, .int .i64 0] (W.alloc (.cells #[.int .i64 0, .string ⟨#[]⟩, .int .i64 0, .slice none 0 0, .string ⟨#[]⟩, .int .i64 0, .int .i64 0] 49)) := heap_alloc_new W _
  have hb1 : Below W.heap.size W (W.alloc (.cells #[.int .i64 0, .string ⟨#[]⟩, .int .i64 0, .slice none 0 0, .string ⟨#[]⟩, .int .i64 0, .int .i64 0] 49)) := below_alloc (Below.refl _ _) _
  obtain ⟨b, hbe⟩ : ∃ b, W.heap.size = b := ⟨_, rfl⟩
  have K1 := Aside0.mk (HK.out.below hb1)
  have B1 := Aside0.mk (hb1.mono HK.out.size)
  have P1 := Aside0.mk (Kept.of_below hb1 (fun j => j = g))
  have HBE := Aside0.mk (show W.heap.size ≤ b by omega)
  have HLT := Aside0.mk (show g < b ∧ B ≤ b by have := HK.out.row.lt; have := HK.out.size; omega)
  rw [hbe] at hr1
  rw [hbe]
  have R1 := Aside0.mk hr1
  clear hr1 hb1 hbe
  generalize W.alloc (.cells #[.int .i64 0, .string ⟨#[]⟩, .int .i64 0, .slice none 0 0, .string ⟨#[]⟩, .int .i64 0, .int .i64 0] 49) = w1 at *
  have cr0 := R1.out.cell 0 _ rfl
  have fr0 := R1.out.free 0
  go_wp2_with fail
  go_at_call 62
  refine (r_int K1.out).mono ?_
  rintro e w2 ⟨hb, hp, ho⟩
  have hbt := B1.out.trans hb
  have hpt := P1.out.then_ hp (fun _ h => .inl h)
  rcases hq : pI xs m with ⟨a, m1⟩ | ⟨er, p⟩
  rotate_left
  · rw [hq] at ho
    have ho : e = gaveUp er p := ho
    subst ho
    refine ⟨rfl, hbt, hpt, ?_⟩
    have e9 : pRec xs most m = Res.fail er p := by
      unfold pRec
      simp only [Res.bind, hq]
    rw [e9]
    rfl
  rw [hq] at ho
  obtain ⟨he, hk⟩ : e = .returned (.int .i64 a) ∧ CrAt g B A n c xs m1 most w2 := ho
  subst he
  have HQ0 := Aside0.mk hq
  have K2 := Aside0.mk hk
  have B2 := Aside0.mk hbt
  have P2 := Aside0.mk hpt
  have R2 := Aside0.mk (show Rt 49 b [.int .i64 0, .string ⟨#[]⟩, .int .i64 0, .slice none 0 0, .string ⟨#[]⟩, .int .i64 0, .int .i64 0] w2 from (hp.2 b R1.out.lt (by have := HLT.out; show b ≠ g; omega)).trans R1.out)
  clear hb hp hbt hpt hq hk cr0 fr0
  try clear ho
  have cr0 := R2.out.cell 0 _ rfl
  have fr0 := R2.out.free 0
  go_upto_region 2 with fail
  have e1 := R2.out.set 0 (.int .i64 a)
  rw [e1]
  clear e1 cr0 fr0
  have hl : [Value.int .i64 0, .string ⟨#[]⟩, .int .i64 0, .slice none 0 0, .string ⟨#[]⟩, .int .i64 0, .int .i64 0].set 0 (.int .i64 a) = [Value.int .i64 a, .string ⟨#[]⟩, .int .i64 0, .slice none 0 0, .string ⟨#[]⟩, .int .i64 0, .int .i64 0] := rfl
  rw [hl]
  clear hl
  have K3 := Aside0.mk (show CrAt g B A n c xs m1 most (w2.setRow b [Value.int .i64 a, .string ⟨#[]⟩, .int .i64 0, .slice none 0 0, .string ⟨#[]⟩, .int .i64 0, .int .i64 0].toArray) from K2.out.aside (below_setRow' (Below.refl _ _) HLT.out.2 _) (setRow_other _ _ _ _ (by have := HLT.out; omega)))
  have B3 := Aside0.mk (show Below B W (w2.setRow b [Value.int .i64 a, .string ⟨#[]⟩, .int .i64 0, .slice none 0 0, .string ⟨#[]⟩, .int .i64 0, .int .i64 0].toArray) from below_setRow' B2.out HLT.out.2 _)
  have P3 := Aside0.mk (show Kept W (w2.setRow b [Value.int .i64 a, .string ⟨#[]⟩, .int .i64 0, .slice none 0 0, .string ⟨#[]⟩, .int .i64 0, .int .i64 0].toArray) (fun j => j = g) from ⟨by rw [setRow_size]; exact P2.out.1, fun j hj hn => (setRow_other _ _ _ _ (by have := HBE.out; omega)).trans (P2.out.2 j hj hn)⟩)
  have R3 := Aside0.mk (show Rt 49 b [Value.int .i64 a, .string ⟨#[]⟩, .int .i64 0, .slice none 0 0, .string ⟨#[]⟩, .int .i64 0, .int .i64 0] (w2.setRow b [Value.int .i64 a, .string ⟨#[]⟩, .int .i64 0, .slice none 0 0, .string ⟨#[]⟩, .int .i64 0, .int .i64 0].toArray) from R2.out.row _)
  generalize w2.setRow b [Value.int .i64 a, .string ⟨#[]⟩, .int .i64 0, .slice none 0 0, .string ⟨#[]⟩, .int .i64 0, .int .i64 0].toArray = w3 at *
  have cr1 := R3.out.cell 1 _ rfl
  have fr1 := R3.out.free 1
  have cr2 := R3.out.cell 2 _ rfl
  have fr2 := R3.out.free 2
  have cr3 := R3.out.cell 3 _ rfl
  have fr3 := R3.out.free 3
  have cr4 := R3.out.cell 4 _ rfl
  have fr4 := R3.out.free 4
  have cr5 := R3.out.cell 5 _ rfl
  have fr5 := R3.out.free 5
  have cr6 := R3.out.cell 6 _ rfl
  have fr6 := R3.out.free 6
  go_wp2_with fail
  go_at_call 75
  refine (r_request K3.out).mono ?_
  rintro e w4 ⟨hb, hp, ho⟩
  have hbt := B3.out.trans hb
  have hpt := P3.out.then_ hp (fun _ h => .inl h)
  rcases hq : pReq xs most m1 with ⟨rq, m2⟩ | ⟨er, p⟩
  rotate_left
  · rw [hq] at ho
    have ho : e = gaveUp er p := ho
    subst ho
    refine ⟨rfl, hbt, hpt, ?_⟩
    have e9 : pRec xs most m = Res.fail er p := by
      unfold pRec
      simp only [Res.bind, HQ0.out, hq]
    rw [e9]
    rfl
  rw [hq] at ho
  obtain ⟨v, he, hE, hk⟩ : ∃ v, e = .returned v ∧ memReq w3.heap.size rq v w4 ∧ CrAt g B A n c xs m2 most w4 := ho
  obtain ⟨Arq, nrq, crq, ev, hE⟩ := hE
  subst ev
  have Lrq_4 := Aside0.mk (show LN (b + 1) rq.f2 (.slice Arq nrq crq) w4 from LN_alive.lower hE R3.out.lt)
  clear hE
  subst he
  have HQ1 := Aside0.mk hq
  have K4 := Aside0.mk hk
  have B4 := Aside0.mk hbt
  have P4 := Aside0.mk hpt
  have R4 := Aside0.mk (show Rt 49 b [.int .i64 a, .string ⟨#[]⟩, .int .i64 0, .slice none 0 0, .string ⟨#[]⟩, .int .i64 0, .int .i64 0] w4 from (hp.2 b R3.out.lt (by have := HLT.out; show b ≠ g; omega)).trans R3.out)
  clear hb hp hbt hpt hq hk cr1 fr1 cr2 fr2 cr3 fr3 cr4 fr4 cr5 fr5 cr6 fr6
  try clear ho
  have cr1 := R4.out.cell 1 _ rfl
  have fr1 := R4.out.free 1
  have cr2 := R4.out.cell 2 _ rfl
  have fr2 := R4.out.free 2
  have cr3 := R4.out.cell 3 _ rfl
  have fr3 := R4.out.free 3
  have cr4 := R4.out.cell 4 _ rfl
  have fr4 := R4.out.free 4
  have cr5 := R4.out.cell 5 _ rfl
  have fr5 := R4.out.free 5
  have cr6 := R4.out.cell 6 _ rfl
  have fr6 := R4.out.free 6
  go_upto_region 3 with fail
  have e1 := R4.out.fill6 1 (.string rq.f0) (.int .i64 rq.f1) (.slice Arq nrq crq) (.string rq.f3) (.int .i64 rq.f4) (.int .i64 rq.f5)
  have e2 := R4.out
  simp only [Nat.reduceAdd, List.set_cons_zero, List.set_cons_succ] at e1
  rw [e1]
  clear e1 e2 cr1 fr1 cr2 fr2 cr3 fr3 cr4 fr4 cr5 fr5 cr6 fr6
  have K5 := Aside0.mk (show CrAt g B A n c xs m2 most (w4.setRow b [Value.int .i64 a, .string rq.f0, .int .i64 rq.f1, .slice Arq nrq crq, .string rq.f3, .int .i64 rq.f4, .int .i64 rq.f5].toArray) from K4.out.aside (below_setRow' (Below.refl _ _) HLT.out.2 _) (setRow_other _ _ _ _ (by have := HLT.out; omega)))
  have B5 := Aside0.mk (show Below B W (w4.setRow b [Value.int .i64 a, .string rq.f0, .int .i64 rq.f1, .slice Arq nrq crq, .string rq.f3, .int .i64 rq.f4, .int .i64 rq.f5].toArray) from below_setRow' B4.out HLT.out.2 _)
  have P5 := Aside0.mk (show Kept W (w4.setRow b [Value.int .i64 a, .string rq.f0, .int .i64 rq.f1, .slice Arq nrq crq, .string rq.f3, .int .i64 rq.f4, .int .i64 rq.f5].toArray) (fun j => j = g) from ⟨by rw [setRow_size]; exact P4.out.1, fun j hj hn => (setRow_other _ _ _ _ (by have := HBE.out; omega)).trans (P4.out.2 j hj hn)⟩)
  have R5 := Aside0.mk (show Rt 49 b [Value.int .i64 a, .string rq.f0, .int .i64 rq.f1, .slice Arq nrq crq, .string rq.f3, .int .i64 rq.f4, .int .i64 rq.f5] (w4.setRow b [Value.int .i64 a, .string rq.f0, .int .i64 rq.f1, .slice Arq nrq crq, .string rq.f3, .int .i64 rq.f4, .int .i64 rq.f5].toArray) from R4.out.row _)
  have Lrq_5 := Aside0.mk (LN_alive.row Lrq_4.out (Nat.lt_succ_self b) [Value.int .i64 a, .string rq.f0, .int .i64 rq.f1, .slice Arq nrq crq, .string rq.f3, .int .i64 rq.f4, .int .i64 rq.f5].toArray)
  generalize w4.setRow b [Value.int .i64 a, .string rq.f0, .int .i64 rq.f1, .slice Arq nrq crq, .string rq.f3, .int .i64 rq.f4, .int .i64 rq.f5].toArray = w5 at *
  have c0 := R5.out.cell 0 _ rfl
  have f0 := R5.out.free 0
  have c1 := R5.out.cell 1 _ rfl
  have f1 := R5.out.free 1
  have c2 := R5.out.cell 2 _ rfl
  have f2 := R5.out.free 2
  have c3 := R5.out.cell 3 _ rfl
  have f3 := R5.out.free 3
  have c4 := R5.out.cell 4 _ rfl
  have f4 := R5.out.free 4
  have c5 := R5.out.cell 5 _ rfl
  have f5 := R5.out.free 5
  have c6 := R5.out.cell 6 _ rfl
  have f6 := R5.out.free 6
  go_wp2_with fail
  rw [R5.out.same 0 _ rfl, R5.out.same 1 _ rfl, R5.out.same 2 _ rfl, R5.out.same 3 _ rfl, R5.out.same 4 _ rfl, R5.out.same 5 _ rfl, R5.out.same 6 _ rfl]
  refine bodyPost_ret (results_cell_row rfl _ _ b 49 _ (0, 0) _ rfl R5.out Try.underlying49 rfl (by kernel_rfl)) rfl ?_
  refine ⟨B5.out, P5.out, ?_⟩
  have e9 : pRec xs most m = Res.ok ⟨a, rq⟩ m2 := by
    unfold pRec
    simp only [Res.bind, HQ0.out, HQ1.out]
  rw [e9]
  exact ⟨_, rfl, ⟨Arq, nrq, crq, rfl, LN_alive.lower Lrq_5.out (Nat.le_succ_of_le HBE.out)⟩, K5.out⟩
abbrev zero_rec : List Value := [.int .i64 0, .string ⟨#[]⟩, .int .i64 0, .slice none 0 0, .string ⟨#[]⟩, .int .i64 0, .int .i64 0]
theorem catch_rec {bo be ba : Nat} {ve va : Value} (er p : Int) (older : List PanicEntry) (w : World) (ho : Rt 49 bo zero_rec w) (he : Rt 22 be [ve] w) (ha : Rt 3 ba [va] w) (h1 : bo ≠ be) (h2 : bo ≠ ba) (h3 : be ≠ ba) :
    CallsD Try.prog 124 #[ptr bo, ptr be, ptr ba] (.panicking ({ v := fault er p, recovered := false } :: older)) w fun e u' w' =>
      e = .returned (.tuple #[]) ∧ u' = .panicking ({ v := fault er p, recovered := true } :: older) ∧ Rt 49 bo zero_rec w' ∧ Rt 22 be [.int .i64 er] w' ∧ Rt 3 ba [.int .i64 p] w' ∧ Kept w w' (fun j => j = bo ∨ j = be ∨ j = ba) ∧ ∀ B, B ≤ be → B ≤ ba → B ≤ w.heap.size → Below B w w' := by
  have HO := Aside0.mk ho
  have HE := Aside0.mk he
  have HA := Aside0.mk ha
  have hu155 := Try.underlying155
  clear ho he ha
  refine callsD_of_wpS Try.func124 rfl fun c₀ cs hu => ?_
  simp only [Try.ntmps124, List.size_toArray, List.length_cons, List.length_nil, Nat.reduceAdd, Nat.reduceSub, Array.replicate_succ, Array.replicate_zero, List.push_toArray, List.append_toArray, List.nil_append, List.cons_append]
  apply wpS_seq
  refine wpS_recovers (v := fault er p) (cs' := { c₀ with mode := .panicking ({ v := fault er p, recovered := true } :: older) } :: cs) (by rfl) (by simp [go_sem]) (by simp [recoverD, hu]) ?_ ?_
  · rintro ⟨a, w, u', h, _⟩
    cases h
  simp only [Act.put, List.setIfInBounds_toArray, List.set_cons_zero, List.set_cons_succ]
  unfold fault
  have hTA : ∀ v w, (Instr.typeAssert (.iface 155 v) 20 155 true).run Try.prog w = .ok (.tuple #[v, .bool true]) w := fun v w => by
    simp [Instr.typeAssert, run_underlying hu155]
  go_wp2_with fail
  simp only [Exit.thenS]
  refine wpS_of_wp ?_
  have hb1 : Below w.heap.size w (w.alloc (.cells #[.int .i64 er, .int .i64 p] 155)) := below_alloc (Below.refl _ _) _
  have hr3 : Rt 155 w.heap.size [.int .i64 er, .int .i64 p] (w.alloc (.cells #[.int .i64 er, .int .i64 p] 155)) := heap_alloc_new w _
  obtain ⟨b3, hb3⟩ : ∃ b3, w.heap.size = b3 := ⟨_, rfl⟩
  have HB3E := Aside0.mk hb3
  have O1 := Aside0.mk (HO.out.below hb1)
  have E1 := Aside0.mk (HE.out.below hb1)
  have A1 := Aside0.mk (HA.out.below hb1)
  have P1 := Aside0.mk (Kept.of_below hb1 (fun j => j = bo ∨ j = be ∨ j = ba))
  have W1 := Aside0.mk (show Below w.heap.size w (w.alloc (.cells #[.int .i64 er, .int .i64 p] 155)) from hb1)
  rw [hb3] at hr3 ⊢
  have R1 := Aside0.mk hr3
  clear hb1 hr3 hb3 hTA hu155 hu
  generalize w.alloc (.cells #[.int .i64 er, .int .i64 p] 155) = w1 at *
  go_upto_region 3 with fail
  have hb1 : Below w1.heap.size w1 (w1.alloc (.cells #[.int .i64 0, .string ⟨#[]⟩, .int .i64 0, .slice none 0 0, .string ⟨#[]⟩, .int .i64 0, .int .i64 0] 49)) := below_alloc (Below.refl _ _) _
  have hr5 : Rt 49 w1.heap.size zero_rec (w1.alloc (.cells #[.int .i64 0, .string ⟨#[]⟩, .int .i64 0, .slice none 0 0, .string ⟨#[]⟩, .int .i64 0, .int .i64 0] 49)) := heap_alloc_new w1 _
  obtain ⟨b5, hb5⟩ : ∃ b5, w1.heap.size = b5 := ⟨_, rfl⟩
  have O2 := Aside0.mk (O1.out.below hb1)
  have E2 := Aside0.mk (E1.out.below hb1)
  have A2 := Aside0.mk (A1.out.below hb1)
  have R2 := Aside0.mk (R1.out.below hb1)
  have P2 := Aside0.mk (P1.out.below hb1)
  have W2 := Aside0.mk (W1.out.trans (hb1.mono W1.out.size))
  rw [hb5] at hr5 ⊢
  have Z2 := Aside0.mk hr5
  clear hb1 hr5 hb5 O1 E1 A1 R1 P1 W1
  generalize w1.alloc (.cells #[.int .i64 0, .string ⟨#[]⟩, .int .i64 0, .slice none 0 0, .string ⟨#[]⟩, .int .i64 0, .int .i64 0] 49) = w2 at *
  have MKS := Aside0.mk (show ∀ w' : World, (∀ j t (u : Array Value), w2.heap[j]? = some (Obj.cells u t (0, 0)) → t ≠ 22 → t ≠ 3 → w'.heap[j]? = w2.heap[j]?) → (fun w' : World => (w'.cell? ⟨b5, 0, none⟩ = some (.int .i64 0) ∧ w'.cell? ⟨b5, 1, none⟩ = some (.string ⟨#[]⟩) ∧ w'.cell? ⟨b5, 2, none⟩ = some (.int .i64 0) ∧ w'.cell? ⟨b5, 3, none⟩ = some (.slice none 0 0) ∧ w'.cell? ⟨b5, 4, none⟩ = some (.string ⟨#[]⟩) ∧ w'.cell? ⟨b5, 5, none⟩ = some (.int .i64 0) ∧ w'.cell? ⟨b5, 6, none⟩ = some (.int .i64 0)) ∧ w'.cell? ⟨b3, 0, none⟩ = some (.int .i64 er) ∧ w'.cell? ⟨b3, 1, none⟩ = some (.int .i64 p)) w' from fun w' hw => by
    have z : Rt 49 b5 zero_rec w' := (hw b5 49 _ Z2.out (by decide) (by decide)).trans Z2.out
    have r : Rt 155 b3 [.int .i64 er, .int .i64 p] w' := (hw b3 155 _ R2.out (by decide) (by decide)).trans R2.out
    exact ⟨⟨z.cell 0 _ rfl, z.cell 1 _ rfl, z.cell 2 _ rfl, z.cell 3 _ rfl, z.cell 4 _ rfl, z.cell 5 _ rfl, z.cell 6 _ rfl⟩, r.cell 0 _ rfl, r.cell 1 _ rfl⟩)
  refine wp_region_held_drew (S := fun w' : World => (w'.cell? ⟨b5, 0, none⟩ = some (.int .i64 0) ∧ w'.cell? ⟨b5, 1, none⟩ = some (.string ⟨#[]⟩) ∧ w'.cell? ⟨b5, 2, none⟩ = some (.int .i64 0) ∧ w'.cell? ⟨b5, 3, none⟩ = some (.slice none 0 0) ∧ w'.cell? ⟨b5, 4, none⟩ = some (.string ⟨#[]⟩) ∧ w'.cell? ⟨b5, 5, none⟩ = some (.int .i64 0) ∧ w'.cell? ⟨b5, 6, none⟩ = some (.int .i64 0)) ∧ w'.cell? ⟨b3, 0, none⟩ = some (.int .i64 er) ∧ w'.cell? ⟨b3, 1, none⟩ = some (.int .i64 p)) (by kernel_rfl) (MKS.out _ (fun _ _ _ _ _ _ => rfl)) (fun hHeld => ?_)
  refine wpAnyH_take (i := 0) (oi := { dst := some 12, op := Op.load 49 (Operand.tmp 5), type := 49, pos := "read.go:88", after := #[], guard := none }) (v := ?_) rfl (by kernel_rfl) (by kernel_rfl) (by kernel_rfl) (fun _ _ _ h => h) (Or.inl ⟨by rfl, ?_⟩) hHeld ?_
  rotate_left
  · intro w' hS; obtain ⟨⟨hS0, hS1, hS2, hS3, hS4, hS5, hS6⟩, hS7, hS8⟩ := hS; go_simp; all_goals (with_reducible rfl)
  (try simp only [Act.put, List.setIfInBounds_toArray, List.set_cons_zero, List.set_cons_succ])
  refine wpAnyH_take (i := 1) (oi := { dst := some 13, op := Op.fieldAddr 155 (Operand.tmp 3) 0, type := 0, pos := "read.go:88", after := #[{ on := 5, ground := Ground.gcOnly Departure.lateStores }], guard := none }) (v := ?_) rfl (by kernel_rfl) (by kernel_rfl) (by kernel_rfl) (fun _ _ _ h => h) (Or.inl ⟨by rfl, ?_⟩) hHeld ?_
  rotate_left
  · intro w' hS; obtain ⟨⟨hS0, hS1, hS2, hS3, hS4, hS5, hS6⟩, hS7, hS8⟩ := hS; go_simp; all_goals (with_reducible rfl)
  (try simp only [Act.put, List.setIfInBounds_toArray, List.set_cons_zero, List.set_cons_succ])
  refine wpAnyH_take (i := 2) (oi := { dst := some 14, op := Op.load 22 (Operand.tmp 13), type := 22, pos := "read.go:88", after := #[{ on := 1, ground := Ground.data }, { on := 5, ground := Ground.gcOnly Departure.lateStores }], guard := none }) (v := ?_) rfl (by kernel_rfl) (by kernel_rfl) (by kernel_rfl) (fun _ _ _ h => h) (Or.inl ⟨by rfl, ?_⟩) hHeld ?_
  rotate_left
  · intro w' hS; obtain ⟨⟨hS0, hS1, hS2, hS3, hS4, hS5, hS6⟩, hS7, hS8⟩ := hS; go_simp; all_goals (with_reducible rfl)
  (try simp only [Act.put, List.setIfInBounds_toArray, List.set_cons_zero, List.set_cons_succ])
  refine wpAnyH_take (i := 3) (oi := { dst := some 15, op := Op.fieldAddr 155 (Operand.tmp 3) 1, type := 0, pos := "read.go:88", after := #[{ on := 6, ground := Ground.gcOnly Departure.lateStores }], guard := none }) (v := ?_) rfl (by kernel_rfl) (by kernel_rfl) (by kernel_rfl) (fun _ _ _ h => h) (Or.inl ⟨by rfl, ?_⟩) hHeld ?_
  rotate_left
  · intro w' hS; obtain ⟨⟨hS0, hS1, hS2, hS3, hS4, hS5, hS6⟩, hS7, hS8⟩ := hS; go_simp; all_goals (with_reducible rfl)
  (try simp only [Act.put, List.setIfInBounds_toArray, List.set_cons_zero, List.set_cons_succ])
  refine wpAnyH_take (i := 4) (oi := { dst := some 16, op := Op.load 3 (Operand.tmp 15), type := 3, pos := "read.go:88", after := #[{ on := 3, ground := Ground.data }, { on := 6, ground := Ground.gcOnly Departure.lateStores }], guard := none }) (v := ?_) rfl (by kernel_rfl) (by kernel_rfl) (by kernel_rfl) (fun _ _ _ h => h) (Or.inl ⟨by rfl, ?_⟩) hHeld ?_
  rotate_left
  · intro w' hS; obtain ⟨⟨hS0, hS1, hS2, hS3, hS4, hS5, hS6⟩, hS7, hS8⟩ := hS; go_simp; all_goals (with_reducible rfl)
  (try simp only [Act.put, List.setIfInBounds_toArray, List.set_cons_zero, List.set_cons_succ])
  refine wpAnyH_ready (rs := [5]) (by kernel_rfl) (by simp) ?_
  refine AllReadyH.cons (o := { dst := none, op := Op.store 49 (Operand.tmp 0) (Operand.tmp 12), type := 0, pos := "read.go:88", after := #[{ on := 0, ground := Ground.data }, { on := 0, ground := Ground.phase }, { on := 1, ground := Ground.textOnly Departure.lateStores }, { on := 2, ground := Ground.textOnly Departure.lateStores }, { on := 3, ground := Ground.textOnly Departure.lateStores }, { on := 4, ground := Ground.textOnly Departure.lateStores }], guard := none }) rfl (fun K hK => ?_) AllReadyH.nil
  have d0 := O2.out.cell 0 _ rfl
  have d1 := O2.out.cell 1 _ rfl
  have d2 := O2.out.cell 2 _ rfl
  have d3 := O2.out.cell 3 _ rfl
  have d4 := O2.out.cell 4 _ rfl
  have d5 := O2.out.cell 5 _ rfl
  have d6 := O2.out.cell 6 _ rfl
  have f0 := O2.out.free 0
  have f1 := O2.out.free 1
  have f2 := O2.out.free 2
  have f3 := O2.out.free 3
  have f4 := O2.out.free 4
  have f5 := O2.out.free 5
  have f6 := O2.out.free 6
  go_simp
  rw [O2.out.same 0 _ rfl, O2.out.same 1 _ rfl, O2.out.same 2 _ rfl, O2.out.same 3 _ rfl, O2.out.same 4 _ rfl, O2.out.same 5 _ rfl, O2.out.same 6 _ rfl]
  clear d0 d1 d2 d3 d4 d5 d6 f0 f1 f2 f3 f4 f5 f6
  refine hK.out _ _ (MKS.out _ (fun _ _ _ _ _ _ => rfl)) (fun hHeld => ?_)
  clear hK K
  (try simp only [Act.put, List.setIfInBounds_toArray, List.set_cons_zero, List.set_cons_succ])
  refine wpAnyH_ready (rs := [6]) (by kernel_rfl) (by simp) ?_
  refine AllReadyH.cons (o := { dst := none, op := Op.store 22 (Operand.tmp 1) (Operand.tmp 14), type := 0, pos := "read.go:88", after := #[{ on := 2, ground := Ground.data }, { on := 5, ground := Ground.chain }, { on := 0, ground := Ground.phase }, { on := 1, ground := Ground.phase }, { on := 2, ground := Ground.phase }, { on := 3, ground := Ground.textOnly Departure.lateStores }, { on := 4, ground := Ground.textOnly Departure.lateStores }, { on := 5, ground := Ground.phase }], guard := none }) rfl (fun K hK => ?_) AllReadyH.nil
  have d0 := E2.out.cell 0 _ rfl
  have f0 := E2.out.free 0
  go_simp
  rw [E2.out.set 0 (.int .i64 er), show [ve].set 0 (.int .i64 er) = [Value.int .i64 er] from rfl]
  have E6 := Aside0.mk (show Rt 22 be [.int .i64 er] (w2.setRow be [Value.int .i64 er].toArray) from E2.out.row _)
  have A6 := Aside0.mk (show Rt 3 ba [va] (w2.setRow be [Value.int .i64 er].toArray) from (setRow_other _ _ _ _ (Ne.symm h3)).trans A2.out)
  clear d0 f0
  refine hK.out _ _ (MKS.out _ (fun j t u hj h22 h3' => setRow_other _ _ _ _ (fun e => h22 (by rw [e] at hj; exact blk_types hj E2.out)))) (fun hHeld => ?_)
  clear hK K
  (try simp only [Act.put, List.setIfInBounds_toArray, List.set_cons_zero, List.set_cons_succ])
  refine wpAnyH_ready (rs := [7]) (by kernel_rfl) (by simp) ?_
  refine AllReadyH.cons (o := { dst := none, op := Op.store 3 (Operand.tmp 2) (Operand.tmp 16), type := 0, pos := "read.go:88", after := #[{ on := 4, ground := Ground.data }, { on := 6, ground := Ground.chain }, { on := 0, ground := Ground.phase }, { on := 1, ground := Ground.phase }, { on := 2, ground := Ground.phase }, { on := 3, ground := Ground.phase }, { on := 4, ground := Ground.phase }, { on := 5, ground := Ground.phase }, { on := 6, ground := Ground.phase }], guard := none }) rfl (fun K hK => ?_) AllReadyH.nil
  have d0 := A6.out.cell 0 _ rfl
  have f0 := A6.out.free 0
  go_simp
  rw [A6.out.set 0 (.int .i64 p), show [va].set 0 (.int .i64 p) = [Value.int .i64 p] from rfl]
  have A7 := Aside0.mk (show Rt 3 ba [.int .i64 p] ((w2.setRow be [Value.int .i64 er].toArray).setRow ba [Value.int .i64 p].toArray) from A6.out.row _)
  have E7 := Aside0.mk (show Rt 22 be [.int .i64 er] ((w2.setRow be [Value.int .i64 er].toArray).setRow ba [Value.int .i64 p].toArray) from (setRow_other _ _ _ _ h3).trans E6.out)
  have O7 := Aside0.mk (show Rt 49 bo zero_rec ((w2.setRow be [Value.int .i64 er].toArray).setRow ba [Value.int .i64 p].toArray) from (setRow_other _ _ _ _ h2).trans ((setRow_other _ _ _ _ h1).trans O2.out))
  have P7 := Aside0.mk (show Kept w ((w2.setRow be [Value.int .i64 er].toArray).setRow ba [Value.int .i64 p].toArray) (fun j => j = bo ∨ j = be ∨ j = ba) from ⟨by rw [setRow_size, setRow_size]; exact P2.out.1, fun j hj hn => (setRow_other _ _ _ _ (fun e => hn (.inr (.inr e)))).trans ((setRow_other _ _ _ _ (fun e => hn (.inr (.inl e)))).trans (P2.out.2 j hj hn))⟩)
  clear d0 f0
  refine hK.out _ _ (MKS.out _ (fun j t u hj h22 h3' => (setRow_other _ _ _ _ (fun e => h3' (by rw [e] at hj; exact blk_types hj A2.out))).trans (setRow_other _ _ _ _ (fun e => h22 (by rw [e] at hj; exact blk_types hj E2.out))))) (fun hHeld => ?_)
  clear hK K
  (try simp only [Act.put, List.setIfInBounds_toArray, List.set_cons_zero, List.set_cons_succ])
  refine wpAnyH_done (by kernel_rfl) ?_ _
  (try simp only [Act.put, List.setIfInBounds_toArray, List.set_cons_zero, List.set_cons_succ])
  try simp only [Exit.then]
  refine ⟨rfl, _, rfl, ?_⟩
  refine ⟨.tuple #[], by simp [results, Try.f124, Try.results124], rfl, rfl, O7.out, E7.out, A7.out, P7.out, fun B h1 h2 h3 => ?_⟩
  exact below_drew (below_setRow' (below_setRow' (W2.out.mono (by have := HB3E.out; omega)) h1 _) h2 _)
theorem idle_rec {bo be ba : Nat} (w : World) :
    CallsD Try.prog 124 #[ptr bo, ptr be, ptr ba] .returning w fun e u' w' => e = .returned (.tuple #[]) ∧ u' = .returning ∧ Below w.heap.size w w' := by
  have hu155 := Try.underlying155
  refine callsD_of_wpS Try.func124 rfl fun c₀ cs hu => ?_
  simp only [Try.ntmps124, List.size_toArray, List.length_cons, List.length_nil, Nat.reduceAdd, Nat.reduceSub, Array.replicate_succ, Array.replicate_zero, List.push_toArray, List.append_toArray, List.nil_append, List.cons_append]
  apply wpS_seq
  refine wpS_recovers_none (by rfl) (by simp [go_sem]) (by simp [recoverD, hu]) ?_ ?_
  · rintro ⟨a, w, u', h, _⟩
    cases h
  simp only [Act.put, List.setIfInBounds_toArray, List.set_cons_zero, List.set_cons_succ]
  obtain ⟨i, hi, hz, _, _⟩ : ∃ i, Try.prog.info? 155 = some i ∧ i.zero = some (.agg #[.int .i64 0, .int .i64 0]) ∧ i.size = 2 ∧ True := by
    have h : (Try.prog.info? 155).map (fun i => (i.zero, i.size)) = some (some (.agg #[.int .i64 0, .int .i64 0]), 2) := by kernel_rfl
    obtain ⟨i, hi, he⟩ := Option.map_eq_some_iff.1 h
    simp only [Prod.mk.injEq] at he
    exact ⟨i, hi, he.1, he.2, trivial⟩
  have hTA : ∀ w, (Instr.typeAssert .nilIface 20 155 true).run Try.prog w = .ok (.tuple #[.agg #[.int .i64 0, .int .i64 0], .bool false]) w := fun w => by
    simp [Instr.typeAssert, run_underlying hu155, zeroValue, typeInfo, hi, hz]
  have hb1 : Below w.heap.size w (w.alloc (.cells #[.int .i64 0, .int .i64 0] 155)) := below_alloc (Below.refl _ _) _
  have HB := Aside0.mk hb1
  clear hb1
  go_wp2_with fail
  simp only [Exit.thenS]
  refine wpS_of_wp ?_
  go_wp2_with fail
  refine ⟨rfl, .returning, ?_, .tuple #[], by simp [results, Try.f124, Try.results124], rfl, rfl, HB.out⟩
  rw [← hu]
end Go.Proofs.Ytafmoglaockepaa.Cd
end
section
namespace Go.Proofs.Ytafmoglaockepaa.Cd
open Go Go.RowKit Go.Proofs.Ytafmoglaockepaa.Num Go.Proofs.Ytafmoglaockepaa.PG Go.Proofs.YtafmoglaockepaaW.PrintWords Go.Proofs.YtafmoglaockepaaW.PrintLast Go.Proofs.YtafmoglaockepaaW.PrintMore
set_option linter.unusedVariables false
set_option linter.unusedSimpArgs false
set_option maxHeartbeats 4000000
set_option maxRecDepth 100000
def encC (x : RecD) : List Int := encI x.f0 ++ encQ x.f1
def bulkC (x : RecD) : Nat := 20 + bulkQ x.f1
theorem w_record {g B br : Nat} {xs : List Int} {W W0 : World} (k : WrAt g B xs W) (hW0 : Below W0.heap.size W0 W) (hB0 : W0.heap.size ≤ B) (x : RecD) (Al : Option Addr) (cl : Nat) (hCl : Kd.C k110 W0 Al x.f1.f2.length x.f1.f2) (h0 : Int64 x.f0) (h1 : ReqOk x.f1) (hbr : Rt 49 br [.int .i64 x.f0, .string x.f1.f0, .int .i64 x.f1.f1, .slice Al x.f1.f2.length cl, .string x.f1.f3, .int .i64 x.f1.f4, .int .i64 x.f1.f5] W) (hl : xs.length + bulkC x + 900 < 140737488355328) :
    Calls Try.prog 78 #[ptr g, ptr br] W fun e w' => e = .returned (.tuple #[]) ∧ WrAt g B (xs ++ encC x) w' ∧ Below B W w' ∧ Others W w' := by
  have HLL := Aside0.mk hl
  have HW0 := Aside0.mk hW0
  have HB0 := Aside0.mk hB0
  have HS := Aside0.mk k.size
  have HCl := Aside0.mk hCl
  have H0 := Aside0.mk h0
  have H1 := Aside0.mk h1
  have K1 := Aside0.mk k
  have R1 := Aside0.mk hbr
  clear k hbr hl hW0 hB0 hCl h0 h1
  go_enter Try.func78, Try.ntmps78
  obtain ⟨w1, hw1⟩ : ∃ w1, w1 = W := ⟨_, rfl⟩
  rw [← hw1] at K1 R1
  have B1 := Aside0.mk (show Below B W w1 by rw [hw1]; exact Below.refl _ _)
  have O1 := Aside0.mk (show Others W w1 by rw [hw1]; exact Others.refl _)
  rw [← hw1]
  have HW1 := Aside0.mk hw1
  clear hw1
  have c0 := R1.out.cell 0 _ rfl
  go_wp2_with fail
  go_at_call 53
  refine (w_int K1.out x.f0 H0.out (by have := HLL.out; have := encI_len x.f0; have := show (encReq x.f1.f0 x.f1.f1 x.f1.f2 x.f1.f3 x.f1.f4 x.f1.f5).length ≤ bulkQ x.f1 from encQ_len x.f1; have := show bulkQ x.f1 = 60 + x.f1.f0.size + x.f1.f3.size + bulkN x.f1.f2 from rfl; have := show bulkC x = 20 + bulkQ x.f1 from rfl; (try simp only [List.length_append]); omega)).mono ?_
  rintro e w2 ⟨rfl, hk, hb, ho⟩
  have K2 := Aside0.mk hk
  have B2 := Aside0.mk (B1.out.trans hb)
  have O2 := Aside0.mk (O1.out.trans ho)
  have R2 := Aside0.mk (ho.row R1.out (by decide) (by decide))
  clear hk hb ho c0
  have c1 := R2.out.cell 1 _ rfl
  have c2 := R2.out.cell 2 _ rfl
  have c3 := R2.out.cell 3 _ rfl
  have c4 := R2.out.cell 4 _ rfl
  have c5 := R2.out.cell 5 _ rfl
  have c6 := R2.out.cell 6 _ rfl
  go_wp2_with fail
  go_at_call 71
  refine (w_request K2.out x.f1.f0 x.f1.f1 Al x.f1.f2.length cl x.f1.f2 x.f1.f3 x.f1.f4 x.f1.f5 (fun W' hb => Kd.C_below HCl.out (HW0.out.trans ((B2.out.trans hb).mono HB0.out))) H1.out.2.1 H1.out.1 H1.out.2.2.1 H1.out.2.2.2 (by have := HLL.out; have := encI_len x.f0; have := show (encReq x.f1.f0 x.f1.f1 x.f1.f2 x.f1.f3 x.f1.f4 x.f1.f5).length ≤ bulkQ x.f1 from encQ_len x.f1; have := show bulkQ x.f1 = 60 + x.f1.f0.size + x.f1.f3.size + bulkN x.f1.f2 from rfl; have := show bulkC x = 20 + bulkQ x.f1 from rfl; (try simp only [List.length_append]); omega)).mono ?_
  rintro e w3 ⟨rfl, hk, hb, ho⟩
  have K3 := Aside0.mk hk
  have B3 := Aside0.mk (B2.out.trans hb)
  have O3 := Aside0.mk (O2.out.trans ho)
  have R3 := Aside0.mk (ho.row R2.out (by decide) (by decide))
  clear hk hb ho c1 c2 c3 c4 c5 c6
  go_wp2_with fail
  go_end0
  have e : xs ++ encC x = xs ++ encI x.f0 ++ encQ x.f1 := by
    unfold encC
    simp only [List.append_assoc]
  rw [e, HW1.out]
  exact ⟨rfl, K3.out, B3.out, O3.out⟩
theorem put_record (key : Int) (most br : Nat) (ys : List Int) (W : World) (hm : most ≤ 1000000000)
    (hF : ∀ g W', WrAt g W.heap.size [key] W' → Below W.heap.size W W' → Calls Try.prog 78 #[ptr g, ptr br] W' fun e w' => e = .returned (.tuple #[]) ∧ WrAt g W.heap.size ([key] ++ ys) w' ∧ Below W.heap.size W' w' ∧ Others W' w') :
    Calls Try.prog 50 #[.int .u8 key, .int .i64 (most : Int), .func (.func 78) #[] #[ptr br]] W fun e w' => ∃ v, e = .returned (.tuple #[v, .int .i64 (putCode most (key :: ys))]) ∧ (Kd.int .u8).R 5 w' W.heap.size (fun _ => True) v (putOut most (key :: ys)) ∧ Below W.heap.size W w' := by
  have HF := Aside0.mk hF
  have HM := Aside0.mk hm
  clear hF hm
  go_enter Try.func50, Try.ntmps50
  go_upto_region 2 with fail
  have ha1 : (W.alloc (.cells #[.int .u8 key] 5)).heap[W.heap.size]? = some (.cells #[.int .u8 key] 5 (0, 0)) := heap_alloc_new W _
  have hs1 : (W.alloc (.cells #[.int .u8 key] 5)).heap.size = W.heap.size + 1 := by simp
  have hb1 : Below W.heap.size W (W.alloc (.cells #[.int .u8 key] 5)) := below_alloc (Below.refl _ _) _
  obtain ⟨B, hB⟩ : ∃ B, W.heap.size = B := ⟨_, rfl⟩
  have HB := Aside0.mk hB
  rw [hB] at ha1 hs1 hb1 ⊢
  generalize W.alloc (.cells #[.int .u8 key] 5) = wx at *
  have hr2 : Rt 146 wx.heap.size [.slice (some ⟨B, 0, none⟩) 1 1] (wx.alloc (.cells #[.slice (some ⟨B, 0, none⟩) 1 1] 146)) := heap_alloc_new wx _
  have hb2 : Below wx.heap.size wx (wx.alloc (.cells #[.slice (some ⟨B, 0, none⟩) 1 1] 146)) := below_alloc (Below.refl _ _) _
  have hk := key_row (B := B) ((hb2.block B (by omega)).trans ha1) (Nat.le_refl _)
  have K1 := Aside0.mk (show WrAt (B + 1) B [key] (wx.alloc (.cells #[.slice (some ⟨B, 0, none⟩) 1 1] 146)) from ⟨⟨_, by rw [hs1] at hr2; exact hr2, hk⟩, Nat.le_succ _⟩)
  have B1 := Aside0.mk (show Below B W (wx.alloc (.cells #[.slice (some ⟨B, 0, none⟩) 1 1] 146)) from hb1.trans (hb2.mono (by omega)))
  clear ha1 hs1 hb1 hr2 hb2 hk hB
  generalize wx.alloc (.cells #[.slice (some ⟨B, 0, none⟩) 1 1] 146) = w1 at *
  obtain ⟨g, hg⟩ : ∃ g, B + 1 = g := ⟨_, rfl⟩
  have k1 := K1.out
  rw [hg] at k1 ⊢
  have K1 := Aside0.mk k1
  have HFN := HF.out g w1 (by rw [HB.out]; exact K1.out) (by rw [HB.out]; exact B1.out)
  rw [HB.out] at HFN
  have HFN := Aside0.mk HFN
  clear k1 hg HF
  go_wp2_with fail
  go_at_call 78
  refine HFN.out.mono ?_
  rintro e w2 ⟨rfl, hk, hb, ho⟩
  obtain ⟨ys2, hys⟩ : ∃ ys2, [key] ++ ys = ys2 := ⟨_, rfl⟩
  rw [hys] at hk
  have HYS := Aside0.mk (show key :: ys = ys2 from hys)
  obtain ⟨v, hr, hR⟩ := hk.ex
  have B2 := Aside0.mk (B1.out.trans hb)
  obtain ⟨Av, cv, rfl⟩ := Kd.R_slice hR
  obtain ⟨m, hm2⟩ : ∃ m, ys2.length = m := ⟨_, rfl⟩
  have HRR := Aside0.mk hR
  have HM2 := Aside0.mk hm2
  rw [hm2] at hr
  have c0 := hr.cell 0 _ rfl
  clear hk hb ho hr hR hm2 hys HFN K1 B1
  by_cases hmo : most < m
  · have d1 : decide ((most : Int) < (m : Int)) = true := decide_eq_true (by omega)
    have d2 : decide (most < m) = true := decide_eq_true hmo
    have HMO := Aside0.mk hmo
    clear hmo
    go_wp2_with fail
    go_ret2
    rw [HYS.out, HB.out]
    refine ⟨.slice none 0 0, ?_, ?_, B2.out⟩
    · unfold putCode
      rw [HM2.out, if_pos HMO.out]
      rfl
    · unfold putOut
      rw [HM2.out, if_pos HMO.out]
      exact Kd.R_nil _ _ _ _ _
  · have d1 : decide ((most : Int) < (m : Int)) = false := decide_eq_false (by omega)
    have d2 : decide (most < m) = false := decide_eq_false hmo
    have HMO := Aside0.mk hmo
    clear hmo
    go_wp2_with fail
    go_ret2
    rw [HYS.out, HB.out]
    refine ⟨.slice Av m cv, ?_, ?_, B2.out⟩
    · unfold putCode
      rw [HM2.out, if_neg HMO.out]
      rfl
    · unfold putOut
      rw [HM2.out, if_neg HMO.out, ← HM2.out]
      exact HRR.out
theorem PutRecord_at (x : RecD) (W : World) (Al : Option Addr) (cl : Nat) (hCl : Kd.C k110 W Al x.f1.f2.length x.f1.f2) (h0 : Int64 x.f0) (h1 : ReqOk x.f1) (hl : bulkC x + 3000 < 140737488355328) :
    Calls Try.prog 27 #[.agg #[.int .i64 x.f0, .string x.f1.f0, .int .i64 x.f1.f1, .slice Al x.f1.f2.length cl, .string x.f1.f3, .int .i64 x.f1.f4, .int .i64 x.f1.f5]] W fun e w' => ∃ v, e = .returned (.tuple #[v, .int .i64 (putCode 4096 (83 :: encC x))]) ∧ (Kd.int .u8).R 5 w' W.heap.size (fun _ => True) v (putOut 4096 (83 :: encC x)) ∧ Below W.heap.size W w' := by
  have HL := Aside0.mk hl
  have HCl := Aside0.mk hCl
  have H0 := Aside0.mk h0
  have H1 := Aside0.mk h1
  have hr1 : Rt 49 W.heap.size [.int .i64 x.f0, .string x.f1.f0, .int .i64 x.f1.f1, .slice Al x.f1.f2.length cl, .string x.f1.f3, .int .i64 x.f1.f4, .int .i64 x.f1.f5] (W.alloc (.cells #[.int .i64 x.f0, .string x.f1.f0, .int .i64 x.f1.f1, .slice Al x.f1.f2.length cl, .string x.f1.f3, .int .i64 x.f1.f4, .int .i64 x.f1.f5] 49)) := heap_alloc_new W _
  have hb1 : Below W.heap.size W (W.alloc (.cells #[.int .i64 x.f0, .string x.f1.f0, .int .i64 x.f1.f1, .slice Al x.f1.f2.length cl, .string x.f1.f3, .int .i64 x.f1.f4, .int .i64 x.f1.f5] 49)) := below_alloc (Below.refl _ _) _
  have hmf : ∀ (fn : Fn) (first cap : Array Value) (w : World), (Instr.makeFunc fn first cap).run Try.prog w = .ok (.func fn first cap) w := fun _ _ _ _ => rfl
  clear hl hCl h0 h1
  go_enter Try.func27, Try.ntmps27
  go_upto_region 1 with fail
  obtain ⟨b, hb⟩ : ∃ b, W.heap.size = b := ⟨_, rfl⟩
  have HB := Aside0.mk hb1
  have HBE := Aside0.mk hb
  rw [hb] at hr1 ⊢
  have HR := Aside0.mk hr1
  clear hr1 hb1 hb
  generalize W.alloc (.cells #[.int .i64 x.f0, .string x.f1.f0, .int .i64 x.f1.f1, .slice Al x.f1.f2.length cl, .string x.f1.f3, .int .i64 x.f1.f4, .int .i64 x.f1.f5] 49) = w1 at *
  have HPUT := Aside0.mk (put_record 83 4096 b (encC x) w1 (by decide) (fun g W' hk hb => w_record hk (HB.out.trans (hb.mono HB.out.size)) HB.out.size x Al cl HCl.out H0.out H1.out (HR.out.below hb) (by have := HL.out; simp only [List.length_singleton]; omega)))
  go_wp2_with fail
  go_at_call 50
  refine HPUT.out.mono ?_
  rintro e w2 ⟨v, rfl, hR, hb⟩
  have HRR := Aside0.mk (show (Kd.int .u8).R 5 w2 W.heap.size (fun _ => True) v (putOut 4096 (83 :: encC x)) from Kd.R_lower hR HB.out.size)
  have HBB := Aside0.mk (HB.out.trans (hb.mono HB.out.size))
  obtain ⟨Av, cv, ev⟩ := Kd.R_slice hR
  obtain ⟨m, hm⟩ : ∃ m, (putOut 4096 (83 :: encC x)).length = m := ⟨_, rfl⟩
  rw [hm] at ev
  subst ev
  clear hR hb hm hmf HPUT
  go_wp2_with fail
  go_ret2
  rw [HBE.out] at *
  exact ⟨_, rfl, HRR.out, HBB.out⟩
end Go.Proofs.Ytafmoglaockepaa.Cd
end
section
namespace Go.Proofs.Ytafmoglaockepaa.Cd
open Go Go.RowKit Go.Proofs.Ytafmoglaockepaa.Num Go.Proofs.Ytafmoglaockepaa.PG Go.Proofs.YtafmoglaockepaaW.PrintWords Go.Proofs.YtafmoglaockepaaW.PrintLast Go.Proofs.YtafmoglaockepaaW.PrintMore
set_option linter.unusedVariables false
set_option linter.unusedSimpArgs false
set_option maxHeartbeats 4000000
set_option maxRecDepth 100000
def pHeld (xs : List Int) (most : Nat) (m : Nat) : Res S121 :=
  (pT xs most m).bind fun t m => (pList xs most (pLine xs most) m).bind fun l m => (pI xs m).bind fun a m => .ok ⟨t, l, a⟩ m
def memHeld (S : Nat) (x : S121) (v : Value) (w : World) : Prop := ∃ Al nl cl, v = .agg #[.string x.f0, .slice Al nl cl, .int .i64 x.f2] ∧ LN S x.f1 (.slice Al nl cl) w
theorem r_held {g B gb : Nat} {A : Option Addr} {n c : Nat} {xs : List Int} {m most : Nat} {W : World} (k : CrAt g B A n c xs m most W) (hbx : Rt 101 gb [ptr g] W) :
    Calls Try.prog 92 #[ptr gb] W fun e w' => Below B W w' ∧ Kept W w' (fun j => j = g) ∧ OutR g B A n c xs most (memHeld W.heap.size) (pHeld xs most m) e w' := by
  have HK := Aside0.mk k
  have HBX := Aside0.mk hbx
  have HNE := Aside0.mk (show gb ≠ g from fun e => by
    have h2 := hbx
    rw [e] at h2
    have := blk_types h2 k.row
    omega)
  clear k hbx
  go_enter Try.func92, Try.ntmps92
  go_upto_region 1 with fail
  have hr1 : Rt 121 W.heap.size [.string ⟨#[]⟩, .slice none 0 0, .int .i64 0] (W.alloc (.cells #[.string ⟨#[]⟩, .slice none 0 0, .int .i64 0] 121)) := heap_alloc_new W _
  have hb1 : Below W.heap.size W (W.alloc (.cells #[.string ⟨#[]⟩, .slice none 0 0, .int .i64 0] 121)) := below_alloc (Below.refl _ _) _
  obtain ⟨b, hbe⟩ : ∃ b, W.heap.size = b := ⟨_, rfl⟩
  have K1 := Aside0.mk (HK.out.below hb1)
  have X1 := Aside0.mk (HBX.out.below hb1)
  have B1 := Aside0.mk (hb1.mono HK.out.size)
  have P1 := Aside0.mk (Kept.of_below hb1 (fun j => j = g))
  have HBE := Aside0.mk (show W.heap.size ≤ b by omega)
  have HLT := Aside0.mk (show g < b ∧ B ≤ b ∧ gb < b by have := HK.out.row.lt; have := HK.out.size; have := HBX.out.lt; omega)
  rw [hbe] at hr1
  rw [hbe]
  have R1 := Aside0.mk hr1
  clear hr1 hb1 hbe
  generalize W.alloc (.cells #[.string ⟨#[]⟩, .slice none 0 0, .int .i64 0] 121) = w1 at *
  have cx := X1.out.cell 0 _ rfl
  have cr0 := R1.out.cell 0 _ rfl
  have fr0 := R1.out.free 0
  go_wp2_with fail
  go_at_call 61
  refine (r_text K1.out).mono ?_
  rintro e w2 ⟨hb, hp, ho⟩
  have hbt := B1.out.trans hb
  have hpt := P1.out.then_ hp (fun _ h => .inl h)
  rcases hq : pT xs most m with ⟨t, m1⟩ | ⟨er, p⟩
  rotate_left
  · rw [hq] at ho
    have ho : e = gaveUp er p := ho
    subst ho
    refine ⟨rfl, hbt, hpt, ?_⟩
    have e9 : pHeld xs most m = Res.fail er p := by
      unfold pHeld
      simp only [Res.bind, hq]
    rw [e9]
    rfl
  rw [hq] at ho
  obtain ⟨he, hk⟩ : e = .returned (.string t) ∧ CrAt g B A n c xs m1 most w2 := ho
  subst he
  have HQ0 := Aside0.mk hq
  have K2 := Aside0.mk hk
  have B2 := Aside0.mk hbt
  have P2 := Aside0.mk hpt
  have R2 := Aside0.mk (show Rt 121 b [.string ⟨#[]⟩, .slice none 0 0, .int .i64 0] w2 from (hp.2 b R1.out.lt (by have := HLT.out; show b ≠ g; omega)).trans R1.out)
  have X2 := Aside0.mk (show Rt 101 gb [ptr g] w2 from (hp.2 gb X1.out.lt HNE.out).trans X1.out)
  clear hb hp hbt hpt hq hk cr0 fr0
  try clear ho
  clear cx
  have cr0 := R2.out.cell 0 _ rfl
  have fr0 := R2.out.free 0
  go_upto_region 2 with fail
  have e1 := R2.out.set 0 (.string t)
  rw [e1]
  clear e1 cr0 fr0
  have hl : [Value.string ⟨#[]⟩, .slice none 0 0, .int .i64 0].set 0 (.string t) = [Value.string t, .slice none 0 0, .int .i64 0] := rfl
  rw [hl]
  clear hl
  have K3 := Aside0.mk (show CrAt g B A n c xs m1 most (w2.setRow b [Value.string t, .slice none 0 0, .int .i64 0].toArray) from K2.out.aside (below_setRow' (Below.refl _ _) HLT.out.2.1 _) (setRow_other _ _ _ _ (by have := HLT.out; omega)))
  have B3 := Aside0.mk (show Below B W (w2.setRow b [Value.string t, .slice none 0 0, .int .i64 0].toArray) from below_setRow' B2.out HLT.out.2.1 _)
  have P3 := Aside0.mk (show Kept W (w2.setRow b [Value.string t, .slice none 0 0, .int .i64 0].toArray) (fun j => j = g) from ⟨by rw [setRow_size]; exact P2.out.1, fun j hj hn => (setRow_other _ _ _ _ (by have := HBE.out; omega)).trans (P2.out.2 j hj hn)⟩)
  have R3 := Aside0.mk (show Rt 121 b [Value.string t, .slice none 0 0, .int .i64 0] (w2.setRow b [Value.string t, .slice none 0 0, .int .i64 0].toArray) from R2.out.row _)
  have X3 := Aside0.mk (show Rt 101 gb [ptr g] (w2.setRow b [Value.string t, .slice none 0 0, .int .i64 0].toArray) from (setRow_other _ _ _ _ (by have := HLT.out; omega)).trans X2.out)
  generalize w2.setRow b [Value.string t, .slice none 0 0, .int .i64 0].toArray = w3 at *
  have cx := X3.out.cell 0 _ rfl
  have cr1 := R3.out.cell 1 _ rfl
  have fr1 := R3.out.free 1
  go_wp2_with fail
  go_at_call 93
  refine (r_lines K3.out).mono ?_
  rintro e w4 ⟨hb, hp, ho⟩
  have hbt := B3.out.trans hb
  have hpt := P3.out.then_ hp (fun _ h => .inl h)
  rcases hq : pList xs most (pLine xs most) m1 with ⟨l, m2⟩ | ⟨er, p⟩
  rotate_left
  · rw [hq] at ho
    have ho : e = gaveUp er p := ho
    subst ho
    refine ⟨rfl, hbt, hpt, ?_⟩
    have e9 : pHeld xs most m = Res.fail er p := by
      unfold pHeld
      simp only [Res.bind, HQ0.out, hq]
    rw [e9]
    rfl
  rw [hq] at ho
  obtain ⟨v, he, hE, hk⟩ : ∃ v, e = .returned v ∧ LN w3.heap.size l v w4 ∧ CrAt g B A n c xs m2 most w4 := ho
  obtain ⟨Al, nl, cl, ev⟩ := LN_slice hE
  subst ev
  have Ll_4 := Aside0.mk (show LN (b + 1) l (.slice Al nl cl) w4 from LN_alive.lower hE R3.out.lt)
  clear hE
  subst he
  have HQ1 := Aside0.mk hq
  have K4 := Aside0.mk hk
  have B4 := Aside0.mk hbt
  have P4 := Aside0.mk hpt
  have R4 := Aside0.mk (show Rt 121 b [.string t, .slice none 0 0, .int .i64 0] w4 from (hp.2 b R3.out.lt (by have := HLT.out; show b ≠ g; omega)).trans R3.out)
  have X4 := Aside0.mk (show Rt 101 gb [ptr g] w4 from (hp.2 gb X3.out.lt HNE.out).trans X3.out)
  clear hb hp hbt hpt hq hk cr1 fr1
  try clear ho
  clear cx
  have cr1 := R4.out.cell 1 _ rfl
  have fr1 := R4.out.free 1
  go_upto_region 3 with fail
  have e1 := R4.out.set 1 (.slice Al nl cl)
  rw [e1]
  clear e1 cr1 fr1
  have hl : [Value.string t, .slice none 0 0, .int .i64 0].set 1 (.slice Al nl cl) = [Value.string t, .slice Al nl cl, .int .i64 0] := rfl
  rw [hl]
  clear hl
  have K5 := Aside0.mk (show CrAt g B A n c xs m2 most (w4.setRow b [Value.string t, .slice Al nl cl, .int .i64 0].toArray) from K4.out.aside (below_setRow' (Below.refl _ _) HLT.out.2.1 _) (setRow_other _ _ _ _ (by have := HLT.out; omega)))
  have B5 := Aside0.mk (show Below B W (w4.setRow b [Value.string t, .slice Al nl cl, .int .i64 0].toArray) from below_setRow' B4.out HLT.out.2.1 _)
  have P5 := Aside0.mk (show Kept W (w4.setRow b [Value.string t, .slice Al nl cl, .int .i64 0].toArray) (fun j => j = g) from ⟨by rw [setRow_size]; exact P4.out.1, fun j hj hn => (setRow_other _ _ _ _ (by have := HBE.out; omega)).trans (P4.out.2 j hj hn)⟩)
  have R5 := Aside0.mk (show Rt 121 b [Value.string t, .slice Al nl cl, .int .i64 0] (w4.setRow b [Value.string t, .slice Al nl cl, .int .i64 0].toArray) from R4.out.row _)
  have X5 := Aside0.mk (show Rt 101 gb [ptr g] (w4.setRow b [Value.string t, .slice Al nl cl, .int .i64 0].toArray) from (setRow_other _ _ _ _ (by have := HLT.out; omega)).trans X4.out)
  have Ll_5 := Aside0.mk (LN_alive.row Ll_4.out (Nat.lt_succ_self b) [Value.string t, .slice Al nl cl, .int .i64 0].toArray)
  generalize w4.setRow b [Value.string t, .slice Al nl cl, .int .i64 0].toArray = w5 at *
  have cx := X5.out.cell 0 _ rfl
  have cr2 := R5.out.cell 2 _ rfl
  have fr2 := R5.out.free 2
  go_wp2_with fail
  go_at_call 62
  refine (r_int K5.out).mono ?_
  rintro e w6 ⟨hb, hp, ho⟩
  have hbt := B5.out.trans hb
  have hpt := P5.out.then_ hp (fun _ h => .inl h)
  rcases hq : pI xs m2 with ⟨a, m3⟩ | ⟨er, p⟩
  rotate_left
  · rw [hq] at ho
    have ho : e = gaveUp er p := ho
    subst ho
    refine ⟨rfl, hbt, hpt, ?_⟩
    have e9 : pHeld xs most m = Res.fail er p := by
      unfold pHeld
      simp only [Res.bind, HQ0.out, HQ1.out, hq]
    rw [e9]
    rfl
  rw [hq] at ho
  obtain ⟨he, hk⟩ : e = .returned (.int .i64 a) ∧ CrAt g B A n c xs m3 most w6 := ho
  subst he
  have HQ2 := Aside0.mk hq
  have K6 := Aside0.mk hk
  have B6 := Aside0.mk hbt
  have P6 := Aside0.mk hpt
  have R6 := Aside0.mk (show Rt 121 b [.string t, .slice Al nl cl, .int .i64 0] w6 from (hp.2 b R5.out.lt (by have := HLT.out; show b ≠ g; omega)).trans R5.out)
  have X6 := Aside0.mk (show Rt 101 gb [ptr g] w6 from (hp.2 gb X5.out.lt HNE.out).trans X5.out)
  have Ll_6 := Aside0.mk (LN_alive.kept Ll_5.out hp (fun j hj e => by have := HLT.out; omega))
  clear hb hp hbt hpt hq hk cr2 fr2
  try clear ho
  clear cx
  have cr2 := R6.out.cell 2 _ rfl
  have fr2 := R6.out.free 2
  go_upto_region 4 with fail
  have e1 := R6.out.set 2 (.int .i64 a)
  rw [e1]
  clear e1 cr2 fr2
  have hl : [Value.string t, .slice Al nl cl, .int .i64 0].set 2 (.int .i64 a) = [Value.string t, .slice Al nl cl, .int .i64 a] := rfl
  rw [hl]
  clear hl
  have K7 := Aside0.mk (show CrAt g B A n c xs m3 most (w6.setRow b [Value.string t, .slice Al nl cl, .int .i64 a].toArray) from K6.out.aside (below_setRow' (Below.refl _ _) HLT.out.2.1 _) (setRow_other _ _ _ _ (by have := HLT.out; omega)))
  have B7 := Aside0.mk (show Below B W (w6.setRow b [Value.string t, .slice Al nl cl, .int .i64 a].toArray) from below_setRow' B6.out HLT.out.2.1 _)
  have P7 := Aside0.mk (show Kept W (w6.setRow b [Value.string t, .slice Al nl cl, .int .i64 a].toArray) (fun j => j = g) from ⟨by rw [setRow_size]; exact P6.out.1, fun j hj hn => (setRow_other _ _ _ _ (by have := HBE.out; omega)).trans (P6.out.2 j hj hn)⟩)
  have R7 := Aside0.mk (show Rt 121 b [Value.string t, .slice Al nl cl, .int .i64 a] (w6.setRow b [Value.string t, .slice Al nl cl, .int .i64 a].toArray) from R6.out.row _)
  have X7 := Aside0.mk (show Rt 101 gb [ptr g] (w6.setRow b [Value.string t, .slice Al nl cl, .int .i64 a].toArray) from (setRow_other _ _ _ _ (by have := HLT.out; omega)).trans X6.out)
  have Ll_7 := Aside0.mk (LN_alive.row Ll_6.out (Nat.lt_succ_self b) [Value.string t, .slice Al nl cl, .int .i64 a].toArray)
  generalize w6.setRow b [Value.string t, .slice Al nl cl, .int .i64 a].toArray = w7 at *
  have c0 := R7.out.cell 0 _ rfl
  have f0 := R7.out.free 0
  have c1 := R7.out.cell 1 _ rfl
  have f1 := R7.out.free 1
  have c2 := R7.out.cell 2 _ rfl
  have f2 := R7.out.free 2
  go_wp2_with fail
  rw [R7.out.same 0 _ rfl, R7.out.same 1 _ rfl, R7.out.same 2 _ rfl]
  refine bodyPost_ret (results_cell_row rfl _ _ b 121 _ (0, 0) _ rfl R7.out Try.underlying121 rfl (by kernel_rfl)) rfl ?_
  refine ⟨B7.out, P7.out, ?_⟩
  have e9 : pHeld xs most m = Res.ok ⟨t, l, a⟩ m3 := by
    unfold pHeld
    simp only [Res.bind, HQ0.out, HQ1.out, HQ2.out]
  rw [e9]
  exact ⟨_, rfl, ⟨Al, nl, cl, rfl, LN_alive.lower Ll_7.out (Nat.le_succ_of_le HBE.out)⟩, K7.out⟩
def pDone (xs : List Int) (most : Nat) (m : Nat) : Res S123 :=
  (pReq xs most m).bind fun q m => (pI xs m).bind fun a m => .ok ⟨q, a⟩ m
def memDone (S : Nat) (x : S123) (v : Value) (w : World) : Prop := ∃ Aq nq cq, v = .agg #[.string x.f0.f0, .int .i64 x.f0.f1, .slice Aq nq cq, .string x.f0.f3, .int .i64 x.f0.f4, .int .i64 x.f0.f5, .int .i64 x.f1] ∧ LN S x.f0.f2 (.slice Aq nq cq) w
theorem r_done {g B gb : Nat} {A : Option Addr} {n c : Nat} {xs : List Int} {m most : Nat} {W : World} (k : CrAt g B A n c xs m most W) (hbx : Rt 101 gb [ptr g] W) :
    Calls Try.prog 95 #[ptr gb] W fun e w' => Below B W w' ∧ Kept W w' (fun j => j = g) ∧ OutR g B A n c xs most (memDone W.heap.size) (pDone xs most m) e w' := by
  have HK := Aside0.mk k
  have HBX := Aside0.mk hbx
  have HNE := Aside0.mk (show gb ≠ g from fun e => by
    have h2 := hbx
    rw [e] at h2
    have := blk_types h2 k.row
    omega)
  clear k hbx
  go_enter Try.func95, Try.ntmps95
  go_upto_region 1 with fail
  have hr1 : Rt 123 W.heap.size [.string ⟨#[]⟩, .int .i64 0, .slice none 0 0, .string ⟨#[]⟩, .int .i64 0, .int .i64 0, .int .i64 0] (W.alloc (.cells #[.string ⟨#[]⟩, .int .i64 0, .slice none 0 0, .string ⟨#[]⟩, .int .i64 0, .int .i64 0, .int .i64 0] 123)) := heap_alloc_new W _
  have hb1 : Below W.heap.size W (W.alloc (.cells #[.string ⟨#[]⟩, .int .i64 0, .slice none 0 0, .string ⟨#[]⟩, .int .i64 0, .int .i64 0, .int .i64 0] 123)) := below_alloc (Below.refl _ _) _
  obtain ⟨b, hbe⟩ : ∃ b, W.heap.size = b := ⟨_, rfl⟩
  have K1 := Aside0.mk (HK.out.below hb1)
  have X1 := Aside0.mk (HBX.out.below hb1)
  have B1 := Aside0.mk (hb1.mono HK.out.size)
  have P1 := Aside0.mk (Kept.of_below hb1 (fun j => j = g))
  have HBE := Aside0.mk (show W.heap.size ≤ b by omega)
  have HLT := Aside0.mk (show g < b ∧ B ≤ b ∧ gb < b by have := HK.out.row.lt; have := HK.out.size; have := HBX.out.lt; omega)
  rw [hbe] at hr1
  rw [hbe]
  have R1 := Aside0.mk hr1
  clear hr1 hb1 hbe
  generalize W.alloc (.cells #[.string ⟨#[]⟩, .int .i64 0, .slice none 0 0, .string ⟨#[]⟩, .int .i64 0, .int .i64 0, .int .i64 0] 123) = w1 at *
  have cx := X1.out.cell 0 _ rfl
  have cr0 := R1.out.cell 0 _ rfl
  have fr0 := R1.out.free 0
  have cr1 := R1.out.cell 1 _ rfl
  have fr1 := R1.out.free 1
  have cr2 := R1.out.cell 2 _ rfl
  have fr2 := R1.out.free 2
  have cr3 := R1.out.cell 3 _ rfl
  have fr3 := R1.out.free 3
  have cr4 := R1.out.cell 4 _ rfl
  have fr4 := R1.out.free 4
  have cr5 := R1.out.cell 5 _ rfl
  have fr5 := R1.out.free 5
  go_wp2_with fail
  go_at_call 75
  refine (r_request K1.out).mono ?_
  rintro e w2 ⟨hb, hp, ho⟩
  have hbt := B1.out.trans hb
  have hpt := P1.out.then_ hp (fun _ h => .inl h)
  rcases hq : pReq xs most m with ⟨q, m1⟩ | ⟨er, p⟩
  rotate_left
  · rw [hq] at ho
    have ho : e = gaveUp er p := ho
    subst ho
    refine ⟨rfl, hbt, hpt, ?_⟩
    have e9 : pDone xs most m = Res.fail er p := by
      unfold pDone
      simp only [Res.bind, hq]
    rw [e9]
    rfl
  rw [hq] at ho
  obtain ⟨v, he, hE, hk⟩ : ∃ v, e = .returned v ∧ memReq w1.heap.size q v w2 ∧ CrAt g B A n c xs m1 most w2 := ho
  obtain ⟨Aq, nq, cq, ev, hE⟩ := hE
  subst ev
  have Lq_2 := Aside0.mk (show LN (b + 1) q.f2 (.slice Aq nq cq) w2 from LN_alive.lower hE R1.out.lt)
  clear hE
  subst he
  have HQ0 := Aside0.mk hq
  have K2 := Aside0.mk hk
  have B2 := Aside0.mk hbt
  have P2 := Aside0.mk hpt
  have R2 := Aside0.mk (show Rt 123 b [.string ⟨#[]⟩, .int .i64 0, .slice none 0 0, .string ⟨#[]⟩, .int .i64 0, .int .i64 0, .int .i64 0] w2 from (hp.2 b R1.out.lt (by have := HLT.out; show b ≠ g; omega)).trans R1.out)
  have X2 := Aside0.mk (show Rt 101 gb [ptr g] w2 from (hp.2 gb X1.out.lt HNE.out).trans X1.out)
  clear hb hp hbt hpt hq hk cr0 fr0 cr1 fr1 cr2 fr2 cr3 fr3 cr4 fr4 cr5 fr5
  try clear ho
  clear cx
  have cr0 := R2.out.cell 0 _ rfl
  have fr0 := R2.out.free 0
  have cr1 := R2.out.cell 1 _ rfl
  have fr1 := R2.out.free 1
  have cr2 := R2.out.cell 2 _ rfl
  have fr2 := R2.out.free 2
  have cr3 := R2.out.cell 3 _ rfl
  have fr3 := R2.out.free 3
  have cr4 := R2.out.cell 4 _ rfl
  have fr4 := R2.out.free 4
  have cr5 := R2.out.cell 5 _ rfl
  have fr5 := R2.out.free 5
  go_upto_region 2 with fail
  have e1 := R2.out.fill6 0 (.string q.f0) (.int .i64 q.f1) (.slice Aq nq cq) (.string q.f3) (.int .i64 q.f4) (.int .i64 q.f5)
  have e2 := R2.out
  simp only [Nat.reduceAdd, List.set_cons_zero, List.set_cons_succ] at e1
  rw [e1]
  clear e1 e2 cr0 fr0 cr1 fr1 cr2 fr2 cr3 fr3 cr4 fr4 cr5 fr5
  have K3 := Aside0.mk (show CrAt g B A n c xs m1 most (w2.setRow b [Value.string q.f0, .int .i64 q.f1, .slice Aq nq cq, .string q.f3, .int .i64 q.f4, .int .i64 q.f5, .int .i64 0].toArray) from K2.out.aside (below_setRow' (Below.refl _ _) HLT.out.2.1 _) (setRow_other _ _ _ _ (by have := HLT.out; omega)))
  have B3 := Aside0.mk (show Below B W (w2.setRow b [Value.string q.f0, .int .i64 q.f1, .slice Aq nq cq, .string q.f3, .int .i64 q.f4, .int .i64 q.f5, .int .i64 0].toArray) from below_setRow' B2.out HLT.out.2.1 _)
  have P3 := Aside0.mk (show Kept W (w2.setRow b [Value.string q.f0, .int .i64 q.f1, .slice Aq nq cq, .string q.f3, .int .i64 q.f4, .int .i64 q.f5, .int .i64 0].toArray) (fun j => j = g) from ⟨by rw [setRow_size]; exact P2.out.1, fun j hj hn => (setRow_other _ _ _ _ (by have := HBE.out; omega)).trans (P2.out.2 j hj hn)⟩)
  have R3 := Aside0.mk (show Rt 123 b [Value.string q.f0, .int .i64 q.f1, .slice Aq nq cq, .string q.f3, .int .i64 q.f4, .int .i64 q.f5, .int .i64 0] (w2.setRow b [Value.string q.f0, .int .i64 q.f1, .slice Aq nq cq, .string q.f3, .int .i64 q.f4, .int .i64 q.f5, .int .i64 0].toArray) from R2.out.row _)
  have X3 := Aside0.mk (show Rt 101 gb [ptr g] (w2.setRow b [Value.string q.f0, .int .i64 q.f1, .slice Aq nq cq, .string q.f3, .int .i64 q.f4, .int .i64 q.f5, .int .i64 0].toArray) from (setRow_other _ _ _ _ (by have := HLT.out; omega)).trans X2.out)
  have Lq_3 := Aside0.mk (LN_alive.row Lq_2.out (Nat.lt_succ_self b) [Value.string q.f0, .int .i64 q.f1, .slice Aq nq cq, .string q.f3, .int .i64 q.f4, .int .i64 q.f5, .int .i64 0].toArray)
  generalize w2.setRow b [Value.string q.f0, .int .i64 q.f1, .slice Aq nq cq, .string q.f3, .int .i64 q.f4, .int .i64 q.f5, .int .i64 0].toArray = w3 at *
  have cx := X3.out.cell 0 _ rfl
  have cr6 := R3.out.cell 6 _ rfl
  have fr6 := R3.out.free 6
  go_wp2_with fail
  go_at_call 62
  refine (r_int K3.out).mono ?_
  rintro e w4 ⟨hb, hp, ho⟩
  have hbt := B3.out.trans hb
  have hpt := P3.out.then_ hp (fun _ h => .inl h)
  rcases hq : pI xs m1 with ⟨a, m2⟩ | ⟨er, p⟩
  rotate_left
  · rw [hq] at ho
    have ho : e = gaveUp er p := ho
    subst ho
    refine ⟨rfl, hbt, hpt, ?_⟩
    have e9 : pDone xs most m = Res.fail er p := by
      unfold pDone
      simp only [Res.bind, HQ0.out, hq]
    rw [e9]
    rfl
  rw [hq] at ho
  obtain ⟨he, hk⟩ : e = .returned (.int .i64 a) ∧ CrAt g B A n c xs m2 most w4 := ho
  subst he
  have HQ1 := Aside0.mk hq
  have K4 := Aside0.mk hk
  have B4 := Aside0.mk hbt
  have P4 := Aside0.mk hpt
  have R4 := Aside0.mk (show Rt 123 b [.string q.f0, .int .i64 q.f1, .slice Aq nq cq, .string q.f3, .int .i64 q.f4, .int .i64 q.f5, .int .i64 0] w4 from (hp.2 b R3.out.lt (by have := HLT.out; show b ≠ g; omega)).trans R3.out)
  have X4 := Aside0.mk (show Rt 101 gb [ptr g] w4 from (hp.2 gb X3.out.lt HNE.out).trans X3.out)
  have Lq_4 := Aside0.mk (LN_alive.kept Lq_3.out hp (fun j hj e => by have := HLT.out; omega))
  clear hb hp hbt hpt hq hk cr6 fr6
  try clear ho
  clear cx
  have cr6 := R4.out.cell 6 _ rfl
  have fr6 := R4.out.free 6
  go_upto_region 3 with fail
  have e1 := R4.out.set 6 (.int .i64 a)
  rw [e1]
  clear e1 cr6 fr6
  have hl : [Value.string q.f0, .int .i64 q.f1, .slice Aq nq cq, .string q.f3, .int .i64 q.f4, .int .i64 q.f5, .int .i64 0].set 6 (.int .i64 a) = [Value.string q.f0, .int .i64 q.f1, .slice Aq nq cq, .string q.f3, .int .i64 q.f4, .int .i64 q.f5, .int .i64 a] := rfl
  rw [hl]
  clear hl
  have K5 := Aside0.mk (show CrAt g B A n c xs m2 most (w4.setRow b [Value.string q.f0, .int .i64 q.f1, .slice Aq nq cq, .string q.f3, .int .i64 q.f4, .int .i64 q.f5, .int .i64 a].toArray) from K4.out.aside (below_setRow' (Below.refl _ _) HLT.out.2.1 _) (setRow_other _ _ _ _ (by have := HLT.out; omega)))
  have B5 := Aside0.mk (show Below B W (w4.setRow b [Value.string q.f0, .int .i64 q.f1, .slice Aq nq cq, .string q.f3, .int .i64 q.f4, .int .i64 q.f5, .int .i64 a].toArray) from below_setRow' B4.out HLT.out.2.1 _)
  have P5 := Aside0.mk (show Kept W (w4.setRow b [Value.string q.f0, .int .i64 q.f1, .slice Aq nq cq, .string q.f3, .int .i64 q.f4, .int .i64 q.f5, .int .i64 a].toArray) (fun j => j = g) from ⟨by rw [setRow_size]; exact P4.out.1, fun j hj hn => (setRow_other _ _ _ _ (by have := HBE.out; omega)).trans (P4.out.2 j hj hn)⟩)
  have R5 := Aside0.mk (show Rt 123 b [Value.string q.f0, .int .i64 q.f1, .slice Aq nq cq, .string q.f3, .int .i64 q.f4, .int .i64 q.f5, .int .i64 a] (w4.setRow b [Value.string q.f0, .int .i64 q.f1, .slice Aq nq cq, .string q.f3, .int .i64 q.f4, .int .i64 q.f5, .int .i64 a].toArray) from R4.out.row _)
  have X5 := Aside0.mk (show Rt 101 gb [ptr g] (w4.setRow b [Value.string q.f0, .int .i64 q.f1, .slice Aq nq cq, .string q.f3, .int .i64 q.f4, .int .i64 q.f5, .int .i64 a].toArray) from (setRow_other _ _ _ _ (by have := HLT.out; omega)).trans X4.out)
  have Lq_5 := Aside0.mk (LN_alive.row Lq_4.out (Nat.lt_succ_self b) [Value.string q.f0, .int .i64 q.f1, .slice Aq nq cq, .string q.f3, .int .i64 q.f4, .int .i64 q.f5, .int .i64 a].toArray)
  generalize w4.setRow b [Value.string q.f0, .int .i64 q.f1, .slice Aq nq cq, .string q.f3, .int .i64 q.f4, .int .i64 q.f5, .int .i64 a].toArray = w5 at *
  have c0 := R5.out.cell 0 _ rfl
  have f0 := R5.out.free 0
  have c1 := R5.out.cell 1 _ rfl
  have f1 := R5.out.free 1
  have c2 := R5.out.cell 2 _ rfl
  have f2 := R5.out.free 2
  have c3 := R5.out.cell 3 _ rfl
  have f3 := R5.out.free 3
  have c4 := R5.out.cell 4 _ rfl
  have f4 := R5.out.free 4
  have c5 := R5.out.cell 5 _ rfl
  have f5 := R5.out.free 5
  have c6 := R5.out.cell 6 _ rfl
  have f6 := R5.out.free 6
  go_wp2_with fail
  rw [R5.out.same 0 _ rfl, R5.out.same 1 _ rfl, R5.out.same 2 _ rfl, R5.out.same 3 _ rfl, R5.out.same 4 _ rfl, R5.out.same 5 _ rfl, R5.out.same 6 _ rfl]
  refine bodyPost_ret (results_cell_row rfl _ _ b 123 _ (0, 0) _ rfl R5.out Try.underlying123 rfl (by kernel_rfl)) rfl ?_
  refine ⟨B5.out, P5.out, ?_⟩
  have e9 : pDone xs most m = Res.ok ⟨q, a⟩ m2 := by
    unfold pDone
    simp only [Res.bind, HQ0.out, HQ1.out]
  rw [e9]
  exact ⟨_, rfl, ⟨Aq, nq, cq, rfl, LN_alive.lower Lq_5.out (Nat.le_succ_of_le HBE.out)⟩, K5.out⟩
end Go.Proofs.Ytafmoglaockepaa.Cd
end
