/- What the codec writes and reads: texts of this session joined, with what is not needed left out. -/
import Derived.Test.YtafmoglaockepaaFo2
import Derived.Test.YtafmoglaockepaaFo5
import Derived.Deep.RegionHeld3
import Derived.Deep.RegionLaw
import Derived.Test.YtafmoglaockepaaFo4
import Derived.Test.YtafmoglaockepaaFo3
import Derived.Laws.BitsAllLaws
import Derived.Test.YtafmoglaockepaaRows
import Derived.WalkKit
import Derived.ProofKit
import Derived.OpenShut
import Derived.SizedLaws
import Derived.Deep.Slices
import Derived.Deep.Strs
import Derived.ChangeSame
import Derived.Lib.SmallJoins
section
namespace Go.Proofs.Ytafmoglaockepaa.Cd
open Go Go.RowKit Go.Proofs.Ytafmoglaockepaa.Num Go.Proofs.Ytafmoglaockepaa.PG Go.Proofs.YtafmoglaockepaaW.PrintWords Go.Proofs.YtafmoglaockepaaW.PrintLast Go.Proofs.YtafmoglaockepaaW.PrintMore
set_option linter.unusedVariables false
set_option linter.unusedSimpArgs false
set_option maxHeartbeats 4000000
set_option maxRecDepth 100000
def zeroD_req : S40 := ⟨⟨#[]⟩, 0, [], ⟨#[]⟩, 0, 0⟩
theorem enc_out_req {S0 : Nat} {r : Res S40} {v : Value} {w : World} (h : RdOut memReq zero_req S0 r v w) : memReq S0 (outOr zeroD_req r) v w := by
  cases r with
  | ok x n => exact h
  | fail e p =>
    have h : v = .agg zero_req.toArray := h
    subst h
    exact ⟨none, 0, 0, rfl, Kd.R_nil _ _ _ _ _⟩
theorem Rt.full_req {t b : Nat} {z0 z1 z2 z3 z4 z5 : Value} {W : World} (h : Rt t b [z0, z1, z2, z3, z4, z5] W) (a0 a1 a2 a3 a4 a5 : Value) :
    ((((((W.setCell ⟨b, 0, none⟩ a0).setCell ⟨b, 1, none⟩ a1).setCell ⟨b, 2, none⟩ a2).setCell ⟨b, 3, none⟩ a3).setCell ⟨b, 4, none⟩ a4).setCell ⟨b, 5, none⟩ a5) = W.setRow b [a0, a1, a2, a3, a4, a5].toArray := by
  rw [h.set 0 a0]
  have h0 : Rt t b [a0, z1, z2, z3, z4, z5] (W.setRow b ([z0, z1, z2, z3, z4, z5].set 0 a0).toArray) := h.row _
  rw [h0.set 1 a1, setRow_again]
  have h1 : Rt t b [a0, a1, z2, z3, z4, z5] (W.setRow b ([a0, z1, z2, z3, z4, z5].set 1 a1).toArray) := h.row _
  rw [h1.set 2 a2, setRow_again]
  have h2 : Rt t b [a0, a1, a2, z3, z4, z5] (W.setRow b ([a0, a1, z2, z3, z4, z5].set 2 a2).toArray) := h.row _
  rw [h2.set 3 a3, setRow_again]
  have h3 : Rt t b [a0, a1, a2, a3, z4, z5] (W.setRow b ([a0, a1, a2, z3, z4, z5].set 3 a3).toArray) := h.row _
  rw [h3.set 4 a4, setRow_again]
  have h4 : Rt t b [a0, a1, a2, a3, a4, z5] (W.setRow b ([a0, a1, a2, a3, z4, z5].set 4 a4).toArray) := h.row _
  rw [h4.set 5 a5, setRow_again]
  rfl
theorem Request_at (A : Option Addr) (n c : Nat) (xs : List Int) (W : World) (hC : Kd.C (Kd.int .u8) W A n xs) (hnc : n ≤ c) (hb : IsBytes xs) (hbig : n < 1000000000) :
    Calls Try.prog 24 #[.slice A n c] W fun e w' => Below W.heap.size W w' ∧ ∃ v, e = .returned (.tuple #[v, .int .i64 (endOf (whole 81 4096 xs (pReq xs 4096))).1, .int .i64 (endOf (whole 81 4096 xs (pReq xs 4096))).2]) ∧ memReq W.heap.size (outOr zeroD_req (whole 81 4096 xs (pReq xs 4096))) v w' := by
  have hb1 : Below W.heap.size W (W.alloc (.cells #[.string ⟨#[]⟩, .int .i64 0, .slice none 0 0, .string ⟨#[]⟩, .int .i64 0, .int .i64 0] 40)) := below_alloc (Below.refl _ _) _
  have r1 : Rt 40 W.heap.size zero_req (W.alloc (.cells #[.string ⟨#[]⟩, .int .i64 0, .slice none 0 0, .string ⟨#[]⟩, .int .i64 0, .int .i64 0] 40)) := heap_alloc_new W _
  have hC1 := Kd.C_below hC hb1
  have HRD := Aside0.mk (read_request A n c xs (W.alloc (.cells #[.string ⟨#[]⟩, .int .i64 0, .slice none 0 0, .string ⟨#[]⟩, .int .i64 0, .int .i64 0] 40)) hC1 hnc hb hbig)
  generalize whole 81 4096 xs (pReq xs 4096) = rr at *
  have B1 := Aside0.mk hb1
  clear hC hC1 hnc hb hbig
  go_enter Try.func24, Try.ntmps24
  go_upto_region 1 with fail
  obtain ⟨b, hbe⟩ : ∃ b, W.heap.size = b := ⟨_, rfl⟩
  have HBE := Aside0.mk hbe
  rw [hbe] at r1 ⊢
  have R1 := Aside0.mk r1
  clear hb1 r1 hbe
  generalize W.alloc (.cells #[.string ⟨#[]⟩, .int .i64 0, .slice none 0 0, .string ⟨#[]⟩, .int .i64 0, .int .i64 0] 40) = w1 at *
  go_wp2_with fail
  go_at_call 74
  refine HRD.out.mono ?_
  rintro e w2 ⟨hb, v, rfl, ho⟩
  obtain ⟨Al, nl, cl, hv, hl⟩ := enc_out_req ho
  subst hv
  obtain ⟨x, hx⟩ : ∃ x, outOr zeroD_req rr = x := ⟨_, rfl⟩
  obtain ⟨ec, hec⟩ : ∃ ec, (endOf rr).1 = ec := ⟨_, rfl⟩
  obtain ⟨ep, hep⟩ : ∃ ep, (endOf rr).2 = ep := ⟨_, rfl⟩
  rw [hx] at hl ⊢
  rw [hec, hep]
  have HX := Aside0.mk (And.intro hx (And.intro hec hep))
  have R2 := Aside0.mk (R1.out.below hb)
  have Ll_2 := Aside0.mk (LN_alive.lower hl R1.out.lt)
  have B2 := Aside0.mk (show Below W.heap.size W w2 from B1.out.trans (hb.mono B1.out.size))
  clear hb ho hl HRD hx hec hep
  have z0 := R2.out.cell 0 _ rfl
  have f0 := R2.out.free 0
  have z1 := R2.out.cell 1 _ rfl
  have f1 := R2.out.free 1
  have z2 := R2.out.cell 2 _ rfl
  have f2 := R2.out.free 2
  have z3 := R2.out.cell 3 _ rfl
  have f3 := R2.out.free 3
  have z4 := R2.out.cell 4 _ rfl
  have f4 := R2.out.free 4
  have z5 := R2.out.cell 5 _ rfl
  have f5 := R2.out.free 5
  go_wp2_with fail
  rw [R2.out.full_req]
  have R3 : Rt 40 b [.string x.f0, .int .i64 x.f1, .slice Al nl cl, .string x.f3, .int .i64 x.f4, .int .i64 x.f5] (w2.setRow b [Value.string x.f0, .int .i64 x.f1, .slice Al nl cl, .string x.f3, .int .i64 x.f4, .int .i64 x.f5].toArray) := R2.out.row _
  have Ll_3 := LN_alive.row Ll_2.out (Nat.lt_succ_self b) [Value.string x.f0, .int .i64 x.f1, .slice Al nl cl, .string x.f3, .int .i64 x.f4, .int .i64 x.f5].toArray
  have B3 : Below W.heap.size W (w2.setRow b [Value.string x.f0, .int .i64 x.f1, .slice Al nl cl, .string x.f3, .int .i64 x.f4, .int .i64 x.f5].toArray) := below_setRow' B2.out (Nat.le_of_eq HBE.out) _
  clear z0 f0 z1 f1 z2 f2 z3 f3 z4 f4 z5 f5
  generalize w2.setRow b [Value.string x.f0, .int .i64 x.f1, .slice Al nl cl, .string x.f3, .int .i64 x.f4, .int .i64 x.f5].toArray = w3 at *
  have x0 := R3.cell 0 _ rfl
  have x1 := R3.cell 1 _ rfl
  have x2 := R3.cell 2 _ rfl
  have x3 := R3.cell 3 _ rfl
  have x4 := R3.cell 4 _ rfl
  have x5 := R3.cell 5 _ rfl
  refine ⟨rfl, ?_⟩
  simp [results, Try.results24, go_sem, x0, x1, x2, x3, x4, x5]
  refine ⟨B3, _, ⟨rfl, HX.out.2.1.symm, HX.out.2.2.symm⟩, ?_⟩
  rw [HX.out.1]
  exact ⟨Al, nl, cl, rfl, LN_alive.lower Ll_3 (by have := HBE.out; omega)⟩
end Go.Proofs.Ytafmoglaockepaa.Cd
end
section
-- Written by a program of this session (wip/pp), out of the translation.
namespace Go.Proofs.Ytafmoglaockepaa.PG
open Go.RowKit Go.Proofs.Ytafmoglaockepaa.Mine Go.Proofs.YtafmoglaockepaaW.PrintWords Go.Proofs.YtafmoglaockepaaW.PrintLast Go.Proofs.YtafmoglaockepaaW.PrintMore
attribute [local go_sem] max2_int min2_int max_two min_two max_three min_three max_four min_four   -- for this text's walks alone
set_option linter.unusedVariables false
set_option linter.unusedSimpArgs false
end Go.Proofs.Ytafmoglaockepaa.PG
end
section
namespace Go.Proofs.Ytafmoglaockepaa.Cd
open Go Go.RowKit Go.Proofs.Ytafmoglaockepaa.Num Go.Proofs.Ytafmoglaockepaa.PG Go.Proofs.YtafmoglaockepaaW.PrintWords Go.Proofs.YtafmoglaockepaaW.PrintLast Go.Proofs.YtafmoglaockepaaW.PrintMore
set_option linter.unusedVariables false
set_option linter.unusedSimpArgs false
set_option maxHeartbeats 4000000
set_option maxRecDepth 100000
theorem sameLines_l0 (l : List S110) (hl : l.length ≤ 9223372036854775807) : ∀ d i k : Nat, d + 1 ≤ k → i + d = l.length → larderref09_SameLines.l0 k l l (i : Int) = some true
  | 0, i, k, hk, h => by
    obtain ⟨k, rfl⟩ : ∃ q, k = q + 1 := ⟨k - 1, by omega⟩
    unfold larderref09_SameLines.l0
    rw [if_neg (by omega)]
  | d + 1, i, k, hk, h => by
    obtain ⟨k, rfl⟩ : ∃ q, k = q + 1 := ⟨k - 1, by omega⟩
    unfold larderref09_SameLines.l0
    rw [if_pos (by omega), if_pos (by omega), if_pos (by omega), w64n (by omega), sameLines_l0 l hl d (i + 1) k (by omega) (by omega)]
    simp
theorem sameLines_ok (l : List S110) (hl : l.length ≤ 9223372036854775807) (k : Nat) (hk : l.length + 1 ≤ k) : larderref09_SameLines.f k l l = some true := by
  unfold larderref09_SameLines.f
  rw [if_pos rfl]
  exact sameLines_l0 l hl l.length 0 k hk (by omega)
theorem sameRequest_ok (q : S40) (hl : q.f2.length ≤ 9223372036854775807) (k : Nat) (hk : q.f2.length + 1 ≤ k) : larderref09_SameRequest.f k q.f0 q.f1 q.f2 q.f3 q.f4 q.f5 q.f0 q.f1 q.f2 q.f3 q.f4 q.f5 = some true := by
  unfold larderref09_SameRequest.f
  rw [if_pos rfl, if_pos rfl, sameLines_ok q.f2 hl k hk, Option.bind_some, if_pos rfl, if_pos rfl, if_pos rfl]
  simp
end Go.Proofs.Ytafmoglaockepaa.Cd
end
section
namespace Go.Proofs.Ytafmoglaockepaa.Cd
open Go Go.RowKit Go.Proofs.Ytafmoglaockepaa.Mine Go.Proofs.Ytafmoglaockepaa.Num Go.Proofs.Ytafmoglaockepaa.PG Go.Proofs.YtafmoglaockepaaW.PrintWords Go.Proofs.YtafmoglaockepaaW.PrintLast Go.Proofs.YtafmoglaockepaaW.PrintMore
set_option linter.unusedVariables false
set_option linter.unusedSimpArgs false
set_option maxHeartbeats 4000000
set_option maxRecDepth 100000
def exQ : S40 := ⟨{ data := #[114] }, 1, [⟨{ data := #[97] }, 5⟩], ⟨#[]⟩, 0, 0⟩
theorem exQ_bytes : 81 :: encQ exQ = [81, 1, 114, 2, 1, 1, 97, 10, 0, 0, 0] := by decide +kernel
theorem exQ_ok : ReqOk exQ := by
  refine ⟨⟨by decide, by decide⟩, fun x hx => ?_, ⟨by decide, by decide⟩, ⟨by decide, by decide⟩⟩
  have : x = ⟨{ data := #[97] }, 5⟩ := by simpa [exQ] using hx
  subst this
  exact ⟨by decide, by decide⟩
theorem C_line (W : World) (x : S110) (W' : World) (hb : Below (W.heap.size + 1) (W.alloc (.cells #[.string x.f0, .int .i64 x.f1] 110)) W') : Kd.C k110 W' (some ⟨W.heap.size, 0, none⟩) [x].length [x] := by
  have r : Rt 110 W.heap.size [.string x.f0, .int .i64 x.f1] (W.alloc (.cells #[.string x.f0, .int .i64 x.f1] 110)) := heap_alloc_new W _
  have r2 : Rt 110 W.heap.size [.string x.f0, .int .i64 x.f1] W' := (hb.block _ (Nat.lt_succ_self _)).trans r
  refine ⟨rfl, by simp, fun _ => ⟨_, rfl, fun j p hj => ?_⟩⟩
  have hj0 : j = 0 := by
    have := (List.getElem?_eq_some_iff.1 hj).1
    simp at this
    exact this
  subst hj0
  have : x = p := by simpa using hj
  subst this
  refine ⟨_, rfl, k110_mk _ _, fun i u hi => ?_⟩
  have h2 := r2.cell i u hi
  rcases i with _ | i <;> simpa [Addr.add] using h2
theorem works_at (W : World) : Calls Try.prog 39 #[] W fun e w' => e = .returned (.bool true) ∧ Below W.heap.size W w' := by
  have B1 := Aside0.mk (show Below W.heap.size W (W.alloc (.cells #[.string { data := #[97] }, .int .i64 5] 110)) from below_alloc (Below.refl _ _) _)
  have hc0 := C_line W ⟨{ data := #[97] }, 5⟩
  have hs1 : (W.alloc (.cells #[.string { data := #[97] }, .int .i64 5] 110)).heap.size = W.heap.size + 1 := Array.size_push ..
  go_enter Try.func39, Try.ntmps39
  go_upto_region 2 with fail
  obtain ⟨b0, hb0⟩ : ∃ b, W.heap.size = b := ⟨_, rfl⟩
  have HB0 := Aside0.mk hb0
  rw [hb0] at hs1 hc0 ⊢
  generalize W.alloc (.cells #[.string { data := #[97] }, .int .i64 5] 110) = w0 at *
  have hb1 : Below w0.heap.size w0 (w0.alloc (.cells #[.string { data := #[114] }, .int .i64 1, .slice (some ⟨b0, 0, none⟩) 1 1, .string { data := #[] }, .int .i64 0, .int .i64 0] 40)) := below_alloc (Below.refl _ _) _
  have r1 : Rt 40 w0.heap.size [.string { data := #[114] }, .int .i64 1, .slice (some ⟨b0, 0, none⟩) 1 1, .string { data := #[] }, .int .i64 0, .int .i64 0] (w0.alloc (.cells #[.string { data := #[114] }, .int .i64 1, .slice (some ⟨b0, 0, none⟩) 1 1, .string { data := #[] }, .int .i64 0, .int .i64 0] 40)) := heap_alloc_new w0 _
  rw [hs1] at hb1 r1
  have R1 := Aside0.mk r1
  have X1 := Aside0.mk hb1
  have HC := Aside0.mk hc0
  have B1' := Aside0.mk (show Below W.heap.size W (w0.alloc (.cells #[.string { data := #[114] }, .int .i64 1, .slice (some ⟨b0, 0, none⟩) 1 1, .string { data := #[] }, .int .i64 0, .int .i64 0] 40)) from B1.out.trans (hb1.mono (by omega)))
  clear hb0 hc0 hb1 r1 hs1 B1
  generalize w0.alloc (.cells #[.string { data := #[114] }, .int .i64 1, .slice (some ⟨b0, 0, none⟩) 1 1, .string { data := #[] }, .int .i64 0, .int .i64 0] 40) = w1 at *
  have HPR := Aside0.mk (PutRequest_at exQ.f0 exQ.f1 (some ⟨b0, 0, none⟩) exQ.f2.length 1 exQ.f2 exQ.f3 exQ.f4 exQ.f5 w1 (HC.out _ X1.out) exQ_ok.2.1 exQ_ok.1 exQ_ok.2.2.1 exQ_ok.2.2.2 (by decide))
  rw [show encReq exQ.f0 exQ.f1 exQ.f2 exQ.f3 exQ.f4 exQ.f5 = encQ exQ from rfl, exQ_bytes] at HPR
  have o0 := R1.out.cell 0 _ rfl
  have o1 := R1.out.cell 1 _ rfl
  have o2 := R1.out.cell 2 _ rfl
  have o3 := R1.out.cell 3 _ rfl
  have o4 := R1.out.cell 4 _ rfl
  have o5 := R1.out.cell 5 _ rfl
  go_wp2_with fail
  go_at_call 21
  refine HPR.out.mono ?_
  rintro e w2 ⟨v, rfl, hR, hb⟩
  obtain ⟨Ap, cp, rfl, hcp, hPC⟩ := Kd.R_reads hR
  rw [show putOut 4096 [81, 1, 114, 2, 1, 1, 97, 10, 0, 0, 0] = [81, 1, 114, 2, 1, 1, 97, 10, 0, 0, 0] from rfl] at hcp hPC ⊢
  rw [show putCode 4096 [81, 1, 114, 2, 1, 1, 97, 10, 0, 0, 0] = 0 from rfl]
  have HRA := Aside0.mk (Request_at Ap _ cp _ w2 hPC hcp (by intro x hx; simp at hx; omega) (by decide))
  have HBK := back_req exQ exQ_ok (by decide +kernel)
  rw [exQ_bytes] at HBK
  rw [HBK] at HRA
  simp only [outOr, endOf] at HRA
  obtain ⟨P, hP⟩ : ∃ P : List Int, [81, 1, 114, 2, 1, 1, 97, 10, 0, 0, 0] = P := ⟨_, rfl⟩
  have HP := Aside0.mk hP
  rw [hP] at hcp hPC HRA ⊢
  have B2 := Aside0.mk (B1'.out.trans (hb.mono (by have := R1.out.lt; have := HB0.out; omega)))
  have R2 := Aside0.mk (R1.out.below hb)
  have CO2 := Aside0.mk (Kd.C_below (HC.out _ X1.out) hb)
  have CP2 := Aside0.mk hPC
  clear hR hb hcp hPC hP HBK HPR o0 o1 o2 o3 o4 o5
  go_wp2_with fail
  go_at_call 24
  refine HRA.out.mono ?_
  rintro e w3 ⟨hb, v, rfl, A5, n5, c5, rfl, hR5⟩
  obtain ⟨A5', c5', e5, hc5, hC5⟩ := Kd.R_reads hR5
  injection e5 with e1 e2 e3
  subst e1 e2 e3
  have hb3 : Below w3.heap.size w3 (w3.alloc (.cells #[.string exQ.f0, .int .i64 exQ.f1, .slice A5 exQ.f2.length c5, .string exQ.f3, .int .i64 exQ.f4, .int .i64 exQ.f5] 40)) := below_alloc (Below.refl _ _) _
  have r3 : Rt 40 w3.heap.size [.string exQ.f0, .int .i64 exQ.f1, .slice A5 exQ.f2.length c5, .string exQ.f3, .int .i64 exQ.f4, .int .i64 exQ.f5] (w3.alloc (.cells #[.string exQ.f0, .int .i64 exQ.f1, .slice A5 exQ.f2.length c5, .string exQ.f3, .int .i64 exQ.f4, .int .i64 exQ.f5] 40)) := heap_alloc_new w3 _
  have hb4 := hb.trans (hb3.mono hb.size)
  have R4 := Aside0.mk (R2.out.below hb4)
  have B4 := Aside0.mk (B2.out.trans (hb4.mono (by have := R2.out.lt; have := HB0.out; omega)))
  have CO4 := Aside0.mk (Kd.C_below CO2.out hb4)
  have CP4 := Aside0.mk (Kd.C_below CP2.out hb4)
  have C54 := Aside0.mk (show Kd.C k110 _ A5 exQ.f2.length exQ.f2 from Kd.C_below hC5 hb3)
  have HC5 := Aside0.mk (show exQ.f2.length ≤ c5 from hc5)
  go_upto_region 4 with fail
  obtain ⟨b5, hb5⟩ : ∃ b, w3.heap.size = b := ⟨_, rfl⟩
  rw [hb5] at r3 ⊢
  have R5 := Aside0.mk r3
  clear hb hb3 hb4 r3 hC5 hc5 hR5 hb5 HRA
  generalize w3.alloc (.cells #[.string exQ.f0, .int .i64 exQ.f1, .slice A5 exQ.f2.length c5, .string exQ.f3, .int .i64 exQ.f4, .int .i64 exQ.f5] 40) = w4 at *
  have HSR := Aside0.mk (larderref09_SameRequest.calls (exQ.f2.length + 1) exQ.f0 exQ.f1 A5 c5 exQ.f2 exQ.f3 exQ.f4 exQ.f5 exQ.f0 exQ.f1 (some ⟨b0, 0, none⟩) 1 exQ.f2 exQ.f3 exQ.f4 exQ.f5 true w4 C54.out HC5.out CO4.out (by decide) (sameRequest_ok exQ (by decide) _ (Nat.le_refl _)))
  have s1 : (convert 26 9 (.slice Ap P.length cp)).run Try.prog w4 = .ok (.string (strOfNums P)) w4 := Kd.C_string Try.underlying26 Try.underlying5 Try.underlying9 CP4.out
  have t1 : ((strOfNums P).toList == [81, 1, 114, 2, 1, 1, 97, 10, 0, 0, 0]) = true := by rw [← HP.out]; decide +kernel
  have t2 : ((strOfNums P).toList = [81, 1, 114, 2, 1, 1, 97, 10, 0, 0, 0]) = True := eq_true (by simpa using t1)
  have q0 := R5.out.cell 0 _ rfl
  have q1 := R5.out.cell 1 _ rfl
  have q2 := R5.out.cell 2 _ rfl
  have q3 := R5.out.cell 3 _ rfl
  have q4 := R5.out.cell 4 _ rfl
  have q5 := R5.out.cell 5 _ rfl
  have o0 := R4.out.cell 0 _ rfl
  have o1 := R4.out.cell 1 _ rfl
  have o2 := R4.out.cell 2 _ rfl
  have o3 := R4.out.cell 3 _ rfl
  have o4 := R4.out.cell 4 _ rfl
  have o5 := R4.out.cell 5 _ rfl
  go_wp2_with fail
  go_at_call 26
  refine HSR.out.mono ?_
  rintro e w5 ⟨rfl, hb⟩
  have B5 := Aside0.mk (B4.out.trans (hb.mono (by have := R4.out.lt; have := HB0.out; omega)))
  clear hb
  go_wp2_with fail
  go_ret
  rw [← HB0.out] at *
  exact ⟨rfl, B5.out⟩
end Go.Proofs.Ytafmoglaockepaa.Cd
end
section
namespace Go.Proofs.Ytafmoglaockepaa.Cd
open Go Go.RowKit Go.Proofs.Ytafmoglaockepaa.Mine Go.Proofs.Ytafmoglaockepaa.Num Go.Proofs.Ytafmoglaockepaa.PG Go.Proofs.YtafmoglaockepaaW.PrintWords Go.Proofs.YtafmoglaockepaaW.PrintLast Go.Proofs.YtafmoglaockepaaW.PrintMore
set_option linter.unusedVariables false
set_option linter.unusedSimpArgs false
set_option maxHeartbeats 4000000
set_option maxRecDepth 100000
theorem taken_at (A : Option Addr) (c : Nat) (xs : List Int) (W : World) (hC : Kd.C (Kd.int .u8) W A xs.length xs) (hnc : xs.length ≤ c) (hby : IsBytes xs) (hn : xs.length < 1000000000) :
    Calls Try.prog 47 #[.slice A xs.length c] W fun e w' => ∃ k : Int, e = .returned (.int .i64 k) ∧ TK xs [84, 83, 82, 81] k ∧ Below W.heap.size W w' := by
  have HC := Aside0.mk (fun W' (hb : Below W.heap.size W W') => Kd.C_below hC hb)
  have HNC := Aside0.mk hnc
  have HBY := Aside0.mk hby
  have HN := Aside0.mk hn
  have B0 := Aside0.mk (Below.refl W.heap.size W)
  have HTK := Aside0.mk (show TK xs [] 0 from .inl rfl)
  clear hC hnc hby hn
  go_enter Try.func47, Try.ntmps47
  go_upto_region 2 with fail
  have HRD := Aside0.mk (Request_at A xs.length c xs W (HC.out _ B0.out) HNC.out HBY.out (by have := HN.out; omega))
  obtain ⟨g1, g2, y, hg1, hg2, hy, hcs⟩ := form_walk0 (key := 81) (most := 4096) zeroD_req (pReq_back (most := 4096) HBY.out (by decide)) (fun n => nz_Req n)
  rw [hg1, hg2, hy] at HRD
  have HCS := Aside0.mk hcs
  clear hg1 hg2 hy hcs
  go_wp2_with fail
  go_at_call 24
  refine HRD.out.mono ?_
  rintro e w1 ⟨hb, v, rfl, A5, n5, c5, rfl, hR5⟩
  obtain ⟨A5', c5', e5, hc5, hC5⟩ := Kd.R_reads hR5
  injection e5 with e1 e2 e3
  subst e1 e2 e3
  have B1 := Aside0.mk (B0.out.trans (hb.mono B0.out.size))
  clear hb HRD
  go_upto_if 28 with fail
  have hb7 : Below w1.heap.size w1 (w1.alloc (.cells #[.string y.f0, .int .i64 y.f1, .slice A5 y.f2.length c5, .string y.f3, .int .i64 y.f4, .int .i64 y.f5] 40)) := below_alloc (Below.refl _ _) _
  have r7 : Rt 40 w1.heap.size [.string y.f0, .int .i64 y.f1, .slice A5 y.f2.length c5, .string y.f3, .int .i64 y.f4, .int .i64 y.f5] (w1.alloc (.cells #[.string y.f0, .int .i64 y.f1, .slice A5 y.f2.length c5, .string y.f3, .int .i64 y.f4, .int .i64 y.f5] 40)) := heap_alloc_new w1 _
  obtain ⟨bx, hbx⟩ : ∃ b, w1.heap.size = b := ⟨_, rfl⟩
  have B2 := Aside0.mk (B1.out.trans (hb7.mono B1.out.size))
  have KC5 := Aside0.mk (And.intro (Kd.C_below hC5 hb7) hc5)
  rw [hbx] at r7 ⊢
  have X2 := Aside0.mk r7
  clear hb7 r7 hbx hC5 hc5 hR5
  generalize w1.alloc (.cells #[.string y.f0, .int .i64 y.f1, .slice A5 y.f2.length c5, .string y.f3, .int .i64 y.f4, .int .i64 y.f5] 40) = w2 at *
  go_cut [3] from 4 (fun v3 wc => ∃ k : Int, v3 = .int .i64 k ∧ Aside0 (TK xs [81] k) ∧ Aside0 (Below W.heap.size W wc))
  case first =>
    rcases HCS.out with ⟨e1, e2, e3, e4, e5, e6⟩ | hne
    · subst e1
      have HPR := Aside0.mk (PutRequest_at y.f0 y.f1 A5 y.f2.length c5 y.f2 y.f3 y.f4 y.f5 w2 KC5.out.1 e6.2.1 e6.1 e6.2.2.1 e6.2.2.2 (by have := bulkQ_enc y; rw [List.length_cons] at e5; unfold bulkQ at this; omega))
      rw [show encReq y.f0 y.f1 y.f2 y.f3 y.f4 y.f5 = encQ y from rfl] at HPR
      rw [e3, e4] at HPR
      have HHD := Aside0.mk e2
      clear e2 e3 e4 e5 e6
      have x0 := X2.out.cell 0 _ rfl
      have x1 := X2.out.cell 1 _ rfl
      have x2 := X2.out.cell 2 _ rfl
      have x3 := X2.out.cell 3 _ rfl
      have x4 := X2.out.cell 4 _ rfl
      have x5 := X2.out.cell 5 _ rfl
      go_wp2_with fail
      go_at_call 21
      refine HPR.out.mono ?_
      rintro e wp ⟨v, rfl, hR, hb⟩
      obtain ⟨Ab, cb, rfl, hcb, hBC⟩ := Kd.R_reads hR
      have BP := Aside0.mk (B2.out.trans (hb.mono B2.out.size))
      have s1 : (convert 26 9 (.slice Ab xs.length cb)).run Try.prog wp = .ok (.string (strOfNums xs)) wp := Kd.C_string Try.underlying26 Try.underlying5 Try.underlying9 hBC
      have s2 : (convert 26 9 (.slice A xs.length c)).run Try.prog wp = .ok (.string (strOfNums xs)) wp := Kd.C_string Try.underlying26 Try.underlying5 Try.underlying9 (HC.out _ BP.out)
      have t1 : ((strOfNums xs).toList != (strOfNums xs).toList) = false := by simp
      clear hR hb hBC hcb HPR x0 x1 x2 x3 x4 x5
      go_wp2_with fail
      go_meet
      case rel => exact ⟨1, rfl, ⟨TK.hit HHD.out⟩, BP⟩
    · have u1 : (g1 == 0) = false := by simpa using hne
      have u2 : decide (g1 = 0) = false := decide_eq_false hne
      clear hne
      go_wp2_with fail
      go_meet
      case rel => exact ⟨0, rfl, ⟨TK.skip HTK.out⟩, B2⟩
  case rest =>
    obtain ⟨n, rfl, HTK, B3⟩ := hcut
    obtain ⟨w3, hw⟩ : ∃ w, w = wc := ⟨_, rfl⟩
    subst hw
    clear HCS X2
    have HRD := Aside0.mk (Reply_at A xs.length c xs w3 (HC.out _ B3.out) HNC.out HBY.out (by have := HN.out; omega))
    obtain ⟨g1, g2, y, hg1, hg2, hy, hcs⟩ := form_walk0 (key := 82) (most := 4096) zeroD (pReply_back (most := 4096) HBY.out (by decide)) (fun n => nz_Reply n)
    rw [hg1, hg2, outD_eq, hy] at HRD
    have HCS := Aside0.mk hcs
    clear hg1 hg2 hy hcs
    go_wp2_with fail
    go_at_call 15
    refine HRD.out.mono ?_
    rintro e w4 ⟨hb, v, rfl, A5, n5, c5, rfl, hR5⟩
    obtain ⟨A5', c5', e5, hc5, hC5⟩ := Kd.R_reads hR5
    injection e5 with e1 e2 e3
    subst e1 e2 e3
    have B4 := Aside0.mk (B3.out.trans (hb.mono B3.out.size))
    clear hb HRD
    go_upto_if 52 with fail
    have hb7 : Below w4.heap.size w4 (w4.alloc (.cells #[.string y.id, .int .i64 y.er, .int .i64 y.line, .slice A5 y.levs.length c5, .int .i64 y.now] 25)) := below_alloc (Below.refl _ _) _
    have r7 : Rt 25 w4.heap.size [.string y.id, .int .i64 y.er, .int .i64 y.line, .slice A5 y.levs.length c5, .int .i64 y.now] (w4.alloc (.cells #[.string y.id, .int .i64 y.er, .int .i64 y.line, .slice A5 y.levs.length c5, .int .i64 y.now] 25)) := heap_alloc_new w4 _
    obtain ⟨bx, hbx⟩ : ∃ b, w4.heap.size = b := ⟨_, rfl⟩
    have B5 := Aside0.mk (B4.out.trans (hb7.mono B4.out.size))
    have KC5 := Aside0.mk (And.intro (Kd.C_below hC5 hb7) hc5)
    rw [hbx] at r7 ⊢
    have X5 := Aside0.mk r7
    clear hb7 r7 hbx hC5 hc5 hR5
    generalize w4.alloc (.cells #[.string y.id, .int .i64 y.er, .int .i64 y.line, .slice A5 y.levs.length c5, .int .i64 y.now] 25) = w5 at *
    go_cut [3] from 4 (fun v3 wc => ∃ k : Int, v3 = .int .i64 k ∧ Aside0 (TK xs [82, 81] k) ∧ Aside0 (Below W.heap.size W wc))
    case first =>
      rcases HCS.out with ⟨e1, e2, e3, e4, e5, e6⟩ | hne
      · subst e1
        obtain rfl : n = 0 := HTK.out.zero e2 (by decide)
        have HPR := Aside0.mk (PutReply_at y.id y.er y.line y.now A5 y.levs.length c5 y.levs w5 KC5.out.1 e6.2.2.2 e6.1 e6.2.1 e6.2.2.1 (by have h1 := bulkL_enc y.levs; have h2 := encT_size y.id; rw [List.length_cons] at e5; unfold encReply at e5; simp only [List.length_append] at e5; omega))
        rw [e3, e4] at HPR
        have HHD := Aside0.mk e2
        clear e2 e3 e4 e5 e6
        have x0 := X5.out.cell 0 _ rfl
        have x1 := X5.out.cell 1 _ rfl
        have x2 := X5.out.cell 2 _ rfl
        have x3 := X5.out.cell 3 _ rfl
        have x4 := X5.out.cell 4 _ rfl
        go_wp2_with fail
        go_at_call 11
        refine HPR.out.mono ?_
        rintro e wp ⟨v, rfl, hR, hb⟩
        obtain ⟨Ab, cb, rfl, hcb, hBC⟩ := Kd.R_reads hR
        have BP := Aside0.mk (B5.out.trans (hb.mono B5.out.size))
        have s1 : (convert 26 9 (.slice Ab xs.length cb)).run Try.prog wp = .ok (.string (strOfNums xs)) wp := Kd.C_string Try.underlying26 Try.underlying5 Try.underlying9 hBC
        have s2 : (convert 26 9 (.slice A xs.length c)).run Try.prog wp = .ok (.string (strOfNums xs)) wp := Kd.C_string Try.underlying26 Try.underlying5 Try.underlying9 (HC.out _ BP.out)
        have t1 : ((strOfNums xs).toList != (strOfNums xs).toList) = false := by simp
        clear hR hb hBC hcb HPR x0 x1 x2 x3 x4
        go_wp2_with fail
        go_meet
        case rel => exact ⟨1, rfl, ⟨TK.hit HHD.out⟩, BP⟩
      · have u1 : (g1 == 0) = false := by simpa using hne
        have u2 : decide (g1 = 0) = false := decide_eq_false hne
        clear hne
        go_wp2_with fail
        go_meet
        case rel => exact ⟨n, rfl, ⟨TK.skip HTK.out⟩, B5⟩
    case rest =>
      obtain ⟨n, rfl, HTK, B6⟩ := hcut
      obtain ⟨w6, hw⟩ : ∃ w, w = wc := ⟨_, rfl⟩
      subst hw
      clear HCS X5
      have HRD := Aside0.mk (Record_at A xs.length c xs w6 (HC.out _ B6.out) HNC.out HBY.out (by have := HN.out; omega))
      obtain ⟨g1, g2, y, hg1, hg2, hy, hcs⟩ := form_walk0 (key := 83) (most := 4096) zeroD_rec (pRec_back (most := 4096) HBY.out (by decide)) (fun n => nz_Rec n)
      rw [hg1, hg2, hy] at HRD
      have HCS := Aside0.mk hcs
      clear hg1 hg2 hy hcs
      go_wp2_with fail
      go_at_call 29
      refine HRD.out.mono ?_
      rintro e w7 ⟨hb, v, rfl, A5, n5, c5, rfl, hR5⟩
      obtain ⟨A5', c5', e5, hc5, hC5⟩ := Kd.R_reads hR5
      injection e5 with e1 e2 e3
      subst e1 e2 e3
      have B7 := Aside0.mk (B6.out.trans (hb.mono B6.out.size))
      clear hb HRD
      go_upto_if 76 with fail
      have hb7 : Below w7.heap.size w7 (w7.alloc (.cells #[.int .i64 y.f0, .string y.f1.f0, .int .i64 y.f1.f1, .slice A5 y.f1.f2.length c5, .string y.f1.f3, .int .i64 y.f1.f4, .int .i64 y.f1.f5] 49)) := below_alloc (Below.refl _ _) _
      have r7 : Rt 49 w7.heap.size [.int .i64 y.f0, .string y.f1.f0, .int .i64 y.f1.f1, .slice A5 y.f1.f2.length c5, .string y.f1.f3, .int .i64 y.f1.f4, .int .i64 y.f1.f5] (w7.alloc (.cells #[.int .i64 y.f0, .string y.f1.f0, .int .i64 y.f1.f1, .slice A5 y.f1.f2.length c5, .string y.f1.f3, .int .i64 y.f1.f4, .int .i64 y.f1.f5] 49)) := heap_alloc_new w7 _
      obtain ⟨bx, hbx⟩ : ∃ b, w7.heap.size = b := ⟨_, rfl⟩
      have B8 := Aside0.mk (B7.out.trans (hb7.mono B7.out.size))
      have KC5 := Aside0.mk (And.intro (Kd.C_below hC5 hb7) hc5)
      rw [hbx] at r7 ⊢
      have X8 := Aside0.mk r7
      clear hb7 r7 hbx hC5 hc5 hR5
      generalize w7.alloc (.cells #[.int .i64 y.f0, .string y.f1.f0, .int .i64 y.f1.f1, .slice A5 y.f1.f2.length c5, .string y.f1.f3, .int .i64 y.f1.f4, .int .i64 y.f1.f5] 49) = w8 at *
      go_cut [3] from 4 (fun v3 wc => ∃ k : Int, v3 = .int .i64 k ∧ Aside0 (TK xs [83, 82, 81] k) ∧ Aside0 (Below W.heap.size W wc))
      case first =>
        rcases HCS.out with ⟨e1, e2, e3, e4, e5, e6⟩ | hne
        · subst e1
          obtain rfl : n = 0 := HTK.out.zero e2 (by decide)
          have HPR := Aside0.mk (PutRecord_at y w8 A5 c5 KC5.out.1 e6.1 e6.2 (by have := bulkQ_enc y.f1; rw [List.length_cons] at e5; unfold encC at e5; rw [List.length_append] at e5; unfold bulkC; omega))
          rw [e3, e4] at HPR
          have HHD := Aside0.mk e2
          clear e2 e3 e4 e5 e6
          have x0 := X8.out.cell 0 _ rfl
          have x1 := X8.out.cell 1 _ rfl
          have x2 := X8.out.cell 2 _ rfl
          have x3 := X8.out.cell 3 _ rfl
          have x4 := X8.out.cell 4 _ rfl
          have x5 := X8.out.cell 5 _ rfl
          have x6 := X8.out.cell 6 _ rfl
          go_wp2_with fail
          go_at_call 27
          refine HPR.out.mono ?_
          rintro e wp ⟨v, rfl, hR, hb⟩
          obtain ⟨Ab, cb, rfl, hcb, hBC⟩ := Kd.R_reads hR
          have BP := Aside0.mk (B8.out.trans (hb.mono B8.out.size))
          have s1 : (convert 26 9 (.slice Ab xs.length cb)).run Try.prog wp = .ok (.string (strOfNums xs)) wp := Kd.C_string Try.underlying26 Try.underlying5 Try.underlying9 hBC
          have s2 : (convert 26 9 (.slice A xs.length c)).run Try.prog wp = .ok (.string (strOfNums xs)) wp := Kd.C_string Try.underlying26 Try.underlying5 Try.underlying9 (HC.out _ BP.out)
          have t1 : ((strOfNums xs).toList != (strOfNums xs).toList) = false := by simp
          clear hR hb hBC hcb HPR x0 x1 x2 x3 x4 x5 x6
          go_wp2_with fail
          go_meet
          case rel => exact ⟨1, rfl, ⟨TK.hit HHD.out⟩, BP⟩
        · have u1 : (g1 == 0) = false := by simpa using hne
          have u2 : decide (g1 = 0) = false := decide_eq_false hne
          clear hne
          go_wp2_with fail
          go_meet
          case rel => exact ⟨n, rfl, ⟨TK.skip HTK.out⟩, B8⟩
      case rest =>
        obtain ⟨n, rfl, HTK, B9⟩ := hcut
        obtain ⟨w9, hw⟩ : ∃ w, w = wc := ⟨_, rfl⟩
        subst hw
        clear HCS X8
        have HRD := Aside0.mk (State_at A xs.length c xs w9 (HC.out _ B9.out) HNC.out HBY.out (by have := HN.out; omega))
        obtain ⟨g1, g2, y, hg1, hg2, hy, hcs⟩ := form_walk0 (key := 84) (most := 131072) zeroD_st (pSt_back (most := 131072) HBY.out (by decide)) (fun n => nz_St n)
        rw [hg1, hg2, hy] at HRD
        have HCS := Aside0.mk hcs
        clear hg1 hg2 hy hcs
        go_wp2_with fail
        go_at_call 37
        refine HRD.out.mono ?_
        rintro e w10 ⟨hb, v, rfl, A5l, n5l, c5l, A5h, n5h, c5h, A5d, n5d, c5d, rfl, hR5l, hR5h, hR5d⟩
        obtain ⟨A5l', c5l', e5l, hc5l, hC5l⟩ := Kd.R_reads hR5l
        injection e5l with e1 e2 e3
        subst e1 e2 e3
        obtain ⟨A5h', c5h', e5h, hc5h, hC5h⟩ := Kd.R_reads hR5h
        injection e5h with e1 e2 e3
        subst e1 e2 e3
        obtain ⟨A5d', c5d', e5d, hc5d, hC5d⟩ := Kd.R_reads hR5d
        injection e5d with e1 e2 e3
        subst e1 e2 e3
        have B10 := Aside0.mk (B9.out.trans (hb.mono B9.out.size))
        clear hb HRD
        go_upto_if 100 with fail
        have hb7 : Below w10.heap.size w10 (w10.alloc (.cells #[.int .i64 y.f0, .int .i64 y.f1, .int .i64 y.f2, .slice A5l y.f3.length c5l, .slice A5h y.f4.length c5h, .slice A5d y.f5.length c5d] 58)) := below_alloc (Below.refl _ _) _
        have r7 : Rt 58 w10.heap.size [.int .i64 y.f0, .int .i64 y.f1, .int .i64 y.f2, .slice A5l y.f3.length c5l, .slice A5h y.f4.length c5h, .slice A5d y.f5.length c5d] (w10.alloc (.cells #[.int .i64 y.f0, .int .i64 y.f1, .int .i64 y.f2, .slice A5l y.f3.length c5l, .slice A5h y.f4.length c5h, .slice A5d y.f5.length c5d] 58)) := heap_alloc_new w10 _
        obtain ⟨bx, hbx⟩ : ∃ b, w10.heap.size = b := ⟨_, rfl⟩
        have B11 := Aside0.mk (B10.out.trans (hb7.mono B10.out.size))
        have KC5l := Aside0.mk (And.intro (Kd.C_below hC5l hb7) hc5l)
        have KC5h := Aside0.mk (And.intro (Kd.C_below hC5h hb7) hc5h)
        have KC5d := Aside0.mk (And.intro (Kd.C_below hC5d hb7) hc5d)
        rw [hbx] at r7 ⊢
        have X11 := Aside0.mk r7
        clear hb7 r7 hbx hC5l hc5l hC5h hc5h hC5d hc5d hR5l hR5h hR5d
        generalize w10.alloc (.cells #[.int .i64 y.f0, .int .i64 y.f1, .int .i64 y.f2, .slice A5l y.f3.length c5l, .slice A5h y.f4.length c5h, .slice A5d y.f5.length c5d] 58) = w11 at *
        go_cut [3] from 4 (fun v3 wc => ∃ k : Int, v3 = .int .i64 k ∧ Aside0 (TK xs [84, 83, 82, 81] k) ∧ Aside0 (Below W.heap.size W wc))
        case first =>
          rcases HCS.out with ⟨e1, e2, e3, e4, e5, e6⟩ | hne
          · subst e1
            obtain rfl : n = 0 := HTK.out.zero e2 (by decide)
            have HPR := Aside0.mk (PutState_at y w11 A5l c5l KC5l.out.1 A5h c5h KC5h.out.1 A5d c5d KC5d.out.1 e6.1 e6.2.1 e6.2.2.1 e6.2.2.2.1 e6.2.2.2.2.1 e6.2.2.2.2.2 (by have := bulkS_enc y; rw [List.length_cons] at e5; omega))
            rw [e3, e4] at HPR
            have HHD := Aside0.mk e2
            clear e2 e3 e4 e5 e6
            have x0 := X11.out.cell 0 _ rfl
            have x1 := X11.out.cell 1 _ rfl
            have x2 := X11.out.cell 2 _ rfl
            have x3 := X11.out.cell 3 _ rfl
            have x4 := X11.out.cell 4 _ rfl
            have x5 := X11.out.cell 5 _ rfl
            go_wp2_with fail
            go_at_call 34
            refine HPR.out.mono ?_
            rintro e wp ⟨v, rfl, hR, hb⟩
            obtain ⟨Ab, cb, rfl, hcb, hBC⟩ := Kd.R_reads hR
            have BP := Aside0.mk (B11.out.trans (hb.mono B11.out.size))
            have s1 : (convert 26 9 (.slice Ab xs.length cb)).run Try.prog wp = .ok (.string (strOfNums xs)) wp := Kd.C_string Try.underlying26 Try.underlying5 Try.underlying9 hBC
            have s2 : (convert 26 9 (.slice A xs.length c)).run Try.prog wp = .ok (.string (strOfNums xs)) wp := Kd.C_string Try.underlying26 Try.underlying5 Try.underlying9 (HC.out _ BP.out)
            have t1 : ((strOfNums xs).toList != (strOfNums xs).toList) = false := by simp
            clear hR hb hBC hcb HPR x0 x1 x2 x3 x4 x5
            go_wp2_with fail
            go_meet
            case rel => exact ⟨1, rfl, ⟨TK.hit HHD.out⟩, BP⟩
          · have u1 : (g1 == 0) = false := by simpa using hne
            have u2 : decide (g1 = 0) = false := decide_eq_false hne
            clear hne
            go_wp2_with fail
            go_meet
            case rel => exact ⟨n, rfl, ⟨TK.skip HTK.out⟩, B11⟩
        case rest =>
          obtain ⟨n, rfl, HTK, B12⟩ := hcut
          obtain ⟨w12, hw⟩ : ∃ w, w = wc := ⟨_, rfl⟩
          subst hw
          clear HCS X11
          go_wp2_with fail
          go_ret
          exact ⟨n, rfl, HTK.out, B12.out⟩
end Go.Proofs.Ytafmoglaockepaa.Cd
end
section
namespace Go.Proofs.Ytafmoglaockepaa.Cd
open Go Go.RowKit Go.Proofs.Ytafmoglaockepaa.Mine Go.Proofs.Ytafmoglaockepaa.Num Go.Proofs.Ytafmoglaockepaa.PG Go.Proofs.YtafmoglaockepaaW.PrintWords Go.Proofs.YtafmoglaockepaaW.PrintLast Go.Proofs.YtafmoglaockepaaW.PrintMore
set_option linter.unusedVariables false
set_option linter.unusedSimpArgs false
set_option maxHeartbeats 4000000
set_option maxRecDepth 100000
theorem own_shape {W : World} {b : Nat} {ok : Nat → Prop} {v : Value} {xs : List Int} (h : (Kd.int .u8).R 5 W b ok v xs) (hp : 0 < xs.length) : ∃ g cap, v = .slice (some ⟨g, 0, none⟩) xs.length cap ∧ b ≤ g ∧ xs.length ≤ cap := by
  obtain ⟨_, inner, ho, hr⟩ := h
  rcases ho.2 with ⟨rfl, h2⟩ | ⟨g, cap, cur, rfl, hg, hh, h1, h2⟩
  · have := hr.1
    omega
  · exact ⟨g, cap, rfl, hg, h1⟩
theorem form_walk (A : Option Addr) (c : Nat) (xs : List Int) (at_ by_ : Int) (W : World) (hC : Kd.C (Kd.int .u8) W A xs.length xs) (hnc : xs.length ≤ c) (hby : IsBytes xs) (hn : xs.length ≤ 1048576) (hat : Int64 at_) (hbb : 0 ≤ by_ ∧ by_ < 256) :
    Calls Try.prog 9 #[.slice A xs.length c, .int .i64 at_, .int .u8 by_] W fun e w' => e = .returned (.bool true) ∧ Below W.heap.size W w' := by
  have HC := Aside0.mk (fun W' (hb : Below W.heap.size W W') => Kd.C_below hC hb)
  have HNC := Aside0.mk hnc
  have HBY := Aside0.mk hby
  have HN := Aside0.mk hn
  have HAT := Aside0.mk hat
  have HBB := Aside0.mk hbb
  have HTK := Aside0.mk (taken_at A c xs W hC hnc hby (by omega))
  clear hC hnc hby hn hat hbb
  go_enter Try.func9, Try.ntmps9
  go_wp2_with fail
  go_at_call 47
  refine HTK.out.mono ?_
  rintro e w1 ⟨k, rfl, hk, hb⟩
  have B1 := Aside0.mk hb
  have HWK := Aside0.mk (works_at w1)
  have HK := Aside0.mk hk
  have k1 : decide (k < 0) = false := decide_eq_false (by rcases hk.le with h | h <;> omega)
  have k2 : decide (1 < k) = false := decide_eq_false (by rcases hk.le with h | h <;> omega)
  clear hk hb HTK
  go_wp2_with fail
  go_at_call 39
  refine HWK.out.mono ?_
  rintro e w2 ⟨rfl, hb⟩
  have B2 := Aside0.mk (B1.out.trans (hb.mono B1.out.size))
  clear hb HWK
  by_cases hx : xs = []
  · subst hx
    obtain rfl : k = 0 := HK.out.nil
    go_wp2_with fail
    go_ret
    exact ⟨rfl, B2.out⟩
  · have HPOS := Aside0.mk (List.length_pos_iff.2 hx)
    clear hx
    have l1 : ((xs.length : Int) == 0) = false := beq_eq_false_iff_ne.2 (by have := HPOS.out; omega)
    have l2 : decide ((xs.length : Int) = 0) = false := decide_eq_false (by have := HPOS.out; omega)
    have l3 : (xs.length == 0) = false := beq_eq_false_iff_ne.2 (by have := HPOS.out; omega)
    have l4 : (xs.length = 0) = False := eq_false (by have := HPOS.out; omega)
    go_upto_region 7 with fail
    go_cut [8] from 10 (fun v8 wc => ∃ g cap, v8 = .slice (some ⟨g, 0, none⟩) xs.length cap ∧ Aside0 (W.heap.size ≤ g ∧ xs.length ≤ cap) ∧ Aside0 ((Kd.int .u8).R 5 wc W.heap.size (fun _ => True) (.slice (some ⟨g, 0, none⟩) xs.length cap) xs) ∧ Aside0 (Below W.heap.size W wc))
    case first =>
      go_wp2_with (first | (
        (with_reducible refine gate_builtin (b := .append) (xs := #[.tmp 27, .tmp 28]) rfl ?_)
        at_builtin
        refine Kd.R_append_rows (Kd.int .u8) (Rr := (Kd.int .u8).K w2) (w0 := W) W.heap.size rfl (.tmp 27) (.tmp 28) 26 5 (.int .u8 0) 1 rfl Try.underlying26 info5' rfl (by decide) (by decide) (.slice none 0 0) ([] : List Int) xs _ _ _ (fun _ => True) (fun _ => False) rfl rfl (Kd.R_nil _ _ _ _ _) (HC.out _ B2.out) (fun _ _ h => h) (fun _ h => h.elim) (fun _ _ => trivial) B2.out B2.out.size (by have := HN.out; rw [List.length_nil]; omega) ?_
        intro v1 w3 ho hb hg hat
        rw [List.nil_append] at ho
        obtain ⟨g, cap, rfl, hg0, hcap⟩ := own_shape ho HPOS.out
        have HO3 := Aside0.mk ho
        have HG3 := Aside0.mk (And.intro hg0 hcap)
        have B3 := Aside0.mk hb
        clear ho hb hg hat hg0 hcap))
      go_meet
      case rel => exact ⟨g, cap, rfl, HG3, HO3, B3⟩
    case rest =>
      obtain ⟨g, cap, rfl, HG3, HO3, B3⟩ := hcut
      obtain ⟨w3, hw⟩ : ∃ w, w = wc := ⟨_, rfl⟩
      subst hw
      go_upto_if 35 with fail
      have hmod : -(xs.length : Int) < at_.tmod xs.length ∧ at_.tmod xs.length < xs.length := by
        have hp := HPOS.out
        have h1 := Int.tmod_lt_of_pos at_ (show (0 : Int) < xs.length by omega)
        have h2 := Int.lt_tmod_of_pos at_ (show (0 : Int) < xs.length by omega)
        omega
      obtain ⟨r, hr⟩ : ∃ r, at_.tmod xs.length = r := ⟨_, rfl⟩
      rw [hr] at hmod ⊢
      have HR := Aside0.mk hmod
      clear hr hmod
      go_cut [1] from 10 (fun v1 wc => ∃ i : Nat, v1 = .int .i64 (i : Int) ∧ Aside0 (i < xs.length) ∧ wc = w3)
      case first =>
        by_cases h0 : r < 0
        · have r1 : decide (r < 0) = true := decide_eq_true h0
          obtain ⟨i, hi⟩ : ∃ i : Nat, r + (xs.length : Int) = (i : Int) := ⟨(r + xs.length).toNat, by have := HR.out; omega⟩
          have hw : wrap64 (r + (xs.length : Int)) = (i : Int) := by have := HR.out; have := HN.out; unfold wrap64; omega
          have hw2 : IntKind.i64.wrap (r + (xs.length : Int)) = (i : Int) := by have := HR.out; have := HN.out; rw [IntWalk.i64_in _ (by omega)]; omega
          have HI := Aside0.mk (show i < xs.length by omega)
          clear hi
          go_wp2_with fail
          go_meet
          case rel => exact ⟨i, rfl, HI, rfl⟩
        · have r1 : decide (r < 0) = false := decide_eq_false h0
          obtain ⟨i, rfl⟩ : ∃ i : Nat, r = (i : Int) := ⟨r.toNat, by omega⟩
          have HI := Aside0.mk (show i < xs.length by have := HR.out; omega)
          clear h0
          go_wp2_with fail
          go_meet
          case rel => exact ⟨i, rfl, HI, rfl⟩
      case rest =>
        obtain ⟨i, rfl, HI, rfl⟩ := hcut
        clear HR
        have hcc := Kd.R_cell (0 : Int) HO3.out (i : Int) (by omega) (by have := HI.out; omega)
        rw [Int.toNat_natCast] at hcc
        have hxb : 0 ≤ rdOf 0 xs (i : Int) ∧ rdOf 0 xs (i : Int) < 256 := HBY.out _ (by
          show xs.getD (i : Int).toNat 0 ∈ xs
          rw [Int.toNat_natCast, List.getD_eq_getElem?_getD, List.getElem?_eq_getElem HI.out]
          exact List.getElem_mem _)
        obtain ⟨x, hx⟩ : ∃ x, rdOf 0 xs (i : Int) = x := ⟨_, rfl⟩
        rw [hx] at hcc hxb
        have hvb : 0 ≤ Go.bits .xor .u8 x by_ ∧ Go.bits .xor .u8 x by_ < 256 := by
          have hb := HBB.out
          rw [u8_xor x by_ hxb.1 hxb.2 hb.1 hb.2]
          have : x.toNat ^^^ by_.toNat < 2 ^ 8 := Nat.xor_lt_two_pow (by omega) (by omega)
          omega
        have hput := (Kd.R_put (α := Int) HO3.out (i : Int) (Go.bits .xor .u8 x by_)).1
        rw [Int.toNat_natCast] at hput
        have B4 := Aside0.mk (show Below W.heap.size W (wc.setCell ⟨g, i, none⟩ (.int .u8 (Go.bits .xor .u8 x by_))) from Below.setCell B3.out HG3.out.1 _)
        obtain ⟨v, hv⟩ : ∃ v, Go.bits .xor .u8 x by_ = v := ⟨_, rfl⟩
        rw [hv] at hvb hput B4
        have HPUT := Aside0.mk hput
        have HVB := Aside0.mk hvb
        have HBY2 := Aside0.mk (show IsBytes (xs.set i v) from fun y hy => by
          rcases List.mem_or_eq_of_mem_set hy with h | h
          · exact HBY.out y h
          · rw [h]; exact hvb)
        obtain ⟨c0, c1⟩ := hcc
        have i1 : (0 : Int) ≤ (i : Int) := by omega
        have i2 : (i : Int) < (xs.length : Int) := by have := HI.out; omega
        have i3 : i < xs.length := HI.out
        clear hx hput hvb hxb
        go_upto_region 12 with fail
        clear c0 c1 i1 i2 i3
        obtain ⟨hcp, hC4⟩ : xs.length ≤ cap ∧ Kd.C (Kd.int .u8) (wc.setCell ⟨g, i, none⟩ (.int .u8 v)) (some ⟨g, 0, none⟩) (xs.set i v).length (xs.set i v) := by
          obtain ⟨A', c', e, hle, hC⟩ := Kd.R_reads HPUT.out
          injection e with e1 e2 e3
          subst e1 e3
          rw [List.length_set] at hle
          exact ⟨hle, hC⟩
        have HTK2 := Aside0.mk (taken_at (some ⟨g, 0, none⟩) cap (xs.set i v) _ hC4 (by rw [List.length_set]; exact hcp) HBY2.out (by have := HN.out; rw [List.length_set]; omega))
        rw [List.length_set] at HTK2
        generalize wc.setCell ⟨g, i, none⟩ (.int .u8 v) = w5 at *
        clear hC4 hcp
        go_wp2_with fail
        go_at_call 47
        refine HTK2.out.mono ?_
        rintro e w6 ⟨m, rfl, hm, hb⟩
        have B6 := Aside0.mk (B4.out.trans (hb.mono B4.out.size))
        have hm2 := hm.le
        clear hm hb HTK2
        rcases hm2 with rfl | rfl
        · go_wp2_with fail
          go_ret
          exact ⟨rfl, B6.out⟩
        · go_wp2_with fail
          go_ret
          exact ⟨rfl, B6.out⟩
end Go.Proofs.Ytafmoglaockepaa.Cd
end
section
namespace Go.Proofs.Ytafmoglaockepaa.Bulk
open Go Go.ChangeShapes Go.WideShapes Go.ChangeAt Go.RowKit
theorem one_le {H : Type} (d : DataW H) : 1 ≤ Rows.uptoBulk d := by
  cases d with
  | lit l => cases l <;> simp [Rows.uptoBulk]
  | nil => simp [Rows.uptoBulk]
  | ptr d => simp [Rows.uptoBulk]
  | slice elems spare => simp [Rows.uptoBulk]
  | agg parts => simp [Rows.uptoBulk]
  | iface t d => simp [Rows.uptoBulk]
  | map entries => simp [Rows.uptoBulk]
  | held h => simp [Rows.uptoBulk]
theorem length_le {H : Type} (l : List (DataW H)) : l.length ≤ Rows.uptoBulkAll l := by
  induction l with
  | nil => simp [Rows.uptoBulkAll]
  | cons x r ih => have := one_le x; simp only [Rows.uptoBulkAll, List.length_cons]; omega
theorem bound {H : Type} {l : List (DataW H)} (hk : Rows.uptoSmall H l = true) : Rows.uptoBulkAll l ≤ 1048576 := of_decide_eq_true hk
end Go.Proofs.Ytafmoglaockepaa.Bulk
end
section
namespace Go.Proofs.Ytafmoglaockepaa.Cd
open Go Go.Deep Go.ChangeShapes Go.WideShapes Go.RowKit Go.Proofs.Ytafmoglaockepaa.Num Go.Proofs.Ytafmoglaockepaa.PG Go.Proofs.YtafmoglaockepaaW.PrintWords Go.Proofs.YtafmoglaockepaaW.PrintLast Go.Proofs.YtafmoglaockepaaW.PrintMore
set_option linter.unusedVariables false
set_option maxRecDepth 100000
theorem bytesArg {H : Type} {enc : TypeId × Value → H} {W : World} {base : Nat} {held : Bool} {a : Option Addr} {len cap : Nat} {d : DataW H} {ps : List MemPlace}
    (h : DataW.Trod enc Try.prog W base (fun _ => true) held 26 (.slice a len cap) d ps) : ∃ zs : List Int, Kd.C (Kd.int .u8) W a len zs ∧ len ≤ cap ∧ (∀ v ∈ zs, (Lit.int .u8 v).wf = true) ∧ len + 1 ≤ Rows.uptoBulk d + 0 := by
  obtain ⟨fuel, hf⟩ := h
  rcases open_ints Try.underlying26 Try.underlying5 (by kernel_rfl) hf with ⟨hcs, hx⟩ | ⟨x, l, c, zs, hcs, _, hl, hm, hz, hx, hcell, hwz⟩
  · simp [Value.cells] at hcs
    obtain ⟨rfl, rfl, rfl⟩ := hcs
    obtain ⟨hx, _⟩ := Prod.mk.inj hx
    subst hx
    exact ⟨[], Kd.C_nil _ _, Nat.le_refl _, fun _ hp => (by cases hp), by simp [Rows.uptoBulk]⟩
  · simp [Value.cells] at hcs
    obtain ⟨rfl, rfl, rfl⟩ := hcs
    have hz : zs.length = cap := by simpa using hz
    obtain ⟨hx, _⟩ := Prod.mk.inj hx
    subst hx
    refine ⟨zs.take len, Kd.C_of_reads (d := (0 : Int)) (h1 := fun _ => rfl) ⟨by rw [List.length_take]; omega, by simp only [maxLen] at hm; omega, fun _ => ⟨x, rfl, fun i hi => ?_⟩⟩, hl, fun v hv => hwz v (List.mem_of_mem_take hv), ?_⟩
    · rw [hcell i (by omega)]
      congr 2
      rw [List.getD_eq_getElem?_getD, List.getD_eq_getElem?_getD, List.getElem?_take, if_pos hi]
    · have h1 := Bulk.length_le (lits (H := H) .u8 (zs.take len))
      simp only [Rows.uptoBulk]
      have h2 : (lits (H := H) .u8 (zs.take len)).length = len := by
        simp [lits]
        omega
      omega
theorem isBytes_of {zs : List Int} (h : ∀ v ∈ zs, (Lit.int .u8 v).wf = true) : IsBytes zs := by
  intro v hv
  have := bounds_u8 (h v hv)
  omega
theorem int64_of {a : Int} (h : (Lit.int .i64 a).wf = true) : Int64 a := by
  have := bounds_i64 h
  unfold Int64
  omega
end Go.Proofs.Ytafmoglaockepaa.Cd
end
