/- What the codec writes and reads: texts of this session joined, with what is not needed left out. -/
import Derived.Test.YtafmoglaockepaaRq2
import Derived.Test.YtafmoglaockepaaRq3
import Derived.Test.YtafmoglaockepaaRq4
import Derived.Test.YtafmoglaockepaaRq5
import Derived.Deep.RegionHeld3
import Derived.Deep.RegionLaw
import Derived.Test.YtafmoglaockepaaRows
import Derived.WalkKit
import Derived.ProofKit
import Derived.OpenShut
import Derived.SizedLaws
import Derived.Deep.Slices
import Derived.Deep.Strs
import Derived.ChangeSame
import Derived.Lib.SmallJoins
section
namespace Go.Proofs.Ytafmoglaockepaa.Cd
open Go Go.RowKit Go.Proofs.Ytafmoglaockepaa.Num Go.Proofs.Ytafmoglaockepaa.PG Go.Proofs.YtafmoglaockepaaW.PrintWords Go.Proofs.YtafmoglaockepaaW.PrintLast Go.Proofs.YtafmoglaockepaaW.PrintMore
set_option linter.unusedVariables false
set_option linter.unusedSimpArgs false
set_option maxHeartbeats 4000000
set_option maxRecDepth 100000
theorem sameLines_l0 (l : List S110) (hl : l.length ≤ 9223372036854775807) : ∀ d i k : Nat, d + 1 ≤ k → i + d = l.length → larderref09_SameLines.l0 k l l (i : Int) = some true
  | 0, i, k, hk, h => by
    obtain ⟨k, rfl⟩ : ∃ q, k = q + 1 := ⟨k - 1, by omega⟩
    unfold larderref09_SameLines.l0
    rw [if_neg (by omega)]
  | d + 1, i, k, hk, h => by
    obtain ⟨k, rfl⟩ : ∃ q, k = q + 1 := ⟨k - 1, by omega⟩
    unfold larderref09_SameLines.l0
    rw [if_pos (by omega), if_pos (by omega), if_pos (by omega), w64n (by omega), sameLines_l0 l hl d (i + 1) k (by omega) (by omega)]
    simp
theorem sameLines_ok (l : List S110) (hl : l.length ≤ 9223372036854775807) (k : Nat) (hk : l.length + 1 ≤ k) : larderref09_SameLines.f k l l = some true := by
  unfold larderref09_SameLines.f
  rw [if_pos rfl]
  exact sameLines_l0 l hl l.length 0 k hk (by omega)
theorem sameRequest_ok (q : S40) (hl : q.f2.length ≤ 9223372036854775807) (k : Nat) (hk : q.f2.length + 1 ≤ k) : larderref09_SameRequest.f k q.f0 q.f1 q.f2 q.f3 q.f4 q.f5 q.f0 q.f1 q.f2 q.f3 q.f4 q.f5 = some true := by
  unfold larderref09_SameRequest.f
  rw [if_pos rfl, if_pos rfl, sameLines_ok q.f2 hl k hk, Option.bind_some, if_pos rfl, if_pos rfl, if_pos rfl]
  simp
def sumN (l : List S110) : Nat := (l.map fun x => 2 + x.f0.size).sum
def sumQ (q : S40) : Nat := q.f0.size + q.f3.size + sumN q.f2
theorem sumN_count : ∀ l : List S110, 2 * l.length ≤ sumN l
  | [] => by simp [sumN]
  | x :: l => by
    have := sumN_count l
    simp only [sumN, List.map_cons, List.sum_cons, List.length_cons] at this ⊢
    omega
theorem sumN_cons (x : S110) (l : List S110) : sumN (x :: l) = 2 + x.f0.size + sumN l := by simp [sumN]
theorem bulkN_sum : ∀ l : List S110, bulkN l ≤ 10 * sumN l
  | [] => by simp [bulkN, sumN]
  | x :: l => by
    have := bulkN_sum l
    simp only [sumN, bulkN, List.map_cons, List.sum_cons] at this ⊢
    omega
theorem bulkQ_sum (q : S40) : bulkQ q ≤ 60 + 10 * sumQ q := by
  have := bulkN_sum q.f2
  unfold bulkQ sumQ
  omega
theorem weight_l0 (l : List S110) (z0 : ByteArray) (z1 : Int) (z3 : ByteArray) (z4 z5 : Int) (hll : l.length < 9223372036854775807) : ∀ (d i k s : Nat), d + 1 ≤ k → i + d = l.length → s + sumN (l.drop i) < 9223372036854775807 → larderlaw09_weight.l0 k (s : Int) (i : Int) z0 z1 l z3 z4 z5 = some ((s + sumN (l.drop i) : Nat) : Int)
  | 0, i, k, s, hk, h, hb => by
    obtain ⟨k, rfl⟩ : ∃ q, k = q + 1 := ⟨k - 1, by omega⟩
    unfold larderlaw09_weight.l0
    rw [if_neg (by omega), List.drop_of_length_le (by omega)]
    simp [sumN]
  | d + 1, i, k, s, hk, h, hb => by
    obtain ⟨k, rfl⟩ : ∃ q, k = q + 1 := ⟨k - 1, by omega⟩
    obtain ⟨x, hx⟩ : ∃ x, l[i]? = some x := ⟨_, List.getElem?_eq_getElem (by omega)⟩
    have he := drop_at hx
    rw [he, sumN_cons] at hb
    have ih := weight_l0 l z0 z1 z3 z4 z5 hll d (i + 1) k (s + 2 + x.f0.size) (by omega) (by omega) (by omega)
    have w1 : wrap64 ((s : Int) + 2) = ((s + 2 : Nat) : Int) := by unfold wrap64; omega
    have w2 : wrap64 (((s + 2 : Nat) : Int) + (x.f0.size : Int)) = ((s + 2 + x.f0.size : Nat) : Int) := by unfold wrap64; omega
    unfold larderlaw09_weight.l0
    rw [if_pos (by omega), if_pos (by omega), rd110 hx, w1, w2, w64n (by omega), ih, he, sumN_cons]
    congr 2
    omega
theorem weight_ok (q : S40) (hb : sumQ q < 9223372036854775807) (k : Nat) (hk : q.f2.length + 1 ≤ k) : larderlaw09_weight.f k q.f0 q.f1 q.f2 q.f3 q.f4 q.f5 = some (sumQ q : Int) := by
  have hc := sumN_count q.f2
  have hq : sumQ q = q.f0.size + q.f3.size + sumN q.f2 := rfl
  have := weight_l0 q.f2 q.f0 q.f1 q.f3 q.f4 q.f5 (by omega) q.f2.length 0 k (q.f0.size + q.f3.size) hk (by omega) (by rw [List.drop_zero]; omega)
  rw [List.drop_zero] at this
  have e0 : ((0 : Nat) : Int) = 0 := rfl
  rw [e0] at this
  unfold larderlaw09_weight.f
  rw [show wrap64 ((q.f0.size : Int) + (q.f3.size : Int)) = ((q.f0.size + q.f3.size : Nat) : Int) by unfold wrap64; omega, this, hq]
theorem C_row {w : World} {A : Option Addr} {n b : Nat} {xs : List S110} {cs : Array Value} (h : Kd.C k110 w A n xs) (hb : ∀ a, A = some a → a.block ≠ b) : Kd.C k110 (w.setRow b cs) A n xs := by
  obtain ⟨h1, h2, h3⟩ := h
  refine ⟨h1, h2, fun hn => ?_⟩
  obtain ⟨ad, e, hc⟩ := h3 hn
  refine ⟨ad, e, fun j p hj => ?_⟩
  obtain ⟨c, hs, hr, hcell⟩ := hc j p hj
  refine ⟨c, hs, ?_, fun i u hu => ?_⟩
  · rw [k110_open hr]
    exact k110_mk _ p
  · rw [World.cell?_of_block (w := w) (w' := w.setRow b cs) (a := ad.add (j * k110.sz + i)) (setRow_other w b _ cs (by have h5 := hb ad e; unfold Addr.add; first | exact h5 | (split <;> exact h5) | (simp; exact h5)))]
    exact hcell i u hu
theorem lent_at (q : S40) (A : Option Addr) (c : Nat) (W : World) (hC : Kd.C k110 W A q.f2.length q.f2) (hc : q.f2.length ≤ c) (hL : q.f2.length + 9 < 5864062014805) :
    Calls Try.prog 20 #[.agg #[.string q.f0, .int .i64 q.f1, .slice A q.f2.length c, .string q.f3, .int .i64 q.f4, .int .i64 q.f5]] W fun e w' => Below W.heap.size W w' ∧ ∃ Ao co, e = .returned (.agg #[.string q.f0, .int .i64 q.f1, .slice Ao q.f2.length co, .string q.f3, .int .i64 q.f4, .int .i64 q.f5]) ∧ Kd.C k110 w' Ao q.f2.length q.f2 ∧ q.f2.length ≤ co ∧ Kd.C k110 w' Ao (q.f2 ++ marksN).length (q.f2 ++ marksN) ∧ (q.f2 ++ marksN).length ≤ co := by
  have hb1 : Below W.heap.size W (W.alloc (.cells #[.string q.f0, .int .i64 q.f1, .slice A q.f2.length c, .string q.f3, .int .i64 q.f4, .int .i64 q.f5] 40)) := below_alloc (Below.refl _ _) _
  have r1 : Rt 40 W.heap.size [.string q.f0, .int .i64 q.f1, .slice A q.f2.length c, .string q.f3, .int .i64 q.f4, .int .i64 q.f5] (W.alloc (.cells #[.string q.f0, .int .i64 q.f1, .slice A q.f2.length c, .string q.f3, .int .i64 q.f4, .int .i64 q.f5] 40)) := heap_alloc_new W _
  have s1 : (W.alloc (.cells #[.string q.f0, .int .i64 q.f1, .slice A q.f2.length c, .string q.f3, .int .i64 q.f4, .int .i64 q.f5] 40)).heap.size = W.heap.size + 1 := by simp
  obtain ⟨b, hbe⟩ : ∃ b, W.heap.size = b := ⟨_, rfl⟩
  have HBE := Aside0.mk hbe
  have CA := Aside0.mk (Kd.C_below hC hb1)
  have HC := Aside0.mk hc
  have HL := Aside0.mk hL
  have BA := Aside0.mk (show Below b W (W.alloc (.cells #[.string q.f0, .int .i64 q.f1, .slice A q.f2.length c, .string q.f3, .int .i64 q.f4, .int .i64 q.f5] 40)) by rw [← hbe]; exact hb1)
  rw [hbe] at r1 s1
  have RA := Aside0.mk r1
  have SA := Aside0.mk s1
  clear hC hc hL hb1 r1 s1 hbe
  go_enter Try.func20, Try.ntmps20
  go_upto_region 1 with fail
  have hbe := HBE.out
  have hab : (W.alloc (.cells #[.string q.f0, .int .i64 q.f1, .slice A q.f2.length c, .string q.f3, .int .i64 q.f4, .int .i64 q.f5] 40)).heap.size = b + 1 := SA.out
  try rw [hab]
  try rw [hbe]
  clear hbe hab
  generalize W.alloc (.cells #[.string q.f0, .int .i64 q.f1, .slice A q.f2.length c, .string q.f3, .int .i64 q.f4, .int .i64 q.f5] 40) = wa at *
  have hb2 : Below wa.heap.size wa (wa.alloc (.cells #[.string ⟨#[]⟩, .int .i64 0, .slice none 0 0, .string ⟨#[]⟩, .int .i64 0, .int .i64 0] 40)) := below_alloc (Below.refl _ _) _
  have r2 : Rt 40 wa.heap.size [.string ⟨#[]⟩, .int .i64 0, .slice none 0 0, .string ⟨#[]⟩, .int .i64 0, .int .i64 0] (wa.alloc (.cells #[.string ⟨#[]⟩, .int .i64 0, .slice none 0 0, .string ⟨#[]⟩, .int .i64 0, .int .i64 0] 40)) := heap_alloc_new wa _
  have R1 := Aside0.mk (RA.out.below hb2)
  have C1 := Aside0.mk (Kd.C_below CA.out hb2)
  have B1 := Aside0.mk (BA.out.trans (hb2.mono (by have := SA.out; omega)))
  have S1 := Aside0.mk (show b + 2 ≤ (wa.alloc (.cells #[.string ⟨#[]⟩, .int .i64 0, .slice none 0 0, .string ⟨#[]⟩, .int .i64 0, .int .i64 0] 40)).heap.size by have := SA.out; simp; omega)
  rw [SA.out] at r2
  have O1 := Aside0.mk r2
  clear hb2 r2
  try rw [SA.out]
  generalize wa.alloc (.cells #[.string ⟨#[]⟩, .int .i64 0, .slice none 0 0, .string ⟨#[]⟩, .int .i64 0, .int .i64 0] 40) = w1 at *
  have c2 := R1.out.cell 2 _ rfl
  have f2 := R1.out.free 2
  go_wp2_with fail
  go_at_call 69
  refine (LentLines_at A c q.f2 w1 C1.out HC.out HL.out).mono ?_
  rintro e w2 ⟨v, rfl, hR, ⟨hsp, hcsp⟩, hb⟩
  obtain ⟨Ao, co, rfl, hco, hCo⟩ := Kd.R_reads hR
  have R2 := Aside0.mk (R1.out.below hb)
  have O2 := Aside0.mk (O1.out.below hb)
  have B2 := Aside0.mk (B1.out.trans (hb.mono (by have := S1.out; omega)))
  have BD := Aside0.mk (Kd.R_bound hR)
  have S2 := Aside0.mk (Nat.le_trans S1.out hb.size)
  have LO := Aside0.mk (show LN (b + 2) q.f2 (.slice Ao q.f2.length co) w2 from LN_alive.lower hR S1.out)
  have HCO := Aside0.mk hco
  have HSP := Aside0.mk (And.intro hsp hcsp)
  have HOW := Aside0.mk (show ∀ j, (Value.slice Ao q.f2.length co).ownBlock = some j → b + 2 ≤ j from fun j hj => Nat.le_trans S1.out ((Kd.R_bound hR).1 j hj).2.1)
  clear hR hsp hcsp hb hco hCo c2 f2
  have c2 := R2.out.cell 2 _ rfl
  have f2 := R2.out.free 2
  go_upto_region 2 with fail
  rw [R2.out.set 2 (.slice Ao q.f2.length co)]
  have hl : ([Value.string q.f0, .int .i64 q.f1, .slice A q.f2.length c, .string q.f3, .int .i64 q.f4, .int .i64 q.f5] : List Value).set 2 (.slice Ao q.f2.length co) = [Value.string q.f0, .int .i64 q.f1, .slice Ao q.f2.length co, .string q.f3, .int .i64 q.f4, .int .i64 q.f5] := rfl
  rw [hl]
  clear hl c2 f2
  have R3 := Aside0.mk (show Rt 40 b [.string q.f0, .int .i64 q.f1, .slice Ao q.f2.length co, .string q.f3, .int .i64 q.f4, .int .i64 q.f5] (w2.setRow b [Value.string q.f0, .int .i64 q.f1, .slice Ao q.f2.length co, .string q.f3, .int .i64 q.f4, .int .i64 q.f5].toArray) from R2.out.row _)
  have O3 := Aside0.mk (show Rt 40 (b + 1) [.string ⟨#[]⟩, .int .i64 0, .slice none 0 0, .string ⟨#[]⟩, .int .i64 0, .int .i64 0] (w2.setRow b [Value.string q.f0, .int .i64 q.f1, .slice Ao q.f2.length co, .string q.f3, .int .i64 q.f4, .int .i64 q.f5].toArray) from (setRow_other _ _ _ _ (by omega)).trans O2.out)
  have B3 := Aside0.mk (show Below b W (w2.setRow b [Value.string q.f0, .int .i64 q.f1, .slice Ao q.f2.length co, .string q.f3, .int .i64 q.f4, .int .i64 q.f5].toArray) from below_setRow' B2.out (Nat.le_refl _) _)
  have L3 := Aside0.mk (LN_alive.row (b := b) LO.out (by omega) [Value.string q.f0, .int .i64 q.f1, .slice Ao q.f2.length co, .string q.f3, .int .i64 q.f4, .int .i64 q.f5].toArray)
  have SP3 := Aside0.mk (show Kd.C k110 (w2.setRow b [Value.string q.f0, .int .i64 q.f1, .slice Ao q.f2.length co, .string q.f3, .int .i64 q.f4, .int .i64 q.f5].toArray) Ao (q.f2 ++ marksN).length (q.f2 ++ marksN) from C_row HSP.out.1 (fun a ha => by
    intro e
    have := HOW.out a.block (by rw [ha]; rfl)
    omega))
  generalize w2.setRow b [Value.string q.f0, .int .i64 q.f1, .slice Ao q.f2.length co, .string q.f3, .int .i64 q.f4, .int .i64 q.f5].toArray = w3 at *
  have c0 := R3.out.cell 0 _ rfl
  have c1 := R3.out.cell 1 _ rfl
  have c2 := R3.out.cell 2 _ rfl
  have c3 := R3.out.cell 3 _ rfl
  have c4 := R3.out.cell 4 _ rfl
  have c5 := R3.out.cell 5 _ rfl
  have f0 := O3.out.free 0
  have f1 := O3.out.free 1
  have f2 := O3.out.free 2
  have f3 := O3.out.free 3
  have f4 := O3.out.free 4
  have f5 := O3.out.free 5
  have d0 := O3.out.cell 0 _ rfl
  have d1 := O3.out.cell 1 _ rfl
  have d2 := O3.out.cell 2 _ rfl
  have d3 := O3.out.cell 3 _ rfl
  have d4 := O3.out.cell 4 _ rfl
  have d5 := O3.out.cell 5 _ rfl
  go_wp2_with fail
  rw [O3.out.full_req]
  have R4 : Rt 40 (b + 1) [.string q.f0, .int .i64 q.f1, .slice Ao q.f2.length co, .string q.f3, .int .i64 q.f4, .int .i64 q.f5] (w3.setRow (b + 1) [Value.string q.f0, .int .i64 q.f1, .slice Ao q.f2.length co, .string q.f3, .int .i64 q.f4, .int .i64 q.f5].toArray) := O3.out.row _
  refine bodyPost_ret (results_cell_row rfl _ _ (b + 1) 40 _ (0, 0) _ rfl R4 Try.underlying40 rfl (by kernel_rfl)) rfl ?_
  rw [HBE.out]
  have L4 := LN_alive.row (b := b + 1) L3.out (by omega) [Value.string q.f0, .int .i64 q.f1, .slice Ao q.f2.length co, .string q.f3, .int .i64 q.f4, .int .i64 q.f5].toArray
  obtain ⟨A4, c4', e4, hc4, hC4⟩ := Kd.R_reads L4
  injection e4 with e5 e6 e7
  subst e5 e7
  refine ⟨below_setRow' B3.out (Nat.le_succ _) _, Ao, co, rfl, hC4, HCO.out, C_row SP3.out (fun a ha => by
    intro e
    have := HOW.out a.block (by rw [ha]; rfl)
    omega), HSP.out.2⟩
theorem kept_at (q : S40) (Ao : Option Addr) (co : Nat) (A : Option Addr) (c : Nat) (W : World) (hCo : Kd.C k110 W Ao q.f2.length q.f2) (hco : q.f2.length ≤ co) (hsp : Kd.C k110 W Ao (q.f2 ++ marksN).length (q.f2 ++ marksN)) (hcs : (q.f2 ++ marksN).length ≤ co)
    (hC : Kd.C k110 W A q.f2.length q.f2) (hc : q.f2.length ≤ c) (hl : q.f2.length < 9223372036854775000) :
    Calls Try.prog 23 #[.agg #[.string q.f0, .int .i64 q.f1, .slice Ao q.f2.length co, .string q.f3, .int .i64 q.f4, .int .i64 q.f5], .agg #[.string q.f0, .int .i64 q.f1, .slice A q.f2.length c, .string q.f3, .int .i64 q.f4, .int .i64 q.f5]] W fun e w' => e = .returned (.bool true) ∧ Below W.heap.size W w' := by
  have hb1 : Below W.heap.size W (W.alloc (.cells #[.string q.f0, .int .i64 q.f1, .slice Ao q.f2.length co, .string q.f3, .int .i64 q.f4, .int .i64 q.f5] 40)) := below_alloc (Below.refl _ _) _
  have r1 : Rt 40 W.heap.size [.string q.f0, .int .i64 q.f1, .slice Ao q.f2.length co, .string q.f3, .int .i64 q.f4, .int .i64 q.f5] (W.alloc (.cells #[.string q.f0, .int .i64 q.f1, .slice Ao q.f2.length co, .string q.f3, .int .i64 q.f4, .int .i64 q.f5] 40)) := heap_alloc_new W _
  have s1 : (W.alloc (.cells #[.string q.f0, .int .i64 q.f1, .slice Ao q.f2.length co, .string q.f3, .int .i64 q.f4, .int .i64 q.f5] 40)).heap.size = W.heap.size + 1 := by simp
  obtain ⟨b, hbe⟩ : ∃ b, W.heap.size = b := ⟨_, rfl⟩
  have HBE := Aside0.mk hbe
  have HC := Aside0.mk (And.intro hco (And.intro hc (And.intro hcs hl)))
  have CA := Aside0.mk (And.intro (Kd.C_below hCo hb1) (And.intro (Kd.C_below hsp hb1) (Kd.C_below hC hb1)))
  have BA := Aside0.mk (show Below b W (W.alloc (.cells #[.string q.f0, .int .i64 q.f1, .slice Ao q.f2.length co, .string q.f3, .int .i64 q.f4, .int .i64 q.f5] 40)) by rw [← hbe]; exact hb1)
  rw [hbe] at r1 s1
  have RA := Aside0.mk r1
  have SA := Aside0.mk s1
  clear hCo hco hsp hcs hC hc hl hb1 r1 s1 hbe
  go_enter Try.func23, Try.ntmps23
  go_upto_region 1 with fail
  have hbe := HBE.out
  have hab : (W.alloc (.cells #[.string q.f0, .int .i64 q.f1, .slice Ao q.f2.length co, .string q.f3, .int .i64 q.f4, .int .i64 q.f5] 40)).heap.size = b + 1 := SA.out
  try rw [hab]
  try rw [hbe]
  clear hbe hab
  generalize W.alloc (.cells #[.string q.f0, .int .i64 q.f1, .slice Ao q.f2.length co, .string q.f3, .int .i64 q.f4, .int .i64 q.f5] 40) = wa at *
  have hb2 : Below wa.heap.size wa (wa.alloc (.cells #[.string q.f0, .int .i64 q.f1, .slice A q.f2.length c, .string q.f3, .int .i64 q.f4, .int .i64 q.f5] 40)) := below_alloc (Below.refl _ _) _
  have r2 : Rt 40 wa.heap.size [.string q.f0, .int .i64 q.f1, .slice A q.f2.length c, .string q.f3, .int .i64 q.f4, .int .i64 q.f5] (wa.alloc (.cells #[.string q.f0, .int .i64 q.f1, .slice A q.f2.length c, .string q.f3, .int .i64 q.f4, .int .i64 q.f5] 40)) := heap_alloc_new wa _
  have R1 := Aside0.mk (RA.out.below hb2)
  have C1 := Aside0.mk (And.intro (Kd.C_below CA.out.1 hb2) (And.intro (Kd.C_below CA.out.2.1 hb2) (Kd.C_below CA.out.2.2 hb2)))
  have B1 := Aside0.mk (BA.out.trans (hb2.mono (by have := SA.out; omega)))
  have S1 := Aside0.mk (show b + 2 ≤ (wa.alloc (.cells #[.string q.f0, .int .i64 q.f1, .slice A q.f2.length c, .string q.f3, .int .i64 q.f4, .int .i64 q.f5] 40)).heap.size by have := SA.out; simp; omega)
  rw [SA.out] at r2
  have O1 := Aside0.mk r2
  clear hb2 r2
  try rw [SA.out]
  generalize wa.alloc (.cells #[.string q.f0, .int .i64 q.f1, .slice A q.f2.length c, .string q.f3, .int .i64 q.f4, .int .i64 q.f5] 40) = w1 at *
  have HSR := Aside0.mk (larderref09_SameRequest.calls (q.f2.length + 1) q.f0 q.f1 Ao co q.f2 q.f3 q.f4 q.f5 q.f0 q.f1 A c q.f2 q.f3 q.f4 q.f5 true w1 C1.out.1 HC.out.1 C1.out.2.2 HC.out.2.1 (sameRequest_ok q (by have := HC.out.2.2.2; omega) _ (Nat.le_refl _)))
  have c0 := R1.out.cell 0 _ rfl
  have d0 := O1.out.cell 0 _ rfl
  have c1 := R1.out.cell 1 _ rfl
  have d1 := O1.out.cell 1 _ rfl
  have c2 := R1.out.cell 2 _ rfl
  have d2 := O1.out.cell 2 _ rfl
  have c3 := R1.out.cell 3 _ rfl
  have d3 := O1.out.cell 3 _ rfl
  have c4 := R1.out.cell 4 _ rfl
  have d4 := O1.out.cell 4 _ rfl
  have c5 := R1.out.cell 5 _ rfl
  have d5 := O1.out.cell 5 _ rfl
  go_wp2_with fail
  go_at_call 26
  refine HSR.out.mono ?_
  rintro e w2 ⟨rfl, hb⟩
  have R2 := Aside0.mk (R1.out.below hb)
  have O2 := Aside0.mk (O1.out.below hb)
  have C2 := Aside0.mk (And.intro (Kd.C_below C1.out.2.1 hb) (Kd.C_below C1.out.2.2 hb))
  have B2 := Aside0.mk (B1.out.trans (hb.mono (by have := S1.out; omega)))
  have S2 := Aside0.mk (Nat.le_trans S1.out hb.size)
  have HKL := Aside0.mk (KeptLines_at (q.f2.length + 9 + 1) Ao co A c q.f2 (q.f2 ++ marksN) true w2 C2.out.1 (by rw [List.length_append, marksN_length]) HC.out.2.2.1 C2.out.2 HC.out.2.1 HC.out.2.2.2 (keptLines_l0 q.f2 HC.out.2.2.2 (q.f2.length + 9) 0 (by omega)))
  clear hb HSR c0 c1 c2 c3 c4 c5 d0 d1 d2 d3 d4 d5
  have c2 := R2.out.cell 2 _ rfl
  have d2 := O2.out.cell 2 _ rfl
  go_wp2_with fail
  go_at_call 73
  refine HKL.out.mono ?_
  rintro e w3 ⟨rfl, hd⟩
  have hb : Below w2.heap.size w2 w3 := by
    obtain ⟨md, rfl⟩ := hd
    exact pw_below_drewN (Below.refl _ _) md
  have B3 := Aside0.mk (B2.out.trans (hb.mono (by have := S2.out; omega)))
  clear hd hb
  go_wp2_with fail
  go_ret
  rw [HBE.out]
  exact ⟨rfl, B3.out⟩
end Go.Proofs.Ytafmoglaockepaa.Cd
end
section
namespace Go.Proofs.Ytafmoglaockepaa.Cd
open Go Go.RowKit Go.Proofs.Ytafmoglaockepaa.Mine Go.Proofs.Ytafmoglaockepaa.Num Go.Proofs.Ytafmoglaockepaa.PG Go.Proofs.YtafmoglaockepaaW.PrintWords Go.Proofs.YtafmoglaockepaaW.PrintLast Go.Proofs.YtafmoglaockepaaW.PrintMore
set_option linter.unusedVariables false
set_option linter.unusedSimpArgs false
set_option maxHeartbeats 4000000
set_option maxRecDepth 100000
theorem requests_walk (x : S40) (A : Option Addr) (c : Nat) (A2 : Option Addr) (n2 c2 : Nat) (xs : List Int) (W : World)
    (hC : Kd.C k110 W A x.f2.length x.f2) (hnc : x.f2.length ≤ c) (hok : ReqOk x) (hsum : sumQ x ≤ 1048576)
    (hC2 : Kd.C (Kd.int .u8) W A2 n2 xs) (hnc2 : n2 ≤ c2) (hby : IsBytes xs) (hn2 : n2 ≤ 1048576) :
    Calls Try.prog 4 #[.agg #[.string x.f0, .int .i64 x.f1, .slice A x.f2.length c, .string x.f3, .int .i64 x.f4, .int .i64 x.f5], .slice A2 n2 c2] W fun e w' => e = .returned (.bool true) ∧ Below W.heap.size W w' := by
  obtain rfl : xs.length = n2 := Kd.C_len hC2
  have HC := Aside0.mk (fun W' (hb : Below W.heap.size W W') => Kd.C_below hC hb)
  have HC2 := Aside0.mk (fun W' (hb : Below W.heap.size W W') => Kd.C_below hC2 hb)
  have HNC := Aside0.mk hnc
  have HNC2 := Aside0.mk hnc2
  have HOK := Aside0.mk hok
  have HSUM := Aside0.mk hsum
  have HBY := Aside0.mk hby
  have HN2 := Aside0.mk hn2
  have HLL := Aside0.mk (show 2 * x.f2.length ≤ 1048576 by have := sumN_count x.f2; unfold sumQ at hsum; omega)
  have HBU := Aside0.mk (show bulkQ x ≤ 10485820 by have := bulkQ_sum x; omega)
  have hb1 : Below W.heap.size W (W.alloc (.cells #[.string x.f0, .int .i64 x.f1, .slice A x.f2.length c, .string x.f3, .int .i64 x.f4, .int .i64 x.f5] 40)) := below_alloc (Below.refl _ _) _
  have r1 : Rt 40 W.heap.size [.string x.f0, .int .i64 x.f1, .slice A x.f2.length c, .string x.f3, .int .i64 x.f4, .int .i64 x.f5] (W.alloc (.cells #[.string x.f0, .int .i64 x.f1, .slice A x.f2.length c, .string x.f3, .int .i64 x.f4, .int .i64 x.f5] 40)) := heap_alloc_new W _
  obtain ⟨bo, hbo⟩ : ∃ bo, W.heap.size = bo := ⟨_, rfl⟩
  have HBO := Aside0.mk hbo
  rw [hbo] at r1 hb1
  have R1 := Aside0.mk r1
  have B1 := Aside0.mk hb1
  clear hC hC2 hnc hnc2 hok hsum hby hn2 hb1 r1 hbo
  go_enter Try.func4, Try.ntmps4
  go_upto_region 1 with fail
  have hbo := HBO.out
  rw [hbo]
  clear hbo
  generalize W.alloc (.cells #[.string x.f0, .int .i64 x.f1, .slice A x.f2.length c, .string x.f3, .int .i64 x.f4, .int .i64 x.f5] 40) = w1 at *
  have HWT := Aside0.mk (larderlaw09_weight.calls (x.f2.length + 1) x.f0 x.f1 A c x.f2 x.f3 x.f4 x.f5 (sumQ x) w1 (HC.out w1 (by rw [HBO.out]; exact B1.out)) HNC.out (weight_ok x (by have := HSUM.out; omega) _ (Nat.le_refl _)))
  have q0 := R1.out.cell 0 _ rfl
  have q1 := R1.out.cell 1 _ rfl
  have q2 := R1.out.cell 2 _ rfl
  have q3 := R1.out.cell 3 _ rfl
  have q4 := R1.out.cell 4 _ rfl
  have q5 := R1.out.cell 5 _ rfl
  go_wp2_with fail
  go_at_call 19
  refine HWT.out.mono ?_
  rintro e w2 ⟨rfl, hb⟩
  have R2 := Aside0.mk (R1.out.below hb)
  have B2 := Aside0.mk (B1.out.trans (hb.mono (Nat.le_of_lt R1.out.lt)))
  obtain ⟨s, hs⟩ : ∃ s, sumQ x = s := ⟨_, rfl⟩
  have HS := Aside0.mk hs
  have hg1 : decide ((1048576 : Int) < ((s : Nat) : Int)) = false := decide_eq_false (by have := HSUM.out; omega)
  have hg2 : decide (1048576 < s) = false := decide_eq_false (by have := HSUM.out; omega)
  rw [hs]
  clear hb hs q0 q1 q2 q3 q4 q5 HWT
  have HLN := Aside0.mk (lent_at x A c w2 (HC.out w2 (by rw [HBO.out]; exact B2.out)) HNC.out (by have := HLL.out; omega))
  have q0 := R2.out.cell 0 _ rfl
  have q1 := R2.out.cell 1 _ rfl
  have q2 := R2.out.cell 2 _ rfl
  have q3 := R2.out.cell 3 _ rfl
  have q4 := R2.out.cell 4 _ rfl
  have q5 := R2.out.cell 5 _ rfl
  go_wp2_with fail
  go_at_call 20
  refine HLN.out.mono ?_
  rintro e w3 ⟨hb, Ao, co, rfl, hCo, hco, hSp, hcs⟩
  have R3 := Aside0.mk (R2.out.below hb)
  have B3 := Aside0.mk (B2.out.trans (hb.mono (Nat.le_of_lt R2.out.lt)))
  have HCO := Aside0.mk (And.intro hco hcs)
  clear hg1 hg2 q0 q1 q2 q3 q4 q5 HLN
  go_upto_region 4 with fail
  have hb4 : Below w3.heap.size w3 (w3.alloc (.cells #[.string x.f0, .int .i64 x.f1, .slice Ao x.f2.length co, .string x.f3, .int .i64 x.f4, .int .i64 x.f5] 40)) := below_alloc (Below.refl _ _) _
  have r4 : Rt 40 w3.heap.size [.string x.f0, .int .i64 x.f1, .slice Ao x.f2.length co, .string x.f3, .int .i64 x.f4, .int .i64 x.f5] (w3.alloc (.cells #[.string x.f0, .int .i64 x.f1, .slice Ao x.f2.length co, .string x.f3, .int .i64 x.f4, .int .i64 x.f5] 40)) := heap_alloc_new w3 _
  obtain ⟨b4, hb4e⟩ : ∃ b4, w3.heap.size = b4 := ⟨_, rfl⟩
  have R4 := Aside0.mk (R3.out.below hb4)
  have B4 := Aside0.mk (B3.out.trans (hb4.mono (Nat.le_of_lt R3.out.lt)))
  have CO4 := Aside0.mk (And.intro (Kd.C_below hCo hb4) (Kd.C_below hSp hb4))
  rw [hb4e] at r4 ⊢
  have O4 := Aside0.mk r4
  clear hb4 r4 hb4e hb hCo hco hSp hcs
  generalize w3.alloc (.cells #[.string x.f0, .int .i64 x.f1, .slice Ao x.f2.length co, .string x.f3, .int .i64 x.f4, .int .i64 x.f5] 40) = w4 at *
  have HPR := Aside0.mk ((PutRequest_at x.f0 x.f1 Ao x.f2.length co x.f2 x.f3 x.f4 x.f5 w4 CO4.out.1 HOK.out.2.1 HOK.out.1 HOK.out.2.2.1 HOK.out.2.2.2 (by have := HBU.out; unfold bulkQ at this; omega)))
  have HRP := Aside0.mk (refPutRequest_ok x HOK.out (by have := HBU.out; omega) (x.f2.length + 12) (Nat.le_refl _))
  rw [show encReq x.f0 x.f1 x.f2 x.f3 x.f4 x.f5 = encQ x from rfl] at HPR
  obtain ⟨P, hP⟩ : ∃ P, putOut 4096 (81 :: encQ x) = P := ⟨_, rfl⟩
  obtain ⟨ec, hec⟩ : ∃ ec, putCode 4096 (81 :: encQ x) = ec := ⟨_, rfl⟩
  rw [hP, hec] at HPR HRP
  clear hP hec
  have o0 := O4.out.cell 0 _ rfl
  have o1 := O4.out.cell 1 _ rfl
  have o2 := O4.out.cell 2 _ rfl
  have o3 := O4.out.cell 3 _ rfl
  have o4 := O4.out.cell 4 _ rfl
  have o5 := O4.out.cell 5 _ rfl
  go_wp2_with fail
  go_at_call 21
  refine HPR.out.mono ?_
  rintro e w5 ⟨v, rfl, hR, hb⟩
  obtain ⟨Ap, cp, rfl, hcp, hPC⟩ := Kd.R_reads hR
  have R5 := Aside0.mk (R4.out.below hb)
  have O5 := Aside0.mk (O4.out.below hb)
  have B5 := Aside0.mk (B4.out.trans (hb.mono (Nat.le_of_lt R4.out.lt)))
  have CO5 := Aside0.mk (And.intro (Kd.C_below CO4.out.1 hb) (Kd.C_below CO4.out.2 hb))
  have CP5 := Aside0.mk hPC
  have HRC := Aside0.mk (larderref09_PutRequest.calls _ x.f0 x.f1 A c x.f2 x.f3 x.f4 x.f5 P ec w5 (HC.out w5 (by rw [HBO.out]; exact B5.out)) HNC.out HRP.out)
  clear hR hb hPC hcp o0 o1 o2 o3 o4 o5 HPR
  have q0 := R5.out.cell 0 _ rfl
  have q1 := R5.out.cell 1 _ rfl
  have q2 := R5.out.cell 2 _ rfl
  have q3 := R5.out.cell 3 _ rfl
  have q4 := R5.out.cell 4 _ rfl
  have q5 := R5.out.cell 5 _ rfl
  go_wp2_with fail
  go_at_call 22
  refine HRC.out.mono ?_
  rintro e w6 ⟨v, rfl, hR, hb⟩
  obtain ⟨Aq, cq, rfl, hcq, hQC⟩ := Kd.R_reads hR
  have R6 := Aside0.mk (R5.out.below hb)
  have O6 := Aside0.mk (O5.out.below hb)
  have B6 := Aside0.mk (B5.out.trans (hb.mono (Nat.le_of_lt R5.out.lt)))
  have CO6 := Aside0.mk (And.intro (Kd.C_below CO5.out.1 hb) (Kd.C_below CO5.out.2 hb))
  have s1 : (convert 26 9 (.slice Ap P.length cp)).run Try.prog w6 = .ok (.string (strOfNums P)) w6 := Kd.C_string Try.underlying26 Try.underlying5 Try.underlying9 (Kd.C_below CP5.out hb)
  have s2 : (convert 26 9 (.slice Aq P.length cq)).run Try.prog w6 = .ok (.string (strOfNums P)) w6 := Kd.C_string Try.underlying26 Try.underlying5 Try.underlying9 hQC
  have t1 : ((strOfNums P).toList == (strOfNums P).toList) = true := by simp
  have t2 : ((strOfNums P).toList != (strOfNums P).toList) = false := by simp
  have u1 : (ec == ec) = true := by simp
  have u2 : (ec != ec) = false := by simp
  have HKP := Aside0.mk (kept_at x Ao co A c w6 CO6.out.1 HCO.out.1 CO6.out.2 HCO.out.2 (HC.out w6 (by rw [HBO.out]; exact B6.out)) HNC.out (by have := HLL.out; omega))
  clear hR hb hQC hcq q0 q1 q2 q3 q4 q5 HRC
  have q0 := R6.out.cell 0 _ rfl
  have q1 := R6.out.cell 1 _ rfl
  have q2 := R6.out.cell 2 _ rfl
  have q3 := R6.out.cell 3 _ rfl
  have q4 := R6.out.cell 4 _ rfl
  have q5 := R6.out.cell 5 _ rfl
  have o0 := O6.out.cell 0 _ rfl
  have o1 := O6.out.cell 1 _ rfl
  have o2 := O6.out.cell 2 _ rfl
  have o3 := O6.out.cell 3 _ rfl
  have o4 := O6.out.cell 4 _ rfl
  have o5 := O6.out.cell 5 _ rfl
  go_wp2_with fail
  go_at_call 23
  refine HKP.out.mono ?_
  rintro e w7 ⟨rfl, hb⟩
  have B7 := Aside0.mk (B6.out.trans (hb.mono (Nat.le_of_lt R6.out.lt)))
  have S7 := Aside0.mk (show bo ≤ w7.heap.size from Nat.le_trans (Nat.le_of_lt R6.out.lt) hb.size)
  clear hb s1 s2 t1 t2 u1 u2 q0 q1 q2 q3 q4 q5 HKP o0 o1 o2 o3 o4 o5
  have HLE := Aside0.mk (larderref01_Lent.calls A2 c2 xs xs w7 (HC2.out w7 (by rw [HBO.out]; exact B7.out)) HNC2.out (by unfold larderref01_Lent.f; rw [if_pos (by have := HN2.out; omega)]))
  go_wp2_with fail
  go_at_call 14
  refine HLE.out.mono ?_
  rintro e w8 ⟨v, rfl, hR, ⟨hsp, hcsp⟩, hb⟩
  obtain ⟨Am, cm, rfl, hcm, hMC⟩ := Kd.R_reads hR
  have B8 := Aside0.mk (B7.out.trans (hb.mono S7.out))
  have S8 := Aside0.mk (Nat.le_trans S7.out hb.size)
  have CM8 := Aside0.mk hMC
  have HCM := Aside0.mk hcm
  have CS8 := Aside0.mk (show Kd.C (Kd.int .u8) w8 Am (xs ++ marks9).length (xs ++ marks9) from hsp)
  have HCS := Aside0.mk (show (xs ++ marks9).length ≤ cm from hcsp)
  have HRA := Aside0.mk (Request_at Am xs.length cm xs w8 hMC hcm HBY.out (by have := HN2.out; omega))
  clear hR hsp hcsp hb hMC hcm HLE
  obtain ⟨wh, hwh⟩ : ∃ wh, whole 81 4096 xs (pReq xs 4096) = wh := ⟨_, rfl⟩
  have HWH := Aside0.mk hwh
  rw [hwh] at HRA
  clear hwh
  go_wp2_with fail
  go_at_call 24
  refine HRA.out.mono ?_
  rintro e w9 ⟨hb, v, rfl, A5, n5, c5, rfl, hR5⟩
  obtain ⟨y, hx⟩ : ∃ y, outOr zeroD_req wh = y := ⟨_, rfl⟩
  rw [hx] at hR5 ⊢
  obtain ⟨A5', c5', e5, hc5, hC5⟩ := Kd.R_reads hR5
  injection e5 with e1 e2 e3
  subst e1 e2 e3
  have C59 := Aside0.mk hC5
  have HC5 := Aside0.mk hc5
  clear hR5 hC5 hc5
  have B9 := Aside0.mk (B8.out.trans (hb.mono S8.out))
  have S9 := Aside0.mk (Nat.le_trans S8.out hb.size)
  have CM9 := Aside0.mk (Kd.C_below CM8.out hb)
  have CS9 := Aside0.mk (Kd.C_below CS8.out hb)
  have HX := Aside0.mk hx
  obtain ⟨g1, hg1⟩ : ∃ g1, (endOf wh).1 = g1 := ⟨_, rfl⟩
  obtain ⟨g2, hg2⟩ : ∃ g2, (endOf wh).2 = g2 := ⟨_, rfl⟩
  rw [hg1, hg2]
  have HG := Aside0.mk (And.intro hg1 hg2)
  clear hb HRA hx hg1 hg2
  go_upto_region 10 with fail
  have hb7 : Below w9.heap.size w9 (w9.alloc (.cells #[.string y.f0, .int .i64 y.f1, .slice A5 y.f2.length c5, .string y.f3, .int .i64 y.f4, .int .i64 y.f5] 40)) := below_alloc (Below.refl _ _) _
  have r7 : Rt 40 w9.heap.size [.string y.f0, .int .i64 y.f1, .slice A5 y.f2.length c5, .string y.f3, .int .i64 y.f4, .int .i64 y.f5] (w9.alloc (.cells #[.string y.f0, .int .i64 y.f1, .slice A5 y.f2.length c5, .string y.f3, .int .i64 y.f4, .int .i64 y.f5] 40)) := heap_alloc_new w9 _
  obtain ⟨b10, hb7e⟩ : ∃ b7, w9.heap.size = b7 := ⟨_, rfl⟩
  have B10 := Aside0.mk (B9.out.trans (hb7.mono S9.out))
  have S10 := Aside0.mk (Nat.le_trans S9.out hb7.size)
  have CM10 := Aside0.mk (Kd.C_below CM9.out hb7)
  have CS10 := Aside0.mk (Kd.C_below CS9.out hb7)
  have C510 := Aside0.mk (Kd.C_below C59.out hb7)
  rw [hb7e] at r7 ⊢
  have R10 := Aside0.mk r7
  clear hb7 r7 hb7e
  generalize w9.alloc (.cells #[.string y.f0, .int .i64 y.f1, .slice A5 y.f2.length c5, .string y.f3, .int .i64 y.f4, .int .i64 y.f5] 40) = w10 at *
  have HRB := Aside0.mk (refRequest_at A2 xs.length c2 xs w10 (HC2.out w10 (by rw [HBO.out]; exact B10.out)) HNC2.out HBY.out (by have := HN2.out; omega))
  rw [HWH.out, HG.out.1, HG.out.2, HX.out] at HRB
  go_wp2_with fail
  go_at_call 25
  refine HRB.out.mono ?_
  rintro e w11 ⟨hb, v, rfl, A6, n6, c6, rfl, hR6⟩
  obtain ⟨A6', c6', e6, hc6, hC6⟩ := Kd.R_reads hR6
  injection e6 with e1 e2 e3
  subst e1 e2 e3
  have hb9 : Below w11.heap.size w11 (w11.alloc (.cells #[.string y.f0, .int .i64 y.f1, .slice A6 y.f2.length c6, .string y.f3, .int .i64 y.f4, .int .i64 y.f5] 40)) := below_alloc (Below.refl _ _) _
  have hb' := hb.trans (hb9.mono hb.size)
  have r9 : Rt 40 w11.heap.size [.string y.f0, .int .i64 y.f1, .slice A6 y.f2.length c6, .string y.f3, .int .i64 y.f4, .int .i64 y.f5] (w11.alloc (.cells #[.string y.f0, .int .i64 y.f1, .slice A6 y.f2.length c6, .string y.f3, .int .i64 y.f4, .int .i64 y.f5] 40)) := heap_alloc_new w11 _
  obtain ⟨b12, hb9e⟩ : ∃ b9, w11.heap.size = b9 := ⟨_, rfl⟩
  have B12 := Aside0.mk (B10.out.trans (hb'.mono S10.out))
  have S12 := Aside0.mk (Nat.le_trans S10.out hb'.size)
  have CM12 := Aside0.mk (Kd.C_below CM10.out hb')
  have CS12 := Aside0.mk (Kd.C_below CS10.out hb')
  have C512 := Aside0.mk (Kd.C_below C510.out hb')
  have C612 := Aside0.mk (Kd.C_below hC6 hb9)
  have HC6 := Aside0.mk hc6
  clear hR6 hC6 hc6
  have R1012 := Aside0.mk (R10.out.below hb')
  go_upto_region 11 with fail
  rw [hb9e] at r9
  have R12 := Aside0.mk r9
  clear hb9 r9 hb9e hb hb' HRB
  generalize w11.alloc (.cells #[.string y.f0, .int .i64 y.f1, .slice A6 y.f2.length c6, .string y.f3, .int .i64 y.f4, .int .i64 y.f5] 40) = w12 at *
  have HSR := Aside0.mk (larderref09_SameRequest.calls (y.f2.length + 1) y.f0 y.f1 A5 c5 y.f2 y.f3 y.f4 y.f5 y.f0 y.f1 A6 c6 y.f2 y.f3 y.f4 y.f5 true w12 C512.out HC5.out C612.out HC6.out (sameRequest_ok y C512.out.2.1 _ (Nat.le_refl _)))
  have q0 := R1012.out.cell 0 _ rfl
  have p0 := R12.out.cell 0 _ rfl
  have q1 := R1012.out.cell 1 _ rfl
  have p1 := R12.out.cell 1 _ rfl
  have q2 := R1012.out.cell 2 _ rfl
  have p2 := R12.out.cell 2 _ rfl
  have q3 := R1012.out.cell 3 _ rfl
  have p3 := R12.out.cell 3 _ rfl
  have q4 := R1012.out.cell 4 _ rfl
  have p4 := R12.out.cell 4 _ rfl
  have q5 := R1012.out.cell 5 _ rfl
  have p5 := R12.out.cell 5 _ rfl
  have u1 : (g1 == g1) = true := by simp
  have u2 : (g2 == g2) = true := by simp
  go_wp2_with fail
  go_at_call 26
  refine HSR.out.mono ?_
  rintro e w13 ⟨rfl, hb⟩
  have B13 := Aside0.mk (B12.out.trans (hb.mono S12.out))
  have S13 := Aside0.mk (Nat.le_trans S12.out hb.size)
  have HKT := Aside0.mk (larderref01_Kept.calls Am cm xs A2 c2 xs true w13 (Kd.C_below CM12.out hb) HCM.out (HC2.out w13 (by rw [HBO.out]; exact B13.out)) HNC2.out (Kd.C_below CS12.out hb) HCS.out (by unfold larderref01_Kept.f; rw [if_pos rfl]))
  clear hb HSR q0 p0 q1 p1 q2 p2 q3 p3 q4 p4 q5 p5
  go_wp2_with fail
  go_at_call 18
  refine HKT.out.mono ?_
  rintro e w14 ⟨rfl, hd⟩
  have hb : Below w13.heap.size w13 w14 := by
    obtain ⟨md, rfl⟩ := hd
    exact pw_below_drewN (Below.refl _ _) md
  have B14 := Aside0.mk (B13.out.trans (hb.mono S13.out))
  clear hd hb
  go_wp2_with fail
  go_ret
  rw [HBO.out]
  exact ⟨rfl, B14.out⟩
end Go.Proofs.Ytafmoglaockepaa.Cd
end
section
namespace Go.Proofs.Ytafmoglaockepaa.Bulk
open Go Go.ChangeShapes Go.WideShapes Go.ChangeAt Go.RowKit
theorem one_le {H : Type} (d : DataW H) : 1 ≤ Rows.uptoBulk d := by
  cases d with
  | lit l => cases l <;> simp [Rows.uptoBulk]
  | nil => simp [Rows.uptoBulk]
  | ptr d => simp [Rows.uptoBulk]
  | slice elems spare => simp [Rows.uptoBulk]
  | agg parts => simp [Rows.uptoBulk]
  | iface t d => simp [Rows.uptoBulk]
  | map entries => simp [Rows.uptoBulk]
  | held h => simp [Rows.uptoBulk]
theorem length_le {H : Type} (l : List (DataW H)) : l.length ≤ Rows.uptoBulkAll l := by
  induction l with
  | nil => simp [Rows.uptoBulkAll]
  | cons x r ih => have := one_le x; simp only [Rows.uptoBulkAll, List.length_cons]; omega
theorem bound {H : Type} {l : List (DataW H)} (hk : Rows.uptoSmall H l = true) : Rows.uptoBulkAll l ≤ 1048576 := of_decide_eq_true hk
end Go.Proofs.Ytafmoglaockepaa.Bulk
end
section
namespace Go.Proofs.Ytafmoglaockepaa.Cd
open Go Go.Deep Go.ChangeShapes Go.WideShapes Go.RowKit Go.Proofs.Ytafmoglaockepaa.Num Go.Proofs.Ytafmoglaockepaa.PG Go.Proofs.YtafmoglaockepaaW.PrintWords Go.Proofs.YtafmoglaockepaaW.PrintLast Go.Proofs.YtafmoglaockepaaW.PrintMore
set_option linter.unusedVariables false
set_option maxRecDepth 100000
theorem bytesArg {H : Type} {enc : TypeId × Value → H} {W : World} {base : Nat} {held : Bool} {a : Option Addr} {len cap : Nat} {d : DataW H} {ps : List MemPlace}
    (h : DataW.Trod enc Try.prog W base (fun _ => true) held 26 (.slice a len cap) d ps) : ∃ zs : List Int, Kd.C (Kd.int .u8) W a len zs ∧ len ≤ cap ∧ (∀ v ∈ zs, (Lit.int .u8 v).wf = true) ∧ len + 1 ≤ Rows.uptoBulk d + 0 := by
  obtain ⟨fuel, hf⟩ := h
  rcases open_ints Try.underlying26 Try.underlying5 (by kernel_rfl) hf with ⟨hcs, hx⟩ | ⟨x, l, c, zs, hcs, _, hl, hm, hz, hx, hcell, hwz⟩
  · simp [Value.cells] at hcs
    obtain ⟨rfl, rfl, rfl⟩ := hcs
    obtain ⟨hx, _⟩ := Prod.mk.inj hx
    subst hx
    exact ⟨[], Kd.C_nil _ _, Nat.le_refl _, fun _ hp => (by cases hp), by simp [Rows.uptoBulk]⟩
  · simp [Value.cells] at hcs
    obtain ⟨rfl, rfl, rfl⟩ := hcs
    have hz : zs.length = cap := by simpa using hz
    obtain ⟨hx, _⟩ := Prod.mk.inj hx
    subst hx
    refine ⟨zs.take len, Kd.C_of_reads (d := (0 : Int)) (h1 := fun _ => rfl) ⟨by rw [List.length_take]; omega, by simp only [maxLen] at hm; omega, fun _ => ⟨x, rfl, fun i hi => ?_⟩⟩, hl, fun v hv => hwz v (List.mem_of_mem_take hv), ?_⟩
    · rw [hcell i (by omega)]
      congr 2
      rw [List.getD_eq_getElem?_getD, List.getD_eq_getElem?_getD, List.getElem?_take, if_pos hi]
    · have h1 := Bulk.length_le (lits (H := H) .u8 (zs.take len))
      simp only [Rows.uptoBulk]
      have h2 : (lits (H := H) .u8 (zs.take len)).length = len := by
        simp [lits]
        omega
      omega
theorem isBytes_of {zs : List Int} (h : ∀ v ∈ zs, (Lit.int .u8 v).wf = true) : IsBytes zs := by
  intro v hv
  have := bounds_u8 (h v hv)
  omega
theorem int64_of {a : Int} (h : (Lit.int .i64 a).wf = true) : Int64 a := by
  have := bounds_i64 h
  unfold Int64
  omega
end Go.Proofs.Ytafmoglaockepaa.Cd
end
section
namespace Go.Proofs.Ytafmoglaockepaa.Cd
open Go Go.Deep Go.ChangeShapes Go.WideShapes Go.RowKit Go.Proofs.Ytafmoglaockepaa.Num Go.Proofs.Ytafmoglaockepaa.PG Go.Proofs.YtafmoglaockepaaW.PrintWords Go.Proofs.YtafmoglaockepaaW.PrintLast Go.Proofs.YtafmoglaockepaaW.PrintMore
set_option linter.unusedVariables false
set_option maxRecDepth 100000
theorem trod_struct6 {H : Type} {enc : TypeId × Value → H} {P : Program} {w : World} {base : Nat} {spare : Nat → Bool} {held : Bool} {t : TypeId} {f0 f1 f2 f3 f4 f5 : Field} {fuel : Nat} {cs : List Value} {x : DataW H × List MemPlace} (ht : P.underlying t = some (.struct #[f0, f1, f2, f3, f4, f5])) (h : DataW.trod enc P w base spare held fuel t cs = some x) :
    ∃ y0 y1 y2 y3 y4 y5 n, x.1 = .agg [y0.1, y1.1, y2.1, y3.1, y4.1, y5.1] ∧ cs.length = P.cellsOf t ∧ DataW.trod enc P w base spare held n f0.type ((cs.drop f0.offset).take (P.cellsOf f0.type)) = some y0 ∧
      DataW.trod enc P w base spare held n f1.type ((cs.drop f1.offset).take (P.cellsOf f1.type)) = some y1 ∧ DataW.trod enc P w base spare held n f2.type ((cs.drop f2.offset).take (P.cellsOf f2.type)) = some y2 ∧
      DataW.trod enc P w base spare held n f3.type ((cs.drop f3.offset).take (P.cellsOf f3.type)) = some y3 ∧ DataW.trod enc P w base spare held n f4.type ((cs.drop f4.offset).take (P.cellsOf f4.type)) = some y4 ∧ DataW.trod enc P w base spare held n f5.type ((cs.drop f5.offset).take (P.cellsOf f5.type)) = some y5 := by
  obtain ⟨xs, n, _, rfl, hl, hlen, hf⟩ := DataW.trod_struct ht h
  match xs, hlen with
  | [y0, y1, y2, y3, y4, y5], _ => exact ⟨y0, y1, y2, y3, y4, y5, n, by simp, hl, by simpa using hf 0 f0 rfl, by simpa using hf 1 f1 rfl, by simpa using hf 2 f2 rfl, by simpa using hf 3 f3 rfl, by simpa using hf 4 f4 rfl, by simpa using hf 5 f5 rfl⟩
theorem sum_bulkP {H α : Type} (wt : α → Nat) (f : Nat → α) (D : Nat → DataW H) : ∀ L : List Nat, (∀ i ∈ L, wt (f i) ≤ Rows.uptoBulk (D i)) → ((L.map f).map wt).sum ≤ Rows.uptoBulkAll (L.map D)
  | [], _ => by simp
  | i :: L, h => by
    have h1 := sum_bulkP wt f D L (fun j hj => h j (List.mem_cons_of_mem _ hj))
    have h2 := h i (List.mem_cons_self ..)
    simp only [Rows.uptoBulkAll, List.map_cons, List.sum_cons] at h1 ⊢
    omega
theorem rowArg {H α : Type} {enc : TypeId × Value → H} {W : World} {base : Nat} {held : Bool} {a : Option Addr} {len cap : Nat} {d : DataW H} {ps : List MemPlace} {sl e : TypeId} (kd : Kd α) (z : α) (Ok : α → Prop) (wt : α → Nat) (hu : Try.prog.underlying sl = some (.slice e)) (hsz : Try.prog.cellsOf e = kd.sz)
    (hel : ∀ (fuel : Nat) (cs : List Value) (x : DataW H × List MemPlace), DataW.trod enc Try.prog W base (fun _ => true) held fuel e cs = some x → ∃ p, kd.K W p cs ∧ Ok p ∧ wt p ≤ Rows.uptoBulk x.1)
    (h : DataW.Trod enc Try.prog W base (fun _ => true) held sl (.slice a len cap) d ps) : ∃ l : List α, Kd.C kd W a len l ∧ len ≤ cap ∧ (∀ p ∈ l, Ok p) ∧ (l.map wt).sum + 1 ≤ Rows.uptoBulk d := by
  obtain ⟨fuel, hf⟩ := h
  rcases open_slice hu hf with ⟨hcs, hx⟩ | ⟨ad, l, c, m, n, D, Pl, hcs, _, hl, hm, hmm, hx, hr⟩
  · simp [Value.cells] at hcs
    obtain ⟨rfl, rfl, rfl⟩ := hcs
    obtain ⟨hx, _⟩ := Prod.mk.inj hx
    subst hx
    exact ⟨[], Kd.C_nil _ _, Nat.le_refl _, fun _ hp => (by cases hp), by simp [Rows.uptoBulk]⟩
  · simp [Value.cells] at hcs
    obtain ⟨rfl, rfl, rfl⟩ := hcs
    rw [if_pos rfl] at hmm
    have hcell : ∀ i, i < len → ∃ p : α, (∃ cs : List Value, cs.length = kd.sz ∧ kd.K W p cs ∧ ∀ j u, cs[j]? = some u → W.cell? (ad.add (i * kd.sz + j)) = some u) ∧ Ok p ∧ wt p ≤ Rows.uptoBulk (D i) := fun i hi => by
      obtain ⟨cs, hc, ht⟩ := hr i (by omega)
      obtain ⟨p, hk, hok, hw⟩ := hel _ _ _ ht
      rw [hsz] at hc
      obtain ⟨_, _, hat⟩ := World.cells?_some hc
      refine ⟨p, ⟨cs, kd.K_len hk, hk, fun j u hj => ?_⟩, hok, hw⟩
      have hjl : j < kd.sz := by
        rw [← kd.K_len hk]
        exact (List.getElem?_eq_some_iff.1 hj).1
      have g := hat (i := j) hjl
      rw [Go.Deep.add_add] at g
      rw [g, ← hj]
    obtain ⟨f, hfun⟩ : ∃ f : Nat → α, ∀ i, i < len → (∃ cs : List Value, cs.length = kd.sz ∧ kd.K W (f i) cs ∧ ∀ j u, cs[j]? = some u → W.cell? (ad.add (i * kd.sz + j)) = some u) ∧ Ok (f i) ∧ wt (f i) ≤ Rows.uptoBulk (D i) :=
      ⟨fun i => if h : i < len then (hcell i h).choose else z, fun i hi => by simp only [dif_pos hi]; exact (hcell i hi).choose_spec⟩
    refine ⟨(List.range len).map f, ⟨by simp, by simp only [maxLen] at hm; omega, fun _ => ⟨ad, rfl, fun j p hj => ?_⟩⟩, hl, fun p hp => ?_, ?_⟩
    · obtain ⟨hj1, hj2⟩ := List.getElem?_eq_some_iff.1 hj
      have hjl : j < len := by simpa using hj1
      simp only [List.getElem_map, List.getElem_range] at hj2
      subst hj2
      exact (hfun j hjl).1
    · obtain ⟨i, hi, rfl⟩ := List.mem_map.1 hp
      exact (hfun i (List.mem_range.1 hi)).2.1
    · have hd : d = .slice ((List.range len).map D) ((List.range (m - len)).map fun j => D (len + j)) := congrArg Prod.fst hx
      rw [hd]
      simp only [Rows.uptoBulk]
      have := sum_bulkP wt f D (List.range len) (fun i hi => (hfun i (List.mem_range.1 hi)).2.2)
      omega
theorem size_bytes (k : ByteArray) : k.data.toList.length = k.size := by rw [Array.length_toList]; rfl
theorem lineCells {H : Type} {enc : TypeId × Value → H} {W : World} {base : Nat} {held : Bool} (fuel : Nat) (cs : List Value) (x : DataW H × List MemPlace) (h : DataW.trod enc Try.prog W base (fun _ => true) held fuel 110 cs = some x) :
    ∃ p : S110, k110.K W p cs ∧ Int64 p.f1 ∧ 2 + p.f0.size ≤ Rows.uptoBulk x.1 := by
  have c3 : Try.prog.cellsOf 3 = 1 := by kernel_rfl
  have c9 : Try.prog.cellsOf 9 = 1 := by kernel_rfl
  have c110 : Try.prog.cellsOf 110 = 2 := by kernel_rfl
  obtain ⟨y0, y1, n', hy, hlen, h0, h1⟩ := trod_struct2 Try.underlying110 h
  rw [c110] at hlen
  obtain ⟨v0, v1, rfl⟩ : ∃ v0 v1, cs = [v0, v1] := by
    match cs, hlen with
    | [v0, v1], _ => exact ⟨v0, v1, rfl⟩
  simp only [c3, c9] at h0 h1
  obtain ⟨k0, e0, x0, w0⟩ := DataW.trod_string Try.underlying9 h0
  obtain ⟨k1, e1, x1, w1⟩ := DataW.trod_int Try.underlying3 h1
  simp at e0 e1
  subst e0
  subst e1
  refine ⟨⟨k0, k1⟩, k110_mk W ⟨k0, k1⟩, int64_of w1, ?_⟩
  rw [hy, x0, x1]
  simp only [Rows.uptoBulk, Rows.uptoBulkAll]
  have := size_bytes k0
  omega
theorem linesArg {H : Type} {enc : TypeId × Value → H} {W : World} {base : Nat} {held : Bool} {a : Option Addr} {len cap : Nat} {d : DataW H} {ps : List MemPlace}
    (h : DataW.Trod enc Try.prog W base (fun _ => true) held 38 (.slice a len cap) d ps) : ∃ l : List S110, Kd.C k110 W a len l ∧ len ≤ cap ∧ LinOk l ∧ sumN l + 1 ≤ Rows.uptoBulk d :=
  rowArg k110 ⟨⟨#[]⟩, 0⟩ (fun p => Int64 p.f1) (fun p => 2 + p.f0.size) Try.underlying38 (by kernel_rfl) lineCells h
theorem slice_of {H : Type} {enc : TypeId × Value → H} {W : World} {base : Nat} {held : Bool} {sl e : TypeId} {fuel : Nat} {v : Value} {x : DataW H × List MemPlace} (hu : Try.prog.underlying sl = some (.slice e)) (h : DataW.trod enc Try.prog W base (fun _ => true) held fuel sl [v] = some x) :
    ∃ a len cap, v = .slice a len cap ∧ DataW.Trod enc Try.prog W base (fun _ => true) held sl (.slice a len cap) x.1 x.2 := by
  obtain ⟨a, len, cap, rfl⟩ : ∃ a len cap, v = .slice a len cap := by
    rcases open_slice hu h with ⟨hcs, _⟩ | ⟨ad, l, c, _, _, _, _, hcs, _⟩
    · simp at hcs; exact ⟨_, _, _, hcs⟩
    · simp at hcs; exact ⟨_, _, _, hcs⟩
  exact ⟨a, len, cap, rfl, fuel, h⟩
theorem reqCells {H : Type} {enc : TypeId × Value → H} {W : World} {base : Nat} {held : Bool} (fuel : Nat) (cs : List Value) (x : DataW H × List MemPlace) (h : DataW.trod enc Try.prog W base (fun _ => true) held fuel 40 cs = some x) :
    ∃ (q : S40) (A : Option Addr) (c : Nat), cs = [.string q.f0, .int .i64 q.f1, .slice A q.f2.length c, .string q.f3, .int .i64 q.f4, .int .i64 q.f5] ∧ q.f2.length ≤ c ∧ Kd.C k110 W A q.f2.length q.f2 ∧ ReqOk q ∧ 7 + sumQ q ≤ Rows.uptoBulk x.1 := by
  have c3 : Try.prog.cellsOf 3 = 1 := by kernel_rfl
  have c9 : Try.prog.cellsOf 9 = 1 := by kernel_rfl
  have c38 : Try.prog.cellsOf 38 = 1 := by kernel_rfl
  have c40 : Try.prog.cellsOf 40 = 6 := by kernel_rfl
  obtain ⟨y0, y1, y2, y3, y4, y5, n, hx, hlen, h0, h1, h2, h3, h4, h5⟩ := trod_struct6 Try.underlying40 h
  rw [c40] at hlen
  obtain ⟨v0, v1, v2, v3, v4, v5, rfl⟩ : ∃ v0 v1 v2 v3 v4 v5, cs = [v0, v1, v2, v3, v4, v5] := by
    match cs, hlen with
    | [v0, v1, v2, v3, v4, v5], _ => exact ⟨v0, v1, v2, v3, v4, v5, rfl⟩
  simp only [c3, c9, c38] at h0 h1 h2 h3 h4 h5
  have h2' : DataW.trod enc Try.prog W base (fun _ => true) held n 38 [v2] = some y2 := h2
  obtain ⟨k0, e0, x0, _⟩ := DataW.trod_string Try.underlying9 h0
  obtain ⟨k1, e1, x1, w1⟩ := DataW.trod_int Try.underlying3 h1
  obtain ⟨k3, e3, x3, _⟩ := DataW.trod_string Try.underlying9 h3
  obtain ⟨k4, e4, x4, w4⟩ := DataW.trod_int Try.underlying3 h4
  obtain ⟨k5, e5, x5, w5⟩ := DataW.trod_int Try.underlying3 h5
  simp at e0 e1 e3 e4 e5
  subst e0 e1 e3 e4 e5
  obtain ⟨a, len, cap, rfl, hT⟩ := slice_of Try.underlying38 h2'
  obtain ⟨l, hC, hl, hlo, hb⟩ := linesArg hT
  obtain rfl : l.length = len := Kd.C_len hC
  refine ⟨⟨k0, k1, l, k3, k4, k5⟩, a, cap, rfl, hl, hC, ⟨int64_of w1, hlo, int64_of w4, int64_of w5⟩, ?_⟩
  rw [hx, x0, x1, x3, x4, x5]
  simp only [Rows.uptoBulk, Rows.uptoBulkAll, sumQ]
  have := size_bytes k0
  have := size_bytes k3
  omega
theorem requestArg {H : Type} {enc : TypeId × Value → H} {W : World} {base b0 : Nat} {r : Reach} {held : Bool} {v : Value} {d : DataW H} {ps : List MemPlace} (hv : Value.okWide Try.prog W r b0 40 v)
    (h : DataW.Trod enc Try.prog W base (fun _ => true) held 40 v d ps) : ∃ (q : S40) (A : Option Addr) (c : Nat), v = .agg #[.string q.f0, .int .i64 q.f1, .slice A q.f2.length c, .string q.f3, .int .i64 q.f4, .int .i64 q.f5] ∧ Kd.C k110 W A q.f2.length q.f2 ∧ q.f2.length ≤ c ∧ ReqOk q ∧ 7 + sumQ q ≤ Rows.uptoBulk d := by
  obtain ⟨cs, rfl, hsz⟩ := okWide_struct Try.underlying40 hv
  obtain ⟨fuel, hf⟩ := h
  obtain ⟨q, A, c, hcs, hc, hC, hok, hb⟩ := reqCells _ _ _ hf
  refine ⟨q, A, c, ?_, hC, hc, hok, hb⟩
  have hcs : cs.toList = _ := hcs
  rw [← hcs]
end Go.Proofs.Ytafmoglaockepaa.Cd
end
