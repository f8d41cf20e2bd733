/- What larderlaw06.DiskNil computes, walked: true. -/
import Derived.Test.YtpaonoaedjkekaaDoorDkRead
import Derived.RangeFuncNested
import Derived.RangeFuncBound
import Derived.RangeFuncCalls
import Derived.RangeFuncLeaves
import Derived.OwnWalkIn
import Derived.TacticsInMore
import Derived.RegionIn
import Derived.LoopNIn
import Derived.LoopIn
namespace Go.Proofs.YtpaonoaedjkekaaDoor.Dk
open Go Go.RowKit Go.Proofs.YtpaonoaedjkekaaDoor.PD Go.Proofs.YtpaonoaedjkekaaDoorW.PrintWords Go.Proofs.YtpaonoaedjkekaaDoorW.PrintLast Go.Proofs.YtpaonoaedjkekaaDoorW.PrintMore
set_option linter.unusedVariables false
set_option linter.unusedSimpArgs false
set_option maxHeartbeats 4000000
set_option maxRecDepth 100000
theorem run_neq_func_nil {P : Program} (w : World) {t : TypeId} {a b c} (fn : Fn) (x y : Array Value) (ht : P.underlying t = some (.func a b c)) :
    (binOp .neq t (.func fn x y) .nilFunc).run P w = .ok (.bool true) w := by
  have h : ∀ d : Nat, (Op.equalIn (d + 1) t (.func fn x y) .nilFunc).run P w = .ok false w := fun d => by
    simp [Op.equalIn, run_underlying ht]
  simp only [binOp]
  simp [Op.equal, Op.maxDepth, h 9999]
theorem sectors_none (w : World) : Calls Tryd.prog 19 #[.pointer none] w fun e w' => e = .returned (.int .i64 0) ∧ w' = w := by
  go_enter Tryd.func19, Tryd.ntmps19
  go_wp2
  go_ret
  exact ⟨rfl, rfl⟩
theorem count_none (w : World) : Calls Tryd.prog 18 #[.pointer none] w fun e w' => e = .returned (.int .i64 0) ∧ w' = w := by
  go_enter Tryd.func18, Tryd.ntmps18
  go_wp2
  go_ret
  exact ⟨rfl, rfl⟩
theorem write_none (n : Int) (v : Value) (w : World) : Calls Tryd.prog 27 #[.pointer none, .int .i64 n, v] w fun e w' => e = .returned (.int .i64 0) ∧ w' = w := by
  go_enter Tryd.func27, Tryd.ntmps27
  go_wp2
  go_ret
  exact ⟨rfl, rfl⟩
theorem flush_none (w : World) : Calls Tryd.prog 29 #[.pointer none] w fun e w' => e = .returned (.int .i64 0) ∧ w' = w := by
  go_enter Tryd.func29, Tryd.ntmps29
  go_wp2
  go_ret
  exact ⟨rfl, rfl⟩
theorem read_none (n : Int) (w : World) : Calls Tryd.prog 23 #[.pointer none, .int .i64 n] w fun e w' => e = .returned (.tuple #[.slice none 0 0, .int .i64 0]) ∧ w' = w := by
  go_enter Tryd.func23, Tryd.ntmps23
  go_wp2
  go_ret2
  exact ⟨rfl, rfl⟩
theorem at_none (n : Int) (cs : Array Value) (w : World) : Calls Tryd.prog 15 #[.pointer none, .int .i64 n, .agg cs] w fun e w' => e = .returned (.tuple #[.slice none 0 0, .int .i64 0]) ∧ Below w.heap.size w w' := by
  go_enter Tryd.func15, Tryd.ntmps15
  go_wp2
  go_ret2
  exact ⟨rfl, below_alloc (Below.refl _ _) _⟩
theorem pending_none (w : World) : Calls Tryd.prog 22 #[.pointer none] w fun e w' => e = .returned (.slice none 0 0) ∧ w' = w := by
  go_enter Tryd.func22, Tryd.ntmps22
  go_wp2
  go_ret
  exact ⟨rfl, rfl⟩
theorem image_none (w : World) : Calls Tryd.prog 20 #[.pointer none] w fun e w' => e = .returned (.slice none 0 0) ∧ w' = w := by
  go_enter Tryd.func20, Tryd.ntmps20
  go_wp2
  go_ret
  exact ⟨rfl, rfl⟩
theorem durable_none (w : World) : Calls Tryd.prog 21 #[.pointer none] w fun e w' => e = .returned (.slice none 0 0) ∧ w' = w := by
  go_enter Tryd.func21, Tryd.ntmps21
  go_wp2
  go_ret
  exact ⟨rfl, rfl⟩
theorem choices_none (w : World) : Calls Tryd.prog 30 #[.pointer none, .int .i64 0] w fun e w' => e = .returned (.func (.func 40) #[] #[.pointer (some ⟨w.heap.size, 0, none⟩)]) ∧ w' = w.alloc (.cells #[.int .i64 (-1)] 3) := by
  go_enter Tryd.func30, Tryd.ntmps30
  go_wp2
  go_ret
  exact ⟨rfl, rfl⟩
abbrev nilEncs (_ : Unit) : Array Value := #[.slice none 0 0]
theorem choices_stops (n : Nat) (hn : 1 ≤ n) (g : Nat) (w : World) (hg : g < w.heap.size) (hc : w.cell? ⟨g, 0, none⟩ = some (.int .i64 (-1))) :
    SeqStopsK Fence.wide n Tryd.prog 40 #[.pointer (some ⟨g, 0, none⟩)] nilEncs (fun _ _ => True) (fun xs => xs = []) (fun _ => False) 0 w := fun l J Jx W hW _ _ hY h0 => by
  have hcW : W.cell? ⟨g, 0, none⟩ = some (.int .i64 (-1)) := (hW.cell (p := ⟨g, 0, none⟩) hg).trans hc
  refine callsIn_of_wp Tryd.func40 rfl trivial ?_ rfl
  simp only [Tryd.ntmps40, List.size_toArray, List.length_cons, List.length_nil, Nat.reduceAdd, Nat.reduceSub, Array.replicate_succ, Array.replicate_zero, List.push_toArray, List.append_toArray, List.nil_append, List.cons_append]
  gi_wp2
  refine bodyPost_ret (results_none rfl _ _ _) rfl ?_
  exact ⟨⟨_, rfl⟩, h0⟩
theorem cell_new_l (W : World) (v : Value) (t : TypeId) : (W.alloc (.cells #[v] t)).cell? ⟨W.heap.size, 0, none⟩ = some v ∧ (W.alloc (.cells #[v] t)).frozen? ⟨W.heap.size, 0, none⟩ = false :=
  ⟨by simp, by simp⟩
theorem cell_alloc_l {W : World} {a : Addr} {v : Value} (o : Obj) (h : W.cell? a = some v) : (W.alloc o).cell? a = some v := Go.cell_kept h (World.grownBy_alloc W o none) (fun r e => by cases e)
theorem frozen_alloc_l {W : World} {a : Addr} {v : Value} (o : Obj) (h : W.cell? a = some v) (hf : W.frozen? a = false) : (W.alloc o).frozen? a = false := (Go.frozen_kept h (World.grownBy_alloc W o none) (fun r e => by cases e)).trans hf
theorem keep2 {B : Nat} {v : Value} {W W' : World} (h : Below W.heap.size W W') (hc : W.cell? ⟨B, 0, none⟩ = some v) (hf : W.frozen? ⟨B, 0, none⟩ = false) :
    W'.cell? ⟨B, 0, none⟩ = some v ∧ W'.frozen? ⟨B, 0, none⟩ = false :=
  ⟨Go.cell_kept hc (grown_of_below h none) (fun r e => by cases e), (Go.frozen_kept hc (grown_of_below h none) (fun r e => by cases e)).trans hf⟩
theorem rangeFunc_none {F : Fence} {n : Nat} {P : Program} {g : Operand} {ps : Array Tmp} {body : Code} {Q : Exit → Act → World → Prop} {a : Act} {w : World}
    (hro : F.round = none) (h1 : 1 ≤ n) {gf : Nat} {lb : Array Value} (hg : a.eval g = .func (.func gf) #[] lb) (hFg : F.fn gf) (eg : ∀ args w, (callFunc gf args).run P w = .ok (.enter gf args) w)
    {encs : Unit → Array Value} {w0 : World} (hseq : SeqStopsK F (n - 1) P gf lb encs (fun _ _ => True) (fun xs => xs = []) (fun _ => False) 0 w0)
    (hb0 : Below w0.heap.size w0 w) (hps : ∀ x, (encs x).size = ps.size)
    (I : List Unit → World → Prop) (hI : OwnFrom w.heap.size I) (h0 : I [] w)
    (hdone : ∀ (D : Nat) (W : World), w.heap.size ≤ D → I [] W → W.heap[D]? = some (.deferred (some [])) → Q .normal { a with defers := { target := .collected D, args := #[] } :: a.defers } W) :
    (Code.rangeFunc g ps Code.skip body).wpIn F n P Q a w :=
  wpIn_rangeFunc_ownF hro h1 hg hFg eg hseq (fun _ _ => trivial) (fun _ _ _ _ _ _ _ _ => trivial) hb0 hps I (fun _ _ _ => False) hI (fun _ _ _ _ _ hs _ _ => hs) h0
    (fun x => { tmps := (ps.zip (encs x)).foldl (fun t (p, v) => t.setIfInBounds p v) a.tmps, defers := [] })
    (fun l x W K hK => wpIn_skip hK) (fun l pre x W _ h => absurd h (Nat.not_lt_zero _))
    (fun D xs W hD hS hi hK => by obtain rfl := hS; exact hdone D W hD hi hK) (fun D c pre W hD hS _ _ => hS.elim)
theorem put_one (W : World) : Kd.C k37 (W.alloc (.cells #[.int .i64 1, .int .u8 7, .bool false] 37)) (some ⟨W.heap.size, 0, none⟩) 1 [⟨1, 7, false⟩] := by
  refine ⟨rfl, by decide, fun _ => ⟨_, rfl, fun j p hj => ?_⟩⟩
  obtain ⟨hl, e⟩ := List.getElem?_eq_some_iff.1 hj
  obtain rfl : j = 0 := by simpa using hl
  obtain rfl : (⟨1, 7, false⟩ : S37) = p := e
  refine ⟨_, rfl, k37_mk _ _, fun i u hu => ?_⟩
  rw [add_off]
  have h : Rt 37 W.heap.size [.int .i64 1, .int .u8 7, .bool false] (W.alloc (.cells #[.int .i64 1, .int .u8 7, .bool false] 37)) := heap_alloc_new W _
  have := h.cell i u hu
  rw [show 0 + (0 * k37.sz + i) = i by omega]
  exact this
theorem nil_walk (w : World) (hF : Fl w) (h0 : 0 < w.heap.size) :
    Calls Tryd.prog 10 #[] w fun e w' => e = .returned (.bool true) ∧ Below w.heap.size w w' := by
  have HF := Aside0.mk hF
  have H0 := Aside0.mk h0
  clear hF h0
  have hfn := fun (W : World) (fn : Fn) (x y : Array Value) => run_neq_func_nil (P := Tryd.prog) W fn x y Tryd.underlying55
  refine (callsIn_wide (n := 3)).1 ?_
  refine callsIn_of_wp_marks Tryd.func10 rfl trivial ?_ rfl
  simp only [Tryd.ntmps10, List.size_toArray, List.length_cons, List.length_nil, Nat.reduceAdd, Nat.reduceSub, Array.replicate_succ, Array.replicate_zero, List.push_toArray, List.append_toArray, List.nil_append, List.cons_append]
  gi_wp2_with fail
  have hc0 := cell_new_l w (.bool false) 4
  have hc1 := cell_alloc_l (.cells #[.int .i64 1, .int .u8 7, .bool false] 37) hc0.1
  have hf1 := frozen_alloc_l (.cells #[.int .i64 1, .int .u8 7, .bool false] 37) hc0.1 hc0.2
  have hb1 : Below w.heap.size w ((w.alloc (.cells #[.bool false] 4)).alloc (.cells #[.int .i64 1, .int .u8 7, .bool false] 37)) := by repeat (first | exact Below.refl _ _ | apply below_alloc)
  have hput := put_one (w.alloc (.cells #[.bool false] 4))
  rw [World.size_alloc] at hput
  generalize ((w.alloc (.cells #[.bool false] 4)).alloc (.cells #[.int .i64 1, .int .u8 7, .bool false] 37)) = w1 at *
  have hF1 : Fl w1 := fun j v hj => by
    have := HF.out j v hj
    rw [← this]
    exact hb1.cell (p := ⟨0, 0 + j, none⟩) H0.out
  refine ⟨trivial, ?_⟩; gi_at_call 12; refine (callsIn_wide.2 (laid_at _ 1 [⟨1, 7, false⟩] w1 hput (fun p hp => by rw [List.mem_singleton.1 hp]; decide) (by decide) hF1 (Nat.lt_of_lt_of_le H0.out hb1.size))).mono ?_; rintro e w2 ⟨h, A', c', rfl, hn, hk, hb⟩
  obtain ⟨hc2, hf2⟩ := keep2 hb hc1 hf1
  have HB := Aside0.mk (hb1.trans (hb.mono hb1.size))
  have HK := Aside0.mk hk
  have HN := Aside0.mk hn
  clear hc0 hc1 hf1 hb1 hput hF1 hn hk hb
  gi_wp2_with fail
  refine ⟨trivial, ?_⟩; gi_at_call 23; refine (callsIn_wide.2 (read_at HK.out 1 (by rw [HN.out]; decide))).mono ?_; rintro e w3 ⟨g, cg, rfl, hM, hg, hcg, hb⟩
  obtain ⟨hc3, hf3⟩ := keep2 hb hc2 hf2
  have HB3 := Aside0.mk (HB.out.trans (hb.mono HB.out.size))
  have hs : sectorL (behindL blank (opsOf [⟨1, 7, false⟩])) 1 = List.replicate 128 7 := by decide +kernel
  rw [hs] at hM
  have hC := hM.all (by decide)
  have HC := Aside0.mk hC
  have HCG := Aside0.mk hcg
  clear hc2 hf2 hb hs hM hC hg hcg HB HK HN
  have hall : larderlaw06_all.f 200 (List.replicate 128 7) 7 = some true := by decide +kernel
  have HALL := Aside0.mk hall
  clear hall
  gi_wp2_with fail
  refine ⟨trivial, ?_⟩; gi_at_call 24; refine (callsIn_wide.2 (larderlaw06_all.calls 200 _ cg (List.replicate 128 7) 7 true w3 HC.out HCG.out HALL.out)).mono ?_; rintro e w4 ⟨rfl, ⟨nd, rfl⟩⟩
  have hb : Below w3.heap.size w3 (w3.drewN nd) := pw_below_drewN (Below.refl _ _) nd
  obtain ⟨hc4, hf4⟩ := keep2 hb hc3 hf3
  have HB4 := Aside0.mk (HB3.out.trans (hb.mono HB3.out.size))
  generalize w3.drewN nd = w4 at *
  clear hc3 hf3 hb HC HB3
  gi_wp2_with (first
    | (refine ⟨trivial, ?_⟩; gi_at_call 23; refine (callsIn_wide.2 (read_none _ _)).mono ?_; rintro e w' ⟨rfl, rfl⟩))
  refine ⟨trivial, ?_⟩; gi_at_call 15; refine (callsIn_wide.2 (at_none _ _ _)).mono ?_; rintro e w5 ⟨rfl, hb⟩
  obtain ⟨hc5, hf5⟩ := keep2 hb hc4 hf4
  have HB5 := Aside0.mk (HB4.out.trans (hb.mono HB4.out.size))
  clear hc4 hf4 hb HB4
  gi_wp2_with (first
    | (refine ⟨trivial, ?_⟩; gi_at_call 19; refine (callsIn_wide.2 (sectors_none _)).mono ?_; rintro e w' ⟨rfl, hw⟩; subst w')
    | (refine ⟨trivial, ?_⟩; gi_at_call 18; refine (callsIn_wide.2 (count_none _)).mono ?_; rintro e w' ⟨rfl, hw⟩; subst w')
    | (refine ⟨trivial, ?_⟩; gi_at_call 27; refine (callsIn_wide.2 (write_none _ _ _)).mono ?_; rintro e w' ⟨rfl, hw⟩; subst w')
    | (refine ⟨trivial, ?_⟩; gi_at_call 29; refine (callsIn_wide.2 (flush_none _)).mono ?_; rintro e w' ⟨rfl, hw⟩; subst w')
    | (refine ⟨trivial, ?_⟩; gi_at_call 22; refine (callsIn_wide.2 (pending_none _)).mono ?_; rintro e w' ⟨rfl, hw⟩; subst w')
    | (refine ⟨trivial, ?_⟩; gi_at_call 20; refine (callsIn_wide.2 (image_none _)).mono ?_; rintro e w' ⟨rfl, hw⟩; subst w')
    | (refine ⟨trivial, ?_⟩; gi_at_call 21; refine (callsIn_wide.2 (durable_none _)).mono ?_; rintro e w' ⟨rfl, hw⟩; subst w'))
  refine ⟨trivial, ?_⟩; gi_at_call 30; refine (callsIn_wide.2 (choices_none _)).mono ?_; rintro e W6 ⟨rfl, rfl⟩
  have hs := cell_new_l w5 (.int .i64 (-1)) 3
  have hcb := cell_alloc_l (.cells #[.int .i64 (-1)] 3) hc5
  have hfb := frozen_alloc_l (.cells #[.int .i64 (-1)] 3) hc5 hf5
  have hb6 : Below w.heap.size w (w5.alloc (.cells #[.int .i64 (-1)] 3)) := HB5.out.alloc HB5.out.size _
  have hsz : (w5.alloc (.cells #[.int .i64 (-1)] 3)).heap.size = w5.heap.size + 1 := by simp
  obtain ⟨G, hG⟩ : ∃ G, w5.heap.size = G := ⟨_, rfl⟩
  rw [hG] at hs hsz ⊢
  generalize w5.alloc (.cells #[.int .i64 (-1)] 3) = w6 at *
  have HS := Aside0.mk hs
  have HSZ := Aside0.mk hsz
  have HB6 := Aside0.mk hb6
  clear hc5 hf5 HB5 hs hsz hb6 hG
  gi_wp2_with fail
  refine rangeFunc_none rfl (by decide) rfl trivial (Go.Proofs.enters_of Tryd.func40 (by kernel_rfl) rfl) (choices_stops 2 (by decide) G w6 (by have := HSZ.out; omega) HS.out.1) (Below.refl _ _) (fun _ => rfl)
    (fun _ W => (W.cell? ⟨w.heap.size, 0, none⟩ = some (.bool false) ∧ W.frozen? ⟨w.heap.size, 0, none⟩ = false) ∧ Below w.heap.size w W)
    (OwnFrom.and (Own.from (fun s A B row hs hg hr => ⟨Go.cell_kept hs.1 hg hr, (Go.frozen_kept hs.1 hg hr).trans hs.2⟩) _) (ownFrom_below (Nat.le_refl _) HB6.out.size))
    ⟨⟨hcb, hfb⟩, HB6.out⟩ ?done
  rintro D W hD ⟨⟨hc, hf⟩, hB⟩ hK
  have HD := Aside0.mk hD
  have HB7 := Aside0.mk hB
  clear hfn hcb hfb hD hB
  gi_wp2_with fail
  have hK' := (KeepsOthers.setCell W ⟨w.heap.size, 0, none⟩ (.bool true)).same D _ hK rfl
  refine ⟨by simp, .inl ⟨_, _, rfl, run_takeDeferred hK', ?_⟩⟩
  have hc9 := Go.cell_kept (World.cell?_setCell_same' W ⟨w.heap.size, 0, none⟩ (.bool true) (by rw [hc]; rfl)) (grownBy_putObj' _ D (.deferred none)) (fun r e => by cases e; exact ⟨_, hK', rfl⟩)
  refine ⟨.bool true, ?_, rfl, (HB7.out.setCell (p := ⟨w.heap.size, 0, none⟩) (Nat.le_refl _) _).trans (belowK_b (w := w) (Nat.le_refl _) _ D _ _ (by have := HD.out; have := HB6.out.size; omega) hK' rfl rfl)⟩
  simp [results, Tryd.f10, go_sem, hc9]
end Go.Proofs.YtpaonoaedjkekaaDoor.Dk
