/- What larderlaw01.FrameNil computes, walked: true, and no old memory turned; no conditions but that frame.table lies as it was laid. -/
import Derived.Test.YtlblleideihhmaaDoorPBx5
import Derived.Test.YtlblleideihhmaaDoorPBx6
import Derived.RangeFuncNested
import Derived.Shelf.Abstract
import Derived.RangeFuncBound
import Derived.RangeFuncCalls
import Derived.RangeFuncLeaves
import Derived.OwnWalkIn
import Derived.TacticsInMore
import Derived.RegionIn
import Derived.LoopNIn
import Derived.LoopIn
namespace Go.Proofs.YtlblleideihhmaaDoor.PB
open Go Go.RowKit Go.Proofs.YtlblleideihhmaaDoor.Mine Go.Proofs.YtlblleideihhmaaDoorW.PrintWords Go.Proofs.YtlblleideihhmaaDoorW.PrintLast Go.Proofs.YtlblleideihhmaaDoorW.PrintMore
set_option linter.unusedVariables false
set_option linter.unusedSimpArgs false
set_option maxHeartbeats 4000000
set_option maxRecDepth 100000
theorem run_neq_func_nil {P : Program} (w : World) {t : TypeId} {a b c} (fn : Fn) (x y : Array Value) (ht : P.underlying t = some (.func a b c)) :
    (binOp .neq t (.func fn x y) .nilFunc).run P w = .ok (.bool true) w := by
  have h : ∀ d : Nat, (Op.equalIn (d + 1) t (.func fn x y) .nilFunc).run P w = .ok false w := fun d => by
    simp [Op.equalIn, run_underlying ht]
  simp only [binOp]
  simp [Op.equal, Op.maxDepth, h 9999]
theorem feed_none (v : Value) (w : World) : Calls Tryd.prog 51 #[.pointer none, v] w fun e w' => e = .returned (.tuple #[.slice none 0 0, .int .i64 0, .int .i64 0]) ∧ w' = w := by
  go_enter Tryd.func51, Tryd.ntmps51
  go_wp2
  refine bodyPost_ret (results_list (rs := [.tmp 4, .tmp 5, .tmp 6]) rfl (by simp) (.tmp (.tmp (.tmp .nil)))) rfl ?_
  exact ⟨rfl, rfl⟩
theorem close_none (w : World) : Calls Tryd.prog 49 #[.pointer none] w fun e w' => e = .returned (.tuple #[.int .i64 0, .int .i64 0]) ∧ w' = w := by
  go_enter Tryd.func49, Tryd.ntmps49
  go_wp2
  refine bodyPost_ret (results_list (rs := [.tmp 2, .tmp 3]) rfl (by simp) (.tmp (.tmp .nil))) rfl ?_
  exact ⟨rfl, rfl⟩
theorem scan_none (w : World) : Calls Tryd.prog 42 #[.slice none 0 0] w fun e w' => e = .returned (.tuple #[.slice none 0 0, .int .i64 0, .int .i64 0]) ∧ w' = w := by
  go_enter Tryd.func42, Tryd.ntmps42
  go_wp2
  go_loopw [5, 6] (fun l p wr => l = .slice none 0 0 ∧ p = .int .i64 0 ∧ wr = w) (fun _ _ _ => 0)
  · exact ⟨rfl, rfl, rfl⟩
  · obtain ⟨rfl, rfl, rfl⟩ := hrel
    go_wp2
    refine bodyPost_ret (results_list (rs := [.tmp 2, .tmp 3, .tmp 4]) rfl (by simp) (.tmp (.tmp (.tmp .nil)))) rfl ?_
    exact ⟨rfl, rfl⟩
theorem each_none (w : World) : Calls Tryd.prog 46 #[.slice none 0 0] w fun e w' => e = .returned (.func (.func 74) #[] #[.pointer (some ⟨w.heap.size, 0, none⟩)]) ∧ w' = w.alloc (.cells #[.slice none 0 0] 22) := by
  have hq := fun w : World => Lib.run_eql_slice_nil (P := Tryd.prog) w 22 5 none 0 0 0 0 Tryd.underlying22
  go_enter Tryd.func46, Tryd.ntmps46
  go_wp2
  go_ret
  exact ⟨rfl, rfl⟩
abbrev freshReader (g : Nat) (d : Bool) : Obj := .cells #[.func (.func 90) #[.pointer (some ⟨g, 0, none⟩)] #[], .int .i64 0, .int .i64 0, .int .u32 0, .int .u64 0, .int .i64 0, .slice none 0 0, .int .u32 0, .slice none 0 0, .int .i64 0, .int .i64 0, .bool d] 109
theorem reader_new (w : World) : Calls Tryd.prog 47 #[] w fun e w' => e = .returned (.pointer (some ⟨w.heap.size, 0, none⟩)) ∧ w' = w.alloc (freshReader w.heap.size false) := by
  have hst := fun (W : World) (a : Addr) (f : Fn) (x y : Array Value) => run_store Tryd.prog W a (.func f x y) .plain rfl
  go_enter Tryd.func47, Tryd.ntmps47
  go_wp2
  go_end0
  go_wp2
  go_end0
  go_wp2
  go_ret
  exact ⟨rfl, rfl⟩
theorem feed_fresh (w : World) : Calls Tryd.prog 51 #[.pointer (some ⟨w.heap.size, 0, none⟩), .slice none 0 0] (w.alloc (freshReader w.heap.size false)) fun e w' => e = .returned (.tuple #[.slice none 0 0, .int .i64 0, .int .i64 0]) ∧ w' = (w.alloc (freshReader w.heap.size false)).drew := by
  go_enter Tryd.func51, Tryd.ntmps51
  go_wp2
  go_loopw [20] (fun p wr => p = .int .i64 0 ∧ wr = w.alloc (freshReader w.heap.size false)) (fun _ _ => 0)
  · exact ⟨rfl, rfl⟩
  · obtain ⟨rfl, rfl⟩ := hrel
    go_wp2
    go_region
    go_wp2
    refine bodyPost_ret (results_list (rs := [.tmp 4, .tmp 5, .tmp 6]) rfl (by simp) (.tmp (.tmp (.tmp .nil)))) rfl ?_
    exact ⟨rfl, rfl⟩
theorem close_fresh (w : World) : Calls Tryd.prog 49 #[.pointer (some ⟨w.heap.size, 0, none⟩)] ((w.alloc (freshReader w.heap.size false)).drew) fun e w' => e = .returned (.tuple #[.int .i64 0, .int .i64 0]) ∧ Below w.heap.size w w' := by
  go_enter Tryd.func49, Tryd.ntmps49
  go_wp2
  go_region
  go_wp2
  go_region
  go_wp2
  refine bodyPost_ret (results_list (rs := [.tmp 2, .tmp 3]) rfl (by simp) (.tmp (.tmp .nil))) rfl ?_
  exact ⟨rfl, by repeat (first | exact Below.refl _ _ | apply below_alloc | apply below_drew1)⟩
theorem k_put0 : frame_PutUint.f 40 [] 0 = some [0] := by decide +kernel
theorem put0 (w : World) : Calls Tryd.prog 38 #[.slice none 0 0, .int .u64 0] w fun e w' => ∃ A c, e = .returned (.slice A 1 c) ∧ Kd.C (Kd.int .u8) w' A 1 [0] ∧ Below w.heap.size w w' := by
  refine (frame_PutUint.calls 40 none 0 [] 0 [0] w (Kd.C_nil _ _) (by decide) k_put0).mono ?_
  rintro e w' ⟨v, rfl, hr, hb⟩
  obtain ⟨A, c, rfl, _, hC⟩ := Kd.R_reads hr
  exact ⟨A, c, rfl, hC, hb⟩
theorem k_un0 : frame_Unseal.f 40 [] = some ([], 0, 3, 0) := by decide +kernel
theorem un0 (w : World) (hT : Kd.C (Kd.int .u32) w (some ⟨0, 0, none⟩) 16 crcTab) : Calls Tryd.prog 36 #[.slice none 0 0] w fun e w' => ∃ A c, e = .returned (.tuple #[.slice A 0 c, .int .i64 0, .int .i64 3, .int .i64 0]) ∧ Below w.heap.size w w' := by
  refine (frame_Unseal.calls 40 none 0 [] [] 0 3 0 w (Kd.C_nil _ _) (by decide) hT k_un0).mono ?_
  rintro e w' ⟨v, rfl, hr, hb⟩
  obtain ⟨A, c, rfl, _, hC⟩ := Kd.R_reads hr
  exact ⟨A, c, rfl, hb⟩
theorem k_crc0 : frame_Crc.f 40 [] = some 0 := by decide +kernel
theorem k_on0 : frame_CrcOn.f 40 5 [] = some 5 := by decide +kernel

abbrev nilEncs (_ : Unit) : Array Value := #[.int .i64 0, .slice none 0 0]
theorem each_stops (n : Nat) (hn : 1 ≤ n) (g : Nat) (w : World) (hg : g < w.heap.size) (hc : w.cell? ⟨g, 0, none⟩ = some (.slice none 0 0)) :
    SeqStopsK Fence.wide n Tryd.prog 74 #[.pointer (some ⟨g, 0, none⟩)] nilEncs (fun _ _ => True) (fun xs => xs = []) (fun _ => False) 0 w := fun l J Jx W hW _ _ hY h0 => by
  have hcW : W.cell? ⟨g, 0, none⟩ = some (.slice none 0 0) := (hW.cell (p := ⟨g, 0, none⟩) hg).trans hc
  refine callsIn_of_wp Tryd.func74 rfl trivial ?_ rfl
  simp only [Tryd.ntmps74, List.size_toArray, List.length_cons, List.length_nil, Nat.reduceAdd, Nat.reduceSub, Array.replicate_succ, Array.replicate_zero, List.push_toArray, List.append_toArray, List.nil_append, List.cons_append]
  gi_wp2
  gi_loopw [3] (fun p wr => p = .int .i64 0 ∧ wr = W) (fun _ _ => 0)
  case atStart => exact ⟨rfl, rfl⟩
  case round =>
    obtain ⟨rfl, rfl⟩ := hrel
    gi_wp2
    go_end0
    exact ⟨⟨_, rfl⟩, .inl ⟨[], rfl, h0⟩⟩
theorem cell_new_l (W : World) (v : Value) (t : TypeId) : (W.alloc (.cells #[v] t)).cell? ⟨W.heap.size, 0, none⟩ = some v ∧ (W.alloc (.cells #[v] t)).frozen? ⟨W.heap.size, 0, none⟩ = false :=
  ⟨by simp, by simp⟩
theorem cell_alloc_l {W : World} {a : Addr} {v : Value} (o : Obj) (h : W.cell? a = some v) : (W.alloc o).cell? a = some v := Go.cell_kept h (World.grownBy_alloc W o none) (fun r e => by cases e)
theorem frozen_alloc_l {W : World} {a : Addr} {v : Value} (o : Obj) (h : W.cell? a = some v) (hf : W.frozen? a = false) : (W.alloc o).frozen? a = false := (Go.frozen_kept h (World.grownBy_alloc W o none) (fun r e => by cases e)).trans hf
theorem keep3 {B D : Nat} {v : Value} {o : Obj} {W W' : World} (h : Below W.heap.size W W') (hc : W.cell? ⟨B, 0, none⟩ = some v) (hf : W.frozen? ⟨B, 0, none⟩ = false) (hK : W.heap[D]? = some o) :
    W'.cell? ⟨B, 0, none⟩ = some v ∧ W'.frozen? ⟨B, 0, none⟩ = false ∧ W'.heap[D]? = some o :=
  ⟨Go.cell_kept hc (grown_of_below h none) (fun r e => by cases e), (Go.frozen_kept hc (grown_of_below h none) (fun r e => by cases e)).trans hf, (h.block D (Array.getElem?_eq_some_iff.1 hK).1).trans hK⟩
theorem drawn_below {W W' : World} (h : Drawn0 W W') : Below W.heap.size W W' := by
  obtain ⟨n, rfl⟩ := h.out
  exact pw_below_drewN (Below.refl _ _) n
theorem crc0 (w : World) (hT : Kd.C (Kd.int .u32) w (some ⟨0, 0, none⟩) 16 crcTab) : Calls Tryd.prog 23 #[.slice none 0 0] w fun e w' => e = .returned (.int .u32 0) ∧ Below w.heap.size w w' :=
  (frame_Crc.calls 40 none 0 [] 0 w (Kd.C_nil _ _) (by decide) hT k_crc0).mono fun _ _ h => ⟨h.1, drawn_below h.2⟩
theorem on0 (w : World) (hT : Kd.C (Kd.int .u32) w (some ⟨0, 0, none⟩) 16 crcTab) : Calls Tryd.prog 24 #[.int .u32 5, .slice none 0 0] w fun e w' => e = .returned (.int .u32 5) ∧ Below w.heap.size w w' :=
  (frame_CrcOn.calls 40 5 none 0 [] 5 w (Kd.C_nil _ _) (by decide) hT k_on0).mono fun _ _ h => ⟨h.1, drawn_below h.2⟩
theorem rangeFunc_none {F : Fence} {n : Nat} {P : Program} {g : Operand} {ps : Array Tmp} {body : Code} {Q : Exit → Act → World → Prop} {a : Act} {w : World}
    (hro : F.round = none) (h1 : 1 ≤ n) {gf : Nat} {lb : Array Value} (hg : a.eval g = .func (.func gf) #[] lb) (hFg : F.fn gf) (eg : ∀ args w, (callFunc gf args).run P w = .ok (.enter gf args) w)
    {encs : Unit → Array Value} {w0 : World} (hseq : SeqStopsK F (n - 1) P gf lb encs (fun _ _ => True) (fun xs => xs = []) (fun _ => False) 0 w0)
    (hb0 : Below w0.heap.size w0 w) (hps : ∀ x, (encs x).size = ps.size)
    (I : List Unit → World → Prop) (hI : OwnFrom w.heap.size I) (h0 : I [] w)
    (hdone : ∀ (D : Nat) (W : World), w.heap.size ≤ D → I [] W → W.heap[D]? = some (.deferred (some [])) → Q .normal { a with defers := { target := .collected D, args := #[] } :: a.defers } W) :
    (Code.rangeFunc g ps Code.skip body).wpIn F n P Q a w :=
  wpIn_rangeFunc_ownF hro h1 hg hFg eg hseq (fun _ _ => trivial) (fun _ _ _ _ _ _ _ _ => trivial) hb0 hps I (fun _ _ _ => False) hI (fun _ _ _ _ _ hs _ _ => hs) h0
    (fun x => { tmps := (ps.zip (encs x)).foldl (fun t (p, v) => t.setIfInBounds p v) a.tmps, defers := [] })
    (fun l x W K hK => wpIn_skip hK) (fun l pre x W _ h => absurd h (Nat.not_lt_zero _))
    (fun D xs W hD hS hi hK => by obtain rfl := hS; exact hdone D W hD hi hK) (fun D c pre W hD hS _ _ => hS.elim)
theorem nil_walk (w : World) (hT : Kd.C (Kd.int .u32) w (some ⟨0, 0, none⟩) 16 crcTab) :
    Calls Tryd.prog 20 #[] w fun e w' => e = .returned (.bool true) ∧ Below w.heap.size w w' := by
  have HT := Aside0.mk hT
  clear hT
  have hfn := fun (W : World) (fn : Fn) (x y : Array Value) => run_neq_func_nil (P := Tryd.prog) W fn x y Tryd.underlying63
  refine (callsIn_wide (n := 3)).1 ?_
  refine callsIn_of_wp_marks Tryd.func20 rfl trivial ?_ rfl
  simp only [Tryd.ntmps20, List.size_toArray, List.length_cons, List.length_nil, Nat.reduceAdd, Nat.reduceSub, Array.replicate_succ, Array.replicate_zero, List.push_toArray, List.append_toArray, List.nil_append, List.cons_append]
  gi_wp2_with (first
    | (refine ⟨trivial, ?_⟩; gi_at_call 51; refine (callsIn_wide.2 (feed_none _ _)).mono ?_; rintro e w' ⟨rfl, rfl⟩)
    | (refine ⟨trivial, ?_⟩; gi_at_call 49; refine (callsIn_wide.2 (close_none _)).mono ?_; rintro e w' ⟨rfl, rfl⟩)
    | (refine ⟨trivial, ?_⟩; gi_at_call 42; refine (callsIn_wide.2 (scan_none _)).mono ?_; rintro e w' ⟨rfl, rfl⟩)
    | (refine ⟨trivial, ?_⟩; gi_at_call 46; refine (callsIn_wide.2 (each_none _)).mono ?_; rintro e w' ⟨rfl, rfl⟩))
  have hc0 := cell_new_l w (.bool false) 4
  have hb3 : Below w.heap.size w (((w.alloc (.cells #[.bool false] 4)).alloc (.cells #[.int .u8 1] 5)).alloc (.cells #[.slice none 0 0] 22)) := by repeat (first | exact Below.refl _ _ | apply below_alloc)
  have hs := cell_new_l ((w.alloc (.cells #[.bool false] 4)).alloc (.cells #[.int .u8 1] 5)) (.slice none 0 0) 22
  simp only [World.size_alloc] at hs
  have hcb := cell_alloc_l (.cells #[.slice none 0 0] 22) (cell_alloc_l (.cells #[.int .u8 1] 5) hc0.1)
  have hfb := frozen_alloc_l (.cells #[.slice none 0 0] 22) (cell_alloc_l (.cells #[.int .u8 1] 5) hc0.1) (frozen_alloc_l (.cells #[.int .u8 1] 5) hc0.1 hc0.2)
  have hsz : (((w.alloc (.cells #[.bool false] 4)).alloc (.cells #[.int .u8 1] 5)).alloc (.cells #[.slice none 0 0] 22)).heap.size = w.heap.size + 3 := by simp
  generalize (((w.alloc (.cells #[.bool false] 4)).alloc (.cells #[.int .u8 1] 5)).alloc (.cells #[.slice none 0 0] 22)) = w3 at *
  refine rangeFunc_none rfl (by decide) rfl trivial (Go.Proofs.enters_of Tryd.func74 (by kernel_rfl) rfl) (each_stops 2 (by decide) (w.heap.size + 1 + 1) w3 (by omega) hs.1) (Below.refl _ _) (fun _ => rfl)
    (fun _ W => (W.cell? ⟨w.heap.size, 0, none⟩ = some (.bool false) ∧ W.frozen? ⟨w.heap.size, 0, none⟩ = false) ∧ Below w.heap.size w W)
    (OwnFrom.and (Own.from (fun s A B row hs hg hr => ⟨Go.cell_kept hs.1 hg hr, (Go.frozen_kept hs.1 hg hr).trans hs.2⟩) _) (ownFrom_below (Nat.le_refl _) (by omega)))
    ⟨⟨hcb, hfb⟩, hb3⟩ ?done
  rintro D W hD ⟨⟨hc, hf⟩, hB⟩ hK
  clear hfn hc0 hb3 hs hcb hfb
  have HB := Aside0.mk hB
  clear hB
  gi_wp2_with fail
  refine ⟨trivial, ?_⟩; gi_at_call 36; refine (callsIn_wide.2 (un0 _ (Kd.C_below HT.out HB.out))).mono ?_; rintro e W4 ⟨A4, c4, rfl, hb⟩
  obtain ⟨hc4, hf4, hK4⟩ := keep3 hb hc hf hK
  have HB4 := Aside0.mk (below_then HB.out HB.out.size hb)
  clear hb hc hf hK HB
  gi_wp2_with fail
  refine ⟨trivial, ?_⟩; gi_at_call 23; refine (callsIn_wide.2 (crc0 _ (Kd.C_below HT.out HB4.out))).mono ?_; rintro e W5 ⟨rfl, hb⟩
  obtain ⟨hc5, hf5, hK5⟩ := keep3 hb hc4 hf4 hK4
  have HB5 := Aside0.mk (below_then HB4.out HB4.out.size hb)
  clear hb hc4 hf4 hK4 HB4
  gi_wp2_with fail
  refine ⟨trivial, ?_⟩; gi_at_call 24; refine (callsIn_wide.2 (on0 _ (Kd.C_below HT.out HB5.out))).mono ?_; rintro e W6 ⟨rfl, hb⟩
  obtain ⟨hc6, hf6, hK6⟩ := keep3 hb hc5 hf5 hK5
  have HB6 := Aside0.mk (below_then HB5.out HB5.out.size hb)
  clear hb hc5 hf5 hK5 HB5
  gi_wp2_with fail
  refine ⟨trivial, ?_⟩; gi_at_call 47; refine (callsIn_wide.2 (reader_new W6)).mono ?_; rintro e W7 ⟨rfl, rfl⟩
  gi_wp2_with fail
  refine ⟨trivial, ?_⟩; gi_at_call 51; refine (callsIn_wide.2 (feed_fresh W6)).mono ?_; rintro e W7 ⟨rfl, rfl⟩
  gi_wp2_with fail
  refine ⟨trivial, ?_⟩; gi_at_call 49; refine (callsIn_wide.2 (close_fresh W6)).mono ?_; rintro e W7 ⟨rfl, hb⟩
  obtain ⟨hc7, hf7, hK7⟩ := keep3 hb hc6 hf6 hK6
  have HB7 := Aside0.mk (below_then HB6.out HB6.out.size hb)
  clear hb hc6 hf6 hK6 HB6
  gi_wp2_with fail
  refine ⟨trivial, ?_⟩; gi_at_call 38; refine (callsIn_wide.2 (put0 _)).mono ?_; rintro e W8 ⟨A8, c8, rfl, hC, hb⟩
  obtain ⟨hc8, hf8, hK8⟩ := keep3 hb hc7 hf7 hK7
  have HB8 := Aside0.mk (below_then HB7.out HB7.out.size hb)
  have hcv := Kd.C_string (P := Tryd.prog) (A := A8) (c := c8) Tryd.underlying22 Tryd.underlying5 Tryd.underlying9 hC
  have hs1 : (strOfNums [0]).toList = [0] := by decide +kernel
  clear hb hC hc7 hf7 hK7 HB7
  gi_wp2_with fail
  have hK' := (KeepsOthers.setCell W8 ⟨w.heap.size, 0, none⟩ (.bool true)).same D _ hK8 rfl
  refine ⟨by simp, .inl ⟨_, _, rfl, run_takeDeferred hK', ?_⟩⟩
  have hc9 := Go.cell_kept (World.cell?_setCell_same' W8 ⟨w.heap.size, 0, none⟩ (.bool true) (by rw [hc8]; rfl)) (grownBy_putObj' _ D (.deferred none)) (fun r e => by cases e; exact ⟨_, hK', rfl⟩)
  refine ⟨.bool true, ?_, rfl, (HB8.out.setCell (p := ⟨w.heap.size, 0, none⟩) (Nat.le_refl _) _).trans (belowK_b (w := w) (Nat.le_refl _) _ D _ _ (by omega) hK' rfl rfl)⟩
  simp [results, Tryd.f20, go_sem, hc9]
end Go.Proofs.YtlblleideihhmaaDoor.PB
