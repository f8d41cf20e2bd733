/- The document's disk: New, Write, Flush, walked. The document's disk: New, walked; what is refused, on both disks. What is refused, on both disks. Each of the two disks is left alone by what is done on the other. A pair of disks in memory; does, its flush, walked. -/
import Derived.Test.YtpaonoaedjkekaaDoorPl5
namespace Go.Proofs.YtpaonoaedjkekaaDoor.Dk
open Go Go.RowKit Go.Proofs.YtpaonoaedjkekaaDoor.PD Go.Proofs.YtpaonoaedjkekaaDoorW.PrintWords Go.Proofs.YtpaonoaedjkekaaDoorW.PrintLast Go.Proofs.YtpaonoaedjkekaaDoorW.PrintMore
set_option linter.unusedVariables false
set_option linter.unusedSimpArgs false
set_option maxHeartbeats 4000000
set_option maxRecDepth 100000
theorem info95 : (Tryd.prog.info? 95).map (fun i => (i.zero, i.size, i.bytes)) = some (some (.agg #[.int .i64 0, .slice none 0 0]), 2, 32) := by kernel_rfl
/-- What a call that writes on the document's disk may touch. -/
abbrev ROwn (r : Rd) (vo : Value) : Nat → Prop := fun k => k = r.D ∨ some k = vo.ownBlock
theorem RfAt.appended {r : Rd} {B : Nat} {ok : Nat → Prop} {fs : List Int} {vo v1 : Value} {ops : List (Int × List Int)} {op : Int × List Int} {W w1 : World} (k : RfAt r B ok fs vo ops W)
    (ho : krop.R 95 w1 B ok v1 ((ops ++ [op]).map rof)) (hb : Below B W w1) (hg : W.grownBy w1 vo.ownBlock) (hl : ops.length < 65536) :
    RfAt r B ok fs v1 (ops ++ [op]) (w1.setRow r.D [sl r.gf r.n r.cf, v1].toArray) ∧ Kept W (w1.setRow r.D [sl r.gf r.n r.cf, v1].toArray) (ROwn r vo) ∧ Below B W (w1.setRow r.D [sl r.gf r.n r.cf, v1].toArray) := by
  have q1 := k.f.dne k.row (by decide)
  have hr1 : Rt 89 r.D [sl r.gf r.n r.cf, vo] w1 := (hg.block r.D k.row.lt (Kd.R_ne k.o k.row (by decide))).trans k.row
  have hf1 : some r.gf ≠ vo.ownBlock := by
    obtain ⟨cur, h1, _⟩ := k.f
    exact Kd.R_ne k.o h1 (by decide)
  refine ⟨{ k with row := hr1.row _, f := ?_, o := ?_, few := by simp; omega }, ?_, below_setRow' hb k.bd _⟩
  · exact (k.f.move (hg.block _ k.f.lt hf1)).move (setRow_other _ _ _ _ q1)
  · exact Kd.R_mono (Kd.R_step (Kd.R_types ho hr1 (by intro q hq; simp [Kd.int, Kd.scalar, Kd.pair, Kd.slice] at hq; omega)) (fun j hj _ => setRow_other _ _ _ _ hj.2)) (fun _ hk => hk.1)
  · refine ⟨by rw [setRow_size]; exact hg.size, fun j hj hn => ?_⟩
    exact (setRow_other _ _ _ _ (fun e => hn (.inl e))).trans (hg.block j hj (fun e => hn (.inr e)))
theorem rflush_at {r : Rd} {B : Nat} {ok : Nat → Prop} {fs : List Int} {A : Option Addr} {c : Nat} {ops : List (Int × List Int)} {W : World} (k : RfAt r B ok fs (.slice A ops.length c) ops W) (hok : ∀ k, W.heap.size ≤ k → ok k) (hl : ops.length < 65536) :
    Calls Tryd.prog 45 #[ptr r.D] W fun e w' => e = .returned (.int .i64 0) ∧ ∃ A' c', RfAt r B ok fs (.slice A' (ops.length + 1) c') (ops ++ [flushOp]) w' ∧ Kept W w' (ROwn r (.slice A ops.length c)) ∧ Below B W w' ∧ ∀ j, (Value.slice A' (ops.length + 1) c').ownBlock = some j → (Value.slice A ops.length c).ownBlock = some j ∨ W.heap.size ≤ j := by
  have K := Aside0.mk k
  have HOK := Aside0.mk hok
  have HL := Aside0.mk hl
  have cd := k.row.cell 1 _ rfl
  have n3 : decide ((65536 : Int) ≤ (ops.length : Int)) = false := decide_eq_false (by omega)
  clear k hok hl
  go_enter Tryd.func45, Tryd.ntmps45
  have HLEN := Aside0.mk (show (ops.length + 1) * 32 ≤ 140737488355328 by have := HL.out; omega)
  have HROF := Aside0.mk (show rof flushOp = (-1, []) from if_pos rfl)
  go_wp2_with (first | (
    (with_reducible refine gate_builtin (b := .append) (xs := #[.tmp 15, .tmp 17]) rfl ?_)
    at_builtin
    refine Kd.R_append krop (w0 := W) B rfl (.tmp 15) (.tmp 17) 87 95 (.agg #[.int .i64 0, .slice none 0 0]) 32 rfl Tryd.underlying87 info95 rfl (by decide) (by decide) (.slice A ops.length c) (ops.map rof) ((-1 : Int), ([] : List Int)) [.int .i64 (-1), .slice none 0 0] ok (fun _ => False) rfl rfl ⟨[.int .i64 (-1)], [.slice none 0 0], rfl, rfl, .slice none 0 0, rfl, Kd.R_nil _ _ _ _ _⟩ (fun _ h => h.elim) HOK.out K.out.o (Below.refl _ _) K.out.size (by rw [List.length_map]; exact HLEN.out) ?_
    intro v1 w1 ho hb hg hat
    rw [← HROF.out, show ops.map rof ++ [rof flushOp] = (ops ++ [flushOp]).map rof from by rw [List.map_append]; rfl] at ho
    have hput := K.out.appended ho hb hg HL.out
    have hr1 : Rt 89 r.D [sl r.gf r.n r.cf, .slice A ops.length c] w1 := (hg.block r.D K.out.row.lt (Kd.R_ne K.out.o K.out.row (by decide))).trans K.out.row
    obtain ⟨Al, cl, el⟩ := Kd.R_slice ho
    rw [List.length_map, List.length_append, List.length_singleton] at el
    subst el
    have HPUT := Aside0.mk hput
    have HR1 := Aside0.mk hr1
    have HAT := Aside0.mk hat
    have c8 := hr1.cell 1 _ rfl
    have f8 := hr1.free 1
    clear ho hb hg hat hput hr1 cd))
  go_ret
  have e8 := HR1.out.set 1 (.slice Al (ops.length + 1) cl)
  rw [e8]
  refine ⟨rfl, Al, cl, HPUT.out.1, HPUT.out.2.1, HPUT.out.2.2, fun j hj => ?_⟩
  rcases HAT.out with e | ⟨b', e, hb'⟩
  · exact .inl (e ▸ hj)
  · rw [e] at hj
    injection hj with hj
    exact .inr (hj ▸ hb')
theorem rwrite_at {r : Rd} {B : Nat} {ok : Nat → Prop} {fs : List Int} {A A2 : Option Addr} {c c2 : Nat} {ops : List (Int × List Int)} {W : World} (k : RfAt r B ok fs (.slice A ops.length c) ops W) (hok : ∀ k, W.heap.size ≤ k → ok k) (hl : ops.length < 65536) (n : Nat) (hn : 128 * n + 128 ≤ r.n) (p : List Int) (L : Nat) (hL : L = 128) (hC : Kd.C (Kd.int .u8) W A2 L p) :
    Calls Tryd.prog 44 #[ptr r.D, .int .i64 (n : Int), .slice A2 L c2] W fun e w' => e = .returned (.int .i64 0) ∧ ∃ A' c', RfAt r B ok fs (.slice A' (ops.length + 1) c') (ops ++ [((n : Int), p)]) w' ∧ Kept W w' (ROwn r (.slice A ops.length c)) ∧ Below B W w' ∧ ∀ j, (Value.slice A' (ops.length + 1) c').ownBlock = some j → (Value.slice A ops.length c).ownBlock = some j ∨ W.heap.size ≤ j := by
  have K := Aside0.mk k
  have HOK := Aside0.mk hok
  have HL := Aside0.mk hl
  have hpl : p.length = L := Kd.C_len hC
  have n4 : ((L : Int) == 128) = true := by subst hL; rfl
  have HLL := Aside0.mk hL
  have HPL := Aside0.mk hpl
  have HC := Aside0.mk hC
  have cd0 := k.row.cell 0 _ rfl
  have cd := k.row.cell 1 _ rfl
  have hbig := k.big
  have HLEN := Aside0.mk (show (ops.length + 1) * 32 ≤ 140737488355328 by omega)
  have n3 : decide ((65536 : Int) ≤ (ops.length : Int)) = false := decide_eq_false (by omega)
  obtain ⟨q, hq⟩ : ∃ q, r.n / 128 = q := ⟨_, rfl⟩
  have n1 : ¬ ((n : Int) < 0) := by omega
  have n2 : ¬ ((q : Int) ≤ (n : Int)) := by omega
  have hdv : Int.tdiv (r.n : Int) 128 = (q : Int) := by rw [Int.tdiv_eq_ediv_of_nonneg (by omega)]; omega
  have hdw : wrap64 (q : Int) = (q : Int) := by unfold wrap64; omega
  have HROF := Aside0.mk (show rof ((n : Int), p) = ((n : Int), p) from if_neg (by intro e; have := congrArg Prod.fst e; simp [flushOp] at this))
  clear k hok hl hC hpl hq hbig hn hL
  go_enter Tryd.func44, Tryd.ntmps44
  go_upto_region 10 with fail
  clear n1 n2 n3 n4 hdv hdw cd0
  go_wp2_with (first
  | (
    (with_reducible refine gate_builtin (b := .append) (xs := #[.tmp 31, .tmp 32]) rfl ?_)
    at_builtin
    refine Kd.R_append_rows (Kd.int .u8) (Rr := (Kd.int .u8).K W) (w0 := W) W.heap.size rfl (.tmp 31) (.tmp 32) 29 5 (.int .u8 0) 1 rfl Tryd.underlying29 info5' rfl (by decide) (by decide) (.slice none 0 0) [] p A2 L c2 (fun _ => True) (fun _ => False) rfl rfl (Kd.R_nil _ _ _ _ _) HC.out (fun _ _ h => h) (fun _ h => h.elim) (fun _ _ => trivial) (Below.refl _ _) (Nat.le_refl _) (by rw [HLL.out]; decide) ?_
    intro v1 w1 ho hb hg hat
    rw [List.nil_append] at ho
    have hb' : Below W.heap.size W w1 := hb
    obtain ⟨Av, cv, ev⟩ := Kd.R_slice ho
    rw [HPL.out] at ev
    subst ev
    have HV := Aside0.mk ho
    have HB1 := Aside0.mk hb'
    have K1 := Aside0.mk (K.out.stay hb')
    have cd1 := K1.out.row.cell 1 _ rfl
    clear ho hb hg hat hb' cd)
  | (
    (with_reducible refine gate_builtin (b := .append) (xs := #[.tmp 38, .tmp 42]) rfl ?_)
    at_builtin
    refine Kd.R_append krop (w0 := W) B rfl (.tmp 38) (.tmp 42) 87 95 (.agg #[.int .i64 0, .slice none 0 0]) 32 rfl Tryd.underlying87 info95 rfl (by decide) (by decide) (.slice A ops.length c) (ops.map rof) ((n : Int), p) [.int .i64 (n : Int), .slice Av L cv] ok (fun k => W.heap.size ≤ k) rfl rfl ⟨[.int .i64 (n : Int)], [.slice Av L cv], rfl, rfl, .slice Av L cv, rfl, Kd.R_lower (Kd.R_mono (Kd.R_bound HV.out) (fun _ hk => hk.2.1)) K.out.size⟩ (fun k hk => ⟨HOK.out k hk, fun e => by have := Kd.R_lt K.out.o k e.symm; omega⟩) (fun k hk => HOK.out k (Nat.le_trans HB1.out.size hk)) K1.out.o (HB1.out.mono K.out.size) K1.out.size (by rw [List.length_map]; exact HLEN.out) ?_
    intro v2 w2 ho hb hg hat
    rw [← HROF.out, show ops.map rof ++ [rof ((n : Int), p)] = (ops ++ [((n : Int), p)]).map rof from by rw [List.map_append]; rfl] at ho
    have hput := K1.out.appended ho ((Below.refl _ _).grown hg K1.out.size (Kd.R_base K1.out.o)) hg HL.out
    have hr1 : Rt 89 r.D [sl r.gf r.n r.cf, .slice A ops.length c] w2 := (hg.block r.D K1.out.row.lt (Kd.R_ne K1.out.o K1.out.row (by decide))).trans K1.out.row
    obtain ⟨Al, cl, el⟩ := Kd.R_slice ho
    rw [List.length_map, List.length_append, List.length_singleton] at el
    subst el
    have HPUT := Aside0.mk hput
    have HR1 := Aside0.mk hr1
    have HAT := Aside0.mk hat
    have c8 := hr1.cell 1 _ rfl
    have f8 := hr1.free 1
    clear ho hb hg hat hput hr1 cd1))
  go_ret
  have e8 := HR1.out.set 1 (.slice Al (ops.length + 1) cl)
  rw [e8]
  refine ⟨rfl, Al, cl, HPUT.out.1, (Kept.of_below HB1.out _).then_ HPUT.out.2.1 (fun _ hk => .inl hk), (HB1.out.mono K.out.size).trans HPUT.out.2.2, fun j hj => ?_⟩
  rcases HAT.out with e | ⟨b', e, hb'⟩
  · exact .inl (e ▸ hj)
  · rw [e] at hj
    injection hj with hj
    exact .inr (hj ▸ Nat.le_trans HB1.out.size hb')
end Go.Proofs.YtpaonoaedjkekaaDoor.Dk
namespace Go.Proofs.YtpaonoaedjkekaaDoor.Dk
open Go Go.RowKit Go.Proofs.YtpaonoaedjkekaaDoor.PD Go.Proofs.YtpaonoaedjkekaaDoorW.PrintWords Go.Proofs.YtpaonoaedjkekaaDoorW.PrintLast Go.Proofs.YtpaonoaedjkekaaDoorW.PrintMore
set_option linter.unusedVariables false
set_option linter.unusedSimpArgs false
set_option maxHeartbeats 4000000
set_option maxRecDepth 100000
theorem rnew_at (A : Option Addr) (m c k : Nat) (xs : List Int) (w : World) (hC : Kd.C (Kd.int .u8) w A m xs) (h1 : 1 ≤ k) (h2 : k ≤ 4096) (hm : m ≤ 128 * k) :
    Calls Tryd.prog 33 #[.slice A m c, .int .i64 (k : Int)] w fun e w' => ∃ r : Rd, e = .returned (.tuple #[ptr r.D, .int .i64 0]) ∧ r.n = 128 * k ∧ RfAt r w.heap.size (fun k => w.heap.size ≤ k) (padded xs (128 * k)) (.slice none 0 0) [] w' ∧ Below w.heap.size w w' := by
  have HC := Aside0.mk hC
  have hxl := Kd.C_len hC
  have HX := Aside0.mk hxl
  clear hC hxl
  have e1 : wrap64 ((k : Int) * 128) = ((128 * k : Nat) : Int) := by unfold wrap64; omega
  have c1 : ¬ ((k : Int) < 1) := by omega
  have c2 : ¬ (4096 < (k : Int)) := by omega
  have c3 : ¬ ((k : Int) * 128 < (m : Int)) := by omega
  obtain ⟨N, hN⟩ : ∃ N, 128 * k = N := ⟨_, rfl⟩
  rw [hN] at e1 hm ⊢
  have hN1 : 0 < N := by omega
  have hN2 : N ≤ 524288 := by omega
  obtain ⟨i0, hi0, hz0', hsz0, hby'⟩ := infoParts info5'
  have hmk := run_make (P := Tryd.prog) w 29 5 i0 (.int .u8 0) Tryd.underlying29 hi0 hz0' .i64 .i64 (N : Int) (N : Int) (by omega) (by omega) (by rw [hby']; omega) (by omega)
  rw [hsz0, Nat.mul_one, Int.toNat_natCast, show (N : Int) = (k : Int) * 128 from by omega] at hmk
  have HMK := Aside0.mk hmk
  have HN := Aside0.mk hN
  clear hmk hi0 hN
  go_enter Tryd.func33, Tryd.ntmps33
  go_wp2_with fail
  rw [HMK.out]
  simp only [Result.andThen_ok, Oper.upon_value]
  have hM := Mem.made w N (madeCells (Value.int .u8 0).cells N) (by rw [show (Value.int .u8 0).cells = #[Value.int .u8 0] from rfl, toList_madeCells_one]; simp [cellsB])
  have hs1 : (w.alloc (.cells (madeCells (Value.int .u8 0).cells N) 5)).heap.size = w.heap.size + 1 := by simp
  have hb1 : Below w.heap.size w (w.alloc (.cells (madeCells (Value.int .u8 0).cells N) 5)) := below_alloc (Below.refl _ _) _
  generalize w.alloc (.cells (madeCells (Value.int .u8 0).cells N) 5) = w1 at *
  obtain ⟨g, hg⟩ : ∃ g, w.heap.size = g := ⟨_, rfl⟩
  have HG := Aside0.mk hg
  rw [hg] at hM hs1 hb1 ⊢
  have hr2 : Rt 89 w1.heap.size [sl g N N, .slice none 0 0] (w1.alloc (.cells #[sl g N N, .slice none 0 0] 89)) := heap_alloc_new w1 _
  have hM2 : Mem (w1.alloc (.cells #[sl g N N, .slice none 0 0] 89)) g (List.replicate N 0) := hM.below (below_alloc (Below.refl _ _) _)
  have hb2 : Below g w (w1.alloc (.cells #[sl g N N, .slice none 0 0] 89)) := hb1.alloc (by omega) _
  have hgD : g < w1.heap.size := by omega
  have HR := Aside0.mk hr2
  have HM := Aside0.mk hM2
  have HB := Aside0.mk hb2
  have HGD := Aside0.mk (And.intro hgD (Nat.le_of_lt hgD))
  clear HMK hM hs1 hb1 hM2 hb2 hr2 hgD hg e1 c1 c2 c3
  go_wp2_with fail
  generalize w1.alloc (.cells #[sl g N N, .slice none 0 0] 89) = w3 at *
  generalize w1.heap.size = D at *
  go_loopw [7] (fun p wr => ∃ j : Nat, p = .int .i64 (j : Int) ∧ Aside0 (j ≤ m) ∧ Aside0 (Mem wr g (xs.take j ++ List.replicate (N - j) 0)) ∧ Aside0 (Below g w wr) ∧ Aside0 (Rt 89 D [sl g N N, .slice none 0 0] wr)) (fun p _ => m - (intOf p).toNat)
  · exact ⟨0, rfl, ⟨Nat.zero_le _⟩, ⟨by rw [List.take_zero, List.nil_append, Nat.sub_zero]; exact HM.out⟩, HB, HR⟩
  · obtain ⟨j, rfl, HJ, HMr, HBr, HRr⟩ := hrel
    by_cases cj : j < m
    · have cj1 : decide ((j : Int) < (m : Int)) = true := decide_eq_true (by omega)
      have cj2 : decide (j < m) = true := decide_eq_true cj
      have cj3 : (0 : Int) ≤ (j : Int) := by omega
      have cj4 : (j : Int) < (m : Int) := by omega
      have cj5 : (j : Int) < (N : Int) := by omega
      have hw1 : IntKind.i64.wrap ((j : Int) + 1) = ((j + 1 : Nat) : Int) := by rw [IntWalk.i64_in _ (by omega)]; omega
      obtain ⟨x, hx⟩ : ∃ x, xs[j]? = some x := ⟨_, List.getElem?_eq_getElem (by have := HX.out; omega)⟩
      obtain ⟨ad, rfl, hcell⟩ := (Kd.reads_of_C (d := (0 : Int)) (h1 := fun _ => rfl) (Kd.C_below HC.out (HG.out.symm ▸ HBr.out))).2.2 (by omega)
      have ce : wr.drew.cell? (ad.add j) = some (.int .u8 x) := by
        have := hcell j cj
        rw [List.getD_eq_getElem?_getD, hx] at this
        exact this
      have c0 : wr.drew.cell? ⟨D, 0, none⟩ = some (sl g N N) := HRr.out.cell 0 _ rfl
      have hlen : (xs.take j ++ List.replicate (N - j) (0 : Int)).length = N := by
        rw [List.length_append, List.length_take, List.length_replicate]; have := HX.out; omega
      have cg := HMr.out.cell j (by rw [hlen]; omega)
      have cg' : wr.drew.cell? ⟨g, j, none⟩ = _ := cg
      have fg : wr.drew.frozen? ⟨g, j, none⟩ = false := by
        obtain ⟨cur, h1, _⟩ := HMr.out
        exact (show wr.frozen? ⟨g, j, none⟩ = false by simp [World.frozen?, h1])
      have HNEW := Aside0.mk (show Mem (wr.setCell ⟨g, j, none⟩ (.int .u8 x)).drew g (xs.take (j + 1) ++ List.replicate (N - (j + 1)) 0) ∧ Below g w (wr.setCell ⟨g, j, none⟩ (.int .u8 x)).drew ∧ Rt 89 D [sl g N N, .slice none 0 0] (wr.setCell ⟨g, j, none⟩ (.int .u8 x)).drew from by
        refine ⟨?_, below_drew (HBr.out.setCell (p := ⟨g, j, none⟩) (Nat.le_refl g) _), (Below.heap_setCell wr _ _ D (by have := HGD.out.1; show D ≠ g; omega)).trans HRr.out⟩
        rw [← copy_step hx (by omega)]
        exact HMr.out.put j (by rw [hlen]; omega) x)
      clear hx hlen cg hcell
      go_upto_region 9 with fail
      go_region_law (fail)
      all_goals
        clear cg' fg ce c0 cj1 cj2 cj3 cj4 cj5
        generalize (wr.setCell ⟨g, j, none⟩ (.int .u8 x)).drew = w9 at *
        go_wp2_with fail
        refine ⟨⟨j + 1, rfl, ⟨cj⟩, ⟨HNEW.out.1⟩, ⟨HNEW.out.2.1⟩, ⟨HNEW.out.2.2⟩⟩, ?_⟩
        simp only [intOf]
        omega
    · have cj1 : decide ((j : Int) < (m : Int)) = false := decide_eq_false (by omega)
      have cj2 : decide (j < m) = false := decide_eq_false cj
      go_wp2_with fail
      go_ret2
      obtain rfl : j = m := by have := HJ.out; omega
      have hxl := HX.out
      have hM : Mem wr g (padded xs N) := by
        have := HMr.out
        rwa [List.take_of_length_le (Nat.le_of_eq hxl), ← hxl] at this
      refine ⟨⟨D, g, N, N⟩, rfl, rfl, ⟨HRr.out, hM, Kd.R_nil _ _ _ _ _, Nat.le_of_eq HG.out, padded_len (by omega), by have := HG.out; have := HGD.out; show w.heap.size ≤ D; omega, Nat.le_of_eq HG.out, Nat.le_refl _, hN2, hN1, by simp⟩, HG.out.symm ▸ HBr.out⟩
end Go.Proofs.YtpaonoaedjkekaaDoor.Dk
namespace Go.Proofs.YtpaonoaedjkekaaDoor.Dk
open Go Go.RowKit Go.Proofs.YtpaonoaedjkekaaDoor.PD Go.Proofs.YtpaonoaedjkekaaDoorW.PrintWords Go.Proofs.YtpaonoaedjkekaaDoorW.PrintLast Go.Proofs.YtpaonoaedjkekaaDoorW.PrintMore
set_option linter.unusedVariables false
set_option linter.unusedSimpArgs false
set_option maxHeartbeats 4000000
set_option maxRecDepth 100000
/-- A sector's number that is none, told in the walk's ways. -/
theorem place_no {N : Int} {q : Nat} (h : N < 0 ∨ (q : Int) ≤ N) : (decide (N < 0) = true) ∨ (decide (N < 0) = false ∧ decide ((q : Int) ≤ N) = true) := by
  rcases Int.lt_or_le N 0 with h0 | h0
  · exact .inl (decide_eq_true h0)
  · exact .inr ⟨decide_eq_false (by omega), decide_eq_true (by omega)⟩
theorem write_place {h : Hd} {B : Nat} {fs ss : List Int} {vo : Value} {ops : List (Int × List Int)} {W : World} (k : DkAt h B fs ss vo ops W) (N : Int) (q : Nat) (hq : h.n / 128 = q) (hN : N < 0 ∨ (q : Int) ≤ N) (v : Value) :
    Calls Tryd.prog 27 #[ptr h.D, .int .i64 N, v] W fun e w' => e = .returned (.int .i64 60) ∧ w' = W := by
  have K := Aside0.mk k
  have HQ := Aside0.mk hq
  rcases place_no hN with h1 | ⟨h1, h2⟩
  all_goals
    clear k hq hN
    go_enter Tryd.func27, Tryd.ntmps27
    go_wp2_with (go_at_call 19; refine (sectors_at K.out q HQ.out).mono ?_; rintro e w' ⟨rfl, hw⟩; subst w')
    go_ret
    exact ⟨rfl, rfl⟩
theorem write_sector {h : Hd} {B : Nat} {fs ss : List Int} {vo : Value} {ops : List (Int × List Int)} {W : World} (k : DkAt h B fs ss vo ops W) (n : Nat) (hn : 128 * n + 128 ≤ h.n) (A2 : Option Addr) (L c2 : Nat) (hL : L ≠ 128) :
    Calls Tryd.prog 27 #[ptr h.D, .int .i64 (n : Int), .slice A2 L c2] W fun e w' => e = .returned (.int .i64 61) ∧ w' = W := by
  have K := Aside0.mk k
  obtain ⟨q, hq⟩ : ∃ q, h.n / 128 = q := ⟨_, rfl⟩
  have HQ := Aside0.mk hq
  have n1 : ¬ ((n : Int) < 0) := by omega
  have n2 : ¬ ((q : Int) ≤ (n : Int)) := by omega
  have n3 : ((L : Int) == 128) = false := by simp; omega
  have n4 : ¬ ((L : Int) = 128) := by omega
  clear k hq hn hL
  go_enter Tryd.func27, Tryd.ntmps27
  go_wp2_with (go_at_call 19; refine (sectors_at K.out q HQ.out).mono ?_; rintro e w' ⟨rfl, hw⟩; subst w')
  go_ret
  exact ⟨rfl, rfl⟩
theorem write_full {h : Hd} {B : Nat} {fs ss : List Int} {A : Option Addr} {c : Nat} {ops : List (Int × List Int)} {W : World} (k : DkAt h B fs ss (.slice A ops.length c) ops W) (n : Nat) (hn : 128 * n + 128 ≤ h.n) (A2 : Option Addr) (c2 : Nat) (hl : 65536 ≤ ops.length) :
    Calls Tryd.prog 27 #[ptr h.D, .int .i64 (n : Int), .slice A2 128 c2] W fun e w' => e = .returned (.int .i64 5) ∧ w' = W := by
  have K := Aside0.mk k
  have cd := k.row.cell 2 _ rfl
  obtain ⟨q, hq⟩ : ∃ q, h.n / 128 = q := ⟨_, rfl⟩
  have HQ := Aside0.mk hq
  have n1 : ¬ ((n : Int) < 0) := by omega
  have n2 : ¬ ((q : Int) ≤ (n : Int)) := by omega
  have n3 : decide ((65536 : Int) ≤ (ops.length : Int)) = true := decide_eq_true (by omega)
  clear k hq hn hl
  go_enter Tryd.func27, Tryd.ntmps27
  go_wp2_with (go_at_call 19; refine (sectors_at K.out q HQ.out).mono ?_; rintro e w' ⟨rfl, hw⟩; subst w')
  go_ret
  exact ⟨rfl, rfl⟩
theorem flush_full {h : Hd} {B : Nat} {fs ss : List Int} {A : Option Addr} {c : Nat} {ops : List (Int × List Int)} {W : World} (k : DkAt h B fs ss (.slice A ops.length c) ops W) (hl : 65536 ≤ ops.length) :
    Calls Tryd.prog 29 #[ptr h.D] W fun e w' => e = .returned (.int .i64 5) ∧ w' = W := by
  have cd := k.row.cell 2 _ rfl
  have n3 : decide ((65536 : Int) ≤ (ops.length : Int)) = true := decide_eq_true (by omega)
  clear k hl
  go_enter Tryd.func29, Tryd.ntmps29
  go_wp2_with fail
  go_ret
  exact ⟨rfl, rfl⟩
theorem read_place {h : Hd} {B : Nat} {fs ss : List Int} {vo : Value} {ops : List (Int × List Int)} {W : World} (k : DkAt h B fs ss vo ops W) (N : Int) (q : Nat) (hq : h.n / 128 = q) (hN : N < 0 ∨ (q : Int) ≤ N) :
    Calls Tryd.prog 23 #[ptr h.D, .int .i64 N] W fun e w' => e = .returned (.tuple #[.slice none 0 0, .int .i64 60]) ∧ w' = W := by
  have K := Aside0.mk k
  have HQ := Aside0.mk hq
  rcases place_no hN with h1 | ⟨h1, h2⟩
  all_goals
    clear k hq hN
    go_enter Tryd.func23, Tryd.ntmps23
    go_wp2_with (go_at_call 19; refine (sectors_at K.out q HQ.out).mono ?_; rintro e w' ⟨rfl, hw⟩; subst w')
    go_ret2
    exact ⟨rfl, rfl⟩
/-- A moment that is none, or too many bytes. -/
theorem at_arg {h : Hd} {B : Nat} {fs ss : List Int} {A : Option Addr} {c : Nat} {ops : List (Int × List Int)} {W : World} (k : DkAt h B fs ss (.slice A ops.length c) ops W) (N torn y : Int) (Ak : Option Addr) (mk ck : Nat) (hN : N < 0 ∨ (ops.length : Int) < N ∨ y < 0 ∨ 128 < y) :
    Calls Tryd.prog 15 #[ptr h.D, .int .i64 N, .agg #[.slice Ak mk ck, .int .i64 torn, .int .i64 y]] W fun e w' => e = .returned (.tuple #[.slice none 0 0, .int .i64 2]) ∧ Below W.heap.size W w' := by
  have K := Aside0.mk k
  have HN := Aside0.mk hN
  clear k hN
  go_enter Tryd.func15, Tryd.ntmps15
  go_upto_region 1 with fail
  have hr5 : Rt 34 W.heap.size [.slice Ak mk ck, .int .i64 torn, .int .i64 y] (W.alloc (.cells #[.slice Ak mk ck, .int .i64 torn, .int .i64 y] 34)) := heap_alloc_new W _
  have hb5 : Below W.heap.size W (W.alloc (.cells #[.slice Ak mk ck, .int .i64 torn, .int .i64 y] 34)) := below_alloc (Below.refl _ _) _
  obtain ⟨b5, hb5e⟩ : ∃ b5, W.heap.size = b5 := ⟨_, rfl⟩
  rw [hb5e] at hr5
  rw [hb5e]
  generalize W.alloc (.cells #[.slice Ak mk ck, .int .i64 torn, .int .i64 y] 34) = w1 at *
  have HB1 := Aside0.mk hb5
  have c2 := (K.out.stay hb5).row.cell 2 _ rfl
  have d2 := hr5.cell 2 _ rfl
  clear hr5 hb5 hb5e
  by_cases h1 : N < 0
  · have g1 : decide (N < 0) = true := decide_eq_true h1
    clear h1
    go_wp2_with fail
    go_ret2
    exact ⟨rfl, HB1.out⟩
  have g1 : decide (N < 0) = false := decide_eq_false h1
  by_cases h2 : (ops.length : Int) < N
  · have g2 : decide ((ops.length : Int) < N) = true := decide_eq_true h2
    clear h1 h2
    go_wp2_with fail
    go_ret2
    exact ⟨rfl, HB1.out⟩
  have g2 : decide ((ops.length : Int) < N) = false := decide_eq_false h2
  by_cases h3 : y < 0
  · have g3 : decide (y < 0) = true := decide_eq_true h3
    clear h1 h2 h3
    go_wp2_with fail
    go_ret2
    exact ⟨rfl, HB1.out⟩
  have g3 : decide (y < 0) = false := decide_eq_false h3
  have g4 : decide (128 < y) = true := decide_eq_true (by have := HN.out; omega)
  clear h1 h2 h3
  go_wp2_with fail
  go_ret2
  exact ⟨rfl, HB1.out⟩
theorem div_of {r n q : Nat} (h : n / 128 = q) (hb : n ≤ 524288) : Int.tdiv (n : Int) 128 = (q : Int) ∧ wrap64 (q : Int) = (q : Int) := by
  constructor
  · rw [Int.tdiv_eq_ediv_of_nonneg (by omega)]; omega
  · unfold wrap64; omega
theorem rwrite_place {r : Rd} {B : Nat} {ok : Nat → Prop} {fs : List Int} {vo : Value} {ops : List (Int × List Int)} {W : World} (k : RfAt r B ok fs vo ops W) (N : Int) (q : Nat) (hq : r.n / 128 = q) (hN : N < 0 ∨ (q : Int) ≤ N) (v : Value) :
    Calls Tryd.prog 44 #[ptr r.D, .int .i64 N, v] W fun e w' => e = .returned (.int .i64 60) ∧ w' = W := by
  have cd := k.row.cell 0 _ rfl
  obtain ⟨hdv, hdw⟩ := div_of (r := 0) hq k.big
  rcases place_no hN with h1 | ⟨h1, h2⟩
  all_goals
    clear k hq hN
    go_enter Tryd.func44, Tryd.ntmps44
    go_wp2_with fail
    go_ret
    exact ⟨rfl, rfl⟩
theorem rwrite_sector {r : Rd} {B : Nat} {ok : Nat → Prop} {fs : List Int} {vo : Value} {ops : List (Int × List Int)} {W : World} (k : RfAt r B ok fs vo ops W) (n : Nat) (hn : 128 * n + 128 ≤ r.n) (A2 : Option Addr) (L c2 : Nat) (hL : L ≠ 128) :
    Calls Tryd.prog 44 #[ptr r.D, .int .i64 (n : Int), .slice A2 L c2] W fun e w' => e = .returned (.int .i64 61) ∧ w' = W := by
  have cd := k.row.cell 0 _ rfl
  obtain ⟨q, hq⟩ : ∃ q, r.n / 128 = q := ⟨_, rfl⟩
  obtain ⟨hdv, hdw⟩ := div_of (r := 0) hq k.big
  have n1 : ¬ ((n : Int) < 0) := by omega
  have n2 : ¬ ((q : Int) ≤ (n : Int)) := by omega
  have n3 : ((L : Int) == 128) = false := by simp; omega
  have n4 : ¬ ((L : Int) = 128) := by omega
  clear k hq hn hL
  go_enter Tryd.func44, Tryd.ntmps44
  go_wp2_with fail
  go_ret
  exact ⟨rfl, rfl⟩
theorem rwrite_full {r : Rd} {B : Nat} {ok : Nat → Prop} {fs : List Int} {A : Option Addr} {c : Nat} {ops : List (Int × List Int)} {W : World} (k : RfAt r B ok fs (.slice A ops.length c) ops W) (n : Nat) (hn : 128 * n + 128 ≤ r.n) (A2 : Option Addr) (c2 : Nat) (hl : 65536 ≤ ops.length) :
    Calls Tryd.prog 44 #[ptr r.D, .int .i64 (n : Int), .slice A2 128 c2] W fun e w' => e = .returned (.int .i64 5) ∧ w' = W := by
  have cd := k.row.cell 0 _ rfl
  have cd1 := k.row.cell 1 _ rfl
  obtain ⟨q, hq⟩ : ∃ q, r.n / 128 = q := ⟨_, rfl⟩
  obtain ⟨hdv, hdw⟩ := div_of (r := 0) hq k.big
  have n1 : ¬ ((n : Int) < 0) := by omega
  have n2 : ¬ ((q : Int) ≤ (n : Int)) := by omega
  have n3 : decide ((65536 : Int) ≤ (ops.length : Int)) = true := decide_eq_true (by omega)
  clear k hq hn hl
  go_enter Tryd.func44, Tryd.ntmps44
  go_wp2_with fail
  go_ret
  exact ⟨rfl, rfl⟩
theorem rflush_full {r : Rd} {B : Nat} {ok : Nat → Prop} {fs : List Int} {A : Option Addr} {c : Nat} {ops : List (Int × List Int)} {W : World} (k : RfAt r B ok fs (.slice A ops.length c) ops W) (hl : 65536 ≤ ops.length) :
    Calls Tryd.prog 45 #[ptr r.D] W fun e w' => e = .returned (.int .i64 5) ∧ w' = W := by
  have cd1 := k.row.cell 1 _ rfl
  have n3 : decide ((65536 : Int) ≤ (ops.length : Int)) = true := decide_eq_true (by omega)
  clear k hl
  go_enter Tryd.func45, Tryd.ntmps45
  go_wp2_with fail
  go_ret
  exact ⟨rfl, rfl⟩
theorem rread_place {r : Rd} {B : Nat} {ok : Nat → Prop} {fs : List Int} {vo : Value} {ops : List (Int × List Int)} {W : World} (k : RfAt r B ok fs vo ops W) (N : Int) (q : Nat) (hq : r.n / 128 = q) (hN : N < 0 ∨ (q : Int) ≤ N) :
    Calls Tryd.prog 46 #[ptr r.D, .int .i64 N] W fun e w' => e = .returned (.tuple #[.slice none 0 0, .int .i64 60]) ∧ w' = W := by
  have cd := k.row.cell 0 _ rfl
  obtain ⟨hdv, hdw⟩ := div_of (r := 0) hq k.big
  rcases place_no hN with h1 | ⟨h1, h2⟩
  all_goals
    clear k hq hN
    go_enter Tryd.func46, Tryd.ntmps46
    go_wp2_with fail
    go_ret2
    exact ⟨rfl, rfl⟩
theorem rat_arg {r : Rd} {B : Nat} {ok : Nat → Prop} {fs : List Int} {A : Option Addr} {c : Nat} {ops : List (Int × List Int)} {W : World} (k : RfAt r B ok fs (.slice A ops.length c) ops W) (N torn y : Int) (Ak : Option Addr) (mk ck : Nat) (hN : N < 0 ∨ (ops.length : Int) < N ∨ y < 0 ∨ 128 < y) :
    Calls Tryd.prog 53 #[ptr r.D, .int .i64 N, .agg #[.slice Ak mk ck, .int .i64 torn, .int .i64 y]] W fun e w' => e = .returned (.tuple #[.slice none 0 0, .int .i64 2]) ∧ Below W.heap.size W w' := by
  have K := Aside0.mk k
  have HN := Aside0.mk hN
  clear k hN
  go_enter Tryd.func53, Tryd.ntmps53
  go_upto_region 1 with fail
  have hr5 : Rt 34 W.heap.size [.slice Ak mk ck, .int .i64 torn, .int .i64 y] (W.alloc (.cells #[.slice Ak mk ck, .int .i64 torn, .int .i64 y] 34)) := heap_alloc_new W _
  have hb5 : Below W.heap.size W (W.alloc (.cells #[.slice Ak mk ck, .int .i64 torn, .int .i64 y] 34)) := below_alloc (Below.refl _ _) _
  obtain ⟨b5, hb5e⟩ : ∃ b5, W.heap.size = b5 := ⟨_, rfl⟩
  rw [hb5e] at hr5
  rw [hb5e]
  generalize W.alloc (.cells #[.slice Ak mk ck, .int .i64 torn, .int .i64 y] 34) = w1 at *
  have HB1 := Aside0.mk hb5
  have c2 := (K.out.stay hb5).row.cell 1 _ rfl
  have d2 := hr5.cell 2 _ rfl
  clear hr5 hb5 hb5e
  by_cases h1 : N < 0
  · have g1 : decide (N < 0) = true := decide_eq_true h1
    clear h1
    go_wp2_with fail
    go_ret2
    exact ⟨rfl, HB1.out⟩
  have g1 : decide (N < 0) = false := decide_eq_false h1
  by_cases h2 : (ops.length : Int) < N
  · have g2 : decide ((ops.length : Int) < N) = true := decide_eq_true h2
    clear h1 h2
    go_wp2_with fail
    go_ret2
    exact ⟨rfl, HB1.out⟩
  have g2 : decide ((ops.length : Int) < N) = false := decide_eq_false h2
  by_cases h3 : y < 0
  · have g3 : decide (y < 0) = true := decide_eq_true h3
    clear h1 h2 h3
    go_wp2_with fail
    go_ret2
    exact ⟨rfl, HB1.out⟩
  have g3 : decide (y < 0) = false := decide_eq_false h3
  have g4 : decide (128 < y) = true := decide_eq_true (by have := HN.out; omega)
  clear h1 h2 h3
  go_wp2_with fail
  go_ret2
  exact ⟨rfl, HB1.out⟩
/-- New that is refused: the number of sectors, or too many bytes. -/
theorem new_arg (A : Option Addr) (m c : Nat) (S : Int) (w : World) (h : S < 1 ∨ 4096 < S) (f : FuncId) (hf : f = 25 ∨ f = 33) :
    Calls Tryd.prog f #[.slice A m c, .int .i64 S] w fun e w' => e = .returned (.tuple #[.pointer none, .int .i64 2]) ∧ w' = w := by
  have h' : decide (S < 1) = true ∨ (decide (S < 1) = false ∧ decide (4096 < S) = true) := by
    rcases Int.lt_or_le S 1 with h0 | h0
    · exact .inl (decide_eq_true h0)
    · exact .inr ⟨decide_eq_false (by omega), decide_eq_true (by omega)⟩
  clear h
  rcases hf with rfl | rfl
  · rcases h' with h1 | ⟨h1, h2⟩
    all_goals
      go_enter Tryd.func25, Tryd.ntmps25
      go_wp2_with fail
      go_ret2
      exact ⟨rfl, rfl⟩
  · rcases h' with h1 | ⟨h1, h2⟩
    all_goals
      go_enter Tryd.func33, Tryd.ntmps33
      go_wp2_with fail
      go_ret2
      exact ⟨rfl, rfl⟩
theorem new_long (A : Option Addr) (m c k : Nat) (w : World) (h1 : 1 ≤ k) (h2 : k ≤ 4096) (hm : 128 * k < m) (f : FuncId) (hf : f = 25 ∨ f = 33) :
    Calls Tryd.prog f #[.slice A m c, .int .i64 (k : Int)] w fun e w' => e = .returned (.tuple #[.pointer none, .int .i64 1]) ∧ w' = w := by
  have c1 : ¬ ((k : Int) < 1) := by omega
  have c2 : ¬ (4096 < (k : Int)) := by omega
  have c3 : ((k : Int) * 128 < (m : Int)) := by omega
  rcases hf with rfl | rfl
  · go_enter Tryd.func25, Tryd.ntmps25
    go_wp2_with fail
    go_ret2
    exact ⟨rfl, rfl⟩
  · go_enter Tryd.func33, Tryd.ntmps33
    go_wp2_with fail
    go_ret2
    exact ⟨rfl, rfl⟩
end Go.Proofs.YtpaonoaedjkekaaDoor.Dk
namespace Go.Proofs.YtpaonoaedjkekaaDoor.Dk
open Go Go.RowKit Go.Proofs.YtpaonoaedjkekaaDoor.PD Go.Proofs.YtpaonoaedjkekaaDoorW.PrintWords Go.Proofs.YtpaonoaedjkekaaDoorW.PrintLast Go.Proofs.YtpaonoaedjkekaaDoorW.PrintMore
set_option linter.unusedVariables false
set_option linter.unusedSimpArgs false
set_option maxHeartbeats 4000000
set_option maxRecDepth 100000
theorem blk_types {W : World} {g a b : Nat} {u v : Array Value} (h1 : W.heap[g]? = some (.cells u a (0, 0))) (h2 : W.heap[g]? = some (.cells v b (0, 0))) : a = b := by
  have := h1.symm.trans h2
  injection this with this
  injection this with _ e _
/-- The disk is left alone where only blocks of the document's disk are written. -/
theorem DkAt.aside {h : Hd} {B : Nat} {fs ss : List Int} {vo : Value} {ops : List (Int × List Int)} {W W' : World} (k : DkAt h B fs ss vo ops W)
    {r : Rd} {Br : Nat} {ok : Nat → Prop} {gs : List Int} {vr : Value} {pr : List (Int × List Int)} (q : RfAt r Br ok gs vr pr W) (hk : Kept W W' (ROwn r vr)) : DkAt h B fs ss vo ops W' := by
  have hno : ∀ j t (u : Array Value), W.heap[j]? = some (.cells u t (0, 0)) → t ≠ 89 → t ≠ 95 → ¬ ROwn r vr j := by
    rintro j t u hj h1 h2 (rfl | e)
    · exact h1 (blk_types hj q.row)
    · obtain ⟨cells, hc⟩ := Kd.R_typed q.o j e.symm
      exact h2 (blk_types hj hc)
  have hmem : ∀ g (xs : List Int), Mem W g xs → Mem W' g xs := fun g xs hm => by
    have hm2 := hm
    obtain ⟨cur, h1, _⟩ := hm2
    exact hm.move (hk.2 g hm.lt (hno g 5 cur h1 (by decide) (by decide)))
  refine { k with row := (hk.2 _ k.row.lt (hno _ 77 _ k.row (by decide) (by decide))).trans k.row, f := hmem _ _ k.f, s := hmem _ _ k.s, o := ?_ }
  refine Kd.R_mono (Kd.R_kept (Kd.R_bound k.o) hk ?_) (fun _ _ => trivial)
  rintro j ⟨_, _, _, p, hp, cells, hc⟩
  have hp3 : p = 83 := by simpa [Kd.int, Kd.scalar, Kd.pair, Kd.arr] using hp
  subst hp3
  exact hno j 83 cells hc (by decide) (by decide)
/-- The document's disk is left alone where only blocks of the disk are written. -/
theorem RfAt.aside {r : Rd} {B : Nat} {ok : Nat → Prop} {fs : List Int} {vo : Value} {ops : List (Int × List Int)} {W W' : World} (k : RfAt r B ok fs vo ops W)
    {h : Hd} {Bd : Nat} {gs ss : List Int} {vd : Value} {pd : List (Int × List Int)} (q : DkAt h Bd gs ss vd pd W) (hok : ∀ j, ok j → j ≠ h.gs) (hk : Kept W W' (Own h vd)) : RfAt r B ok fs vo ops W' := by
  have hno : ∀ j t (u : Array Value), W.heap[j]? = some (.cells u t (0, 0)) → t ≠ 77 → t ≠ 83 → j ≠ h.gs → ¬ Own h vd j := by
    rintro j t u hj h1 h2 h3 (rfl | rfl | e)
    · exact h1 (blk_types hj q.row)
    · exact h3 rfl
    · obtain ⟨cells, hc⟩ := Kd.R_typed q.o j e.symm
      exact h2 (blk_types hj hc)
  have hgs : ∀ j t (u : Array Value), W.heap[j]? = some (.cells u t (0, 0)) → t ≠ 5 → j ≠ h.gs := by
    rintro j t u hj ht rfl
    obtain ⟨cur, h1, _⟩ := q.s
    exact ht (blk_types hj h1)
  have hm : Mem W' r.gf fs := by
    have hm2 := k.f
    obtain ⟨cur, h1, _⟩ := hm2
    exact k.f.move (hk.2 _ k.f.lt (hno _ 5 cur h1 (by decide) (by decide) (hok _ k.fk)))
  refine { k with row := (hk.2 _ k.row.lt (hno _ 89 _ k.row (by decide) (by decide) (hgs _ 89 _ k.row (by decide)))).trans k.row, f := hm, o := ?_ }
  refine Kd.R_mono (Kd.R_kept (Kd.R_bound k.o) hk ?_) (fun _ hj => hj.1)
  rintro j ⟨hj, _, _, p, hp, cells, hc⟩
  have hp3 : p = 95 ∨ p = 5 := by simpa [Kd.int, Kd.scalar, Kd.pair, Kd.slice] using hp
  rcases hp3 with rfl | rfl
  · exact hno j 95 cells hc (by decide) (by decide) (hok j hj)
  · exact hno j 5 cells hc (by decide) (by decide) (hok j hj)
end Go.Proofs.YtpaonoaedjkekaaDoor.Dk
namespace Go.Proofs.YtpaonoaedjkekaaDoor.Dk
open Go Go.RowKit Go.Proofs.YtpaonoaedjkekaaDoor.PD Go.Proofs.YtpaonoaedjkekaaDoorW.PrintWords Go.Proofs.YtpaonoaedjkekaaDoorW.PrintLast Go.Proofs.YtpaonoaedjkekaaDoorW.PrintMore
set_option linter.unusedVariables false
set_option linter.unusedSimpArgs false
set_option maxHeartbeats 4000000
set_option maxRecDepth 100000
structure Both (gp B : Nat) (h : Hd) (r : Rd) (fs : List Int) (ops : List (Int × List Int)) (W : World) : Prop where
  row : Rt 66 gp [ptr h.D, ptr r.D] W
  dd : ∃ A c, DkAt h B fs (behindL fs ops) (.slice A ops.length c) ops W
  rr : ∃ A c, RfAt r B (fun k => k ≠ h.gs) fs (.slice A ops.length c) ops W
  en : h.n = r.n
  q : ∃ q, h.n = 128 * q
  ok : Oks h.n ops
  bp : B ≤ gp
  b0 : 0 < B
  fl : Fl W
abbrev opV (kind N fill torn y : Int) (Ab Ak : Option Addr) (m cb mk ck : Nat) (ex : Bool) : List Value := [.int .i64 kind, .int .i64 N, .int .u8 fill, .slice Ab m cb, .bool ex, .slice Ak mk ck, .int .i64 torn, .int .i64 y]
theorem Fl.base {W W' : World} {B : Nat} (h : Fl W) (h0 : 0 < B) (hb : Below B W W') : Fl W' := fun j v hj => (hb.cell (p := ⟨0, 0 + j, none⟩) h0).trans (h j v hj)
theorem DkAt.other {h : Hd} {B : Nat} {fs ss : List Int} {vo : Value} {ops : List (Int × List Int)} {W W' : World} (q : DkAt h B fs ss vo ops W) (hk : Kept W W' (Own h vo)) {t g : Nat} {vs : List Value} (hr : Rt t g vs W) (h1 : t ≠ 77) (h2 : t ≠ 83) (h3 : t ≠ 5) : Rt t g vs W' := by
  refine (hk.2 g hr.lt ?_).trans hr
  rintro (rfl | rfl | e)
  · exact h1 (blk_types hr q.row)
  · obtain ⟨cur, hc, _⟩ := q.s
    exact h3 (blk_types hr hc)
  · obtain ⟨cells, hc⟩ := Kd.R_typed q.o g e.symm
    exact h2 (blk_types hr hc)
theorem RfAt.other {r : Rd} {B : Nat} {ok : Nat → Prop} {fs : List Int} {vo : Value} {ops : List (Int × List Int)} {W W' : World} (q : RfAt r B ok fs vo ops W) (hk : Kept W W' (ROwn r vo)) {t g : Nat} {vs : List Value} (hr : Rt t g vs W) (h1 : t ≠ 89) (h2 : t ≠ 95) : Rt t g vs W' := by
  refine (hk.2 g hr.lt ?_).trans hr
  rintro (rfl | e)
  · exact h1 (blk_types hr q.row)
  · obtain ⟨cells, hc⟩ := Kd.R_typed q.o g e.symm
    exact h2 (blk_types hr hc)
theorem does_flush {gp B : Nat} {h : Hd} {r : Rd} {fs : List Int} {ops : List (Int × List Int)} {W : World} (k : Both gp B h r fs ops W) (N fill torn y : Int) (Ab Ak : Option Addr) (m cb mk ck : Nat) (ex : Bool) :
    Calls Tryd.prog 35 #[ptr gp, .agg (opV 1 N fill torn y Ab Ak m cb mk ck ex).toArray] W fun e w' => e = .returned (.bool true) ∧ ∃ h' r' fs' ops', Both gp B h' r' fs' ops' w' ∧ Below B W w' := by
  have K := Aside0.mk k
  clear k
  go_enter Tryd.func35, Tryd.ntmps35
  go_upto_region 1 with fail
  have hr3 : Rt 69 W.heap.size (opV 1 N fill torn y Ab Ak m cb mk ck ex) (W.alloc (.cells (opV 1 N fill torn y Ab Ak m cb mk ck ex).toArray 69)) := heap_alloc_new W _
  have hb1 : Below W.heap.size W (W.alloc (.cells (opV 1 N fill torn y Ab Ak m cb mk ck ex).toArray 69)) := below_alloc (Below.refl _ _) _
  obtain ⟨b3, hb3⟩ : ∃ b3, W.heap.size = b3 := ⟨_, rfl⟩
  rw [hb3] at hr3 ⊢
  generalize W.alloc (.cells (opV 1 N fill torn y Ab Ak m cb mk ck ex).toArray 69) = w1 at *
  have HB1 := Aside0.mk hb1
  have q0 := hr3.cell 0 _ rfl
  have hrp : Rt 66 gp [ptr h.D, ptr r.D] w1 := (hb1.block _ K.out.row.lt).trans K.out.row
  have p0 := hrp.cell 0 _ rfl
  clear hr3 hb1 hb3 hrp
  obtain ⟨A, c, hd⟩ := K.out.dd
  obtain ⟨A2, c2, hr⟩ := K.out.rr
  have hB := hd.size
  have hd := hd.stay HB1.out
  have hr := hr.stay HB1.out
  have hfl := K.out.fl.below (Nat.lt_of_lt_of_le K.out.b0 hB) HB1.out
  have HD := Aside0.mk hd
  have HR := Aside0.mk hr
  have HFL := Aside0.mk hfl
  have HRP := Aside0.mk (show Rt 66 gp [ptr h.D, ptr r.D] w1 from (HB1.out.block _ K.out.row.lt).trans K.out.row)
  have HBW := Aside0.mk (HB1.out.mono hB)
  clear hd hr hfl hB
  rcases Nat.lt_or_ge ops.length 65536 with hl | hl
  · have HL := Aside0.mk hl
    clear hl
    go_wp2_with fail
    go_at_call 29
    refine (flush_at HD.out HFL.out HL.out).mono ?_
    rintro e w2 ⟨rfl, A', c', hd2, hk2, hb2, hat2⟩
    have HRP2 := Aside0.mk (HD.out.other hk2 HRP.out (by decide) (by decide) (by decide))
    have HR2 := Aside0.mk (HR.out.aside HD.out (fun _ hj => hj) hk2)
    have HD2 := Aside0.mk hd2
    have HB2 := Aside0.mk hb2
    have HS2 := Aside0.mk hk2.1
    have p1 := HRP2.out.cell 1 _ rfl
    clear hd2 hk2 hb2 hat2 p0 q0
    go_wp2_with fail
    go_at_call 45
    refine (rflush_at HR2.out (fun j hj => by have := HD.out.s.lt; have := HS2.out; omega) HL.out).mono ?_
    rintro e w3 ⟨rfl, A3, c3, hr3, hk3, hb3, hat3⟩
    have HBT := Aside0.mk ((HBW.out.trans HB2.out).trans hb3)
    have hel : (ops ++ [flushOp]).length = ops.length + 1 := by simp
    have HNEW := Aside0.mk (show Both gp B h r fs (ops ++ [flushOp]) w3 from {
      row := HR2.out.other hk3 HRP2.out (by decide) (by decide)
      dd := ⟨A', c', by
        have := HD2.out.aside HR2.out hk3
        rw [show behindL fs (ops ++ [flushOp]) = behindL fs ops from by simp [behindL, List.foldl_append, layOp], hel]
        exact this⟩
      rr := ⟨A3, c3, by rw [hel]; exact hr3⟩
      en := K.out.en
      q := K.out.q
      ok := fun o ho => by
        rcases List.mem_append.1 ho with ho | ho
        · exact K.out.ok o ho
        · rw [List.mem_singleton.1 ho]; exact ⟨by simp [flushOp], .inl rfl⟩
      bp := K.out.bp
      b0 := K.out.b0
      fl := K.out.fl.base K.out.b0 HBT.out })
    clear hr3 hk3 hb3 hat3 p1 hel
    go_wp2_with fail
    go_ret
    exact ⟨rfl, h, r, fs, _, HNEW.out, HBT.out⟩
  · have HL := Aside0.mk hl
    have p1 := HRP.out.cell 1 _ rfl
    clear hl
    go_wp2_with (first
      | (go_at_call 29; refine (flush_full HD.out HL.out).mono ?_; rintro e w' ⟨rfl, hw⟩; subst w')
      | (go_at_call 45; refine (rflush_full HR.out HL.out).mono ?_; rintro e w' ⟨rfl, hw⟩; subst w'))
    go_ret
    refine ⟨rfl, h, r, fs, ops, { K.out with row := HRP.out, dd := ⟨A, c, HD.out⟩, rr := ⟨A2, c2, HR.out⟩, fl := HFL.out }, HBW.out⟩
end Go.Proofs.YtpaonoaedjkekaaDoor.Dk
