/- The document's disk: lay, image, walked; has. The document's disk: has, Image, Durable, Pending, At, walked. The document's disk: Read, At, walked. The document's disk: At, walked. -/
import Derived.Test.YtpaonoaedjkekaaDoorPl4
namespace Go.Proofs.YtpaonoaedjkekaaDoor.Dk
open Go Go.RowKit Go.Proofs.YtpaonoaedjkekaaDoor.PD Go.Proofs.YtpaonoaedjkekaaDoorW.PrintWords Go.Proofs.YtpaonoaedjkekaaDoorW.PrintLast Go.Proofs.YtpaonoaedjkekaaDoorW.PrintMore
set_option linter.unusedVariables false
set_option linter.unusedSimpArgs false
set_option maxHeartbeats 4000000
set_option maxRecDepth 100000
theorem Mem.put {W : World} {g : Nat} {xs : List Int} (h : Mem W g xs) (j : Nat) (hj : j < xs.length) (v : Int) : Mem (W.setCell ⟨g, j, none⟩ (.int .u8 v)) g (xs.set j v) := by
  obtain ⟨cur, h1, h2⟩ := h
  refine ⟨cur.setIfInBounds j (.int .u8 v), ?_, ?_⟩
  · have hlt : g < W.heap.size := (Array.getElem?_eq_some_iff.1 h1).1
    have hv := (Array.getElem?_eq_some_iff.1 h1).2
    unfold World.setCell
    simp only [Array.getElem?_modify, h1, if_pos, Option.map_some]
    rfl
  · rw [List.length_set, Array.toList_setIfInBounds, List.take_set, h2]
    simp [cellsB, List.map_set]
theorem lay_step {xs bs : List Int} {a i : Nat} {b : Int} (h : bs[i]? = some b) (ha : a + i < xs.length) :
    (xs.take a ++ bs.take i ++ xs.drop (a + i)).set (a + i) b = xs.take a ++ bs.take (i + 1) ++ xs.drop (a + (i + 1)) := by
  have hi : i < bs.length := (List.getElem?_eq_some_iff.1 h).1
  have hl : (xs.take a ++ bs.take i).length = a + i := by rw [List.length_append, List.length_take, List.length_take]; omega
  rw [List.set_append, if_neg (by rw [hl]; omega), hl, Nat.sub_self, take_snoc h, List.append_assoc, List.append_assoc, List.append_assoc]
  congr 2
  rw [List.drop_eq_getElem_cons ha]
  rfl
theorem lay_at (g n c s y B0 : Nat) (xs bs : List Int) (Ab : Option Addr) (m cb : Nat) (W : World) (hM : Mem W g xs) (hl : xs.length = n) (hn : n ≤ 524288) (hnc : n ≤ c) (hs : 128 * s + 128 ≤ n) (hy : y ≤ 128) (hm : m = 128)
    (hB0 : B0 ≤ g) (hC : ∀ W', Below B0 W W' → Kd.C (Kd.int .u8) W' Ab m bs) :
    Calls Tryd.prog 59 #[.slice (some ⟨g, 0, none⟩) n c, .agg #[.int .i64 (s : Int), .slice Ab m cb], .int .i64 (y : Int)] W fun e w' => e = .returned (.tuple #[]) ∧ Mem w' g (xs.take (128 * s) ++ bs.take y ++ xs.drop (128 * s + y)) ∧ Below B0 W w' := by
  have HM := Aside0.mk hM
  have HL := Aside0.mk hl
  have HS := Aside0.mk (And.intro hs (And.intro hy (And.intro hn hnc)))
  have HC := Aside0.mk hC
  have HB0 := Aside0.mk hB0
  have HMM := Aside0.mk hm
  have e1 : wrap64 ((s : Int) * 128) = ((128 * s : Nat) : Int) := by unfold wrap64; omega
  clear hM hl hn hnc hs hy hC hB0 hm
  go_enter Tryd.func59, Tryd.ntmps59
  go_wp2_with fail
  have hr4 : Rt 95 W.heap.size [.int .i64 (s : Int), .slice Ab m cb] (W.alloc (.cells #[.int .i64 (s : Int), .slice Ab m cb] 95)) := heap_alloc_new W _
  have hb4 : Below W.heap.size W (W.alloc (.cells #[.int .i64 (s : Int), .slice Ab m cb] 95)) := below_alloc (Below.refl _ _) _
  have hm4 := HM.out.below hb4
  have hlt := HM.out.lt
  obtain ⟨b, hb⟩ : ∃ b, W.heap.size = b := ⟨_, rfl⟩
  rw [hb] at hr4 hb4 hlt ⊢
  generalize W.alloc (.cells #[.int .i64 (s : Int), .slice Ab m cb] 95) = w1 at *
  have HR4 := Aside0.mk hr4
  have HB4 := Aside0.mk (show Below B0 W w1 from hb4.mono (by have := HB0.out; omega))
  have HM4 := Aside0.mk hm4
  have HLT := Aside0.mk hlt
  clear hr4 hb4 hm4 hlt hb HM
  go_loopw [6] (fun p wr => ∃ i : Nat, p = .int .i64 (i : Int) ∧ Aside0 (i ≤ y) ∧ Aside0 (Rt 95 b [.int .i64 (s : Int), .slice Ab m cb] wr) ∧ Aside0 (Below B0 W wr) ∧ Aside0 (Mem wr g (xs.take (128 * s) ++ bs.take i ++ xs.drop (128 * s + i)))) (fun p _ => y - (intOf p).toNat)
  · exact ⟨0, rfl, ⟨Nat.zero_le _⟩, HR4, HB4, ⟨by rw [List.take_zero, List.append_nil, Nat.add_zero, List.take_append_drop]; exact HM4.out⟩⟩
  · obtain ⟨i, rfl, HI, HR, HB, HMr⟩ := hrel
    by_cases ci : i < y
    · have ci1 : decide ((i : Int) < (y : Int)) = true := decide_eq_true (by omega)
      have hw1 : IntKind.i64.wrap ((i : Int) + 1) = ((i + 1 : Nat) : Int) := by rw [IntWalk.i64_in _ (by have := HS.out; omega)]; omega
      have hbl : bs.length = m := Kd.C_len (HC.out W (Below.refl _ _))
      obtain ⟨x, hx⟩ : ∃ x, bs[i]? = some x := ⟨_, List.getElem?_eq_getElem (by have := HMM.out; have := HS.out; omega)⟩
      obtain ⟨ad, rfl, hcell⟩ := (Kd.reads_of_C (d := (0 : Int)) (h1 := fun _ => rfl) (HC.out wr HB.out)).2.2 (by have := HMM.out; omega)
      have cj := hcell i (by have := HMM.out; have := HS.out; omega)
      rw [List.getD_eq_getElem?_getD, hx] at cj
      simp only [Option.getD_some] at cj
      have im : (i : Int) < (m : Int) := by have := HMM.out; have := HS.out; omega
      have e2 : wrap64 (((128 * s : Nat) : Int) + (i : Int)) = ((128 * s + i : Nat) : Int) := by have := HS.out; unfold wrap64; omega
      have i0 : (0 : Int) ≤ (i : Int) := by omega
      have hin : ((128 * s + i : Nat) : Int) < (n : Int) := by have := HS.out; omega
      have r0 := HR.out.cell 0 _ rfl
      have r1 := HR.out.cell 1 _ rfl
      have hlen : (xs.take (128 * s) ++ bs.take i ++ xs.drop (128 * s + i)).length = xs.length := by
        rw [List.length_append, List.length_append, List.length_take, List.length_take, List.length_drop]; have := HS.out; have := HMM.out; have := HL.out; omega
      have HX := Aside0.mk hx
      have HLEN := Aside0.mk hlen
      clear hcell hx hbl hlen
      have r0' : wr.drew.cell? ⟨b, 0, none⟩ = some (.int .i64 (s : Int)) := r0
      have r1' : wr.drew.cell? ⟨b, 1, none⟩ = some (.slice (some ad) m cb) := r1
      have cj' : wr.drew.cell? (ad.add i) = some (.int .u8 x) := cj
      have fg : wr.drew.frozen? ⟨g, 128 * s + i, none⟩ = false := by
        obtain ⟨cur, h1, _⟩ := HMr.out
        exact (show wr.frozen? ⟨g, 128 * s + i, none⟩ = false by simp [World.frozen?, h1])
      have e1' : IntKind.i64.wrap ((s : Int) * 128) = ((128 * s : Nat) : Int) := (i64_w _).trans e1
      have e2' : IntKind.i64.wrap (((128 * s : Nat) : Int) + (i : Int)) = ((128 * s + i : Nat) : Int) := (i64_w _).trans e2
      obtain ⟨Z, hZ⟩ : ∃ Z, 128 * s + i = Z := ⟨_, rfl⟩
      rw [hZ] at e2' hin fg
      obtain ⟨S, hS⟩ : ∃ S, 128 * s = S := ⟨_, rfl⟩
      rw [hS] at e1' e2'
      have cg := HMr.out.cell Z (by rw [HLEN.out, HL.out]; omega)
      have cg' : wr.drew.cell? ⟨g, Z, none⟩ = _ := cg
      have p0 : (0 : Int) ≤ (Z : Int) := by omega
      have HZ := Aside0.mk hZ
      clear hZ hS e2 cg
      clear r0 r1 cj
      have HNEW := Aside0.mk (show Rt 95 b [.int .i64 (s : Int), .slice (some ad) m cb] (wr.setCell ⟨g, Z, none⟩ (.int .u8 x)).drew ∧ Below B0 W (wr.setCell ⟨g, Z, none⟩ (.int .u8 x)).drew ∧ Mem (wr.setCell ⟨g, Z, none⟩ (.int .u8 x)).drew g (xs.take (128 * s) ++ bs.take (i + 1) ++ xs.drop (128 * s + (i + 1))) from by
        refine ⟨(Below.heap_setCell wr _ _ b (by have := HLT.out; show b ≠ g; omega)).trans HR.out, below_drew (HB.out.setCell (p := ⟨g, Z, none⟩) HB0.out _), ?_⟩
        have := HMr.out.put Z (by rw [HLEN.out, HL.out]; omega) x
        rw [← HZ.out, lay_step HX.out (by rw [HL.out]; have := HS.out; omega), HZ.out] at this
        exact this)
      go_upto_region 4 with fail
      go_region_law (fail)
      all_goals
        clear cg' fg cj' r0' r1' hin p0 e1' e2' i0 im
        generalize (wr.setCell ⟨g, Z, none⟩ (.int .u8 x)).drew = w9 at *
        go_wp2_with fail
        refine ⟨⟨i + 1, rfl, ⟨ci⟩, ⟨HNEW.out.1⟩, ⟨HNEW.out.2.1⟩, ⟨HNEW.out.2.2⟩⟩, ?_⟩
        simp only [intOf]
        omega
    · have ci1 : decide ((i : Int) < (y : Int)) = false := decide_eq_false (by omega)
      go_wp2_with fail
      go_end0
      obtain rfl : i = y := by have := HI.out; omega
      exact ⟨rfl, HMr.out, HB.out⟩
theorem cell_lt {W : World} {g o : Nat} {v : Value} (h : W.cell? ⟨g, o, none⟩ = some v) : g < W.heap.size := by
  rcases Nat.lt_or_ge g W.heap.size with hl | hl
  · exact hl
  · simp [World.cell?, Array.getElem?_eq_none hl] at h
theorem rops_all {r : Rd} {B : Nat} {ok : Nat → Prop} {fs : List Int} {A : Option Addr} {c : Nat} {ops : List (Int × List Int)} {W : World} (k : RfAt r B ok fs (.slice A ops.length c) ops W) (i : Nat) (op : Int × List Int) (hi : ops[i]? = some op) :
    ∃ g Ab cb, A = some ⟨g, 0, none⟩ ∧ ∀ W', Below W.heap.size W W' → W'.cell? ⟨g, i * 2, none⟩ = some (.int .i64 op.1) ∧ W'.cell? ⟨g, i * 2 + 1, none⟩ = some (.slice Ab (rof op).2.length cb) ∧ Kd.C (Kd.int .u8) W' Ab (rof op).2.length (rof op).2 := by
  obtain ⟨g, Ab, cb, e, h0, h1, h2⟩ := rops_at k i op hi
  have hl := cell_lt h0
  exact ⟨g, Ab, cb, e, fun W' hb => ⟨(hb.cell (p := ⟨g, _, none⟩) hl).trans h0, (hb.cell (p := ⟨g, _, none⟩) hl).trans h1, Kd.C_below h2 hb⟩⟩
theorem copy_step {fs : List Int} {i n : Nat} {x : Int} (h : fs[i]? = some x) (hn : i < n) : (fs.take i ++ List.replicate (n - i) 0).set i x = fs.take (i + 1) ++ List.replicate (n - (i + 1)) 0 := by
  have hi : i < fs.length := (List.getElem?_eq_some_iff.1 h).1
  have hl : (fs.take i).length = i := by rw [List.length_take]; omega
  rw [List.set_append, if_neg (by rw [hl]; omega), hl, Nat.sub_self, take_snoc h, List.append_assoc]
  congr 1
  rw [show n - i = (n - (i + 1)) + 1 from by omega, List.replicate_succ]
  rfl
theorem rimage_at {r : Rd} {B : Nat} {ok : Nat → Prop} {fs : List Int} {A : Option Addr} {c : Nat} {ops : List (Int × List Int)} {W : World} (k : RfAt r B ok fs (.slice A ops.length c) ops W) (hO : Oks r.n ops) (n : Nat) (hn : n ≤ ops.length) :
    Calls Tryd.prog 57 #[ptr r.D, .int .i64 (n : Int)] W fun e w' => ∃ g c', e = .returned (.slice (some ⟨g, 0, none⟩) r.n c') ∧ Mem w' g (behindL fs (ops.take n)) ∧ W.heap.size ≤ g ∧ r.n ≤ c' ∧ Below W.heap.size W w' := by
  have K := Aside0.mk k
  have HO := Aside0.mk hO
  have HN := Aside0.mk hn
  have HL := Aside0.mk k.few
  have cd := k.row.cell 0 _ rfl
  obtain ⟨N, hN⟩ : ∃ N, r.n = N := ⟨_, rfl⟩
  have hN1 : 0 < N := hN ▸ k.pos
  have hN2 : N ≤ 524288 := hN ▸ k.big
  have hlf : fs.length = N := hN ▸ k.lf
  have hff := k.f
  rw [hN] at cd ⊢
  have HNN := Aside0.mk hN
  have HLF := Aside0.mk hlf
  have HFF := Aside0.mk hff
  obtain ⟨i0, hi0, hz0', hsz0, hby'⟩ := infoParts info5'
  have hmk := run_make (P := Tryd.prog) W 29 5 i0 (.int .u8 0) Tryd.underlying29 hi0 hz0' .i64 .i64 (N : Int) (N : Int) (by omega) (by omega) (by rw [hby']; omega) (by omega)
  rw [hsz0, Nat.mul_one, Int.toNat_natCast] at hmk
  have HMK := Aside0.mk hmk
  clear k hO hn hmk hi0 hlf hff hN
  go_enter Tryd.func57, Tryd.ntmps57
  go_wp2_with fail
  rw [HMK.out]
  simp only [Result.andThen_ok, Oper.upon_value]
  have hM := Mem.made W N (madeCells (Value.int .u8 0).cells N) (by rw [show (Value.int .u8 0).cells = #[Value.int .u8 0] from rfl, toList_madeCells_one]; simp [cellsB])
  have hb1 : Below W.heap.size W (W.alloc (.cells (madeCells (Value.int .u8 0).cells N) 5)) := below_alloc (Below.refl _ _) _
  generalize W.alloc (.cells (madeCells (Value.int .u8 0).cells N) 5) = w1 at *
  obtain ⟨g, hg⟩ : ∃ g, W.heap.size = g := ⟨_, rfl⟩
  rw [hg] at hM ⊢
  have HG := Aside0.mk hg
  have HM := Aside0.mk hM
  have HB := Aside0.mk hb1
  clear hM hb1 hg HMK cd
  go_wp2_with fail
  go_loopw [6] (fun p wr => ∃ i : Nat, p = .int .i64 (i : Int) ∧ Aside0 (i ≤ N) ∧ Aside0 (Mem wr g (fs.take i ++ List.replicate (N - i) 0)) ∧ Aside0 (Below W.heap.size W wr)) (fun p _ => N - (intOf p).toNat)
  · exact ⟨0, rfl, ⟨Nat.zero_le _⟩, ⟨by rw [List.take_zero, List.nil_append, Nat.sub_zero]; exact HM.out⟩, HB⟩
  · obtain ⟨i, rfl, HI, HMr, HBr⟩ := hrel
    have Kr := Aside0.mk (K.out.stay HBr.out)
    by_cases ci : i < N
    · have ci1 : decide ((i : Int) < (N : Int)) = true := decide_eq_true (by omega)
      have ci2 : decide (i < N) = true := decide_eq_true ci
      have ci3 : (0 : Int) ≤ (i : Int) := by omega
      have ci4 : (i : Int) < (N : Int) := by omega
      have hw1 : IntKind.i64.wrap ((i : Int) + 1) = ((i + 1 : Nat) : Int) := by rw [IntWalk.i64_in _ (by omega)]; omega
      obtain ⟨x, hx⟩ : ∃ x, fs[i]? = some x := ⟨_, List.getElem?_eq_getElem (by have := HLF.out; omega)⟩
      have c0 := Kr.out.row.cell 0 _ rfl
      rw [HNN.out] at c0
      have cf := Kr.out.f.cell i (by have := HLF.out; omega)
      rw [List.getD_eq_getElem?_getD, hx] at cf
      simp only [Option.getD_some] at cf
      have hlen : (fs.take i ++ List.replicate (N - i) (0 : Int)).length = N := by
        rw [List.length_append, List.length_take, List.length_replicate]; have := HLF.out; omega
      have cg := HMr.out.cell i (by rw [hlen]; exact ci)
      have fg : wr.frozen? ⟨g, i, none⟩ = false := by
        obtain ⟨cur, h1, _⟩ := HMr.out
        simp [World.frozen?, h1]
      have HNEW := Aside0.mk (show Mem (wr.setCell ⟨g, i, none⟩ (.int .u8 x)) g (fs.take (i + 1) ++ List.replicate (N - (i + 1)) 0) ∧ Below W.heap.size W (wr.setCell ⟨g, i, none⟩ (.int .u8 x)) from by
        refine ⟨?_, HBr.out.setCell (p := ⟨g, i, none⟩) (by have := HG.out; show W.heap.size ≤ g; omega) _⟩
        rw [← copy_step hx ci]
        exact HMr.out.put i (by rw [hlen]; exact ci) x)
      clear hx hlen
      go_wp2_with fail
      refine ⟨⟨i + 1, rfl, ⟨ci⟩, ⟨HNEW.out.1⟩, ⟨HNEW.out.2⟩⟩, ?_⟩
      simp only [intOf]
      omega
    · have ci1 : decide ((i : Int) < (N : Int)) = false := decide_eq_false (by omega)
      have ci2 : decide (i < N) = false := decide_eq_false ci
      have HM0 := Aside0.mk (show Mem wr g fs from by
        have := HMr.out
        rwa [List.take_of_length_le (by have := HLF.out; omega), show N - i = 0 from by omega, List.replicate_zero, List.append_nil] at this)
      have HB0 := Aside0.mk HBr.out
      clear HMr HI HB HM HBr Kr
      go_wp2_with fail
      go_loopw [7] (fun p wr => ∃ j : Nat, p = .int .i64 (j : Int) ∧ Aside0 (j ≤ n) ∧ Aside0 (Mem wr g (behindL fs (ops.take j))) ∧ Aside0 (Below W.heap.size W wr)) (fun p _ => n - (intOf p).toNat)
      · exact ⟨0, rfl, ⟨Nat.zero_le _⟩, HM0, HB0⟩
      · obtain ⟨j, rfl, HJ, HMr, HBr⟩ := hrel
        by_cases cj : j < n
        · have cj1 : decide ((j : Int) < (n : Int)) = true := decide_eq_true (by omega)
          have cj2 : decide (j < n) = true := decide_eq_true cj
          have cj3 : (0 : Int) ≤ (j : Int) := by omega
          have cj4 : (j : Int) < (ops.length : Int) := by have := HN.out; omega
          have hw1 : IntKind.i64.wrap ((j : Int) + 1) = ((j + 1 : Nat) : Int) := by rw [IntWalk.i64_in _ (by have := HN.out; have := HL.out; omega)]; omega
          obtain ⟨op, hop⟩ : ∃ op, ops[j]? = some op := ⟨_, List.getElem?_eq_getElem (by have := HN.out; omega)⟩
          have Kr := Aside0.mk (K.out.stay HBr.out)
          have c1 := Kr.out.row.cell 1 _ rfl
          obtain ⟨ga, Ab, cb, e, hall⟩ := rops_all K.out j op hop
          subst e
          obtain ⟨hc0, hc1, _⟩ := hall wr HBr.out
          have HALL := Aside0.mk hall
          have HOP := Aside0.mk hop
          clear hall hop
          have hoo := HO.out op (List.mem_of_getElem? HOP.out)
          by_cases hfo : op = flushOp
          · have hneg : decide ((0 : Int) ≤ op.1) = false := by rw [hfo]; rfl
            have HFO := Aside0.mk hfo
            clear hfo hoo
            go_wp2_with fail
            refine ⟨⟨j + 1, rfl, ⟨cj⟩, ⟨?_⟩, HBr⟩, ?_⟩
            · rw [take_step HOP.out, layOp, if_pos HFO.out]
              exact HMr.out
            · simp only [intOf]
              omega
          · obtain ⟨s, hs, hsn⟩ := hoo.2.resolve_left hfo
            have hro : rof op = op := if_neg hfo
            rw [hro, hoo.1] at hc1
            rw [hs] at hc0
            have hpos : decide ((0 : Int) ≤ (s : Int)) = true := decide_eq_true (by omega)
            have HFO := Aside0.mk (And.intro hfo (And.intro hs (And.intro hsn (And.intro hro hoo.1))))
            clear hfo hoo hs hsn hro
            go_wp2_with fail
            refine (lay_at g N N s 128 W.heap.size (behindL fs (ops.take j)) op.2 Ab 128 cb wr HMr.out (by rw [behindL_len _ _ K.out.lf (HO.out.take j)]; exact HNN.out) hN2 (Nat.le_refl _) (by have := HFO.out.2.2.1; have := HNN.out; omega) (Nat.le_refl _) rfl (by have := HG.out; omega) (fun W' hb => by
              have := (HALL.out W' (HBr.out.trans hb)).2.2
              rwa [HFO.out.2.2.2.1, HFO.out.2.2.2.2] at this)).mono ?_
            rintro e w9 ⟨rfl, hM9, hb9⟩
            have HM9 := Aside0.mk hM9
            have HB9 := Aside0.mk (HBr.out.trans hb9)
            clear hM9 hb9 hc0 hc1 c1
            go_wp2_with fail
            refine ⟨⟨j + 1, rfl, ⟨cj⟩, ⟨?_⟩, HB9⟩, ?_⟩
            · rw [take_step HOP.out, layOp, if_neg HFO.out.1, HFO.out.2.1, Int.toNat_natCast]
              have := HM9.out
              rwa [List.take_of_length_le (Nat.le_of_eq HFO.out.2.2.2.2)] at this
            · simp only [intOf]
              omega
        · have cj1 : decide ((j : Int) < (n : Int)) = false := decide_eq_false (by omega)
          have cj2 : decide (j < n) = false := decide_eq_false cj
          go_wp2_with fail
          go_ret
          obtain rfl : j = n := by have := HJ.out; omega
          exact ⟨g, N, rfl, HMr.out, by have := HG.out; omega, Nat.le_refl _, HBr.out⟩
end Go.Proofs.YtpaonoaedjkekaaDoor.Dk
namespace Go.Proofs.YtpaonoaedjkekaaDoor.Dk
open Go Go.RowKit Go.Proofs.YtpaonoaedjkekaaDoor.PD Go.Proofs.YtpaonoaedjkekaaDoorW.PrintWords Go.Proofs.YtpaonoaedjkekaaDoorW.PrintLast Go.Proofs.YtpaonoaedjkekaaDoorW.PrintMore
set_option linter.unusedVariables false
set_option linter.unusedSimpArgs false
set_option maxHeartbeats 4000000
set_option maxRecDepth 100000
theorem has_at (A : Option Addr) (n c : Nat) (l : List Int) (x : Int) (W : World) (hC : Kd.C (Kd.int .i64) W A n l) :
    Calls Tryd.prog 58 #[.slice A n c, .int .i64 x] W fun e w' => e = .returned (.bool (decide (x ∈ l))) ∧ w' = W := by
  have HC := Aside0.mk hC
  have hkl := Kd.C_len hC
  have HKL := Aside0.mk hkl
  have hmk := (Kd.reads_of_C (d := (0 : Int)) (h1 := fun _ => rfl) hC).2.1
  have HMK := Aside0.mk hmk
  clear hC hkl hmk
  go_enter Tryd.func58, Tryd.ntmps58
  go_wp2_with fail
  go_loopw [5] (fun p wr => ∃ j : Nat, p = .int .i64 (j : Int) ∧ Aside0 (j ≤ n) ∧ Aside0 (x ∉ l.take j) ∧ wr = W) (fun p _ => n - (intOf p).toNat)
  · exact ⟨0, rfl, ⟨Nat.zero_le _⟩, ⟨by simp⟩, rfl⟩
  · obtain ⟨j, rfl, HJ, HX, rfl⟩ := hrel
    by_cases ci : j < n
    · have ci1 : decide ((j : Int) < (n : Int)) = true := decide_eq_true (by omega)
      have ci2 : decide (j < n) = true := decide_eq_true ci
      have ci3 : (0 : Int) ≤ (j : Int) := by omega
      have ci4 : (j : Int) < (n : Int) := by omega
      have hw1 : IntKind.i64.wrap ((j : Int) + 1) = ((j + 1 : Nat) : Int) := by rw [IntWalk.i64_in _ (by have := HMK.out; omega)]; omega
      obtain ⟨y, hy⟩ : ∃ y, l[j]? = some y := ⟨_, List.getElem?_eq_getElem (by have := HKL.out; omega)⟩
      obtain ⟨ad, rfl, hcell⟩ := (Kd.reads_of_C (d := (0 : Int)) (h1 := fun _ => rfl) HC.out).2.2 (by omega)
      have cj := hcell j ci
      rw [List.getD_eq_getElem?_getD, hy] at cj
      simp only [Option.getD_some] at cj
      have HY := Aside0.mk hy
      clear hcell hy
      by_cases hyx : y = x
      · subst hyx
        have hd : (y == y) = true := by simp
        go_wp2_with fail
        go_ret
        refine ⟨?_, rfl⟩
        have : y ∈ l := List.mem_of_getElem? HY.out
        rw [decide_eq_true this]
        rfl
      · have hd : (y == x) = false := by simpa using hyx
        have hd2 : decide (y = x) = false := decide_eq_false hyx
        have HYX := Aside0.mk hyx
        clear hyx
        go_wp2_with fail
        refine ⟨⟨j + 1, rfl, ⟨ci⟩, ⟨?_⟩, by trivial⟩, ?_⟩
        · rw [take_snoc HY.out]
          intro h
          rcases List.mem_append.1 h with h | h
          · exact HX.out h
          · exact HYX.out (List.mem_singleton.1 h).symm
        · simp only [intOf]
          omega
    · have ci1 : decide ((j : Int) < (n : Int)) = false := decide_eq_false (by omega)
      have ci2 : decide (j < n) = false := decide_eq_false ci
      go_wp2_with fail
      go_ret
      refine ⟨?_, rfl⟩
      have h : x ∉ l := by
        have := HX.out
        rwa [List.take_of_length_le (by have := HKL.out; omega)] at this
      rw [decide_eq_false h]
      rfl
theorem rImage_at {r : Rd} {B : Nat} {ok : Nat → Prop} {fs : List Int} {A : Option Addr} {c : Nat} {ops : List (Int × List Int)} {W : World} (k : RfAt r B ok fs (.slice A ops.length c) ops W) (hO : Oks r.n ops) :
    Calls Tryd.prog 50 #[ptr r.D] W fun e w' => ∃ g c', e = .returned (.slice (some ⟨g, 0, none⟩) r.n c') ∧ Mem w' g (behindL fs ops) ∧ W.heap.size ≤ g ∧ r.n ≤ c' ∧ Below W.heap.size W w' := by
  have K := Aside0.mk k
  have HO := Aside0.mk hO
  have c1 := k.row.cell 1 _ rfl
  clear k hO
  go_enter Tryd.func50, Tryd.ntmps50
  go_wp2_with fail
  go_at_call 57
  refine (rimage_at K.out HO.out ops.length (Nat.le_refl _)).mono ?_
  rintro e w1 ⟨g, cg, rfl, hM, hg, hcg, hb⟩
  rw [List.take_length] at hM
  have HR := Aside0.mk (show Mem w1 g (behindL fs ops) ∧ W.heap.size ≤ g ∧ r.n ≤ cg ∧ Below W.heap.size W w1 from ⟨hM, hg, hcg, hb⟩)
  clear hM hg hcg hb
  go_wp2_with fail
  go_ret
  exact ⟨g, cg, rfl, HR.out⟩
theorem rdurable_at {r : Rd} {B : Nat} {ok : Nat → Prop} {fs : List Int} {A : Option Addr} {c : Nat} {ops : List (Int × List Int)} {W : World} (k : RfAt r B ok fs (.slice A ops.length c) ops W) (hO : Oks r.n ops) :
    Calls Tryd.prog 51 #[ptr r.D] W fun e w' => ∃ g c', e = .returned (.slice (some ⟨g, 0, none⟩) r.n c') ∧ Mem w' g (behindL fs (ops.take (looseN ops ops.length))) ∧ W.heap.size ≤ g ∧ r.n ≤ c' ∧ Below W.heap.size W w' := by
  have K := Aside0.mk k
  have HO := Aside0.mk hO
  have HLL := Aside0.mk (looseN_le ops ops.length)
  have c1 := k.row.cell 1 _ rfl
  clear k hO
  go_enter Tryd.func51, Tryd.ntmps51
  go_wp2_with (go_at_call 56; refine (rloose_at K.out HO.out ops.length (Nat.le_refl _)).mono ?_; rintro e w' ⟨rfl, hw⟩; subst w')
  go_at_call 57
  refine (rimage_at K.out HO.out (looseN ops ops.length) HLL.out).mono ?_
  rintro e w1 ⟨g, cg, rfl, hM, hg, hcg, hb⟩
  have HR := Aside0.mk (show Mem w1 g (behindL fs (ops.take (looseN ops ops.length))) ∧ W.heap.size ≤ g ∧ r.n ≤ cg ∧ Below W.heap.size W w1 from ⟨hM, hg, hcg, hb⟩)
  clear hM hg hcg hb
  go_wp2_with fail
  go_ret
  exact ⟨g, cg, rfl, HR.out⟩
theorem rpending_at {r : Rd} {B : Nat} {ok : Nat → Prop} {fs : List Int} {A : Option Addr} {c : Nat} {ops : List (Int × List Int)} {W : World} (k : RfAt r B ok fs (.slice A ops.length c) ops W) (hO : Oks r.n ops) :
    Calls Tryd.prog 47 #[ptr r.D] W fun e w' => ∃ v, e = .returned v ∧ Kd.R (Kd.int .i64) 3 w' W.heap.size (fun _ => True) v ((ops.drop (looseN ops ops.length)).map (·.1)) ∧ Below W.heap.size W w' := by
  have K := Aside0.mk k
  have HO := Aside0.mk hO
  have hll := looseN_le ops ops.length
  have HL := Aside0.mk k.few
  have HQ := Aside0.mk (rloose_at k hO ops.length (Nat.le_refl _))
  have c1 := k.row.cell 1 _ rfl
  obtain ⟨lo, hlo⟩ : ∃ lo, looseN ops ops.length = lo := ⟨_, rfl⟩
  rw [hlo] at hll HQ ⊢
  have HLL := Aside0.mk hll
  clear k hO hlo hll
  go_enter Tryd.func47, Tryd.ntmps47
  go_wp2_with (go_at_call 56; refine HQ.out.mono ?_; rintro e w' ⟨rfl, hw⟩; subst w')
  go_loopw [3, 4] (fun l p wr => ∃ j : Nat, p = .int .i64 (j : Int) ∧ Aside0 (lo ≤ j ∧ j ≤ ops.length) ∧ Aside0 (Kd.R (Kd.int .i64) 3 wr W.heap.size (fun _ => True) l (((ops.drop lo).take (j - lo)).map (·.1))) ∧ Aside0 (Below W.heap.size W wr)) (fun _ p _ => ops.length - (intOf p).toNat)
  · exact ⟨lo, rfl, ⟨Nat.le_refl _, HLL.out⟩, ⟨by rw [Nat.sub_self]; exact Kd.R_nil _ _ _ _ _⟩, ⟨Below.refl _ _⟩⟩
  · obtain ⟨j, rfl, HJ, HRr, HBr⟩ := hrel
    obtain ⟨l, rfl⟩ : ∃ l, u3 = l := ⟨_, rfl⟩
    have Kr := Aside0.mk (K.out.stay HBr.out)
    have c1 := Kr.out.row.cell 1 _ rfl
    by_cases ci : j < ops.length
    · have ci1 : decide ((j : Int) < (ops.length : Int)) = true := decide_eq_true (by omega)
      have ci2 : decide (j < ops.length) = true := decide_eq_true ci
      have ci3 : (0 : Int) ≤ (j : Int) := by omega
      have ci4 : (j : Int) < (ops.length : Int) := by omega
      have hw1 : IntKind.i64.wrap ((j : Int) + 1) = ((j + 1 : Nat) : Int) := by rw [IntWalk.i64_in _ (by have := HL.out; omega)]; omega
      obtain ⟨op, hop⟩ : ∃ op, ops[j]? = some op := ⟨_, List.getElem?_eq_getElem ci⟩
      obtain ⟨ga, Ab, cb, e, hall⟩ := rops_all K.out j op hop
      subst e
      obtain ⟨hc0, _, _⟩ := hall wr HBr.out
      have HOP := Aside0.mk (show (ops.drop lo)[j - lo]? = some op by rw [List.getElem?_drop, show lo + (j - lo) = j from by have := HJ.out; omega]; exact hop)
      clear hall hop
      go_wp2_with (first | (
        (with_reducible refine gate_builtin (b := .append) (xs := #[.tmp 24, .tmp 33]) rfl ?_)
        at_builtin
        refine Kd.R_append (Kd.int .i64) (w0 := W) W.heap.size rfl (.tmp 24) (.tmp 33) 23 3 (.int .i64 0) 8 rfl Tryd.underlying23 info3' rfl (by decide) (by omega) _ _ op.1 [.int .i64 op.1] (fun _ => True) (fun _ => False) rfl rfl rfl (fun _ hk => hk.elim) (fun _ _ => trivial) HRr.out HBr.out HBr.out.size (by rw [List.length_map, List.length_take, List.length_drop]; have := HL.out; omega) ?_
        intro v1 w1 ho hb hg hat
        have HO := Aside0.mk ho
        have HB3 := Aside0.mk hb
        clear ho hb hg hat))
      refine ⟨⟨j + 1, rfl, ⟨by have := HJ.out; omega⟩, ⟨?_⟩, ⟨HB3.out⟩⟩, ?_⟩
      · rw [show j + 1 - lo = (j - lo) + 1 from by have := HJ.out; omega, List.take_add_one, HOP.out, List.map_append]
        exact HO.out
      · simp only [intOf]
        omega
    · have ci1 : decide ((j : Int) < (ops.length : Int)) = false := decide_eq_false (by omega)
      have ci2 : decide (j < ops.length) = false := decide_eq_false ci
      go_wp2_with fail
      go_ret
      refine ⟨_, rfl, ?_, HBr.out⟩
      have := HRr.out
      rw [List.take_of_length_le (by rw [List.length_drop]; have := HJ.out; omega)] at this
      exact this
end Go.Proofs.YtpaonoaedjkekaaDoor.Dk
namespace Go.Proofs.YtpaonoaedjkekaaDoor.Dk
open Go Go.RowKit Go.Proofs.YtpaonoaedjkekaaDoor.PD Go.Proofs.YtpaonoaedjkekaaDoorW.PrintWords Go.Proofs.YtpaonoaedjkekaaDoorW.PrintLast Go.Proofs.YtpaonoaedjkekaaDoorW.PrintMore
set_option linter.unusedVariables false
set_option linter.unusedSimpArgs false
set_option maxHeartbeats 4000000
set_option maxRecDepth 100000
theorem sector_same {im : List Int} {op : Int × List Int} {s : Nat} (hf : op ≠ flushOp) (h1 : op.1 = (s : Int)) (h2 : op.2.length = 128) (hl : 128 * s + 128 ≤ im.length) : sectorL (layOp im op) s = op.2 := by
  have e : (im.take (128 * s)).length = 128 * s := by rw [List.length_take]; omega
  rw [layOp, if_neg hf, h1, Int.toNat_natCast, sectorL, List.append_assoc, List.drop_left' e, List.take_left' h2]
theorem sector_other {im : List Int} {op : Int × List Int} {s : Nat} (h : op = flushOp ∨ ∃ s' : Nat, s' ≠ s ∧ op.1 = (s' : Int) ∧ 128 * s' + 128 ≤ im.length ∧ op.2.length = 128) : sectorL (layOp im op) s = sectorL im s := by
  unfold layOp
  split
  · rfl
  · rename_i hf
    obtain ⟨s', hne, h1, hl, h2⟩ := h.resolve_left hf
    rw [h1, Int.toNat_natCast]
    apply List.ext_getElem?
    intro j
    unfold sectorL
    rw [List.getElem?_take, List.getElem?_take]
    split
    · rw [List.getElem?_drop, List.getElem?_drop]
      have := put_get im op.2 (128 * s') (by omega) (128 * s + j)
      rw [h2] at this
      rw [this, if_neg (by omega)]
    · rfl
theorem sectorL_len {im : List Int} {s n : Nat} (h : im.length = n) (hs : 128 * s + 128 ≤ n) : (sectorL im s).length = 128 := by
  unfold sectorL
  rw [List.length_take, List.length_drop]; omega
theorem sectorL_get {im : List Int} {s i : Nat} (hi : i < 128) : (sectorL im s)[i]? = im[128 * s + i]? := by
  unfold sectorL
  rw [List.getElem?_take, if_pos hi, List.getElem?_drop]
theorem rread_at {r : Rd} {B : Nat} {ok : Nat → Prop} {fs : List Int} {A : Option Addr} {c : Nat} {ops : List (Int × List Int)} {W : World} (k : RfAt r B ok fs (.slice A ops.length c) ops W) (hO : Oks r.n ops) (n : Nat) (hn : 128 * n + 128 ≤ r.n) :
    Calls Tryd.prog 46 #[ptr r.D, .int .i64 (n : Int)] W fun e w' => ∃ g c', e = .returned (.tuple #[.slice (some ⟨g, 0, none⟩) 128 c', .int .i64 0]) ∧ Mem w' g (sectorL (behindL fs ops) n) ∧ W.heap.size ≤ g ∧ 128 ≤ c' ∧ Below W.heap.size W w' := by
  have K := Aside0.mk k
  have HO := Aside0.mk hO
  have HN := Aside0.mk hn
  have HL := Aside0.mk k.few
  have HLF := Aside0.mk k.lf
  have HBIG := Aside0.mk k.big
  have cd := k.row.cell 0 _ rfl
  obtain ⟨q, hq⟩ : ∃ q, r.n / 128 = q := ⟨_, rfl⟩
  have n1 : ¬ ((n : Int) < 0) := by omega
  have n2 : ¬ ((q : Int) ≤ (n : Int)) := by omega
  have hdv : Int.tdiv (r.n : Int) 128 = (q : Int) := by rw [Int.tdiv_eq_ediv_of_nonneg (by omega)]; omega
  have hdw : wrap64 (q : Int) = (q : Int) := by have := k.big; unfold wrap64; omega
  obtain ⟨i0, hi0, hz0', hsz0, hby'⟩ := infoParts info5'
  have hmk := run_make (P := Tryd.prog) W 29 5 i0 (.int .u8 0) Tryd.underlying29 hi0 hz0' .i64 .i64 (128 : Int) (128 : Int) (by omega) (by omega) (by rw [hby']; omega) (by omega)
  rw [hsz0, Nat.mul_one] at hmk
  have HMK := Aside0.mk hmk
  clear k hO hn hmk hi0 hq
  go_enter Tryd.func46, Tryd.ntmps46
  go_wp2_with fail
  rw [HMK.out]
  simp only [Result.andThen_ok, Oper.upon_value]
  have hM := Mem.made W 128 (madeCells (Value.int .u8 0).cells 128) (by rw [show (Value.int .u8 0).cells = #[Value.int .u8 0] from rfl, toList_madeCells_one]; simp [cellsB])
  have hb1 : Below W.heap.size W (W.alloc (.cells (madeCells (Value.int .u8 0).cells 128) 5)) := below_alloc (Below.refl _ _) _
  rw [show Int.toNat 128 = 128 from rfl]
  generalize W.alloc (.cells (madeCells (Value.int .u8 0).cells 128) 5) = w1 at *
  obtain ⟨g, hg⟩ : ∃ g, W.heap.size = g := ⟨_, rfl⟩
  rw [hg] at hM ⊢
  have HG := Aside0.mk hg
  have HM := Aside0.mk hM
  have HB := Aside0.mk hb1
  have HSL := Aside0.mk (sectorL_len K.out.lf HN.out)
  have em : wrap64 ((n : Int) * 128) = ((128 * n : Nat) : Int) := by have := HN.out; have := HBIG.out; unfold wrap64; omega
  obtain ⟨M, hMM⟩ : ∃ M, 128 * n = M := ⟨_, rfl⟩
  rw [hMM] at em
  have HMM := Aside0.mk hMM
  clear hM hb1 hg HMK cd hMM n1 n2 hdv hdw
  go_wp2_with fail
  go_loopw [7] (fun p wr => ∃ i : Nat, p = .int .i64 (i : Int) ∧ Aside0 (i ≤ 128) ∧ Aside0 (Mem wr g ((sectorL fs n).take i ++ List.replicate (128 - i) 0)) ∧ Aside0 (Below W.heap.size W wr)) (fun p _ => 128 - (intOf p).toNat)
  · exact ⟨0, rfl, ⟨Nat.zero_le _⟩, ⟨by rw [List.take_zero, List.nil_append, Nat.sub_zero]; exact HM.out⟩, HB⟩
  · obtain ⟨i, rfl, HI, HMr, HBr⟩ := hrel
    have Kr := Aside0.mk (K.out.stay HBr.out)
    by_cases ci : i < 128
    · have ci1 : decide ((i : Int) < 128) = true := decide_eq_true (by omega)
      have ci3 : (0 : Int) ≤ (i : Int) := by omega
      have ci4 : (i : Int) < 128 := by omega
      have hw1 : IntKind.i64.wrap ((i : Int) + 1) = ((i + 1 : Nat) : Int) := by rw [IntWalk.i64_in _ (by omega)]; omega
      obtain ⟨x, hx⟩ : ∃ x, (sectorL fs n)[i]? = some x := ⟨_, List.getElem?_eq_getElem (by have := HSL.out; omega)⟩
      have c0 := Kr.out.row.cell 0 _ rfl
      have cf := Kr.out.f.cell (128 * n + i) (by have := HLF.out; have := HN.out; omega)
      rw [List.getD_eq_getElem?_getD, ← sectorL_get ci, hx] at cf
      simp only [Option.getD_some] at cf
      have ez : wrap64 ((M : Int) + (i : Int)) = ((128 * n + i : Nat) : Int) := by have := HN.out; have := HBIG.out; have := HMM.out; unfold wrap64; omega
      have ez2 : ((128 * n + i : Nat) : Int) < (r.n : Int) := by have := HN.out; omega
      obtain ⟨Z, hZ⟩ : ∃ Z, 128 * n + i = Z := ⟨_, rfl⟩
      rw [hZ] at ez ez2 cf
      have ez0 : (0 : Int) ≤ (Z : Int) := by omega
      have hlen : ((sectorL fs n).take i ++ List.replicate (128 - i) (0 : Int)).length = 128 := by
        rw [List.length_append, List.length_take, List.length_replicate]; have := HSL.out; omega
      have cg := HMr.out.cell i (by rw [hlen]; exact ci)
      have fg : wr.frozen? ⟨g, i, none⟩ = false := by
        obtain ⟨cur, h1, _⟩ := HMr.out
        simp [World.frozen?, h1]
      have HNEW := Aside0.mk (show Mem (wr.setCell ⟨g, i, none⟩ (.int .u8 x)) g ((sectorL fs n).take (i + 1) ++ List.replicate (128 - (i + 1)) 0) ∧ Below W.heap.size W (wr.setCell ⟨g, i, none⟩ (.int .u8 x)) from by
        refine ⟨?_, HBr.out.setCell (p := ⟨g, i, none⟩) (by have := HG.out; show W.heap.size ≤ g; omega) _⟩
        rw [← copy_step hx ci]
        exact HMr.out.put i (by rw [hlen]; exact ci) x)
      clear hx hlen hZ
      go_wp2_with fail
      refine ⟨⟨i + 1, rfl, ⟨ci⟩, ⟨HNEW.out.1⟩, ⟨HNEW.out.2⟩⟩, ?_⟩
      simp only [intOf]
      omega
    · have ci1 : decide ((i : Int) < 128) = false := decide_eq_false (by omega)
      have HM0 := Aside0.mk (show Mem wr g (sectorL fs n) from by
        have := HMr.out
        rwa [List.take_of_length_le (by have := HSL.out; omega), show 128 - i = 0 from by omega, List.replicate_zero, List.append_nil] at this)
      have HB0 := Aside0.mk HBr.out
      clear HMr HI HB HM HBr Kr
      go_wp2_with fail
      go_loopw [8, 9] (fun p _ wr => ∃ j : Nat, p = .int .i64 (j : Int) ∧ Aside0 (j ≤ ops.length) ∧ Aside0 (Mem wr g (sectorL (behindL fs (ops.take j)) n)) ∧ Aside0 (Below W.heap.size W wr)) (fun p _ _ => ops.length - (intOf p).toNat)
      · exact ⟨0, rfl, ⟨Nat.zero_le _⟩, HM0, HB0⟩
      · obtain ⟨j, rfl, HJ, HMr, HBr⟩ := hrel
        have Kr := Aside0.mk (K.out.stay HBr.out)
        have c1 := Kr.out.row.cell 1 _ rfl
        by_cases cj : j < ops.length
        · have cj1 : decide ((j : Int) < (ops.length : Int)) = true := decide_eq_true (by omega)
          have cj2 : decide (j < ops.length) = true := decide_eq_true cj
          have cj3 : (0 : Int) ≤ (j : Int) := by omega
          have cj4 : (j : Int) < (ops.length : Int) := by omega
          have hw1 : IntKind.i64.wrap ((j : Int) + 1) = ((j + 1 : Nat) : Int) := by rw [IntWalk.i64_in _ (by have := HL.out; omega)]; omega
          obtain ⟨op, hop⟩ : ∃ op, ops[j]? = some op := ⟨_, List.getElem?_eq_getElem cj⟩
          obtain ⟨ga, Ab, cb, e, hall⟩ := rops_all K.out j op hop
          subst e
          obtain ⟨hc0, hc1, hcx⟩ := hall wr HBr.out
          have HALL := Aside0.mk hall
          have HOP := Aside0.mk hop
          have HOO := Aside0.mk (HO.out op (List.mem_of_getElem? hop))
          have HBL := Aside0.mk (behindL_len _ _ K.out.lf (HO.out.take j))
          clear hall hop hc1 hcx
          by_cases hon : op.1 = (n : Int)
          · have hfo : op ≠ flushOp := by rintro rfl; simp [flushOp] at hon
            have hd : (op.1 == (n : Int)) = true := by simpa using hon
            have HFO := Aside0.mk hfo
            have HON := Aside0.mk hon
            have hro : rof op = op := if_neg hfo
            have HRO := Aside0.mk hro
            clear hfo hon hro
            go_wp2_with fail
            have HNX := Aside0.mk (show sectorL (behindL fs (ops.take (j + 1))) n = op.2 by
              rw [take_step HOP.out, sector_same HFO.out HON.out HOO.out.1 (by rw [HBL.out]; exact HN.out)])
            clear hc0 c1
            go_loopw [9] (fun p wr => ∃ i : Nat, p = .int .i64 (i : Int) ∧ Aside0 (i ≤ 128) ∧ Aside0 (Mem wr g (List.take 0 (sectorL (behindL fs (ops.take j)) n) ++ op.2.take i ++ (sectorL (behindL fs (ops.take j)) n).drop (0 + i))) ∧ Aside0 (Below W.heap.size W wr)) (fun p _ => 128 - (intOf p).toNat)
            · exact ⟨0, rfl, ⟨Nat.zero_le _⟩, ⟨by simpa using HMr.out⟩, HBr⟩
            · obtain ⟨i', rfl, HI2, HM2, HB2⟩ := hrel
              have Kr2 := Aside0.mk (K.out.stay HB2.out)
              by_cases ci2 : i' < 128
              · have di1 : decide ((i' : Int) < 128) = true := decide_eq_true (by omega)
                have di3 : (0 : Int) ≤ (i' : Int) := by omega
                have di4 : (i' : Int) < 128 := by omega
                have hw2 : IntKind.i64.wrap ((i' : Int) + 1) = ((i' + 1 : Nat) : Int) := by rw [IntWalk.i64_in _ (by omega)]; omega
                have c1 := Kr2.out.row.cell 1 _ rfl
                obtain ⟨hc0, hc1, hcb⟩ := HALL.out wr HB2.out
                rw [HRO.out, HOO.out.1] at hc1 hcb
                obtain ⟨x, hx⟩ : ∃ x, op.2[i']? = some x := ⟨_, List.getElem?_eq_getElem (by have := HOO.out.1; omega)⟩
                obtain ⟨ad, rfl, hcell⟩ := (Kd.reads_of_C (d := (0 : Int)) (h1 := fun _ => rfl) hcb).2.2 (by omega)
                have ce := hcell i' ci2
                rw [List.getD_eq_getElem?_getD, hx] at ce
                simp only [Option.getD_some] at ce
                have hsl := sectorL_len HBL.out HN.out
                have hlen : (List.take 0 (sectorL (behindL fs (ops.take j)) n) ++ op.2.take i' ++ (sectorL (behindL fs (ops.take j)) n).drop (0 + i')).length = 128 := by
                  rw [List.length_append, List.length_append, List.length_take, List.length_take, List.length_drop, hsl]; have := HOO.out.1; omega
                have cg := HM2.out.cell i' (by rw [hlen]; exact ci2)
                have fg : wr.frozen? ⟨g, i', none⟩ = false := by
                  obtain ⟨cur, h1, _⟩ := HM2.out
                  simp [World.frozen?, h1]
                have HNEW := Aside0.mk (show Mem (wr.setCell ⟨g, i', none⟩ (.int .u8 x)) g (List.take 0 (sectorL (behindL fs (ops.take j)) n) ++ op.2.take (i' + 1) ++ (sectorL (behindL fs (ops.take j)) n).drop (0 + (i' + 1))) ∧ Below W.heap.size W (wr.setCell ⟨g, i', none⟩ (.int .u8 x)) from by
                  refine ⟨?_, HB2.out.setCell (p := ⟨g, i', none⟩) (by have := HG.out; show W.heap.size ≤ g; omega) _⟩
                  have := HM2.out.put i' (by rw [hlen]; exact ci2) x
                  rw [← lay_step hx (by rw [hsl]; omega), Nat.zero_add]
                  rwa [Nat.zero_add] at this)
                clear hx hlen hsl hcell hcb hc0
                go_wp2_with fail
                refine ⟨⟨i' + 1, rfl, ⟨ci2⟩, ⟨HNEW.out.1⟩, ⟨HNEW.out.2⟩⟩, ?_⟩
                simp only [intOf]
                omega
              · have di1 : decide ((i' : Int) < 128) = false := decide_eq_false (by omega)
                have HM3 := Aside0.mk (show Mem wr g op.2 from by
                  have := HM2.out
                  rw [List.take_zero, List.nil_append, List.take_of_length_le (by have := HOO.out.1; omega), List.drop_of_length_le (by rw [sectorL_len HBL.out HN.out]; omega), List.append_nil] at this
                  exact this)
                go_wp2_with fail
                refine ⟨⟨j + 1, rfl, ⟨cj⟩, ⟨?_⟩, HB2⟩, ?_⟩
                · rw [HNX.out]
                  exact HM3.out
                · simp only [intOf]
                  omega
          · have hd : (op.1 == (n : Int)) = false := by simpa using hon
            have hd2 : decide (op.1 = (n : Int)) = false := decide_eq_false hon
            have HNX := Aside0.mk (show sectorL (behindL fs (ops.take (j + 1))) n = sectorL (behindL fs (ops.take j)) n by
              rw [take_step HOP.out, sector_other]
              rcases HOO.out.2 with e | ⟨s', e, hs⟩
              · exact .inl e
              · exact .inr ⟨s', by rintro rfl; exact hon e, e, by rw [HBL.out]; exact hs, HOO.out.1⟩)
            clear hon
            go_wp2_with fail
            refine ⟨⟨j + 1, rfl, ⟨cj⟩, ⟨?_⟩, HBr⟩, ?_⟩
            · rw [HNX.out]
              exact HMr.out
            · simp only [intOf]
              omega
        · have cj1 : decide ((j : Int) < (ops.length : Int)) = false := decide_eq_false (by omega)
          have cj2 : decide (j < ops.length) = false := decide_eq_false cj
          go_wp2_with fail
          go_ret2
          have := HMr.out
          rw [List.take_of_length_le (by omega)] at this
          exact ⟨g, 128, rfl, this, by have := HG.out; omega, Nat.le_refl _, HBr.out⟩
end Go.Proofs.YtpaonoaedjkekaaDoor.Dk
namespace Go.Proofs.YtpaonoaedjkekaaDoor.Dk
open Go Go.RowKit Go.Proofs.YtpaonoaedjkekaaDoor.PD Go.Proofs.YtpaonoaedjkekaaDoorW.PrintWords Go.Proofs.YtpaonoaedjkekaaDoorW.PrintLast Go.Proofs.YtpaonoaedjkekaaDoorW.PrintMore
set_option linter.unusedVariables false
set_option linter.unusedSimpArgs false
set_option maxHeartbeats 4000000
set_option maxRecDepth 100000
theorem rat_at {r : Rd} {B : Nat} {ok : Nat → Prop} {fs : List Int} {A : Option Addr} {c : Nat} {ops : List (Int × List Int)} {W : World} (k : RfAt r B ok fs (.slice A ops.length c) ops W) (hO : Oks r.n ops) (n : Nat) (hn : n ≤ ops.length)
    (Ak : Option Addr) (mk ck : Nat) (keep : List Int) (torn : Int) (y : Nat) (hy : y ≤ 128) (hC : Kd.C (Kd.int .i64) W Ak mk keep) :
    Calls Tryd.prog 53 #[ptr r.D, .int .i64 (n : Int), .agg #[.slice Ak mk ck, .int .i64 torn, .int .i64 (y : Int)]] W fun e w' => ∃ g c', e = .returned (.tuple #[.slice (some ⟨g, 0, none⟩) r.n c', .int .i64 0]) ∧ Mem w' g (atL fs ops n keep torn y) ∧ W.heap.size ≤ g ∧ r.n ≤ c' ∧ Below W.heap.size W w' := by
  have K := Aside0.mk k
  have HO := Aside0.mk hO
  have HC := Aside0.mk hC
  have HL := Aside0.mk k.few
  have HN := Aside0.mk hn
  have HY := Aside0.mk hy
  have n1 : ¬ ((n : Int) < 0) := by omega
  have n2 : ¬ ((ops.length : Int) < (n : Int)) := by omega
  have n3 : ¬ ((y : Int) < 0) := by omega
  have n4 : ¬ ((128 : Int) < (y : Int)) := by omega
  have hlo : looseN ops n ≤ n := looseN_le ops n
  obtain ⟨lo, hlo2⟩ : ∃ lo, looseN ops n = lo := ⟨_, rfl⟩
  have HLO := Aside0.mk hlo2
  rw [hlo2] at hlo
  have HLE := Aside0.mk hlo
  clear k hO hC hn hy hlo hlo2
  go_enter Tryd.func53, Tryd.ntmps53
  go_upto_region 1 with fail
  have hr5 : Rt 34 W.heap.size [.slice Ak mk ck, .int .i64 torn, .int .i64 (y : Int)] (W.alloc (.cells #[.slice Ak mk ck, .int .i64 torn, .int .i64 (y : Int)] 34)) := heap_alloc_new W _
  have hb5 : Below W.heap.size W (W.alloc (.cells #[.slice Ak mk ck, .int .i64 torn, .int .i64 (y : Int)] 34)) := below_alloc (Below.refl _ _) _
  obtain ⟨b5, hb5e⟩ : ∃ b5, W.heap.size = b5 := ⟨_, rfl⟩
  have HB5E := Aside0.mk hb5e
  rw [hb5e] at hr5
  rw [hb5e]
  generalize W.alloc (.cells #[.slice Ak mk ck, .int .i64 torn, .int .i64 (y : Int)] 34) = w1 at *
  have HR1 := Aside0.mk hr5
  have HB1 := Aside0.mk (show Below b5 W w1 from hb5e ▸ hb5)
  have K1 := Aside0.mk (K.out.stay hb5)
  have c1 := K1.out.row.cell 1 _ rfl
  have d2 := hr5.cell 2 _ rfl
  clear hr5 hb5 hb5e
  go_wp2_with (go_at_call 56; refine (rloose_at K1.out HO.out n HN.out).mono ?_; rw [HLO.out]; rintro e w' ⟨rfl, hw⟩; subst w')
  go_at_call 57
  refine (rimage_at K1.out HO.out lo (by have := HLE.out; have := HN.out; omega)).mono ?_
  rintro e w2 ⟨g, cg, rfl, hM, hg, hcg, hb2⟩
  have HBG := Aside0.mk (show w1.heap.size ≤ g ∧ r.n ≤ cg ∧ b5 < g ∧ b5 ≤ g from by have := HR1.out.lt; exact ⟨hg, hcg, by omega, by omega⟩)
  have HB2 := Aside0.mk (show Below b5 W w2 from HB1.out.trans (hb2.mono (HB5E.out ▸ HB1.out.size)))
  have HR2 := Aside0.mk (show Rt 34 b5 [Value.slice Ak mk ck, Value.int IntKind.i64 torn, Value.int IntKind.i64 (y : Int)] w2 from (hb2.block _ HR1.out.lt).trans HR1.out)
  have HM2 := Aside0.mk hM
  clear hM hg hcg hb2 c1 d2 HR1 HB1 K1
  go_wp2_with fail
  go_loopw [10] (fun p wr => ∃ j : Nat, p = .int .i64 (j : Int) ∧ Aside0 (lo ≤ j ∧ j ≤ n) ∧ Aside0 (Mem wr g (crashL keep torn y (behindL fs (ops.take lo)) 0 ((ops.drop lo).take (j - lo)))) ∧ Aside0 (Below b5 W wr) ∧ Aside0 (Rt 34 b5 [.slice Ak mk ck, .int .i64 torn, .int .i64 (y : Int)] wr)) (fun p _ => n - (intOf p).toNat)
  · exact ⟨lo, rfl, ⟨Nat.le_refl _, HLE.out⟩, ⟨by rw [Nat.sub_self]; exact HM2.out⟩, HB2, HR2⟩
  · obtain ⟨j, rfl, HJ, HMr, HBr, HRr⟩ := hrel
    by_cases cj : j < n
    · have cj1 : decide ((j : Int) < (n : Int)) = true := decide_eq_true (by omega)
      have cj2 : decide (j < n) = true := decide_eq_true cj
      have cj3 : (0 : Int) ≤ (j : Int) := by omega
      have cj4 : (j : Int) < (ops.length : Int) := by have := HN.out; omega
      have hw1 : IntKind.i64.wrap ((j : Int) + 1) = ((j + 1 : Nat) : Int) := by rw [IntWalk.i64_in _ (by have := HL.out; omega)]; omega
      obtain ⟨m, hm⟩ : ∃ m, j - lo = m := ⟨_, rfl⟩
      have hsub : wrap64 ((j : Int) - (lo : Int)) = (m : Int) := by have := HJ.out; have := HL.out; unfold wrap64; omega
      obtain ⟨op, hop⟩ : ∃ op, ops[j]? = some op := ⟨_, List.getElem?_eq_getElem (by omega)⟩
      have hbw : Below W.heap.size W wr := HB5E.out ▸ HBr.out
      have Kr := Aside0.mk (K.out.stay hbw)
      obtain ⟨ga, Ab, cb, e, hall⟩ := rops_all K.out j op hop
      subst e
      have HALL := Aside0.mk hall
      obtain ⟨hl2, s, hs, hsn⟩ := loose_op HO.out (by rw [HLO.out]; exact HJ.out.1) cj hop
      have hfo : op ≠ flushOp := by rintro rfl; simp [flushOp] at hs
      have hro : rof op = op := if_neg hfo
      have HOP := Aside0.mk (show (ops.drop lo)[m]? = some op by rw [List.getElem?_drop, show lo + m = j from by have := HJ.out; omega]; exact hop)
      have HOO := Aside0.mk (And.intro hl2 (And.intro hs hsn))
      have HRO := Aside0.mk hro
      have hlen : (crashL keep torn y (behindL fs (ops.take lo)) 0 ((ops.drop lo).take (j - lo))).length = r.n := by
        have := loose_mem HO.out HN.out (j := j - lo) (by rw [HLO.out]; omega)
        rw [HLO.out] at this
        exact crashL_len HY.out _ _ _ (behindL_len _ _ K.out.lf (HO.out.take lo)) this
      have HLEN := Aside0.mk hlen
      have HM := Aside0.mk hm
      have HNX := Aside0.mk (show crashL keep torn y (behindL fs (ops.take lo)) 0 ((ops.drop lo).take (j + 1 - lo)) = layC keep torn y (crashL keep torn y (behindL fs (ops.take lo)) 0 ((ops.drop lo).take (j - lo))) m op from by
        rw [show j + 1 - lo = m + 1 from by have := HJ.out; omega, take_snoc HOP.out, crashL_snoc, List.length_take, List.length_drop, hm, Nat.min_eq_left (by have := HN.out; have := HJ.out; omega), Nat.zero_add])
      have HCr := Aside0.mk (Kd.C_below HC.out hbw)
      have c1 := Kr.out.row.cell 1 _ rfl
      have d0 := HRr.out.cell 0 _ rfl
      have d1 := HRr.out.cell 1 _ rfl
      have d2 := HRr.out.cell 2 _ rfl
      obtain ⟨hc0, hc1, hcx⟩ := hall wr hbw
      rw [hro, hl2] at hc1
      rw [hs] at hc0
      clear hall hop hbw hl2 hs hsn hfo hro hlen hcx hm
      have HLAY := Aside0.mk (fun (y' : Nat) (hy' : y' ≤ 128) => lay_at g r.n cg s y' (b5 + 1) _ op.2 Ab 128 cb wr HMr.out HLEN.out K.out.big HBG.out.2.1 HOO.out.2.2 hy' rfl HBG.out.2.2.1 (fun W' hb => by
        have := (HALL.out W' ((HB5E.out ▸ HBr.out : Below W.heap.size W wr).trans (hb.mono (by have := HB5E.out; omega)))).2.2
        rwa [HRO.out, HOO.out.1] at this))
      have HFIN := Aside0.mk (fun (w9 : World) (hb9 : Below (b5 + 1) wr w9) => show Below b5 W w9 ∧ Rt 34 b5 [.slice Ak mk ck, .int .i64 torn, .int .i64 (y : Int)] w9 from ⟨HBr.out.trans (hb9.mono (Nat.le_succ _)), (hb9.block b5 (Nat.lt_succ_self _)).trans HRr.out⟩)
      by_cases hk : (m : Int) ∈ keep
      · have hd : decide ((m : Int) ∈ keep) = true := decide_eq_true hk
        have HAS := has_at Ak mk ck keep (m : Int) wr HCr.out
        rw [hd] at HAS
        have HAS := Aside0.mk HAS
        have HK := Aside0.mk hk
        clear hk hd
        go_wp2_with (go_at_call 58; refine HAS.out.mono ?_; rintro e w' ⟨rfl, hw⟩; subst w')
        refine (HLAY.out 128 (Nat.le_refl _)).mono ?_
        rintro e w9 ⟨rfl, hM9, hb9⟩
        have HM9 := Aside0.mk hM9
        have HF9 := Aside0.mk (HFIN.out w9 hb9)
        clear hM9 hb9 hc0 hc1 c1 d0 d1 d2
        go_wp2_with fail
        refine ⟨⟨j + 1, rfl, ⟨by have := HJ.out; omega⟩, ⟨?_⟩, ⟨HF9.out.1⟩, ⟨HF9.out.2⟩⟩, ?_⟩
        · rw [HNX.out, layC, if_pos HK.out, HOO.out.2.1, Int.toNat_natCast]
          have := HM9.out
          rwa [List.take_of_length_le (Nat.le_of_eq HOO.out.1)] at this
        · simp only [intOf]
          omega
      · have hd : decide ((m : Int) ∈ keep) = false := decide_eq_false hk
        have HAS := has_at Ak mk ck keep (m : Int) wr HCr.out
        rw [hd] at HAS
        have HAS := Aside0.mk HAS
        have HK := Aside0.mk hk
        clear hk hd
        by_cases ht : torn = (m : Int)
        · have hd1 : (torn == (m : Int)) = true := by simpa using ht
          have HT := Aside0.mk ht
          clear ht
          go_wp2_with (go_at_call 58; refine HAS.out.mono ?_; rintro e w' ⟨rfl, hw⟩; subst w')
          have HLAYD := Aside0.mk (lay_at g r.n cg s y (b5 + 1) _ op.2 Ab 128 cb wr.drew HMr.out HLEN.out K.out.big HBG.out.2.1 HOO.out.2.2 HY.out rfl HBG.out.2.2.1 (fun W' hb => by
            have := (HALL.out W' ((HB5E.out ▸ HBr.out : Below W.heap.size W wr).trans (((below_drew (Below.refl _ _)).trans hb).mono (by have := HB5E.out; omega)))).2.2
            rwa [HRO.out, HOO.out.1] at this))
          have c1' : wr.drew.cell? ⟨r.D, 1, none⟩ = _ := c1
          have d2' : wr.drew.cell? ⟨b5, 2, none⟩ = _ := d2
          have hc0' : wr.drew.cell? ⟨ga, j * 2, none⟩ = _ := hc0
          have hc1' : wr.drew.cell? ⟨ga, j * 2 + 1, none⟩ = _ := hc1
          clear HLAY HAS c1 d0 d1 d2 hc0 hc1 hd1
          go_region_law (go_simp; go_at_call 59; refine HLAYD.out.mono ?_; rintro e w9 ⟨rfl, hM9, hb9⟩; have HM9 := Aside0.mk hM9; have HF9 := Aside0.mk (HFIN.out w9 ((below_drew (Below.refl _ _)).trans hb9)); clear hM9 hb9)
          all_goals
            clear HLAYD c1' d2' hc0' hc1' HFIN
            go_wp2_with fail
            refine ⟨⟨j + 1, rfl, ⟨by have := HJ.out; omega⟩, ⟨?_⟩, ⟨HF9.out.1⟩, ⟨HF9.out.2⟩⟩, ?_⟩
            · rw [HNX.out, layC, if_neg HK.out, if_pos HT.out.symm, HOO.out.2.1, Int.toNat_natCast]
              exact HM9.out
            · simp only [intOf]
              omega
        · have hd1 : (torn == (m : Int)) = false := by simpa using ht
          have hd2 : decide (torn = (m : Int)) = false := decide_eq_false ht
          have HT := Aside0.mk ht
          clear ht
          go_wp2_with (go_at_call 58; refine HAS.out.mono ?_; rintro e w' ⟨rfl, hw⟩; subst w')
          refine ⟨⟨j + 1, rfl, ⟨by have := HJ.out; omega⟩, ⟨?_⟩, HBr, HRr⟩, ?_⟩
          · rw [HNX.out, layC, if_neg HK.out, if_neg (fun e => HT.out e.symm)]
            exact HMr.out
          · simp only [intOf]
            omega
    · have cj1 : decide ((j : Int) < (n : Int)) = false := decide_eq_false (by omega)
      have cj2 : decide (j < n) = false := decide_eq_false cj
      go_wp2_with fail
      go_ret2
      obtain rfl : j = n := by have := HJ.out; omega
      refine ⟨g, cg, rfl, ?_, by have := HBG.out; have := HB5E.out; omega, HBG.out.2.1, HB5E.out ▸ HBr.out⟩
      unfold atL
      rw [HLO.out]
      exact HMr.out
end Go.Proofs.YtpaonoaedjkekaaDoor.Dk
