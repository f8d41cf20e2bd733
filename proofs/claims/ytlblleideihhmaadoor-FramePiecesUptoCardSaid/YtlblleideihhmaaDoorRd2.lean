/- The Reader of frames: The Reader's Feed and Close, walked. The Reader's other calls, walked: NewReader, Close, and Feed behind a Close. What larderlaw01.FrameStuck computes, walked: true, for bytes and pieces of at most 1048576 bytes. (Parts of the text were written by a program of mine.) -/
import Derived.Test.YtlblleideihhmaaDoorRd1
namespace Go.Proofs.YtlblleideihhmaaDoor.Rd
open Go Go.RowKit Go.Proofs.YtlblleideihhmaaDoor.Each Go.Proofs.YtlblleideihhmaaDoor.UnLaw Go.Proofs.YtlblleideihhmaaDoor.Num Go.Proofs.YtlblleideihhmaaDoor.FrMore Go.Proofs.YtlblleideihhmaaDoor.Crc Go.Proofs.YtlblleideihhmaaDoor.CrcLaw Go.Proofs.YtlblleideihhmaaDoor.SealLaw Go.Proofs.YtlblleideihhmaaDoor.PB Go.Proofs.YtlblleideihhmaaDoor.Mine Go.Proofs.YtlblleideihhmaaDoorW.PrintWords Go.Proofs.YtlblleideihhmaaDoorW.PrintLast Go.Proofs.YtlblleideihhmaaDoorW.PrintMore
set_option linter.unusedVariables false
set_option linter.unusedSimpArgs false
set_option maxHeartbeats 4000000
set_option maxRecDepth 100000
/-- What holds of a Reader's numbers whatever came. -/
def Ok (s : St) : Prop := s.frm ≤ s.all ∧ s.loads.length ≤ s.all ∧ (s.err = 0 →
  (s.ph = 0 ∧ s.size = 0 ∧ s.p = [] ∧ s.tail = 0) ∨ (s.ph = 1 ∧ s.count ≤ 9 ∧ s.size < 128 ^ s.count ∧ s.p = [] ∧ s.tail = 0) ∨
  (s.ph = 2 ∧ s.p.length < s.size ∧ s.size ≤ 65536 ∧ s.tail = 0) ∨ (s.ph = 3 ∧ s.count < 4 ∧ s.tail < 256 ^ s.count))
theorem Ok.step {s : St} (h : Ok s) (c : Int) (hc : 0 ≤ c ∧ c < 256) : Ok (step s c) := by
  unfold Rd.step
  by_cases he : s.err = 0
  case neg => rw [if_neg he]; exact h
  rw [if_pos he]
  obtain ⟨h1, h2, h3⟩ := h
  have h3 := h3 he
  unfold next
  rcases h3 with ⟨e1, e2, e3, e4⟩ | ⟨e1, e2, e3, e4, e5⟩ | ⟨e1, e2, e3, e4⟩ | ⟨e1, e2, e3⟩
  · rw [if_pos e1]
    unfold first
    split
    · exact ⟨Nat.le_succ_of_le h1, Nat.le_succ_of_le h2, fun _ => .inr (.inl ⟨rfl, by simp, by simp [e2], e3, e4⟩)⟩
    · exact ⟨Nat.le_succ_of_le h1, Nat.le_succ_of_le h2, fun e => by simp at e⟩
  · rw [if_neg (by simp [e1]), if_pos e1]
    unfold lengthS
    have hn := next_lt e3 (show c.toNat % 128 < 128 from Nat.mod_lt _ (by decide))
    dsimp only
    by_cases g1 : s.count = 9 ∧ c > 1
    · rw [if_pos g1]; exact ⟨Nat.le_succ_of_le h1, Nat.le_succ_of_le h2, fun e => by simp at e⟩
    rw [if_neg g1]
    by_cases g2 : 0 < s.count ∧ c = 0
    · rw [if_pos g2]; exact ⟨Nat.le_succ_of_le h1, Nat.le_succ_of_le h2, fun e => by simp at e⟩
    rw [if_neg g2]
    by_cases g3 : c < 128
    · rw [if_pos g3]
      by_cases g4 : s.size + c.toNat % 128 * 128 ^ s.count > 65536
      · rw [if_pos g4]; exact ⟨Nat.le_succ_of_le h1, Nat.le_succ_of_le h2, fun e => by simp at e⟩
      rw [if_neg g4]
      refine ⟨Nat.le_succ_of_le h1, Nat.le_succ_of_le h2, fun _ => ?_⟩
      by_cases g5 : s.size + c.toNat % 128 * 128 ^ s.count = 0
      · exact .inr (.inr (.inr ⟨if_pos g5, by simp, by simp [e5]⟩))
      · exact .inr (.inr (.inl ⟨if_neg g5, by simp only [e4, List.length_nil]; omega, Nat.le_of_not_lt g4, e5⟩))
    · rw [if_neg g3]
      exact ⟨Nat.le_succ_of_le h1, Nat.le_succ_of_le h2, fun _ => .inr (.inl ⟨e1, by simp only; omega, hn, e4, e5⟩)⟩
  · rw [if_neg (by simp [e1]), if_neg (by simp [e1]), if_pos e1]
    unfold loadS
    refine ⟨Nat.le_succ_of_le h1, Nat.le_succ_of_le h2, fun _ => ?_⟩
    by_cases g1 : s.p.length + 1 = s.size
    · exact .inr (.inr (.inr ⟨if_pos g1, by simp only [if_pos g1]; decide, by simp only [if_pos g1, e4]; decide⟩))
    · exact .inr (.inr (.inl ⟨if_neg g1, by simp only [List.length_append, List.length_singleton]; omega, e3, e4⟩))
  · rw [if_neg (by simp [e1]), if_neg (by simp [e1]), if_neg (by simp [e1])]
    unfold endS
    have ht := (tail_or s.tail s.count c hc e2 e3).2
    dsimp only
    by_cases g1 : s.count + 1 < 4
    · rw [if_pos g1]
      exact ⟨Nat.le_succ_of_le h1, Nat.le_succ_of_le h2, fun _ => .inr (.inr (.inr ⟨e1, g1, ht⟩))⟩
    rw [if_neg g1]
    split
    · exact ⟨Nat.le_refl _, by simp only [List.length_append, List.length_singleton]; omega, fun _ => .inl ⟨rfl, rfl, rfl, rfl⟩⟩
    · exact ⟨Nat.le_succ_of_le h1, Nat.le_succ_of_le h2, fun e => by simp at e⟩
theorem Ok.run {s : St} (h : Ok s) (l : List Int) (hl : IsBytes l) : Ok (run s l) := by
  induction l generalizing s with
  | nil => exact h
  | cons c t ih => exact ih (h.step c (hl c (List.mem_cons_self ..))) (fun x hx => hl x (List.mem_cons_of_mem _ hx))
theorem step_all (s : St) (c : Int) : (step s c).all ≤ s.all + 1 ∧ (step s c).done = s.done := by
  unfold Rd.step next first lengthS loadS endS
  repeat' split
  all_goals simp
theorem run_all (s : St) (l : List Int) : (run s l).all ≤ s.all + l.length ∧ (run s l).done = s.done := by
  induction l generalizing s with
  | nil => simp [run_nil]
  | cons c t ih =>
    rw [run_cons]
    have h1 := ih (step s c)
    have h2 := step_all s c
    refine ⟨?_, h1.2.trans h2.2⟩
    rw [List.length_cons]
    omega
/-- One byte, in memory. -/
theorem next_at {g B : Nat} {s : St} {vp vl : Value} {W : World} (h : RdAt g B { s with all := s.all + 1 } vp vl W) (hT : Kd.C (Kd.int .u32) W (some ⟨0, 0, none⟩) 16 crcTab) (c : Int) (hc : 0 ≤ c ∧ c < 256) (hok : Ok s) (he : s.err = 0) (ha : s.all < 4398046511000) :
    Calls Tryd.prog (fnOf s.ph) #[ptr g, .int .u8 c] W fun en w' => (∃ v, en = .returned v) ∧ Steps g B vp vl W (step s c) w' := by
  have hs : step s c = next { s with all := s.all + 1 } c := by unfold step; rw [if_pos he]
  rw [hs]
  unfold next
  obtain ⟨h1, h2, h3⟩ := hok
  rcases h3 he with ⟨e1, e2, e3, e4⟩ | ⟨e1, e2, e3, e4, e5⟩ | ⟨e1, e2, e3, e4⟩ | ⟨e1, e2, e3⟩
  · rw [if_pos e1, show fnOf s.ph = 90 by rw [e1]; rfl]
    exact first_at h hT c hc
  · rw [if_neg (by simp [e1]), if_pos e1, show fnOf s.ph = 97 by rw [e1]; rfl]
    exact length_at h hT c hc (by simp only; omega) (by simp only; omega) e2 e3
  · rw [if_neg (by simp [e1]), if_neg (by simp [e1]), if_pos e1, show fnOf s.ph = 99 by rw [e1]; rfl]
    exact load_at h hT c hc e1 (by simp only; omega) e3
  · rw [if_neg (by simp [e1]), if_neg (by simp [e1]), if_neg (by simp [e1]), show fnOf s.ph = 98 by rw [e1]; rfl]
    exact end_at h c hc (by simp only; omega) e2 e3 (by simp only; omega)
theorem RdAt.emptied {g B : Nat} {s : St} {vp vl : Value} {W : World} (h : RdAt g B s vp vl W) :
    RdAt g B { s with loads := [] } vp (.slice none 0 0) (W.setRow g (cellsOf g { s with loads := [] } vp (.slice none 0 0)).toArray) ∧ (Kd.slice 5 (Kd.int .u8)).R 22 (W.setRow g (cellsOf g { s with loads := [] } vp (.slice none 0 0)).toArray) B (fun k => True ∧ some k ≠ vp.ownBlock) vl s.loads ∧
    Keep g B vp vl W vp vl (W.setRow g (cellsOf g { s with loads := [] } vp (.slice none 0 0)).toArray) :=
  ⟨RdAt.put _ h.row h.p (Kd.R_nil _ _ _ _ _) h.base, Kd.R_mono (Kd.R_step (Kd.R_types h.l h.row (by intro q hq; simp [Kd.int, Kd.scalar, Kd.slice] at hq; omega)) (fun k hk1 hk2 => setRow_other W g k _ hk1.2)) (fun _ hk => hk.1),
    ⟨⟨by rw [setRow_size]; exact Nat.le_refl _, fun k _ h2 => setRow_other W g k _ (fun e => h2 (.inl e))⟩, below_setRow' (Below.refl _ _) h.base _, fun k e => .inl e, fun k e => .inl e⟩⟩
theorem run_snoc (s : St) (l : List Int) (i : Nat) (hi : i < l.length) : run s (l.take (i + 1)) = step (run s (l.take i)) (rd l (i : Int)) := by
  rw [List.take_succ_eq_append_getElem hi, run_append]
  show step _ _ = _
  congr 1
  simp [rd, List.getD_eq_getElem?_getD, List.getElem?_eq_getElem hi]
theorem run_end (s : St) (l : List Int) (i : Nat) (h : l.length ≤ i ∨ (run s (l.take i)).err ≠ 0) : run s l = run s (l.take i) := by
  rcases h with h | h
  · rw [List.take_of_length_le h]
  · conv => lhs; rw [← List.take_append_drop i l, run_append, run_stuck h]
theorem feed_at {g : Nat} {s : St} {vp vl : Value} {W w0 : World} (h : RdAt g w0.heap.size s vp vl W) (hb0 : Below w0.heap.size w0 W) (hT : Kd.C (Kd.int .u32) w0 (some ⟨0, 0, none⟩) 16 crcTab) (h0 : 0 < w0.heap.size)
    (A : Option Addr) (cp : Nat) (l : List Int) (hC : Kd.C (Kd.int .u8) w0 A l.length l) (hlc : l.length ≤ cp) (hl : IsBytes l) (hok : Ok s) (hd : s.done = false) (ha : s.all + l.length < 4398046511000) :
    Calls Tryd.prog 51 #[ptr g, .slice A l.length cp] W fun e w' => ∃ vp' vl', e = .returned (.tuple #[vl', .int .i64 (run s l).err, .int .i64 (run s l).place]) ∧
      RdAt g w0.heap.size { run s l with loads := [] } vp' (.slice none 0 0) w' ∧ (Kd.slice 5 (Kd.int .u8)).R 22 w' w0.heap.size (fun k => True ∧ some k ≠ vp'.ownBlock) vl' (run s l).loads ∧ Keep g w0.heap.size vp vl W vp' vl' w' := by
  have H := Aside0.mk h
  have HB0 := Aside0.mk hb0
  have HT := Aside0.mk hT
  have HC := Aside0.mk hC
  have HLC := Aside0.mk hlc
  have HBY := Aside0.mk hl
  have HOK := Aside0.mk hok
  have HA := Aside0.mk ha
  have H0 := Aside0.mk h0
  have c11 : W.cell? ⟨g, 11, none⟩ = some (.bool false) := h.row.cell 11 _ (by simp [hd])
  clear h hb0 hT hC hlc hl hok hd ha h0
  go_enter Tryd.func51, Tryd.ntmps51
  go_wp2_with fail
  clear c11
  go_loopw [20] (fun p wr => ∃ (i : Nat) (vp' vl' : Value), p = .int .i64 (i : Int) ∧ Aside0 (i ≤ l.length) ∧ Aside0 (RdAt g w0.heap.size (run s (l.take i)) vp' vl' wr) ∧ Aside0 (Keep g w0.heap.size vp vl W vp' vl' wr))
    (fun p _ => l.length - (intOf p).toNat)
  · exact ⟨0, vp, vl, rfl, ⟨Nat.zero_le _⟩, ⟨by rw [List.take_zero, run_nil]; exact H.out⟩, ⟨Keep.refl _ _ _ _ _⟩⟩
  · obtain ⟨i, vp1, vl1, rfl, HI, HR, HK⟩ := hrel
    by_cases ci : i < l.length
    · have hCr : Kd.C (Kd.int .u8) wr A l.length l := Kd.C_below HC.out (HB0.out.trans HK.out.below)
      obtain ⟨ad, rfl, hcell⟩ := Kd.at_int hCr (i : Int) (by omega) (by omega)
      have hcb : 0 ≤ rd l (i : Int) ∧ rd l (i : Int) < 256 := by
        have hq : rd l (i : Int) = l[i] := by simp [rd, List.getD_eq_getElem?_getD, List.getElem?_eq_getElem ci]
        rw [hq]
        exact HBY.out _ (List.getElem_mem ci)
      rw [Int.toNat_natCast] at hcell
      have ci1 : ((i : Int) < (l.length : Int)) = True := eq_true (by omega)
      have ci2 : (i < l.length) = True := eq_true ci
      have hwi : wrap64 ((i : Int) + 1) = (i : Int) + 1 := w64 (by omega) (by have := HA.out; omega)
      by_cases e : (run s (l.take i)).err = 0
      · have HS1 : Aside0 (run s (l.take i) = run s (l.take i)) := ⟨rfl⟩
        have HO1 := Aside0.mk (HOK.out.run (l.take i) (HBY.out.take i))
        have hal := (run_all s (l.take i)).1
        have hal2 : (l.take i).length ≤ l.length := by rw [List.length_take]; omega
        have HA1 := Aside0.mk (show (run s (l.take i)).all < 4398046511000 by have := HA.out; omega)
        clear hal hal2
        generalize hs1 : run s (l.take i) = s1 at *
        clear HS1
        have HS1 := Aside0.mk hs1
        clear hs1
        have c9 := HR.out.row.cell 9 _ rfl
        rw [e] at c9
        have HE0 := Aside0.mk e
        clear e
        have c1 := HR.out.row.cell 1 _ rfl
        have f1 := HR.out.row.free 1
        have e1 := HR.out.row.set 1 (.int .i64 ((s1.all : Int) + 1))
        simp only [List.set_cons_succ, List.set_cons_zero] at e1
        have hwa : wrap64 ((s1.all : Int) + 1) = (s1.all : Int) + 1 := w64 (by omega) (by have := HA1.out; omega)
        have hA := HR.out.go (Below.refl _ wr) { s1 with all := s1.all + 1 } rfl rfl
        have RA := Aside0.mk hA.1
        have KA := Aside0.mk (HK.out.trans hA.2)
        have HB1 := Aside0.mk (HB0.out.trans (HK.out.below.trans hA.2.below))
        clear hA
        have c0 : (wr.setRow g [.func (.func (fnOf s1.ph)) #[ptr g] #[], .int .i64 ((s1.all : Int) + 1), .int .i64 (s1.frm : Int), .int .u32 (I s1.sum), .int .u64 (s1.size : Int), .int .i64 (s1.count : Int), vp1, .int .u32 (s1.tail : Int), vl1, .int .i64 s1.err, .int .i64 s1.place, .bool s1.done].toArray).cell? ⟨g, 0, none⟩ = some (.func (.func (fnOf s1.ph)) #[ptr g] #[]) := RA.out.row.cell 0 _ rfl
        have hfn : fnOf s1.ph = 90 ∨ fnOf s1.ph = 97 ∨ fnOf s1.ph = 99 ∨ fnOf s1.ph = 98 := by
          unfold fnOf
          repeat' split
          all_goals simp
        rcases hfn with hfn | hfn | hfn | hfn
        · have c0' : (wr.setRow g [.func (.func (fnOf s1.ph)) #[ptr g] #[], .int .i64 ((s1.all : Int) + 1), .int .i64 (s1.frm : Int), .int .u32 (I s1.sum), .int .u64 (s1.size : Int), .int .i64 (s1.count : Int), vp1, .int .u32 (s1.tail : Int), vl1, .int .i64 s1.err, .int .i64 s1.place, .bool s1.done].toArray).cell? ⟨g, 0, none⟩ = some (.func (.func 90) #[ptr g] #[]) := by rw [c0, hfn]
          have HFN := Aside0.mk hfn
          clear hfn c0
          go_wp2_with fail
          go_at_call 90
          refine (show Calls Tryd.prog 90 #[ptr g, .int .u8 (rd l (i : Int))] _ _ from HFN.out ▸ next_at RA.out (Kd.C_below HT.out HB1.out) (rd l (i : Int)) hcb HO1.out HE0.out HA1.out).mono ?_
          rintro en w' ⟨⟨v, rfl⟩, vp2, vl2, hR2, hK2⟩
          go_wp2_with fail
          go_roundw
          case rel => exact ⟨i + 1, vp2, vl2, by rw [hwi]; rfl, ⟨ci⟩, ⟨by rw [run_snoc s l i ci, HS1.out]; exact hR2⟩, ⟨KA.out.trans hK2⟩⟩
          case measure => rw [hwi]; simp [intOf]; omega
        · have c0' : (wr.setRow g [.func (.func (fnOf s1.ph)) #[ptr g] #[], .int .i64 ((s1.all : Int) + 1), .int .i64 (s1.frm : Int), .int .u32 (I s1.sum), .int .u64 (s1.size : Int), .int .i64 (s1.count : Int), vp1, .int .u32 (s1.tail : Int), vl1, .int .i64 s1.err, .int .i64 s1.place, .bool s1.done].toArray).cell? ⟨g, 0, none⟩ = some (.func (.func 97) #[ptr g] #[]) := by rw [c0, hfn]
          have HFN := Aside0.mk hfn
          clear hfn c0
          go_wp2_with fail
          go_at_call 97
          refine (show Calls Tryd.prog 97 #[ptr g, .int .u8 (rd l (i : Int))] _ _ from HFN.out ▸ next_at RA.out (Kd.C_below HT.out HB1.out) (rd l (i : Int)) hcb HO1.out HE0.out HA1.out).mono ?_
          rintro en w' ⟨⟨v, rfl⟩, vp2, vl2, hR2, hK2⟩
          go_wp2_with fail
          go_roundw
          case rel => exact ⟨i + 1, vp2, vl2, by rw [hwi]; rfl, ⟨ci⟩, ⟨by rw [run_snoc s l i ci, HS1.out]; exact hR2⟩, ⟨KA.out.trans hK2⟩⟩
          case measure => rw [hwi]; simp [intOf]; omega
        · have c0' : (wr.setRow g [.func (.func (fnOf s1.ph)) #[ptr g] #[], .int .i64 ((s1.all : Int) + 1), .int .i64 (s1.frm : Int), .int .u32 (I s1.sum), .int .u64 (s1.size : Int), .int .i64 (s1.count : Int), vp1, .int .u32 (s1.tail : Int), vl1, .int .i64 s1.err, .int .i64 s1.place, .bool s1.done].toArray).cell? ⟨g, 0, none⟩ = some (.func (.func 99) #[ptr g] #[]) := by rw [c0, hfn]
          have HFN := Aside0.mk hfn
          clear hfn c0
          go_wp2_with fail
          go_at_call 99
          refine (show Calls Tryd.prog 99 #[ptr g, .int .u8 (rd l (i : Int))] _ _ from HFN.out ▸ next_at RA.out (Kd.C_below HT.out HB1.out) (rd l (i : Int)) hcb HO1.out HE0.out HA1.out).mono ?_
          rintro en w' ⟨⟨v, rfl⟩, vp2, vl2, hR2, hK2⟩
          go_wp2_with fail
          go_roundw
          case rel => exact ⟨i + 1, vp2, vl2, by rw [hwi]; rfl, ⟨ci⟩, ⟨by rw [run_snoc s l i ci, HS1.out]; exact hR2⟩, ⟨KA.out.trans hK2⟩⟩
          case measure => rw [hwi]; simp [intOf]; omega
        · have c0' : (wr.setRow g [.func (.func (fnOf s1.ph)) #[ptr g] #[], .int .i64 ((s1.all : Int) + 1), .int .i64 (s1.frm : Int), .int .u32 (I s1.sum), .int .u64 (s1.size : Int), .int .i64 (s1.count : Int), vp1, .int .u32 (s1.tail : Int), vl1, .int .i64 s1.err, .int .i64 s1.place, .bool s1.done].toArray).cell? ⟨g, 0, none⟩ = some (.func (.func 98) #[ptr g] #[]) := by rw [c0, hfn]
          have HFN := Aside0.mk hfn
          clear hfn c0
          go_wp2_with fail
          go_at_call 98
          refine (show Calls Tryd.prog 98 #[ptr g, .int .u8 (rd l (i : Int))] _ _ from HFN.out ▸ next_at RA.out (Kd.C_below HT.out HB1.out) (rd l (i : Int)) hcb HO1.out HE0.out HA1.out).mono ?_
          rintro en w' ⟨⟨v, rfl⟩, vp2, vl2, hR2, hK2⟩
          go_wp2_with fail
          go_roundw
          case rel => exact ⟨i + 1, vp2, vl2, by rw [hwi]; rfl, ⟨ci⟩, ⟨by rw [run_snoc s l i ci, HS1.out]; exact hR2⟩, ⟨KA.out.trans hK2⟩⟩
          case measure => rw [hwi]; simp [intOf]; omega
      · have c9 := HR.out.row.cell 9 _ rfl
        have ee1 : ((run s (l.take i)).err == 0) = false := beq_eq_false_iff_ne.2 e
        have ee2 : ((run s (l.take i)).err != 0) = true := bne_iff_ne.2 e
        have HE := Aside0.mk (run_end s l i (.inr e))
        generalize run s (l.take i) = s1 at *
        have c8 := HR.out.row.cell 8 _ rfl
        have f8 := HR.out.row.free 8
        have e8 := HR.out.row.set 8 (.slice none 0 0)
        simp only [List.set_cons_succ, List.set_cons_zero] at e8
        have RE := HR.out.emptied
        have c9' : (wr.setRow g (cellsOf g { s1 with loads := [] } vp1 (.slice none 0 0)).toArray).cell? ⟨g, 9, none⟩ = some (.int .i64 s1.err) := RE.1.row.cell 9 _ rfl
        have c10' : (wr.setRow g (cellsOf g { s1 with loads := [] } vp1 (.slice none 0 0)).toArray).cell? ⟨g, 10, none⟩ = some (.int .i64 s1.place) := RE.1.row.cell 10 _ rfl
        have HRE := Aside0.mk RE
        clear RE
        go_wp2_with fail
        clear c8 f8 e8 c9 ee1 ee2 e hcell
        have hK := HK.out.trans HRE.out.2.2
        generalize wr.setRow g _ = X at *
        go_quiet (fail)
        go_wp2_with fail
        refine bodyPost_ret (results_list (rs := [.tmp 4, .tmp 5, .tmp 6]) rfl (by simp) (.tmp (.tmp (.tmp .nil)))) rfl ?_
        rw [HE.out]
        have hY := HRE.out.1.stay (pw_below_drewN (Below.refl _ _) nq)
        exact ⟨vp1, vl1, rfl, hY.1, Kd.R_below HRE.out.2.1 (pw_below_drewN (Below.refl _ _) nq), hK.trans ⟨hY.2.kept.mono (fun k hk => by
          rcases hk with hk | hk | hk
          · exact .inl hk
          · exact .inr (.inl hk)
          · simp [Value.ownBlock] at hk), hY.2.below, fun k e => .inl e, fun k e => .inl e⟩⟩
    · have ci1 : ((i : Int) < (l.length : Int)) = False := eq_false (by omega)
      have ci2 : (i < l.length) = False := eq_false ci
      have ci3 : decide ((i : Int) < (l.length : Int)) = false := decide_eq_false (by omega)
      have HE := Aside0.mk (run_end s l i (.inl (by omega)))
      generalize run s (l.take i) = s1 at *
      have c8 := HR.out.row.cell 8 _ rfl
      have f8 := HR.out.row.free 8
      have e8 := HR.out.row.set 8 (.slice none 0 0)
      simp only [List.set_cons_succ, List.set_cons_zero] at e8
      have RE := HR.out.emptied
      have c9' : (wr.setRow g (cellsOf g { s1 with loads := [] } vp1 (.slice none 0 0)).toArray).cell? ⟨g, 9, none⟩ = some (.int .i64 s1.err) := RE.1.row.cell 9 _ rfl
      have c10' : (wr.setRow g (cellsOf g { s1 with loads := [] } vp1 (.slice none 0 0)).toArray).cell? ⟨g, 10, none⟩ = some (.int .i64 s1.place) := RE.1.row.cell 10 _ rfl
      have HRE := Aside0.mk RE
      clear RE
      go_wp2_with fail
      clear c8 f8 e8
      have hK := HK.out.trans HRE.out.2.2
      generalize wr.setRow g _ = X at *
      go_quiet (fail)
      go_wp2_with fail
      refine bodyPost_ret (results_list (rs := [.tmp 4, .tmp 5, .tmp 6]) rfl (by simp) (.tmp (.tmp (.tmp .nil)))) rfl ?_
      rw [HE.out]
      have hY := HRE.out.1.stay (pw_below_drewN (Below.refl _ _) nq)
      exact ⟨vp1, vl1, rfl, hY.1, Kd.R_below HRE.out.2.1 (pw_below_drewN (Below.refl _ _) nq), hK.trans ⟨hY.2.kept.mono (fun k hk => by
        rcases hk with hk | hk | hk
        · exact .inl hk
        · exact .inr (.inl hk)
        · simp [Value.ownBlock] at hk), hY.2.below, fun k e => .inl e, fun k e => .inl e⟩⟩
end Go.Proofs.YtlblleideihhmaaDoor.Rd
namespace Go.Proofs.YtlblleideihhmaaDoor.Rd
open Go Go.RowKit Go.Proofs.YtlblleideihhmaaDoor.Each Go.Proofs.YtlblleideihhmaaDoor.UnLaw Go.Proofs.YtlblleideihhmaaDoor.Num Go.Proofs.YtlblleideihhmaaDoor.FrMore Go.Proofs.YtlblleideihhmaaDoor.Crc Go.Proofs.YtlblleideihhmaaDoor.CrcLaw Go.Proofs.YtlblleideihhmaaDoor.SealLaw Go.Proofs.YtlblleideihhmaaDoor.PB Go.Proofs.YtlblleideihhmaaDoor.Mine Go.Proofs.YtlblleideihhmaaDoorW.PrintWords Go.Proofs.YtlblleideihhmaaDoorW.PrintLast Go.Proofs.YtlblleideihhmaaDoorW.PrintMore
set_option linter.unusedVariables false
set_option linter.unusedSimpArgs false
set_option maxHeartbeats 4000000
set_option maxRecDepth 100000
theorem new_at (w : World) : Calls Tryd.prog 47 #[] w fun e w' => e = .returned (ptr w.heap.size) ∧ RdAt w.heap.size w.heap.size fresh (.slice none 0 0) (.slice none 0 0) w' ∧ Below w.heap.size w w' := by
  have hst := fun (W : World) (a : Addr) (f : Fn) (x y : Array Value) => run_store Tryd.prog W a (.func f x y) .plain rfl
  go_enter Tryd.func47, Tryd.ntmps47
  go_wp2
  go_end0
  go_wp2
  go_end0
  go_wp2
  go_ret
  refine ⟨rfl, ⟨?_, Kd.R_nil _ _ _ _ _, Kd.R_nil _ _ _ _ _, Nat.le_refl _⟩, below_alloc (Below.refl _ _) _⟩
  exact World.alloc_heap_new w _
theorem feed_done {g B : Nat} {s : St} {vp vl : Value} {W : World} (h : RdAt g B s vp vl W) (hd : s.done = true) (v : Value) (hv : ∃ A n c, v = .slice A n c) :
    Calls Tryd.prog 51 #[ptr g, v] W fun e w' => e = .returned (.tuple #[.slice none 0 0, .int .i64 6, .int .i64 0]) ∧ w' = W := by
  have c11 : W.cell? ⟨g, 11, none⟩ = some (.bool true) := h.row.cell 11 _ (by simp [hd])
  clear h
  go_enter Tryd.func51, Tryd.ntmps51
  go_wp2
  refine bodyPost_ret (results_list (rs := [.tmp 4, .tmp 5, .tmp 6]) rfl (by simp) (.tmp (.tmp (.tmp .nil)))) rfl ?_
  exact ⟨rfl, rfl⟩
theorem close_done {g B : Nat} {s : St} {vp vl : Value} {W : World} (h : RdAt g B s vp vl W) (hd : s.done = true) :
    Calls Tryd.prog 49 #[ptr g] W fun e w' => e = .returned (.tuple #[.int .i64 6, .int .i64 0]) ∧ w' = W := by
  have c11 : W.cell? ⟨g, 11, none⟩ = some (.bool true) := h.row.cell 11 _ (by simp [hd])
  clear h
  go_enter Tryd.func49, Tryd.ntmps49
  go_wp2
  refine bodyPost_ret (results_list (rs := [.tmp 2, .tmp 3]) rfl (by simp) (.tmp (.tmp .nil))) rfl ?_
  exact ⟨rfl, rfl⟩
theorem close_at {g B : Nat} {s : St} {vp vl : Value} {W : World} (h : RdAt g B s vp vl W) (hd : s.done = false) :
    Calls Tryd.prog 49 #[ptr g] W fun e w' => e = .returned (.tuple #[.int .i64 (if s.err = 0 ∧ s.frm < s.all then 3 else s.err), .int .i64 (if s.err = 0 ∧ s.frm < s.all then (s.all : Int) else s.place)]) ∧
      RdAt g B { s with done := true } vp vl w' ∧ Keep g B vp vl W vp vl w' := by
  have c11 : W.cell? ⟨g, 11, none⟩ = some (.bool false) := h.row.cell 11 _ (by simp [hd])
  have f11 := h.row.free 11
  have e11 := h.row.set 11 (.bool true)
  simp only [List.set_cons_succ, List.set_cons_zero] at e11
  have hR := h.go (Below.refl _ W) { s with done := true } rfl rfl
  have HR := Aside0.mk hR.1
  have HK := Aside0.mk hR.2
  clear hR h hd
  by_cases h1 : s.err = 0
  · have h1b : (s.err == 0) = true := beq_iff_eq.2 h1
    have h1c : decide (s.err = 0) = true := decide_eq_true h1
    by_cases h2 : s.frm < s.all
    · rw [if_pos ⟨h1, h2⟩, if_pos ⟨h1, h2⟩]
      have h2b : decide ((s.frm : Int) < (s.all : Int)) = true := decide_eq_true (by omega)
      have h2c : decide (s.frm < s.all) = true := decide_eq_true h2
      have h2d : decide ((s.all : Int) > (s.frm : Int)) = true := decide_eq_true (by omega)
      clear h1 h2
      have c1 := HR.out.row.cell 1 _ rfl
      have c2 := HR.out.row.cell 2 _ rfl
      have c9 := HR.out.row.cell 9 _ rfl
      have c10 := HR.out.row.cell 10 _ rfl
      go_enter Tryd.func49, Tryd.ntmps49
      go_wp2_with fail
      go_quiet (fail)
      go_wp2_with fail
      go_quiet (fail)
      have hY := fun n => HR.out.stay (pw_below_drewN (Below.refl _ _) n)
      go_wp2_with fail
      refine bodyPost_ret (results_list (rs := [.tmp 2, .tmp 3]) rfl (by simp) (.tmp (.tmp .nil))) rfl ?_
      refine ⟨rfl, ?_⟩
      first | exact ⟨(hY _).1, HK.out.trans (hY _).2⟩ | (rw [World.drewN_drewN]; exact ⟨(hY _).1, HK.out.trans (hY _).2⟩)
    · rw [if_neg (fun h => h2 h.2), if_neg (fun h => h2 h.2)]
      have h2b : decide ((s.frm : Int) < (s.all : Int)) = false := decide_eq_false (by omega)
      have h2c : decide (s.frm < s.all) = false := decide_eq_false h2
      have h2d : decide ((s.all : Int) > (s.frm : Int)) = false := decide_eq_false (by omega)
      clear h1 h2
      have c1 := HR.out.row.cell 1 _ rfl
      have c2 := HR.out.row.cell 2 _ rfl
      have c9 := HR.out.row.cell 9 _ rfl
      have c10 := HR.out.row.cell 10 _ rfl
      go_enter Tryd.func49, Tryd.ntmps49
      go_wp2_with fail
      go_quiet (fail)
      go_wp2_with fail
      go_quiet (fail)
      have hY := fun n => HR.out.stay (pw_below_drewN (Below.refl _ _) n)
      go_wp2_with fail
      refine bodyPost_ret (results_list (rs := [.tmp 2, .tmp 3]) rfl (by simp) (.tmp (.tmp .nil))) rfl ?_
      refine ⟨rfl, ?_⟩
      first | exact ⟨(hY _).1, HK.out.trans (hY _).2⟩ | (rw [World.drewN_drewN]; exact ⟨(hY _).1, HK.out.trans (hY _).2⟩)
  · rw [if_neg (fun h => h1 h.1), if_neg (fun h => h1 h.1)]
    have h1b : (s.err == 0) = false := beq_eq_false_iff_ne.2 h1
    have h1c : decide (s.err = 0) = false := decide_eq_false h1
    clear h1
    have c1 := HR.out.row.cell 1 _ rfl
    have c2 := HR.out.row.cell 2 _ rfl
    have c9 := HR.out.row.cell 9 _ rfl
    have c10 := HR.out.row.cell 10 _ rfl
    go_enter Tryd.func49, Tryd.ntmps49
    go_wp2_with fail
    go_quiet (fail)
    go_wp2_with fail
    go_quiet (fail)
    have hY := fun n => HR.out.stay (pw_below_drewN (Below.refl _ _) n)
    go_wp2_with fail
    refine bodyPost_ret (results_list (rs := [.tmp 2, .tmp 3]) rfl (by simp) (.tmp (.tmp .nil))) rfl ?_
    refine ⟨rfl, ?_⟩
    first | exact ⟨(hY _).1, HK.out.trans (hY _).2⟩ | (rw [World.drewN_drewN]; exact ⟨(hY _).1, HK.out.trans (hY _).2⟩)
end Go.Proofs.YtlblleideihhmaaDoor.Rd
namespace Go.Proofs.YtlblleideihhmaaDoor.Rd
open Go Go.RowKit Go.Proofs.YtlblleideihhmaaDoor.Each Go.Proofs.YtlblleideihhmaaDoor.UnLaw Go.Proofs.YtlblleideihhmaaDoor.Num Go.Proofs.YtlblleideihhmaaDoor.FrMore Go.Proofs.YtlblleideihhmaaDoor.Crc Go.Proofs.YtlblleideihhmaaDoor.CrcLaw Go.Proofs.YtlblleideihhmaaDoor.SealLaw Go.Proofs.YtlblleideihhmaaDoor.PB Go.Proofs.YtlblleideihhmaaDoor.Mine Go.Proofs.YtlblleideihhmaaDoorW.PrintWords Go.Proofs.YtlblleideihhmaaDoorW.PrintLast Go.Proofs.YtlblleideihhmaaDoorW.PrintMore
set_option linter.unusedVariables false
set_option linter.unusedSimpArgs false
set_option maxHeartbeats 4000000
set_option maxRecDepth 100000
theorem at_row {w : World} {A : Option Addr} {n : Nat} {xs : List (List Int)} (h : (Kd.slice 5 (Kd.int .u8)).C w A n xs) (i : Nat) (hi : i < n) :
    ∃ ad A1 c1, A = some ad ∧ w.cell? (ad.add i) = some (.slice A1 (xs.getD i []).length c1) ∧ (xs.getD i []).length ≤ c1 ∧ (Kd.int .u8).C w A1 (xs.getD i []).length (xs.getD i []) := by
  obtain ⟨ad, c, e, _, hK, hc0⟩ := Kd.C_get h [] (i : Int) (by omega) (by omega)
  have hc : ∀ j u, c[j]? = some u → w.cell? (ad.add ((i : Int).toNat * 1 + j)) = some u := hc0
  rw [Int.toNat_natCast] at hK hc
  obtain ⟨A1, c1, rfl, l1, g1⟩ := hK
  exact ⟨ad, A1, c1, e, by have := hc 0 _ rfl; rw [Nat.mul_one, Nat.add_zero] at this; exact this, l1, g1⟩
theorem cell_kept_below {w wr : World} {a : Addr} {v : Value} (h : Below w.heap.size w wr) (hc : w.cell? a = some v) : wr.cell? a = some v := (h.cell (World.block_lt_of_cell? w a hc)).trans hc
theorem fit_fresh : Fit fresh := .inl ⟨rfl, rfl⟩
theorem ok_fresh : Ok fresh := ⟨Nat.le_refl _, Nat.le_refl _, fun _ => .inl ⟨rfl, rfl, rfl, rfl⟩⟩
theorem stuck_walk (A : Option Addr) (c : Nat) (b : List Int) (M : Option Addr) (cm : Nat) (rows : List (List Int)) (w : World) (hC : Kd.C (Kd.int .u8) w A b.length b) (hc : b.length ≤ c) (hb : IsBytes b) (hbl : b.length ≤ 1048576)
    (hM : (Kd.slice 5 (Kd.int .u8)).C w M rows.length rows) (hcm : rows.length ≤ cm) (hrl : rows.length ≤ 1048576) (hrows : ∀ x ∈ rows, IsBytes x ∧ x.length ≤ 1048576) (hT : Kd.C (Kd.int .u32) w (some ⟨0, 0, none⟩) 16 crcTab) (h0 : 0 < w.heap.size) :
    Calls Tryd.prog 16 #[.slice A b.length c, .slice M rows.length cm] w fun e w' => e = .returned (.bool true) ∧ Below w.heap.size w w' := by
  have HT := Aside0.mk hT
  have HC := Aside0.mk hC
  have HL := Aside0.mk hc
  have HBY := Aside0.mk hb
  have HM := Aside0.mk hM
  have HCM := Aside0.mk hcm
  have HR := Aside0.mk hrows
  have HBL := Aside0.mk hbl
  have HRL := Aside0.mk hrl
  have H0 := Aside0.mk h0
  clear hT hC hc hb hM hcm hrows hbl hrl h0
  go_enter Tryd.func16, Tryd.ntmps16
  go_wp2_with fail
  go_at_call 47
  refine (new_at w).mono ?_
  rintro e W1 ⟨rfl, hR1, hB1⟩
  have HR1 := Aside0.mk hR1
  have HB1 := Aside0.mk hB1
  clear hR1 hB1
  go_wp2_with fail
  go_at_call 51
  refine (feed_at HR1.out HB1.out HT.out H0.out A c b HC.out HL.out HBY.out ok_fresh rfl (by have := HBL.out; simp only [fresh]; omega)).mono ?_
  rintro e W2 ⟨vp, vl, rfl, hR, hLd, hK⟩
  have HR2 := Aside0.mk hR
  have HB2 := Aside0.mk (HB1.out.trans hK.below)
  have HO2 := Aside0.mk (ok_fresh.run b HBY.out)
  have hf := fit_fresh.run b
  have ha := run_all fresh b
  have HA2 := Aside0.mk (show (run fresh b).all ≤ 1048576 by have h1 := HBL.out; have h2 : (run fresh b).all ≤ 0 + b.length := ha.1; omega)
  have HD2 := Aside0.mk (show (run fresh b).done = false from ha.2)
  clear hR hLd hK HR1 ha
  generalize run fresh b = s at *
  by_cases he : s.err = 0
  · have hp : s.place = 0 := by
      rcases hf with h | h | h | h | h | h
      · exact h.2
      all_goals (rw [he] at h; exact absurd h (by decide))
    rw [he, hp]
    have HE := Aside0.mk he
    have HP := Aside0.mk hp
    clear he hp hf
    go_wp2_with fail
    go_loopw [9] (fun p wr => p = .int .i64 0 ∧ wr = W2) (fun _ _ => 0)
    · exact ⟨rfl, rfl⟩
    · obtain ⟨rfl, rfl⟩ := hrel
      by_cases hr : 0 < rows.length
      · have hr1 : decide ((0 : Int) < (rows.length : Int)) = true := decide_eq_true (by omega)
        have hr2 : decide (0 < rows.length) = true := decide_eq_true hr
        clear hr
        go_wp2_with fail
        go_at_call 49
        refine (close_at HR2.out HD2.out).mono ?_
        rintro e W4 ⟨rfl, hR4, hK4⟩
        have HR4 := Aside0.mk hR4
        have HB4 := Aside0.mk (HB2.out.trans hK4.below)
        clear hR4 hK4 hr1 hr2
        generalize (if ({ s with loads := [] } : St).err = 0 ∧ ({ s with loads := [] } : St).frm < ({ s with loads := [] } : St).all then (3 : Int) else ({ s with loads := [] } : St).err) = fe at *
        generalize (if ({ s with loads := [] } : St).err = 0 ∧ ({ s with loads := [] } : St).frm < ({ s with loads := [] } : St).all then ((({ s with loads := [] } : St).all : Nat) : Int) else ({ s with loads := [] } : St).place) = fp at *
        go_wp2_with fail
        go_loopw [15] (fun p wr => ∃ (i : Nat), p = .int .i64 (i : Int) ∧ Aside0 (i ≤ rows.length) ∧ Aside0 (RdAt w.heap.size w.heap.size { s with loads := [], done := true } vp (.slice none 0 0) wr) ∧ Aside0 (Below w.heap.size w wr))
          (fun p _ => rows.length - (intOf p).toNat)
        · exact ⟨0, rfl, ⟨Nat.zero_le _⟩, HR4, HB4⟩
        · obtain ⟨j, rfl, HJ, HRj, HBj⟩ := hrel
          by_cases cj : j < rows.length
          · have cj1 : ((j : Int) < (rows.length : Int)) = True := eq_true (by omega)
            have cj2 : decide ((j : Int) < (rows.length : Int)) = true := decide_eq_true (by omega)
            have cj3 : (j < rows.length) = True := eq_true cj
            have hwj : wrap64 ((j : Int) + 1) = (j : Int) + 1 := w64 (by omega) (by have := HRL.out; omega)
            obtain ⟨ad, A1, c1, hMe, hcell, hl1, hC1⟩ := at_row HM.out j cj
            subst hMe
            have hcw : wr.cell? (ad.add j) = some (.slice A1 (rows.getD j []).length c1) := cell_kept_below HBj.out hcell
            clear hcell hl1 hC1
            go_wp2_with fail
            go_at_call 51
            refine (feed_done HRj.out rfl _ ⟨_, _, _, rfl⟩).mono ?_
            rintro e W5 ⟨rfl, rfl⟩
            clear hcw
            go_wp2_with fail
            go_at_call 49
            refine (close_done HRj.out rfl).mono ?_
            rintro e W6 ⟨rfl, rfl⟩
            go_wp2_with fail
            go_roundw
            case rel => exact ⟨j + 1, by rw [hwj]; rfl, ⟨cj⟩, HRj, HBj⟩
            case measure => rw [hwj]; simp [intOf]; omega
          · have cj1 : ((j : Int) < (rows.length : Int)) = False := eq_false (by omega)
            have cj2 : decide ((j : Int) < (rows.length : Int)) = false := decide_eq_false (by omega)
            have cj3 : (j < rows.length) = False := eq_false cj
            go_wp2_with fail
            go_ret
            exact ⟨rfl, HBj.out⟩
      · have hr1 : decide ((0 : Int) < (rows.length : Int)) = false := decide_eq_false (by omega)
        have hr2 : decide (0 < rows.length) = false := decide_eq_false hr
        clear hr
        go_wp2_with fail
        go_at_call 49
        refine (close_at HR2.out HD2.out).mono ?_
        rintro e W4 ⟨rfl, hR4, hK4⟩
        have HR4 := Aside0.mk hR4
        have HB4 := Aside0.mk (HB2.out.trans hK4.below)
        clear hR4 hK4 hr1 hr2
        generalize (if ({ s with loads := [] } : St).err = 0 ∧ ({ s with loads := [] } : St).frm < ({ s with loads := [] } : St).all then (3 : Int) else ({ s with loads := [] } : St).err) = fe at *
        generalize (if ({ s with loads := [] } : St).err = 0 ∧ ({ s with loads := [] } : St).frm < ({ s with loads := [] } : St).all then ((({ s with loads := [] } : St).all : Nat) : Int) else ({ s with loads := [] } : St).place) = fp at *
        go_wp2_with fail
        go_loopw [15] (fun p wr => ∃ (i : Nat), p = .int .i64 (i : Int) ∧ Aside0 (i ≤ rows.length) ∧ Aside0 (RdAt w.heap.size w.heap.size { s with loads := [], done := true } vp (.slice none 0 0) wr) ∧ Aside0 (Below w.heap.size w wr))
          (fun p _ => rows.length - (intOf p).toNat)
        · exact ⟨0, rfl, ⟨Nat.zero_le _⟩, HR4, HB4⟩
        · obtain ⟨j, rfl, HJ, HRj, HBj⟩ := hrel
          by_cases cj : j < rows.length
          · have cj1 : ((j : Int) < (rows.length : Int)) = True := eq_true (by omega)
            have cj2 : decide ((j : Int) < (rows.length : Int)) = true := decide_eq_true (by omega)
            have cj3 : (j < rows.length) = True := eq_true cj
            have hwj : wrap64 ((j : Int) + 1) = (j : Int) + 1 := w64 (by omega) (by have := HRL.out; omega)
            obtain ⟨ad, A1, c1, hMe, hcell, hl1, hC1⟩ := at_row HM.out j cj
            subst hMe
            have hcw : wr.cell? (ad.add j) = some (.slice A1 (rows.getD j []).length c1) := cell_kept_below HBj.out hcell
            clear hcell hl1 hC1
            go_wp2_with fail
            go_at_call 51
            refine (feed_done HRj.out rfl _ ⟨_, _, _, rfl⟩).mono ?_
            rintro e W5 ⟨rfl, rfl⟩
            clear hcw
            go_wp2_with fail
            go_at_call 49
            refine (close_done HRj.out rfl).mono ?_
            rintro e W6 ⟨rfl, rfl⟩
            go_wp2_with fail
            go_roundw
            case rel => exact ⟨j + 1, by rw [hwj]; rfl, ⟨cj⟩, HRj, HBj⟩
            case measure => rw [hwj]; simp [intOf]; omega
          · have cj1 : ((j : Int) < (rows.length : Int)) = False := eq_false (by omega)
            have cj2 : decide ((j : Int) < (rows.length : Int)) = false := decide_eq_false (by omega)
            have cj3 : (j < rows.length) = False := eq_false cj
            go_wp2_with fail
            go_ret
            exact ⟨rfl, HBj.out⟩
  · have k1 : (s.err == 0) = false := beq_eq_false_iff_ne.2 he
    have k2 : (s.err != 0) = true := bne_iff_ne.2 he
    have hne : s.err ≠ 3 ∧ s.err ≠ 6 := by
      rcases hf with h | h | h | h | h | h
      · exact absurd h.1 he
      all_goals (rw [h]; decide)
    have k3 : (s.err == 3) = false := beq_eq_false_iff_ne.2 hne.1
    have k4 : (s.err == 6) = false := beq_eq_false_iff_ne.2 hne.2
    have HE := Aside0.mk he
    clear hf hne he
    have k5 : (s.err != s.err) = false := by simp
    have k6 : (s.place != s.place) = false := by simp
    go_wp2_with fail
    go_loopw [9] (fun p wr => ∃ (i : Nat) (vp' : Value), p = .int .i64 (i : Int) ∧ Aside0 (i ≤ rows.length) ∧ Aside0 (RdAt w.heap.size w.heap.size { s with loads := [] } vp' (.slice none 0 0) wr) ∧ Aside0 (Below w.heap.size w wr))
      (fun p _ => rows.length - (intOf p).toNat)
    · exact ⟨0, vp, rfl, ⟨Nat.zero_le _⟩, HR2, HB2⟩
    · obtain ⟨i, vp1, rfl, HI, HRi, HBi⟩ := hrel
      by_cases ci : i < rows.length
      · have ci1 : ((i : Int) < (rows.length : Int)) = True := eq_true (by omega)
        have ci2 : decide ((i : Int) < (rows.length : Int)) = true := decide_eq_true (by omega)
        have ci3 : (i < rows.length) = True := eq_true ci
        have ci4 : decide (i < rows.length) = true := decide_eq_true ci
        have hwi : wrap64 ((i : Int) + 1) = (i : Int) + 1 := w64 (by omega) (by have := HRL.out; omega)
        have hx := HR.out (rows.getD i []) (by rw [List.getD_eq_getElem?_getD, List.getElem?_eq_getElem ci]; exact List.getElem_mem ci)
        obtain ⟨ad, A1, c1, rfl, hcell, hl1, hC1⟩ := at_row HM.out i ci
        have hcw : wr.cell? (ad.add i) = some (.slice A1 (rows.getD i []).length c1) := by
          have := cell_kept_below HBi.out hcell
          exact this
        have HX := Aside0.mk hx
        have HL1 := Aside0.mk hl1
        have HC1 := Aside0.mk hC1
        clear hx hl1 hC1 hcell
        generalize rows.getD i [] = row at *
        go_wp2_with fail
        go_at_call 51
        refine (feed_at HRi.out HBi.out HT.out H0.out A1 c1 row HC1.out HL1.out HX.out.1 (show Ok { s with loads := [] } from ⟨HO2.out.1, Nat.zero_le _, HO2.out.2.2⟩) HD2.out (by have := HA2.out; have := HX.out.2; simp only; omega)).mono ?_
        rintro e W3 ⟨vp2, vl2, rfl, hR3, hL3, hK3⟩
        have hst : run { s with loads := [] } row = { s with loads := [] } := run_stuck (s := { s with loads := [] }) HE.out row
        rw [hst] at hR3 hL3 ⊢
        obtain ⟨Al, cl, el⟩ := Kd.R_slice hL3
        subst el
        have HR3 := Aside0.mk hR3
        have HB3 := Aside0.mk (HBi.out.trans hK3.below)
        clear hst hR3 hL3 hK3 hcw
        simp only [List.length_nil]
        go_wp2_with fail
        go_roundw
        case rel => exact ⟨i + 1, vp2, by rw [hwi]; rfl, ⟨ci⟩, HR3, HB3⟩
        case measure => rw [hwi]; simp [intOf]; omega
      · have ci1 : ((i : Int) < (rows.length : Int)) = False := eq_false (by omega)
        have ci2 : decide ((i : Int) < (rows.length : Int)) = false := decide_eq_false (by omega)
        have ci3 : (i < rows.length) = False := eq_false ci
        have ci4 : decide (i < rows.length) = false := decide_eq_false ci
        go_wp2_with fail
        go_at_call 49
        refine (close_at HRi.out HD2.out).mono ?_
        rintro e W4 ⟨rfl, hR4, hK4⟩
        have HR4 := Aside0.mk hR4
        have HB4 := Aside0.mk (HBi.out.trans hK4.below)
        clear hR4 hK4 ci1 ci2 ci3 ci4
        rw [if_neg (fun h => HE.out h.1), if_neg (fun h => HE.out h.1)]
        go_wp2_with fail
        go_loopw [15] (fun p wr => ∃ (i : Nat), p = .int .i64 (i : Int) ∧ Aside0 (i ≤ rows.length) ∧ Aside0 (RdAt w.heap.size w.heap.size { s with loads := [], done := true } vp1 (.slice none 0 0) wr) ∧ Aside0 (Below w.heap.size w wr))
          (fun p _ => rows.length - (intOf p).toNat)
        · exact ⟨0, rfl, ⟨Nat.zero_le _⟩, HR4, HB4⟩
        · obtain ⟨j, rfl, HJ, HRj, HBj⟩ := hrel
          by_cases cj : j < rows.length
          · have cj1 : ((j : Int) < (rows.length : Int)) = True := eq_true (by omega)
            have cj2 : decide ((j : Int) < (rows.length : Int)) = true := decide_eq_true (by omega)
            have cj3 : (j < rows.length) = True := eq_true cj
            have hwj : wrap64 ((j : Int) + 1) = (j : Int) + 1 := w64 (by omega) (by have := HRL.out; omega)
            obtain ⟨ad, A1, c1, hMe, hcell, hl1, hC1⟩ := at_row HM.out j cj
            subst hMe
            have hcw : wr.cell? (ad.add j) = some (.slice A1 (rows.getD j []).length c1) := cell_kept_below HBj.out hcell
            clear hcell hl1 hC1
            go_wp2_with fail
            go_at_call 51
            refine (feed_done HRj.out rfl _ ⟨_, _, _, rfl⟩).mono ?_
            rintro e W5 ⟨rfl, rfl⟩
            clear hcw
            go_wp2_with fail
            go_at_call 49
            refine (close_done HRj.out rfl).mono ?_
            rintro e W6 ⟨rfl, rfl⟩
            go_wp2_with fail
            go_roundw
            case rel => exact ⟨j + 1, by rw [hwj]; rfl, ⟨cj⟩, HRj, HBj⟩
            case measure => rw [hwj]; simp [intOf]; omega
          · have cj1 : ((j : Int) < (rows.length : Int)) = False := eq_false (by omega)
            have cj2 : decide ((j : Int) < (rows.length : Int)) = false := decide_eq_false (by omega)
            have cj3 : (j < rows.length) = False := eq_false cj
            go_wp2_with fail
            go_ret
            exact ⟨rfl, HBj.out⟩
theorem frameStuck (a0 : Option Addr) (len0 cap0 : Nat) (z0 : List Int) (a1 : Option Addr) (len1 cap1 : Nat) (z1 : List (List Int)) (w : World) (w0 : (a0 = none ∧ len0 = 0 ∧ cap0 = 0 ∧ z0 = []) ∨ ∃ x, a0 = some x ∧ len0 ≤ cap0 ∧ cap0 ≤ maxLen ∧ z0.length = cap0 ∧ (∀ i, i < z0.length → w.cell? (x.add i) = some (.int .u8 (z0.getD i 0))) ∧ ∀ n ∈ z0, (Lit.int .u8 n).wf = true) (y0 : len0 * 1 ≤ 1048576)
    (x1 : z1.length = len1) (c1 : len1 ≤ cap1) (n1 : len1 ≤ 1048576) (w1 : (Kd.slice 5 (Kd.int .u8)).C w a1 len1 z1) (y1 : ∀ x ∈ z1, (∀ n ∈ x, (Lit.int .u8 n).wf = true) ∧ x.length ≤ 1048576) (hT : Kd.C (Kd.int .u32) w (some ⟨0, 0, none⟩) 16 crcTab) :
    Calls Tryd.prog 16 #[.slice a0 len0 cap0, .slice a1 len1 cap1] w fun e w' => e = .returned (.bool true) ∧ Below w.heap.size w w' := by
  obtain ⟨l0, rfl, hr0, hm0, hw0, hc0⟩ := ReadsInt.ofRowC w0
  subst x1
  have h0 : 0 < w.heap.size := by
    obtain ⟨ad, e, hc⟩ := (Kd.reads_of_C (d := (0 : Int)) (h1 := fun _ => rfl) hT).2.2 (by decide)
    have := World.block_lt_of_cell? _ _ (hc 0 (by decide))
    omega
  exact stuck_walk _ _ l0 _ _ z1 w (Kd.C_of_reads (d := (0 : Int)) (h1 := fun _ => rfl) hr0) hc0 (bytes_of_wf hw0) (by omega) w1 c1 n1 (fun x hx => ⟨bytes_of_wf (y1 x hx).1, (y1 x hx).2⟩) hT h0
end Go.Proofs.YtlblleideihhmaaDoor.Rd
