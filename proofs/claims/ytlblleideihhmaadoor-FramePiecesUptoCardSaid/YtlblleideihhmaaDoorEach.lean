import Derived.Test.YtlblleideihhmaaDoorUnLaw
import Derived.Test.YtlblleideihhmaaDoorSeq
import Derived.TacticsInMore
import Derived.RegionIn
import Derived.LoopNIn
import Derived.LoopIn
namespace Go.Proofs.YtlblleideihhmaaDoor.Each
open Go Go.RowKit Go.Proofs.SeqWith Go.Proofs.YtlblleideihhmaaDoor.UnLaw Go.Proofs.YtlblleideihhmaaDoor.Num Go.Proofs.YtlblleideihhmaaDoor.FrMore Go.Proofs.YtlblleideihhmaaDoor.Crc Go.Proofs.YtlblleideihhmaaDoor.CrcLaw Go.Proofs.YtlblleideihhmaaDoor.SealLaw Go.Proofs.YtlblleideihhmaaDoor.PB Go.Proofs.YtlblleideihhmaaDoor.Mine Go.Proofs.YtlblleideihhmaaDoorW.PrintWords Go.Proofs.YtlblleideihhmaaDoorW.PrintLast Go.Proofs.YtlblleideihhmaaDoorW.PrintMore
set_option linter.unusedVariables false
set_option linter.unusedSimpArgs false
set_option maxHeartbeats 4000000
set_option maxRecDepth 100000
theorem ug_nn (l : List Int) : ∀ i n, 0 ≤ (ug i n l).1 := by
  induction l with
  | nil => intro i n; simp [ug]
  | cons c t ih =>
    intro i n
    unfold ug
    repeat' split
    all_goals first | exact ih _ _ | exact Int.natCast_nonneg _ | exact Int.le_refl _ | simp
theorem un_step (b : List Int) (h : (un b).2.2.1 = 0) : 1 ≤ (un b).2.1 ∧ (un b).2.1 ≤ b.length := by
  have hg := ug_at (b.drop 1) 0 0
  unfold un at h ⊢
  by_cases c1 : b.length = 0
  · rw [if_pos c1] at h; exact absurd h (by decide)
  rw [if_neg c1] at h ⊢
  by_cases c2 : b.getD 0 0 = 167
  case neg => rw [if_neg c2] at h; exact absurd h (by decide)
  rw [if_pos c2] at h ⊢
  by_cases c3 : (ug 0 0 (b.drop 1)).2.2 = 0
  case neg => rw [if_neg c3] at h; exact absurd h c3
  rw [if_pos c3] at h ⊢
  by_cases c4 : (ug 0 0 (b.drop 1)).1 > 65536
  · rw [if_pos c4] at h; exact absurd h (by decide)
  rw [if_neg c4] at h ⊢
  by_cases c5 : (b.length : Int) < 1 + (ug 0 0 (b.drop 1)).2.1 + (ug 0 0 (b.drop 1)).1 + 4
  · rw [if_pos c5] at h; exact absurd (show (3 : Int) = 0 from h) (by decide)
  rw [if_neg c5] at h ⊢
  split
  · have h1 := hg.1
    have h2 := ug_nn (b.drop 1) 0 0
    simp only []
    omega
  · rename_i c6
    rw [if_neg c6] at h
    exact absurd (show (13 : Int) = 0 from h) (by decide)
/-- The frames of some bytes from a place on: where each begins, and its load. -/
def frames : Nat → List Int → Int → List (Int × List Int)
  | 0, _, _ => []
  | k + 1, l, i => if i < (l.length : Int) then (if (un (l.drop i.toNat)).2.2.1 = 0 then (i, (un (l.drop i.toNat)).1) :: frames k l (i + (un (l.drop i.toNat)).2.1) else []) else []
theorem frames_fuel (l : List Int) : ∀ (k m : Nat) (i : Int), 0 ≤ i → ((l.length : Int) - i).toNat ≤ k → ((l.length : Int) - i).toNat ≤ m → frames k l i = frames m l i
  | 0, 0, _, _, _, _ => rfl
  | 0, m + 1, i, h0, h1, _ => by simp [frames, show ¬ i < (l.length : Int) by omega]
  | k + 1, 0, i, h0, _, h1 => by simp [frames, show ¬ i < (l.length : Int) by omega]
  | k + 1, m + 1, i, h0, h1, h2 => by
    have hs := un_step (l.drop i.toNat)
    unfold frames
    split
    · split
      · rename_i hz
        have := (hs hz).1
        rw [frames_fuel l k m (i + (un (l.drop i.toNat)).2.1) (by omega) (by omega) (by omega)]
      · rfl
    · rfl
theorem unseal_at (W : World) (A : Option Addr) (m c : Nat) (b : List Int) (hm : b.length = m) (hC : Kd.C (Kd.int .u8) W A m b) (hc : m ≤ c) (hT : Kd.C (Kd.int .u32) W (some ⟨0, 0, none⟩) 16 crcTab) (hb : IsBytes b) (hl : b.length < 140737488355328) :
    Calls Tryd.prog 36 #[.slice A m c] W fun e w' => ∃ A' c', e = .returned (.tuple #[.slice A' (un b).1.length c', .int .i64 (un b).2.1, .int .i64 (un b).2.2.1, .int .i64 (un b).2.2.2]) ∧ (un b).1.length ≤ c' ∧ Kd.C (Kd.int .u8) w' A' (un b).1.length (un b).1 ∧ Below W.heap.size W w' := by
  subst hm
  refine (frame_Unseal.calls (b.length + 21) A c b (un b).1 (un b).2.1 (un b).2.2.1 (un b).2.2.2 W hC hc hT (unseal_ok _ b hb hl (by omega))).mono ?_
  rintro e w' ⟨v, rfl, hr, hB⟩
  obtain ⟨A', c', rfl, hc', hC'⟩ := Kd.R_reads hr
  exact ⟨A', c', rfl, hc', hC', hB⟩
abbrev El := Int × Value × List Int
abbrev encs (x : El) : Array Value := #[.int .i64 x.1, x.2.1]
def key (x : El) : Int × List Int := (x.1, x.2.2)
/-- With an element comes: it is the next frame, and its slice reads its load. -/
def With (fs : List (Int × List Int)) (pre : List El) (x : El) (W : World) : Prop :=
  (pre ++ [x]).map key <+: fs ∧ ∃ A c, x.2.1 = .slice A x.2.2.length c ∧ x.2.2.length ≤ c ∧ Kd.C (Kd.int .u8) W A x.2.2.length x.2.2
theorem each_seq (n : Nat) (hn : 1 ≤ n) (g : Nat) (A : Option Addr) (c : Nat) (l : List Int) (w : World) (hg : g < w.heap.size) (hbox : w.cell? ⟨g, 0, none⟩ = some (.slice A l.length c)) (hlc : l.length ≤ c)
    (hC : Kd.C (Kd.int .u8) w A l.length l) (hT : Kd.C (Kd.int .u32) w (some ⟨0, 0, none⟩) 16 crcTab) (hb : IsBytes l) (hl : l.length < 140737488355328) :
    SeqWith Fence.wide n Tryd.prog 74 #[.pointer (some ⟨g, 0, none⟩)] encs (With (frames l.length l 0)) (Below w.heap.size) (fun xs => xs.map key = frames l.length l 0) (fun _ => True) w := fun lp J Jx W hW hJ hY h0 => by
  have HT := Aside0.mk hT
  have HC := Aside0.mk hC
  have HL := Aside0.mk hlc
  have HX := Aside0.mk hbox
  have HW := Aside0.mk hW
  have H0 := Aside0.mk h0
  have HBY := Aside0.mk hb
  have HLN := Aside0.mk hl
  clear hT hC hlc hbox hW h0 hb hl
  obtain ⟨i0, hi0, _, hsz0, _⟩ := info_parts info5
  have HI := Aside0.mk hi0
  have HZ := Aside0.mk hsz0
  clear hi0 hsz0
  refine callsIn_of_wp Tryd.func74 rfl trivial ?_ rfl
  simp only [Tryd.ntmps74, List.size_toArray, List.length_cons, List.length_nil, Nat.reduceAdd, Nat.reduceSub, Array.replicate_succ, Array.replicate_zero, List.push_toArray, List.append_toArray, List.nil_append, List.cons_append]
  gi_wp2
  gi_loopw [3] (fun p wr => ∃ (i : Int) (pre : List El), p = .int .i64 i ∧ Aside0 (0 ≤ i ∧ i ≤ (l.length : Int)) ∧ Aside0 (pre.map key ++ frames ((l.length : Int) - i).toNat l i = frames l.length l 0) ∧ Aside0 (J pre wr) ∧ Aside0 (Below w.heap.size w wr))
    (fun p _ => ((l.length : Int) - intOf p).toNat)
  case atStart => exact ⟨0, [], rfl, ⟨by omega⟩, ⟨by simp⟩, H0, HW⟩
  case round =>
    obtain ⟨i, pre, rfl, HI0, HF, HJ, HB⟩ := hrel
    have hcell : wr.cell? ⟨g, 0, none⟩ = some (.slice A l.length c) := (HB.out.cell (p := ⟨g, 0, none⟩) hg).trans HX.out
    by_cases c1 : i < (l.length : Int)
    · have c1b : decide (i < (l.length : Int)) = true := decide_eq_true c1
      have h0i : 0 ≤ i := HI0.out.1
      obtain ⟨A8, hcut, hA8, hC8⟩ := print_drop_of (P := Tryd.prog) (Value.int .u8) 0 22 5 .i64 Tryd.underlying22 HI.out HZ.out A c l i h0i (Int.le_of_lt c1) HL.out
      have hD := Aside0.mk (Kd.C_of_reads (h1 := fun _ => rfl) (hA8 _ (Kd.reads_of_C (Kd.C_below HC.out HB.out))))
      generalize hm : (l.drop i.toNat).length = m at hcut hC8 hD
      generalize hc9 : c - i.toNat = c9 at hcut hC8
      clear hA8 h0i c1
      gi_wp2_with fail
      refine ⟨trivial, ?_⟩
      gi_at_call 36
      refine (callsIn_wide.2 (unseal_at wr A8 m c9 (l.drop i.toNat) hm hD.out hC8 (Kd.C_below HT.out HB.out) (IsBytes.drop HBY.out _) (by have := HLN.out; simp; omega))).mono ?_
      rintro e W2 ⟨A2, c2, rfl, hc2, hC2, hB2⟩
      have HU := Aside0.mk (un_step (l.drop i.toNat))
      have HN := Aside0.mk (show i < (l.length : Int) → frames ((l.length : Int) - i).toNat l i = if (un (l.drop i.toNat)).2.2.1 = 0 then (i, (un (l.drop i.toNat)).1) :: frames (((l.length : Int) - i).toNat - 1) l (i + (un (l.drop i.toNat)).2.1) else [] from fun hlt => by
        obtain ⟨q, hq⟩ : ∃ q, ((l.length : Int) - i).toNat = q + 1 := ⟨((l.length : Int) - i).toNat - 1, by omega⟩
        rw [hq]
        show (if i < (l.length : Int) then _ else _) = _
        rw [if_pos hlt]
        rfl)
      generalize un (l.drop i.toNat) = u at *
      have HJ2 := Aside0.mk (hJ pre wr W2 none HJ.out (grown_of_below hB2 none) (fun r e => by cases e))
      have HB2 := Aside0.mk (below_then HB.out HB.out.size hB2)
      clear hB2 HB HJ
      obtain ⟨p, d, er, pl⟩ := u
      simp only at HU HN hc2 hC2
      by_cases hz : er = 0
      · subst hz
        have hst := HU.out rfl
        have hfr := HN.out (of_decide_eq_true c1b)
        rw [if_pos rfl] at hfr
        have hld : (l.drop i.toNat).length = l.length - i.toNat := List.length_drop
        have hfs := HF.out
        rw [hfr] at hfs
        have HS := Aside0.mk hst
        have HFS := Aside0.mk hfs
        have HLD := Aside0.mk hld
        obtain ⟨fn, tmps, assign, body, hy, hR⟩ := hY pre (i, .slice A2 p.length c2, p) W2 HJ2.out ⟨⟨frames (((l.length : Int) - i).toNat - 1) l (i + d), by rw [← HFS.out]; simp [key]⟩, A2, c2, rfl, hc2, hC2⟩
        have hwr : wrap64 (i + d) = i + d := by
          have h1 := HS.out; have h2 := HI0.out; have h3 := HLD.out; have h4 := HLN.out
          have h5 := of_decide_eq_true c1b
          simp only [wrap64]
          omega
        dsimp only [encs] at hy
        clear hst hfr hfs hld HU HN HF hC2 hc2
        gi_wp2
        refine hR.mono ?_
        rintro e W3 (⟨rfl, hJ3, hk3⟩ | ⟨rfl, hJx3⟩)
        · gi_wp2
          go_roundw
          case rel =>
            refine ⟨i + d, pre ++ [(i, .slice A2 p.length c2, p)], by rw [hwr], ⟨?_⟩, ⟨?_⟩, ⟨hJ3⟩, ⟨HB2.out.trans hk3⟩⟩
            · have h1 := HS.out; have h2 := HI0.out; have h3 := HLD.out; have h5 := of_decide_eq_true c1b
              omega
            · have h1 := HS.out; have h2 := HI0.out; have h3 := HLD.out; have h5 := of_decide_eq_true c1b
              rw [← HFS.out, frames_fuel l (((l.length : Int) - i).toNat - 1) ((l.length : Int) - (i + d)).toNat (i + d) (by omega) (by omega) (by omega)]
              simp [key]
          case measure =>
            have h1 := HS.out; have h2 := HI0.out; have h3 := HLD.out; have h5 := of_decide_eq_true c1b
            simp [intOf]; omega
        · gi_wp2
          refine bodyPost_ret (results_none rfl _ _ _) rfl ?_
          exact ⟨⟨_, rfl⟩, .inr ⟨_, trivial, hJx3⟩⟩
      · have hfr := HN.out (of_decide_eq_true c1b)
        rw [if_neg hz] at hfr
        have hfs := HF.out
        rw [hfr, List.append_nil] at hfs
        have HFS := Aside0.mk hfs
        have hz1 : (er == 0) = false := beq_eq_false_iff_ne.mpr hz
        have hz2 : (er != 0) = true := bne_iff_ne.mpr hz
        clear hfr hfs HN HF HU
        gi_wp2
        refine ⟨fun _ h => (by cases h), ?_⟩
        gi_wp2
        refine bodyPost_ret (results_none rfl _ _ _) rfl ?_
        exact ⟨⟨_, rfl⟩, .inl ⟨pre, HFS.out, HJ2.out⟩⟩
    · have c1b : decide (i < (l.length : Int)) = false := decide_eq_false c1
      have hfs := HF.out
      rw [show ((l.length : Int) - i).toNat = 0 by omega] at hfs
      have HFS := Aside0.mk (show pre.map key = frames l.length l 0 by rw [← hfs]; simp [frames])
      clear hfs c1 HF
      gi_wp2
      go_end0
      exact ⟨⟨_, rfl⟩, .inl ⟨pre, HFS.out, HJ.out⟩⟩
end Go.Proofs.YtlblleideihhmaaDoor.Each
