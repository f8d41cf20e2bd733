/- What larderlaw01.FrameScans computes, walked: true for any bytes fewer than 2^42 and any int. (Parts of the text were written by a program of mine.) -/
import Derived.Test.YtlblleideihhmaaDoorTurns
namespace Go.Proofs.YtlblleideihhmaaDoor.Each
open Go Go.RowKit Go.Proofs.SeqWith Go.Proofs.YtlblleideihhmaaDoor.UnLaw Go.Proofs.YtlblleideihhmaaDoor.Num Go.Proofs.YtlblleideihhmaaDoor.FrMore Go.Proofs.YtlblleideihhmaaDoor.Crc Go.Proofs.YtlblleideihhmaaDoor.CrcLaw Go.Proofs.YtlblleideihhmaaDoor.SealLaw Go.Proofs.YtlblleideihhmaaDoor.PB Go.Proofs.YtlblleideihhmaaDoor.Mine Go.Proofs.YtlblleideihhmaaDoorW.PrintWords Go.Proofs.YtlblleideihhmaaDoorW.PrintLast Go.Proofs.YtlblleideihhmaaDoorW.PrintMore
set_option linter.unusedVariables false
set_option linter.unusedSimpArgs false
set_option maxHeartbeats 4000000
set_option maxRecDepth 100000
attribute [local go_sem] Oper.semAt_some
theorem scans_walk (A : Option Addr) (c : Nat) (l : List Int) (most : Int) (w : World) (hC : Kd.C (Kd.int .u8) w A l.length l) (hlc : l.length ≤ c) (hb : IsBytes l) (hl : l.length < 4398046511104) (hT : Kd.C (Kd.int .u32) w (some ⟨0, 0, none⟩) 16 crcTab) :
    Calls Tryd.prog 14 #[.slice A l.length c, .int .i64 most] w fun e w' => e = .returned (.bool true) ∧ Below w.heap.size w w' := by
  have HT := Aside0.mk hT
  have HC := Aside0.mk hC
  have HL := Aside0.mk hlc
  have HBY := Aside0.mk hb
  have HLN := Aside0.mk hl
  clear hT hC hlc hb hl
  have hfn := fun (W : World) (fn : Fn) (x y : Array Value) => run_eql_func_nil (P := Tryd.prog) W fn x y Tryd.underlying63
  refine (callsIn_wide (n := 3)).1 ?_
  refine callsIn_of_wp_marks Tryd.func14 rfl trivial ?_ rfl
  simp only [Tryd.ntmps14, List.size_toArray, List.length_cons, List.length_nil, Nat.reduceAdd, Nat.reduceSub, Array.replicate_succ, Array.replicate_zero, List.push_toArray, List.append_toArray, List.nil_append, List.cons_append]
  gi_wp2_with fail
  have bm := Box.new w (.int .i64 most) 3
  have br := Box.new (w.alloc (.cells #[.int .i64 most] 3)) (.bool false) 4
  rw [World.size_alloc] at br
  have bm1 := bm.below (below_alloc (Below.refl _ _) (.cells #[.bool false] 4))
  have HB0 := Aside0.mk (show Below w.heap.size w ((w.alloc (.cells #[.int .i64 most] 3)).alloc (.cells #[.bool false] 4)) by repeat (first | exact Below.refl _ _ | apply below_alloc))
  generalize (w.alloc (.cells #[.int .i64 most] 3)).alloc (.cells #[.bool false] 4) = W0 at *
  have BM := Aside0.mk bm1
  have BR := Aside0.mk br
  clear bm bm1 br
  -- own := Lent(b)
  refine ⟨trivial, ?_⟩; gi_at_call 22
  refine (callsIn_wide.2 (lent_at l HLN.out A c W0 (Kd.C_below HC.out HB0.out) HL.out)).mono ?_
  rintro e W1 ⟨Ao, co, rfl, hco, hR, hM, hm2, hB⟩
  have HB1 := Aside0.mk (below_then HB0.out HB0.out.size hB)
  have BM1 := Aside0.mk (BM.out.below hB)
  have BR1 := Aside0.mk (BR.out.below hB)
  have HCO := Aside0.mk hco
  have HY0 := Aside0.mk BR.out.2.2
  have HR := Aside0.mk hR
  have HM := Aside0.mk hM
  have HM2 := Aside0.mk hm2
  clear hB BM BR HB0 hco hR hM hm2
  gi_wp2_with fail
  -- Scan(own)
  refine ⟨trivial, ?_⟩; gi_at_call 42
  refine (callsIn_wide.2 (scan_at l HBY.out HLN.out Ao co W1 (Kd.R_reads' HR.out).2.2 HCO.out (Kd.C_below HT.out HB1.out))).mono ?_
  rintro e W2 ⟨A2, c2, rfl, hc2, hS, hB⟩
  have HY2 := Aside0.mk hB.size
  have HB2 := Aside0.mk (below_then HB1.out HB1.out.size hB)
  have BM2 := Aside0.mk (BM1.out.below hB)
  have BR2 := Aside0.mk (BR1.out.below hB)
  have HM3 := Aside0.mk (Kd.C_below HM.out hB)
  have HR2 := Aside0.mk (Kd.R_below HR.out hB)
  have HS2 := Aside0.mk hS
  have HC2 := Aside0.mk hc2
  clear hB BM1 BR1 HB1 hc2 hS HM
  gi_wp2_with fail
  -- the document's Scan(b)
  refine ⟨trivial, ?_⟩; gi_at_call 43
  refine (callsIn_wide.2 (refScan_at l HBY.out HLN.out A c W2 (Kd.C_below HC.out HB2.out) HL.out)).mono ?_
  rintro e W3 ⟨A3, c3, rfl, hc3, hS, hB⟩
  have HY3 := Aside0.mk hB.size
  have HB3 := Aside0.mk (below_then HB2.out HB2.out.size hB)
  have BM3 := Aside0.mk (BM2.out.below hB)
  have BR3 := Aside0.mk (BR2.out.below hB)
  have HM4 := Aside0.mk (Kd.C_below HM3.out hB)
  have HR3 := Aside0.mk (Kd.R_below HR2.out hB)
  have HS3 := Aside0.mk (Kd.C_below HS2.out hB)
  have HT3 := Aside0.mk hS
  have HC3 := Aside0.mk hc3
  clear hB BM2 BR2 HB2 hc3 hS HM3 HR2 HS2
  gi_wp2_with fail
  -- same(l, m)
  refine ⟨trivial, ?_⟩; gi_at_call 44
  refine (callsIn_wide.2 (same_at l HBY.out HLN.out A2 c2 A3 c3 W3 HS3.out HC2.out HT3.out HC3.out)).mono ?_
  rintro e W4 ⟨rfl, hB⟩
  have HY4 := Aside0.mk hB.size
  have HB4 := Aside0.mk (below_then HB3.out HB3.out.size hB)
  have BM4 := Aside0.mk (BM3.out.below hB)
  have BR4 := Aside0.mk (BR3.out.below hB)
  have HM5 := Aside0.mk (Kd.C_below HM4.out hB)
  have HR4 := Aside0.mk (Kd.R_below HR3.out hB)
  clear hB BM3 BR3 HB3 HM4 HR3 HS3 HT3 HC3 HC2
  gi_wp2_with fail
  -- Kept(own, b)
  refine ⟨trivial, ?_⟩; gi_at_call 27
  refine (callsIn_wide.2 (kept_at l Ao co A c W4 (Kd.R_reads' HR4.out).2.2 HCO.out (Kd.C_below HC.out HB4.out) HL.out HM5.out HM2.out)).mono ?_
  rintro e W5 ⟨rfl, hB⟩
  have HY5 := Aside0.mk hB.size
  have HB5 := Aside0.mk (below_then HB4.out HB4.out.size hB)
  have BM5 := Aside0.mk (BM4.out.below hB)
  have BR5 := Aside0.mk (BR4.out.below hB)
  have HM6 := Aside0.mk (Kd.C_below HM5.out hB)
  have HR5 := Aside0.mk (Kd.R_below HR4.out hB)
  clear hB BM4 BR4 HB4 HM5 HR4
  gi_wp2_with fail
  -- Row(b)
  refine ⟨trivial, ?_⟩; gi_at_call 45
  refine (callsIn_wide.2 (row_at l HBY.out HLN.out A c W5 (Kd.C_below HC.out HB5.out) HL.out)).mono ?_
  rintro e W6 ⟨A6, c6, rfl, hc6, hS, hSS, hB⟩
  have HY6 := Aside0.mk hB.size
  have HB6 := Aside0.mk (below_then HB5.out HB5.out.size hB)
  have BM6 := Aside0.mk (BM5.out.below hB)
  have BR6 := Aside0.mk (BR5.out.below hB)
  have HM7 := Aside0.mk (Kd.C_below HM6.out hB)
  have HR6 := Aside0.mk (Kd.R_below HR5.out hB)
  have HS6 := Aside0.mk hSS
  have HC6 := Aside0.mk hc6
  clear hB BM5 BR5 HB5 hc6 hS hSS HM6 HR5
  gi_wp2_with fail
  have BW := Aside0.mk (Box.new W6 (.slice A6 (frames l.length l 0).length c6) 59)
  have hB7 : Below W6.heap.size W6 (W6.alloc (.cells #[.slice A6 (frames l.length l 0).length c6] 59)) := below_alloc (Below.refl _ _) _
  have HB7 := Aside0.mk (below_then HB6.out HB6.out.size hB7)
  have BM7 := Aside0.mk (BM6.out.below hB7)
  have BR7 := Aside0.mk (BR6.out.below hB7)
  have HM8 := Aside0.mk (Kd.C_below HM7.out hB7)
  have HR7 := Aside0.mk (Kd.R_below HR6.out hB7)
  have HS7 := Aside0.mk (Kd.S_below HS6.out hB7)
  have HZ7 := Aside0.mk (show (W6.alloc (.cells #[.slice A6 (frames l.length l 0).length c6] 59)).heap.size = W6.heap.size + 1 by simp)
  generalize W6.alloc (.cells #[.slice A6 (frames l.length l 0).length c6] 59) = W7 at *
  clear hB7 HB6 BM6 BR6 HM7 HR6 HS6
  -- Each(own)
  refine ⟨trivial, ?_⟩; gi_at_call 46
  refine (callsIn_wide.2 (each_calls Ao co l W7 (Kd.R_reads' HR7.out).2.2 HCO.out (by have := HLN.out; omega))).mono ?_
  rintro e W8 ⟨A8, c8, rfl, hcell, hc8, hR8, hB⟩
  have HB8 := Aside0.mk (below_then HB7.out HB7.out.size hB)
  have BM8 := Aside0.mk (BM7.out.below hB)
  have BR8 := Aside0.mk (BR7.out.below hB)
  have BW8 := Aside0.mk (BW.out.below hB)
  have HM9 := Aside0.mk (Kd.C_below HM8.out hB)
  have HR8 := Aside0.mk (Kd.R_below HR7.out hB)
  have HS8 := Aside0.mk (Kd.S_below HS7.out hB)
  have HE := Aside0.mk hR8
  have HEC := Aside0.mk hcell
  have HE8 := Aside0.mk hc8
  clear hB BM7 BR7 BW HB7 hcell hc8 hR8 HM8 HR7 HS7
  gi_wp2_with fail
  -- Kept(own, b)
  refine ⟨trivial, ?_⟩; gi_at_call 27
  refine (callsIn_wide.2 (kept_at l Ao co A c W8 (Kd.R_reads' HR8.out).2.2 HCO.out (Kd.C_below HC.out HB8.out) HL.out HM9.out HM2.out)).mono ?_
  rintro e W9 ⟨rfl, hB⟩
  have HB9 := Aside0.mk (below_then HB8.out HB8.out.size hB)
  have BM9 := Aside0.mk (BM8.out.below hB)
  have BR9 := Aside0.mk (BR8.out.below hB)
  have BW9 := Aside0.mk (BW8.out.below hB)
  have HR9 := Aside0.mk (Kd.R_below HR8.out hB)
  have HE9 := Aside0.mk (Kd.R_below HE.out hB)
  have HEC9 := Aside0.mk ((hB.cell (p := ⟨W7.heap.size, 0, none⟩) (by have := World.block_lt_of_cell? _ _ HEC.out; exact this)).trans HEC.out)
  have HS9 := Aside0.mk (Kd.S_below HS8.out hB)
  have HM10 := Aside0.mk (Kd.C_below HM9.out hB)
  clear hB HB8 BM8 BR8 BW8 HR8 HE HEC HS8 HM9
  gi_wp2_with fail
  obtain ⟨go, hAo⟩ : ∃ go, Ao = some ⟨go, 0, none⟩ := by
    cases Ao with
    | none =>
      have := (Kd.reads_of_C (d := (0 : Int)) (h1 := fun _ => rfl) HM10.out).2.2 (by simp [marks9])
      obtain ⟨_, h, _⟩ := this
      cases h
    | some ad =>
      obtain ⟨g, rfl⟩ := Kd.R_head HR9.out
      exact ⟨g, rfl⟩
  subst hAo
  have hown : ∀ j : Nat, j < l.length → ∃ v, W9.cell? ⟨go, j, none⟩ = some v ∧ W9.frozen? ⟨go, j, none⟩ = false := fun j hj => by
    obtain ⟨ad, h1, h2⟩ := (Kd.reads_of_C (d := (0 : Int)) (h1 := fun _ => rfl) (Kd.R_reads' HR9.out).2.2).2.2 (by omega)
    obtain rfl := Option.some.inj h1
    have h3 := h2 j hj
    obtain ⟨_, _, _, q, _, cells, h4⟩ := (Kd.R_bound HR9.out).1 go rfl
    rw [add_plain] at h3
    exact ⟨_, (show W9.cell? ⟨go, j, none⟩ = _ from by simpa using h3), by simp [World.frozen?, h4]⟩
  have HOWN := Aside0.mk hown
  have HGO := Aside0.mk (show W0.heap.size ≤ go ∧ go < W1.heap.size from ⟨Kd.R_base HR.out go rfl, Kd.R_lt HR.out go rfl⟩)
  clear hown
  gi_loopw [16] (fun p wr => ∃ i : Nat, p = .int .i64 (i : Int) ∧ Aside0 (i ≤ l.length) ∧ Aside0 (KeepBut W9 wr go none) ∧ Aside0 (Below w.heap.size w wr) ∧ Aside0 (∀ j : Nat, j < l.length → ∃ v, wr.cell? ⟨go, j, none⟩ = some v ∧ wr.frozen? ⟨go, j, none⟩ = false))
    (fun p _ => l.length - (intOf p).toNat)
  case atStart => exact ⟨0, rfl, ⟨Nat.zero_le _⟩, ⟨⟨Nat.le_refl _, fun _ _ _ _ => rfl⟩⟩, HB9, HOWN⟩
  case round =>
    obtain ⟨i, rfl, HI, HK, HBw, HO⟩ := hrel
    by_cases c1 : i < l.length
    · obtain ⟨v, hv, hfz⟩ := HO.out i c1
      have hw : wrap64 ((i : Int) + 1) = ((i + 1 : Nat) : Int) := by have := HLN.out; rw [wr_id (by omega) (by omega)]; rfl
      have HW := Aside0.mk hw
      clear hw
      gi_wp2
      go_roundw
      case rel =>
        refine ⟨i + 1, by rw [HW.out], ⟨c1⟩, ⟨⟨by simpa [World.setCell] using HK.out.1, fun k hk hne hn => (Below.heap_setCell _ _ _ _ hne).trans (HK.out.2 k hk hne hn)⟩⟩, ⟨HBw.out.setCell (p := ⟨go, i, none⟩) (by have h1 := HGO.out; have h2 := HY0.out; simp only; omega) _⟩, ⟨fun j hj => ?_⟩⟩
        obtain ⟨u, h1, h2⟩ := HO.out j hj
        by_cases hji : j = i
        · subst hji
          exact ⟨_, World.cell?_setCell_same' _ _ _ (by rw [h1]; rfl), by rw [World.frozen?_setCell]; exact h2⟩
        · exact ⟨u, by rw [World.cell?_setCell_other _ _ _ _ (by simp <;> omega)]; exact h1, by rw [World.frozen?_setCell]; exact h2⟩
      case measure => rw [HW.out]; simp [intOf]; omega
    · gi_wp2
      have hgo := HGO.out
      have y0 := HY0.out; have y2 := HY2.out; have y3 := HY3.out; have y4 := HY4.out; have y5 := HY5.out; have y6 := HY6.out; have z7 := HZ7.out
      have hk : ∀ k, k < W9.heap.size → k ≠ go → wr.heap[k]? = W9.heap[k]? := fun k h1 h2 => HK.out.2 k h1 h2 (by simp)
      have BMa := Aside0.mk (BM9.out.moved HK.out.1 (hk _ BM9.out.2.2 (by omega)))
      have BRa := Aside0.mk (BR9.out.moved HK.out.1 (hk _ BR9.out.2.2 (by omega)))
      have BWa := Aside0.mk (BW9.out.moved HK.out.1 (hk _ BW9.out.2.2 (by omega)))
      have hE7 := World.block_lt_of_cell? _ _ HEC9.out
      have HECa := Aside0.mk ((World.cell?_of_block (a := ⟨W7.heap.size, 0, none⟩) (hk _ hE7 (by simp only; omega))).trans HEC9.out)
      have HEa := Aside0.mk ((Kd.R_reads' (Kd.R_keep (Kd.R_bound HE9.out) HK.out (fun k hk => by have := hk.2.1; omega))).2.2)
      have hSa := (Kd.S_reads' (Kd.S_keep (Kd.S_bound HS9.out) HK.out (fun k hk => by have := hk.2.1; omega))).2.2
      have HSa := Aside0.mk hSa
      have HTa := Aside0.mk (Kd.C_below HT.out HBw.out)
      have HZa := Aside0.mk (show W7.heap.size < wr.heap.size from Nat.lt_of_lt_of_le hE7 HK.out.1)
      have HZw := Aside0.mk (show w.heap.size + 1 < W6.heap.size ∧ W6.heap.size < W7.heap.size by omega)
      clear hk hgo y0 y2 y3 y4 y5 y6 z7 hE7 hSa HK HO HI HE9 HEC9 HS9 BM9 BR9 BW9 HR HR9 HM10 HOWN HB9 HGO HY0 HY2 HY3 HY4 HY5 HY6 HZ7 HM2 HCO HT HC HL
      refine wpIn_loop (I := fun a W => ∃ (t : Nat) (bT : Nat) (Ds : List Nat), Fr (.pointer (some ⟨w.heap.size, 0, none⟩)) (.pointer (some ⟨w.heap.size + 1, 0, none⟩)) (.pointer (some ⟨W6.heap.size, 0, none⟩)) (.func (.func 74) #[] #[.pointer (some ⟨W7.heap.size, 0, none⟩)]) (.pointer (some ⟨bT, 0, none⟩)) a (Ds.map ent) ∧ Aside0 (t ≤ 3) ∧ Aside0 (Box bT (.int .i64 (t : Int)) W) ∧ Aside0 (wr.heap.size ≤ bT) ∧ Aside0 (Below wr.heap.size wr W) ∧ Aside0 (Marked Ds W) ∧ Aside0 (∀ D ∈ Ds, wr.heap.size ≤ D)) (μ := turnOf) ?_ ?_
      · exact ⟨0, wr.heap.size, [], fr_mk _ _ rfl rfl rfl rfl rfl rfl, ⟨by decide⟩, ⟨Box.new wr _ 3⟩, ⟨Nat.le_refl _⟩, ⟨below_alloc (Below.refl _ _) _⟩, ⟨⟨List.nodup_nil, fun D hD => by simp at hD⟩⟩, ⟨fun D hD => by simp at hD⟩⟩
      rintro a W ⟨t, bT, Ds, hFr, HT3, BT, HbT, HBW, HMK, HDS⟩
      obtain ⟨u, rfl⟩ := fr_open hFr
      clear hFr
      by_cases ht : t = 3
      · subst ht
        have hc : W.cell? ⟨bT, 0, none⟩ = some (.int .i64 3) := BT.out.1
        have hr := BRa.out.below HBW.out
        have hr1 := hr.1
        have hr2 := hr.2.1
        have HR3 := Aside0.mk hr
        clear hr
        gi_wp2_with fail
        show LeavesInM Fence.wide 3 Tryd.prog Tryd.f14 _ _ (Ds.map ent) .returning _
        refine leaves_marks wr.heap.size Ds _ (HMK.out.kept (KeepsOthers.setCell _ _ _)) HDS.out (by have := HBW.out.size; simpa [World.setCell] using this) (fun W' h1 h2 => ?_)
        have hv := h1 ⟨w.heap.size + 1, 0, none⟩ (.bool true) (HR3.out.put _).1
        refine ⟨.bool true, ?_, rfl, ?_⟩
        · simp [results, Tryd.f14, go_sem, hv]
        · exact ((HBw.out.trans (HBW.out.mono HBw.out.size)).setCell (p := ⟨w.heap.size + 1, 0, none⟩) (by simp) _).trans (h2.mono HBw.out.size)
      have ht3 : t < 3 := by have := HT3.out; omega
      have HT4 := Aside0.mk ht3
      have hd3 : decide ((t : Int) < 3) = true := decide_eq_true (by omega)
      have hc : W.cell? ⟨bT, 0, none⟩ = some (.int .i64 (t : Int)) := BT.out.1
      clear ht ht3
      gi_wp2_with fail
      have BTV := BT.out.alloc (.cells #[.int .i64 0] 3)
      have BNV := Box.new W (.int .i64 0) 3
      have hTN : bT < W.heap.size := BT.out.2.2
      have hBV := HBW.out.alloc HBW.out.size (.cells #[.int .i64 0] 3)
      have hMV := HMK.out.below (below_alloc (Below.refl _ _) (.cells #[.int .i64 0] 3))
      have hVS : (W.alloc (.cells #[.int .i64 0] 3)).heap.size = W.heap.size + 1 := by simp
      have hDV : ∀ D ∈ Ds, D < W.heap.size := fun D hD => (Array.getElem?_eq_some_iff.1 (HMK.out.2 D hD)).1
      have hWr := HBW.out.size
      generalize hbN : W.heap.size = bN at *
      generalize W.alloc (.cells #[.int .i64 0] 3) = V at *
      clear hbN hd3 hc
      refine range_with (n := 3) (encs := encs) (G := With (frames l.length l 0)) (Kp := Below wr.heap.size) (S := fun xs => xs.map key = frames l.length l 0) (Sp := fun _ => True) (w0 := wr) rfl (by decide) rfl trivial (Go.Proofs.enters_of Tryd.func74 (by kernel_rfl) rfl)
        (each_seq 2 (by decide) W7.heap.size A8 c8 l wr HZa.out HECa.out HE8.out HEa.out HTa.out HBY.out (by have := HLN.out; omega))
        (fun h k => h.trans k) (fun X lp o o' hl h h1 h2 => belowK_b (w := V) (by omega) X lp o o' hl h h1 h2) hBV (fun _ => rfl)
        (fun (pre : List El) X => (Box bT (.int .i64 (t : Int)) X ∧ Box bN (.int .i64 (pre.length : Int)) X) ∧ Below wr.heap.size wr X ∧ Marked Ds X)
        (fun c (pre : List El) X => (c = .exit 4 ∧ t = 1) ∧ (Box bT (.int .i64 (t : Int)) X ∧ Box bN (.int .i64 (pre.length : Int)) X) ∧ Below wr.heap.size wr X ∧ Marked Ds X)
        (OwnFrom.and (OwnFrom.and (Box.own bT (fun _ => .int .i64 (t : Int)) _) (Box.own bN (fun (pre : List El) => .int .i64 (pre.length : Int)) _)) (OwnFrom.and (ownFrom_below (Nat.le_refl _) (by omega)) (Marked.own Ds _ (fun D hD => by have := hDV D hD; omega))))
        (fun c => OwnFrom.and (ownFrom_pure _ _) (OwnFrom.and (OwnFrom.and (Box.own bT (fun _ => .int .i64 (t : Int)) _) (Box.own bN (fun (pre : List El) => .int .i64 (pre.length : Int)) _)) (OwnFrom.and (ownFrom_below (Nat.le_refl _) (by omega)) (Marked.own Ds _ (fun D hD => by have := hDV D hD; omega)))))
        (with_own _ _) ⟨⟨BTV, BNV⟩, hBV, hMV⟩
        (fun x => ⟨(u 0 :: u 1 :: u 2 :: .pointer (some ⟨w.heap.size, 0, none⟩) :: .pointer (some ⟨w.heap.size + 1, 0, none⟩) :: u 5 :: u 6 :: u 7 :: u 8 :: u 9 :: u 10 :: u 11 :: .pointer (some ⟨W6.heap.size, 0, none⟩) :: u 13 :: u 14 :: .func (.func 74) #[] #[.pointer (some ⟨W7.heap.size, 0, none⟩)] :: u 16 :: .pointer (some ⟨bT, 0, none⟩) :: .pointer (some ⟨bN, 0, none⟩) :: .int .i64 x.1 :: x.2.1 :: u 21 :: u 22 :: u 23 :: u 24 :: u 25 :: u 26 :: u 27 :: u 28 :: u 29 :: u 30 :: u 31 :: u 32 :: u 33 :: u 34 :: u 35 :: u 36 :: u 37 :: u 38 :: u 39 :: u 40 :: u 41 :: u 42 :: u 43 :: u 44 :: u 45 :: u 46 :: u 47 :: u 48 :: u 49 :: u 50 :: u 51 :: u 52 :: u 53 :: u 54 :: u 55 :: u 56 :: u 57 :: u 58 :: u 59 :: u 60 :: u 61 :: u 62 :: u 63 :: u 64 :: u 65 :: u 66 :: u 67 :: u 68 :: u 69 :: u 70 :: u 71 :: u 72 :: u 73 :: u 74 :: u 75 :: u 76 :: u 77 :: u 78 :: u 79 :: .int .i64 (t : Int) :: .bool true :: u 82 :: u 83 :: .func (.func 74) #[] #[.pointer (some ⟨W7.heap.size, 0, none⟩)] :: .int .i64 x.1 :: x.2.1 :: u 87 :: u 88 :: u 89 :: u 90 :: u 91 :: u 92 :: u 93 :: u 94 :: u 95 :: u 96 :: u 97 :: u 98 :: u 99 :: u 100 :: u 101 :: u 102 :: u 103 :: u 104 :: u 105 :: u 106 :: u 107 :: u 108 :: u 109 :: u 110 :: u 111 :: u 112 :: u 113 :: u 114 :: u 115 :: u 116 :: u 117 :: u 118 :: u 119 :: u 120 :: u 121 :: u 122 :: u 123 :: u 124 :: u 125 :: u 126 :: u 127 :: u 128 :: []).toArray, []⟩) ?assign ?body ?done ?stop
      case assign =>
        intro lp x X K hK
        simp only [encs, List.zip_toArray, List.zip_cons_cons, List.zip_nil_left, List.foldl_toArray, List.size_toArray, List.length_cons, List.length_nil, List.foldl_cons, List.foldl_nil, List.setIfInBounds_toArray, List.set_cons_zero, List.set_cons_succ]
        gi_wp2_with fail
        exact hK
      case body =>
        rintro lp pre ⟨xi, xv, xp⟩ X ⟨⟨bt, bn⟩, hBX, hMX⟩ ⟨hpre, A9, c9, hxv, hc9, hC9⟩
        simp only at hxv hc9 hC9
        subst hxv
        obtain ⟨rest, hrest⟩ := hpre
        have hfl := frames_len l l.length 0 (by omega) (by omega)
        have hlen : pre.length < (frames l.length l 0).length := by rw [← hrest]; simp only [List.length_append, List.length_map, List.length_singleton]; omega
        have hget : (frames l.length l 0)[pre.length]? = some (xi, xp) := by rw [← hrest]; simp [key]
        have hrd : rd_T66 ((frames l.length l 0).map (fun x => (⟨x.1, x.2⟩ : S66))) (pre.length : Int) = ⟨xi, xp⟩ := by
          simp only [rd_T66, Int.toNat_natCast, List.getD_eq_getElem?_getD, List.getElem?_map, hget, Option.map_some, Option.getD_some]
        have hSX : Kd.C k66 X A6 (List.map (fun x => (⟨x.1, x.2⟩ : S66)) (frames l.length l 0)).length _ := Kd.C_below HSa.out hBX
        obtain ⟨ad, A1, c1', hA6, hr0, hr1, hl1, hC1⟩ := at_T66 hSX (pre.length : Int) (by omega) (by rw [List.length_map]; omega)
        rw [hrd] at hr0 hr1 hl1 hC1
        simp only [Int.toNat_natCast] at hr0 hr1 hl1 hC1
        subst hA6
        have hbw := (BWa.out.below hBX).1
        have hb := bn.1
        have hbt := bt.1
        have hbf := bn.2.1
        have hbm := (BMa.out.below hBX).1
        have q1 : decide ((frames l.length l 0).length ≤ pre.length) = false := decide_eq_false (by omega)
        have q2 : ((pre.length : Int) < ((frames l.length l 0).length : Int)) = True := eq_true (by omega)
        have q3 : decide (((frames l.length l 0).length : Int) ≤ (pre.length : Int)) = false := decide_eq_false (by omega)
        have q4 : (0 ≤ (pre.length : Int)) = True := eq_true (by omega)
        have q5 : (pre.length < (frames l.length l 0).length) = True := eq_true hlen
        have hcv9 : ∀ m, (convert 22 9 (.slice A9 xp.length c9)).run Tryd.prog (X.drewN m) = .ok (.string (strOfNums xp)) (X.drewN m) := fun m => Kd.C_string Tryd.underlying22 Tryd.underlying5 Tryd.underlying9 (Kd.C_drewN hC9 m)
        have hcv1 : ∀ m, (convert 22 9 (.slice A1 xp.length c1')).run Tryd.prog (X.drewN m) = .ok (.string (strOfNums xp)) (X.drewN m) := fun m => Kd.C_string Tryd.underlying22 Tryd.underlying5 Tryd.underlying9 (Kd.C_drewN hC1 m)
        have hwn : wrap64 ((pre.length : Int) + 1) = ((pre.length : Int) + 1) := wr_id (by omega) (by have := HLN.out; omega)
        have HBX := Aside0.mk hBX
        have HMX := Aside0.mk hMX
        have HBT := Aside0.mk bt
        have HBN := Aside0.mk bn
        have HLT := Aside0.mk hlen
        have HFL := Aside0.mk hfl
        clear hBX hMX bt bn hlen hfl hrest hget hrd hSX hl1 hC1 hC9 hc9
        gi_wp2_with fail
        refine Go.Proofs.QuietRound.region_quiet_round lp rfl (by kernel_rfl) (by kernel_rfl) (Go.Proofs.QuietRound.no_defers (by kernel_rfl)) ?_
        repeat (quiet_step_in (fail))
        refine wpQuietIn_nil ?_
        rintro _ ⟨nq, rfl⟩
        have bt2 := HBT.out.drewN nq
        have bn2 := HBN.out.drewN nq
        have hBX2 : Below wr.heap.size wr (X.drewN nq) := HBX.out.trans ((pw_below_drewN (Below.refl _ _) nq).mono HBX.out.size)
        have hMX2 := HMX.out.below (pw_below_drewN (Below.refl _ _) nq)
        have hK2 : KeepsOthers X (X.drewN nq) := KeepsOthers.of_below (pw_below_drewN (Below.refl _ _) nq)
        have hP2 : Below wr.heap.size X (X.drewN nq) := (pw_below_drewN (Below.refl _ _) nq).mono HBX.out.size
        have hbm2 := (BMa.out.below hBX2).1
        generalize X.drewN nq = X2 at *
        have hb2 := bn2.1
        have hbt2 := bt2.1
        have hbf2 := bn2.2.1
        have bn3 := bn2.put (.int .i64 ((pre.length : Int) + 1))
        have bt3 := bt2.set (.int .i64 ((pre.length : Int) + 1)) (b' := bN) (by omega)
        have hb3 := bn3.1
        have hbt3 := bt3.1
        have hbm3 : (X2.setCell ⟨bN, 0, none⟩ (.int .i64 ((pre.length : Int) + 1))).cell? ⟨w.heap.size, 0, none⟩ = some (.int .i64 most) := (((BMa.out.below hBX2)).set _ (by have := HBw.out.size; have := HZw.out; have := HZa.out; omega)).1
        have HE := Aside0.mk (show KeepsOthers X (X2.setCell ⟨bN, 0, none⟩ (.int .i64 ((pre.length : Int) + 1))) ∧ Below wr.heap.size X (X2.setCell ⟨bN, 0, none⟩ (.int .i64 ((pre.length : Int) + 1))) ∧ ((Box bT (.int .i64 (t : Int)) (X2.setCell ⟨bN, 0, none⟩ (.int .i64 ((pre.length : Int) + 1))) ∧ Box bN (.int .i64 ((pre ++ [((xi, .slice A9 xp.length c9, xp) : El)]).length : Int)) (X2.setCell ⟨bN, 0, none⟩ (.int .i64 ((pre.length : Int) + 1)))) ∧ Below wr.heap.size wr (X2.setCell ⟨bN, 0, none⟩ (.int .i64 ((pre.length : Int) + 1))) ∧ Marked Ds (X2.setCell ⟨bN, 0, none⟩ (.int .i64 ((pre.length : Int) + 1)))) from
          ⟨hK2.trans (KeepsOthers.setCell _ _ _), hP2.setCell (p := ⟨bN, 0, none⟩) (by simp only; omega) _, ⟨bt3, by rw [List.length_append, List.length_singleton, Int.natCast_add]; exact bn3⟩, hBX2.setCell (p := ⟨bN, 0, none⟩) (by simp only; omega) _, hMX2.kept (KeepsOthers.setCell _ _ _)⟩)
        clear bt2 bn2 bn3 bt3 hBX2 hMX2 hK2 hP2 hbm2 hb hbt hbf hbm hbw hr0 hr1 q1 q2 q3 q4 q5 hcv9 hcv1
        by_cases h1 : t = 1
        · have h1b : ((t : Int) == 1) = true := by rw [h1]; rfl
          have h1c : decide ((t : Int) = 1) = true := decide_eq_true (by omega)
          have h1d : ((t : Int) = 1) = True := eq_true (by omega)
          have H1 := Aside0.mk h1
          clear h1
          by_cases hm : most ≤ (pre.length : Int) + 1
          · have hmb : decide (most ≤ (pre.length : Int) + 1) = true := decide_eq_true hm
            gi_wp2_with fail
            exact ⟨HE.out.1, ⟨rfl, H1.out⟩, HE.out.2.2⟩
          · have hmb : decide (most ≤ (pre.length : Int) + 1) = false := decide_eq_false hm
            gi_wp2_with fail
            exact HE.out
        · have h1b : ((t : Int) == 1) = false := beq_eq_false_iff_ne.2 (by omega)
          have h1c : decide ((t : Int) = 1) = false := decide_eq_false (by omega)
          have h1d : ((t : Int) = 1) = False := eq_false (by omega)
          gi_wp2_with fail
          exact HE.out
      case done =>
        rintro D xs X hD hxs ⟨⟨bt, bn⟩, hBX, hMX⟩ hKD
        have hlx : xs.length = (frames l.length l 0).length := by rw [← hxs, List.length_map]
        rw [hlx] at bn
        have HBX := Aside0.mk hBX
        have hbt := bt.1
        have hbn := bn.1
        have hbw := (BWa.out.below hBX).1
        have hent : ({ target := .collected D, args := #[] } : Deferred) = ent D := rfl
        have HMX : Aside0 (Marked (D :: Ds) X) := ⟨List.nodup_cons.2 ⟨fun hm => by have := hDV D hm; omega, hMX.1⟩, fun E hE => by
          rcases List.mem_cons.1 hE with rfl | hE
          · exact hKD
          · exact hMX.2 E hE⟩
        have HDX : Aside0 (∀ E ∈ D :: Ds, wr.heap.size ≤ E) := ⟨fun E hE => by
          rcases List.mem_cons.1 hE with rfl | hE
          · omega
          · exact HDS.out E hE⟩
        have hw1 : wrap64 ((t : Int) + 1) = (t : Int) + 1 := by have := HT4.out; exact wr_id (by omega) (by omega)
        have hb2 := (Box.new X (.int .i64 (t : Int)) 3).1
        have hf2 := (Box.new X (.int .i64 (t : Int)) 3).2.1
        clear bt bn hBX hMX hKD hD
        by_cases h1 : t = 1
        · have h1b : ((t : Int) == 1) = true := by rw [h1]; rfl
          have h1c : ((t : Int) != 1) = false := by rw [h1]; rfl
          have h1d : decide ((t : Int) = 1) = true := decide_eq_true (by omega)
          clear h1
          gi_wp2_with fail
          exact ⟨⟨t + 1, X.heap.size, D :: Ds, fr_mk _ _ rfl rfl rfl rfl rfl rfl, ⟨by have := HT4.out; omega⟩, ⟨by simpa using Box.new X (.int .i64 ((t + 1 : Nat) : Int)) 3⟩, ⟨HBX.out.size⟩, ⟨HBX.out.alloc HBX.out.size _⟩, ⟨HMX.out.below (below_alloc (Below.refl _ _) _)⟩, HDX⟩, by
            have h0 := HT4.out
            have e2 := BT.out.1
            have e1 : (X.alloc (.cells #[.int .i64 ((t : Int) + 1)] 3)).cell? ⟨X.heap.size, 0, none⟩ = some (.int .i64 ((t : Int) + 1)) := (Box.new X _ 3).1
            simp only [turnOf, List.getElem?_toArray, List.getElem?_cons_succ, List.getElem?_cons_zero, addrOf, Option.bind_some, e1, e2, leftOf]
            omega⟩
        · have h1b : ((t : Int) == 1) = false := beq_eq_false_iff_ne.2 (by omega)
          have h1c : ((t : Int) != 1) = true := bne_iff_ne.2 (by omega)
          have h1d : decide ((t : Int) = 1) = false := decide_eq_false (by omega)
          clear h1
          gi_wp2_with fail
          exact ⟨⟨t + 1, X.heap.size, D :: Ds, fr_mk _ _ rfl rfl rfl rfl rfl rfl, ⟨by have := HT4.out; omega⟩, ⟨by simpa using Box.new X (.int .i64 ((t + 1 : Nat) : Int)) 3⟩, ⟨HBX.out.size⟩, ⟨HBX.out.alloc HBX.out.size _⟩, ⟨HMX.out.below (below_alloc (Below.refl _ _) _)⟩, HDX⟩, by
            have h0 := HT4.out
            have e2 := BT.out.1
            have e1 : (X.alloc (.cells #[.int .i64 ((t : Int) + 1)] 3)).cell? ⟨X.heap.size, 0, none⟩ = some (.int .i64 ((t : Int) + 1)) := (Box.new X _ 3).1
            simp only [turnOf, List.getElem?_toArray, List.getElem?_cons_succ, List.getElem?_cons_zero, addrOf, Option.bind_some, e1, e2, leftOf]
            omega⟩
      case stop =>
        rintro D c' xs X hD _ ⟨⟨rfl, h1⟩, ⟨bt, bn⟩, hBX, hMX⟩ hKD
        have HBX := Aside0.mk hBX
        have hbt := bt.1
        have hbn := bn.1
        have hbw := (BWa.out.below hBX).1
        have hent : ({ target := .collected D, args := #[] } : Deferred) = ent D := rfl
        have HMX : Aside0 (Marked (D :: Ds) X) := ⟨List.nodup_cons.2 ⟨fun hm => by have := hDV D hm; omega, hMX.1⟩, fun E hE => by
          rcases List.mem_cons.1 hE with rfl | hE
          · exact hKD
          · exact hMX.2 E hE⟩
        have HDX : Aside0 (∀ E ∈ D :: Ds, wr.heap.size ≤ E) := ⟨fun E hE => by
          rcases List.mem_cons.1 hE with rfl | hE
          · omega
          · exact HDS.out E hE⟩
        have hw1 : wrap64 ((t : Int) + 1) = (t : Int) + 1 := by have := HT4.out; exact wr_id (by omega) (by omega)
        have hb2 := (Box.new X (.int .i64 (t : Int)) 3).1
        have hf2 := (Box.new X (.int .i64 (t : Int)) 3).2.1
        clear bt bn hBX hMX hKD hD
        have h1b : ((t : Int) == 1) = true := by rw [h1]; rfl
        have h1c : ((t : Int) != 1) = false := by rw [h1]; rfl
        have h1d : decide ((t : Int) = 1) = true := decide_eq_true (by omega)
        clear h1
        gi_wp2_with fail
        exact ⟨⟨t + 1, X.heap.size, D :: Ds, fr_mk _ _ rfl rfl rfl rfl rfl rfl, ⟨by have := HT4.out; omega⟩, ⟨by simpa using Box.new X (.int .i64 ((t + 1 : Nat) : Int)) 3⟩, ⟨HBX.out.size⟩, ⟨HBX.out.alloc HBX.out.size _⟩, ⟨HMX.out.below (below_alloc (Below.refl _ _) _)⟩, HDX⟩, by
          have h0 := HT4.out
          have e2 := BT.out.1
          have e1 : (X.alloc (.cells #[.int .i64 ((t : Int) + 1)] 3)).cell? ⟨X.heap.size, 0, none⟩ = some (.int .i64 ((t : Int) + 1)) := (Box.new X _ 3).1
          simp only [turnOf, List.getElem?_toArray, List.getElem?_cons_succ, List.getElem?_cons_zero, addrOf, Option.bind_some, e1, e2, leftOf]
          omega⟩
theorem frameScans (a0 : Option Addr) (len0 cap0 : Nat) (z0 : List Int) (a1 : Int) (w : World) (w0 : (a0 = none ∧ len0 = 0 ∧ cap0 = 0 ∧ z0 = []) ∨ ∃ x, a0 = some x ∧ len0 ≤ cap0 ∧ cap0 ≤ maxLen ∧ z0.length = cap0 ∧ (∀ i, i < z0.length → w.cell? (x.add i) = some (.int .u8 (z0.getD i 0))) ∧ ∀ n ∈ z0, (Lit.int .u8 n).wf = true) (y0 : len0 * 1 ≤ 1048576) (w1 : (Lit.int .i64 a1).wf = true) (hT : Kd.C (Kd.int .u32) w (some ⟨0, 0, none⟩) 16 crcTab) :
    Calls Tryd.prog 14 #[.slice a0 len0 cap0, .int .i64 a1] w fun e w' => e = .returned (.bool true) ∧ Below w.heap.size w w' := by
  obtain ⟨l0, rfl, hr0, hm0, hw0, hc0⟩ := ReadsInt.ofRowC w0
  exact scans_walk _ _ l0 a1 w (Kd.C_of_reads (d := (0 : Int)) (h1 := fun _ => rfl) hr0) hc0 (bytes_of_wf hw0) (by omega) hT
end Go.Proofs.YtlblleideihhmaaDoor.Each
