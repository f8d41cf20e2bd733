/- Images of six sectors, byte by byte: what stands there behind some puts, and behind a crash. Plain facts. (*disk.Disk).At, walked: what a crash leaves. The small functions of the disk's laws: what the printed ones answer, and few, sectors walked. The choices: how many there are, that none comes twice; rows of them in memory. Plain facts, and what crashes answers. The document's disk in memory (larderref06.Disk); its small functions, walked: Sectors, Count, loose. -/
import Derived.Test.YtpaonoaedjkekaaDoorPl3
import Derived.Test.YtpaonoaedjkekaaDoorPDx3
namespace Go.Proofs.YtpaonoaedjkekaaDoor.Dk
open Go Go.RowKit Go.Proofs.YtpaonoaedjkekaaDoor.PD Go.Proofs.YtpaonoaedjkekaaDoorW.PrintWords Go.Proofs.YtpaonoaedjkekaaDoorW.PrintLast Go.Proofs.YtpaonoaedjkekaaDoorW.PrintMore
set_option linter.unusedVariables false
set_option linter.unusedSimpArgs false
/-- An image of six sectors: byte i of sector s is f s i. -/
def Img (im : List Int) (f : Nat → Nat → Int) : Prop := im.length = 768 ∧ ∀ s i, s < 6 → i < 128 → im[128 * s + i]? = some (f s i)
theorem Img.ext {im im' : List Int} {f g : Nat → Nat → Int} (h : Img im f) (h' : Img im' g) (e : ∀ s i, s < 6 → i < 128 → f s i = g s i) : im = im' := by
  apply List.ext_getElem?
  intro j
  by_cases hj : j < 768
  · have h1 := h.2 (j / 128) (j % 128) (by omega) (by omega)
    have h2 := h'.2 (j / 128) (j % 128) (by omega) (by omega)
    rw [show 128 * (j / 128) + j % 128 = j from by omega] at h1 h2
    rw [h1, h2, e _ _ (by omega) (by omega)]
  · rw [List.getElem?_eq_none (by have := h.1; omega), List.getElem?_eq_none (by have := h'.1; omega)]
theorem Img.congr {im : List Int} {f g : Nat → Nat → Int} (h : Img im f) (e : ∀ s i, s < 6 → i < 128 → f s i = g s i) : Img im g :=
  ⟨h.1, fun s i hs hi => by rw [h.2 s i hs hi, e s i hs hi]⟩
theorem put_get (im q : List Int) (k : Nat) (h : k + q.length ≤ im.length) (j : Nat) :
    (im.take k ++ q ++ im.drop (k + q.length))[j]? = if k ≤ j ∧ j < k + q.length then q[j - k]? else im[j]? := by
  have hl : (im.take k).length = k := by rw [List.length_take]; omega
  by_cases h1 : j < k
  · rw [if_neg (by omega), List.append_assoc, List.getElem?_append_left (by omega), List.getElem?_take, if_pos h1]
  · by_cases h2 : j < k + q.length
    · rw [if_pos (by omega), List.append_assoc, List.getElem?_append_right (by omega), hl, List.getElem?_append_left (by omega)]
    · rw [if_neg (by omega), List.getElem?_append_right (by rw [List.length_append, hl]; omega), List.length_append, hl, List.getElem?_drop]
      congr 1
      omega
/-- Bytes laid at the beginning of a sector. -/
theorem Img.put {im : List Int} {f : Nat → Nat → Int} (h : Img im f) (k : Nat) (hk : k < 6) (q : List Int) (b : Int) (m : Nat) (hm : m ≤ 128) (hq : q = List.replicate m b) :
    Img (im.take (128 * k) ++ q ++ im.drop (128 * k + m)) (fun s i => if s = k ∧ i < m then b else f s i) := by
  subst hq
  have hl : (List.replicate m b).length = m := List.length_replicate ..
  refine ⟨by simp only [List.length_append, List.length_take, List.length_drop, hl, h.1]; omega, fun s i hs hi => ?_⟩
  have := put_get im (List.replicate m b) (128 * k) (by rw [hl, h.1]; omega) (128 * s + i)
  rw [hl] at this
  rw [this]
  show _ = some (if s = k ∧ i < m then b else f s i)
  by_cases hsk : s = k
  · subst hsk
    by_cases him : i < m
    · rw [if_pos (by omega), if_pos ⟨rfl, him⟩, List.getElem?_replicate, if_pos (by omega)]
    · rw [if_neg (by omega), if_neg (by omega)]
      exact h.2 s i hs hi
  · rw [if_neg (by omega), if_neg (by omega)]
    exact h.2 s i hs hi
theorem Img.blank : Img blank (fun _ _ => 0) := ⟨by unfold Dk.blank; exact List.length_replicate .., fun s i hs hi => by unfold Dk.blank; rw [List.getElem?_replicate, if_pos (by omega)]⟩
/-- One put, seen from a sector. -/
def stepB (s : Nat) (b : Int) (p : S37) : Int := if p.f2 = false ∧ sec p.f0 = s then p.f1 else b
/-- The byte of a sector behind some puts. -/
def lastB (puts : List S37) (s : Nat) : Int := puts.foldl (stepB s) 0
theorem opOf_flush (p : S37) : opOf p = flushOp ↔ p.f2 = true := by
  unfold opOf
  split
  · rename_i h; simp [h]
  · rename_i h
    refine ⟨fun e => ?_, fun e => (h e).elim⟩
    have := congrArg Prod.fst e
    simp only [flushOp] at this
    omega
theorem Img.lay {im : List Int} {f : Nat → Nat → Int} (h : Img im f) (p : S37) : Img (layOp im (opOf p)) (fun s i => stepB s (f s i) p) := by
  unfold layOp
  by_cases hp : p.f2 = true
  · rw [if_pos ((opOf_flush p).2 hp)]
    refine h.congr fun s i _ _ => ?_
    unfold stepB
    rw [hp]
    simp
  · rw [if_neg (fun e => hp ((opOf_flush p).1 e))]
    have e : opOf p = ((sec p.f0 : Int), List.replicate 128 p.f1) := by unfold opOf; rw [if_neg hp]
    rw [e]
    refine (h.put (sec p.f0) (sec_lt _) (List.replicate 128 p.f1) p.f1 128 (Nat.le_refl _) rfl).congr fun s i _ hi => ?_
    have hpf : p.f2 = false := by simpa using hp
    unfold stepB
    by_cases hs : s = sec p.f0
    · rw [if_pos ⟨hs, hi⟩, if_pos ⟨hpf, hs.symm⟩]
    · rw [if_neg (fun e => hs e.1), if_neg (fun e => hs e.2.symm)]
theorem Img.behind : ∀ (puts : List S37) {im : List Int} {f : Nat → Nat → Int}, Img im f → Img (behindL im (opsOf puts)) (fun s i => puts.foldl (stepB s) (f s i))
  | [], _, _, h => h
  | p :: puts, _, _, h => Img.behind puts (h.lay p)
theorem behind_img (puts : List S37) : Img (behindL Dk.blank (opsOf puts)) (fun s _ => lastB puts s) := Img.behind puts Img.blank
theorem sector_img {im : List Int} {f : Nat → Nat → Int} (h : Img im f) (s : Nat) (hs : s < 6) : (sectorL im s).length = 128 ∧ ∀ i, i < 128 → (sectorL im s)[i]? = some (f s i) := by
  unfold sectorL
  refine ⟨by rw [List.length_take, List.length_drop, h.1]; omega, fun i hi => ?_⟩
  rw [List.getElem?_take, if_pos hi, List.getElem?_drop]
  exact h.2 s i hs hi
theorem sector_one {im : List Int} {f : Nat → Nat → Int} (h : Img im f) (s : Nat) (hs : s < 6) (b : Int) (hb : ∀ i, i < 128 → f s i = b) : sectorL im s = List.replicate 128 b := by
  obtain ⟨h1, h2⟩ := sector_img h s hs
  apply List.ext_getElem?
  intro j
  rw [List.getElem?_replicate]
  split
  · rename_i hj
    rw [h2 j hj, hb j hj]
  · rw [List.getElem?_eq_none (by omega)]
/-- How many puts there are up to the last flush. -/
def barN (puts : List S37) : Nat → Nat
  | 0 => 0
  | n + 1 => if (puts[n]?).map (·.f2) = some true then n + 1 else barN puts n
theorem looseN_opsOf (puts : List S37) : ∀ n, looseN (opsOf puts) n = barN puts n
  | 0 => rfl
  | n + 1 => by
    have ih := looseN_opsOf puts n
    unfold looseN barN
    rw [ih]
    have e : (opsOf puts)[n]? = (puts[n]?).map opOf := by simp [opsOf]
    rw [e]
    cases puts[n]? with
    | none => simp
    | some p =>
      simp only [Option.map_some, Option.some.injEq]
      by_cases hp : p.f2 = true
      · rw [if_pos ((opOf_flush p).2 hp), if_pos hp]
      · rw [if_neg (fun e => hp ((opOf_flush p).1 e)), if_neg hp]
theorem opsOf_takeN (puts : List S37) (n : Nat) : (opsOf puts).take n = opsOf (puts.take n) := by simp [opsOf, List.map_take]
theorem opsOf_dropN (puts : List S37) (n : Nat) : (opsOf puts).drop n = opsOf (puts.drop n) := by simp [opsOf, List.map_drop]
end Go.Proofs.YtpaonoaedjkekaaDoor.Dk
namespace Go.Proofs.YtpaonoaedjkekaaDoor.Dk
open Go Go.RowKit Go.Proofs.YtpaonoaedjkekaaDoor.PD Go.Proofs.YtpaonoaedjkekaaDoorW.PrintWords Go.Proofs.YtpaonoaedjkekaaDoorW.PrintLast Go.Proofs.YtpaonoaedjkekaaDoorW.PrintMore
set_option linter.unusedVariables false
set_option linter.unusedSimpArgs false
set_option maxHeartbeats 4000000
set_option maxRecDepth 100000
theorem info4' : (Tryd.prog.info? 4).map (fun i => (i.zero, i.size, i.bytes)) = some (some (.bool false), 1, 1) := by kernel_rfl
/-- A loose write laid over an image behind a crash. -/
def layC (keep : List Int) (torn : Int) (y : Nat) (im : List Int) (k : Nat) (op : Int × List Int) : List Int :=
  if (k : Int) ∈ keep then im.take (128 * op.1.toNat) ++ op.2 ++ im.drop (128 * op.1.toNat + 128)
  else if (k : Int) = torn then im.take (128 * op.1.toNat) ++ op.2.take y ++ im.drop (128 * op.1.toNat + y) else im
def crashL (keep : List Int) (torn : Int) (y : Nat) : List Int → Nat → List (Int × List Int) → List Int
  | im, _, [] => im
  | im, k, op :: ops => crashL keep torn y (layC keep torn y im k op) (k + 1) ops
/-- The image that a crash behind n operations leaves. -/
def atL (fs : List Int) (ops : List (Int × List Int)) (n : Nat) (keep : List Int) (torn : Int) (y : Nat) : List Int :=
  crashL keep torn y (behindL fs (ops.take (looseN ops n))) 0 ((ops.drop (looseN ops n)).take (n - looseN ops n))
theorem crashL_snoc (keep : List Int) (torn : Int) (y : Nat) (op : Int × List Int) : ∀ (l : List (Int × List Int)) (im : List Int) (k : Nat), crashL keep torn y im k (l ++ [op]) = layC keep torn y (crashL keep torn y im k l) (k + l.length) op
  | [], _, _ => rfl
  | o :: l, im, k => by
    have := crashL_snoc keep torn y op l (layC keep torn y im k o) (k + 1)
    simp only [List.cons_append, crashL, this, List.length_cons]
    rw [Nat.add_assoc, Nat.add_comm 1]
theorem layC_len {n : Nat} {keep : List Int} {torn : Int} {y : Nat} (hy : y ≤ 128) {im : List Int} {k : Nat} {op : Int × List Int} (hl : im.length = n) (h2 : op.2.length = 128) (h : ∃ s : Nat, op.1 = (s : Int) ∧ 128 * s + 128 ≤ n) : (layC keep torn y im k op).length = n := by
  obtain ⟨s, e, hs⟩ := h
  unfold layC
  rw [e, Int.toNat_natCast]
  split
  · simp only [List.length_append, List.length_take, List.length_drop, hl, h2]; omega
  · split
    · simp only [List.length_append, List.length_take, List.length_drop, hl, h2]; omega
    · exact hl
/-- Behind the barrier there is no flush. -/
theorem loose_none (ops : List (Int × List Int)) : ∀ (n i : Nat), looseN ops n ≤ i → i < n → ops[i]? ≠ some flushOp
  | 0, i, _, h => by omega
  | n + 1, i, h1, h2 => by
    unfold looseN at h1
    split at h1
    · omega
    · rename_i hne
      by_cases e : i = n
      · subst e; exact hne
      · exact loose_none ops n i h1 (by omega)
theorem loose_op {m : Nat} {ops : List (Int × List Int)} (hO : Oks m ops) {n i : Nat} {op : Int × List Int} (h1 : looseN ops n ≤ i) (h2 : i < n) (h : ops[i]? = some op) : op.2.length = 128 ∧ ∃ s : Nat, op.1 = (s : Int) ∧ 128 * s + 128 ≤ m := by
  obtain ⟨q1, q2⟩ := hO op (List.mem_of_getElem? h)
  exact ⟨q1, q2.resolve_left (fun e => loose_none ops n i h1 h2 (by rw [h, e]))⟩
theorem crashL_len {m : Nat} {keep : List Int} {torn : Int} {y : Nat} (hy : y ≤ 128) : ∀ (l : List (Int × List Int)) (im : List Int) (k : Nat), im.length = m → (∀ op ∈ l, op.2.length = 128 ∧ ∃ s : Nat, op.1 = (s : Int) ∧ 128 * s + 128 ≤ m) → (crashL keep torn y im k l).length = m
  | [], _, _, hl, _ => hl
  | op :: l, im, k, hl, h => crashL_len hy l _ (k + 1) (layC_len hy hl (h op List.mem_cons_self).1 (h op List.mem_cons_self).2) (fun o ho => h o (List.mem_cons_of_mem _ ho))
theorem loose_mem {m : Nat} {ops : List (Int × List Int)} (hO : Oks m ops) {n j : Nat} (hn : n ≤ ops.length) (hj : j ≤ n - looseN ops n) : ∀ op ∈ (ops.drop (looseN ops n)).take j, op.2.length = 128 ∧ ∃ s : Nat, op.1 = (s : Int) ∧ 128 * s + 128 ≤ m := fun op ho => by
  obtain ⟨i, hi⟩ := List.getElem?_of_mem ho
  rw [List.getElem?_take] at hi
  split at hi
  · rw [List.getElem?_drop] at hi
    exact loose_op hO (Nat.le_add_right _ i) (by omega) hi
  · cases hi
/-- Which of the loose writes are there. -/
def thereV (m : Nat) (keep : List Int) : List Value := (List.range m).map fun (i : Nat) => .bool (decide ((i : Int) ∈ keep))
theorem thereV_len (m : Nat) (keep : List Int) : (thereV m keep).length = m := by simp [thereV]
theorem thereV_get (m : Nat) (keep : List Int) (k : Nat) (hk : k < m) : (thereV m keep)[k]? = some (.bool (decide ((k : Int) ∈ keep))) := by
  simp [thereV, hk]
theorem thereV_nil (m : Nat) : thereV m [] = List.replicate m (.bool false) := by
  apply List.ext_getElem?
  intro i
  by_cases hi : i < m
  · rw [thereV_get m [] i hi, List.getElem?_replicate, if_pos hi]; simp
  · rw [List.getElem?_eq_none (by rw [thereV_len]; omega), List.getElem?_eq_none (by simp; omega)]
theorem thereV_set (m : Nat) (keep : List Int) (x : Nat) (hx : x < m) : (thereV m keep).set x (.bool true) = thereV m (keep ++ [(x : Int)]) := by
  apply List.ext_getElem?
  intro i
  by_cases hi : i < m
  · rw [thereV_get m _ i hi, List.getElem?_set, thereV_get m keep i hi, thereV_len]
    by_cases e : x = i
    · subst e; simp [hi]
    · rw [if_neg e]
      have : ¬ ((i : Int) = (x : Int)) := by omega
      simp [this]
  · rw [List.getElem?_eq_none (by rw [List.length_set, thereV_len]; omega), List.getElem?_eq_none (by rw [thereV_len]; omega)]
theorem thereV_out (m : Nat) (keep : List Int) (x : Int) (hx : x < 0 ∨ (m : Int) ≤ x) : thereV m (keep ++ [x]) = thereV m keep := by
  apply List.ext_getElem?
  intro i
  by_cases hi : i < m
  · rw [thereV_get m _ i hi, thereV_get m keep i hi]
    have : ¬ ((i : Int) = x) := by omega
    simp [this]
  · rw [List.getElem?_eq_none (by rw [thereV_len]; omega), List.getElem?_eq_none (by rw [thereV_len]; omega)]
theorem take_snoc {α : Type} {l : List α} {j : Nat} {x : α} (h : l[j]? = some x) : l.take (j + 1) = l.take j ++ [x] := by rw [List.take_add_one, h]; rfl
theorem at_at {h : Hd} {B : Nat} {fs ss : List Int} {A : Option Addr} {c : Nat} {ops : List (Int × List Int)} {W : World} (k : DkAt h B fs ss (.slice A ops.length c) ops W) (hF : Fl W) (hO : Oks h.n ops) (h0 : 0 < W.heap.size) (n : Nat) (hn : n ≤ ops.length)
    (Ak : Option Addr) (mk ck : Nat) (keep : List Int) (torn : Int) (y : Nat) (hy : y ≤ 128) (hC : Kd.C (Kd.int .i64) W Ak mk keep) :
    Calls Tryd.prog 15 #[ptr h.D, .int .i64 (n : Int), .agg #[.slice Ak mk ck, .int .i64 torn, .int .i64 (y : Int)]] W fun e w' => ∃ g c', e = .returned (.tuple #[.slice (some ⟨g, 0, none⟩) h.n c', .int .i64 0]) ∧ Mem w' g (atL fs ops n keep torn y) ∧ W.heap.size ≤ g ∧ h.n ≤ c' ∧ Below W.heap.size W w' := by
  have K := Aside0.mk k
  have HF := Aside0.mk hF
  have HO := Aside0.mk hO
  have H0 := Aside0.mk h0
  have HC := Aside0.mk hC
  have HL := Aside0.mk k.few
  have hkl := Kd.C_len hC
  have HKL := Aside0.mk hkl
  have hmk := (Kd.reads_of_C (d := (0 : Int)) (h1 := fun _ => rfl) hC).2.1
  have HMK := Aside0.mk hmk
  have HN := Aside0.mk hn
  have HY := Aside0.mk hy
  have n1 : ¬ ((n : Int) < 0) := by omega
  have n2 : ¬ ((ops.length : Int) < (n : Int)) := by omega
  have n3 : ¬ ((y : Int) < 0) := by omega
  have n4 : ¬ ((128 : Int) < (y : Int)) := by omega
  have hlo : looseN ops n ≤ n := looseN_le ops n
  obtain ⟨lo, hlo2⟩ : ∃ lo, looseN ops n = lo := ⟨_, rfl⟩
  have HLO := Aside0.mk hlo2
  rw [hlo2] at hlo
  obtain ⟨m, hm⟩ : ∃ m, n - lo = m := ⟨_, rfl⟩
  have HM := Aside0.mk hm
  have HLE := Aside0.mk hlo
  clear k hF hO h0 hC hkl hmk hn hy hlo hlo2 hm
  go_enter Tryd.func15, Tryd.ntmps15
  go_upto_region 1 with fail
  have hr5 : Rt 34 W.heap.size [.slice Ak mk ck, .int .i64 torn, .int .i64 (y : Int)] (W.alloc (.cells #[.slice Ak mk ck, .int .i64 torn, .int .i64 (y : Int)] 34)) := heap_alloc_new W _
  have hb5 : Below W.heap.size W (W.alloc (.cells #[.slice Ak mk ck, .int .i64 torn, .int .i64 (y : Int)] 34)) := below_alloc (Below.refl _ _) _
  obtain ⟨b5, hb5e⟩ : ∃ b5, W.heap.size = b5 := ⟨_, rfl⟩
  have HB5E := Aside0.mk hb5e
  rw [hb5e] at hr5
  rw [hb5e]
  generalize W.alloc (.cells #[.slice Ak mk ck, .int .i64 torn, .int .i64 (y : Int)] 34) = w1 at *
  have HR1 := Aside0.mk hr5
  have HB1 := Aside0.mk (show Below b5 W w1 from hb5e ▸ hb5)
  have K1 := Aside0.mk (K.out.stay hb5)
  have c2 := K1.out.row.cell 2 _ rfl
  have d2 := hr5.cell 2 _ rfl
  clear hr5 hb5 hb5e
  go_wp2_with (go_at_call 36; refine (loose_at K1.out (HF.out.below H0.out (HB5E.out ▸ HB1.out)) n HN.out).mono ?_; rw [HLO.out]; rintro e w2 ⟨rfl, q, rfl⟩)
  have hbq : Below w1.heap.size w1 (w1.drewN q) := pw_below_drewN (Below.refl _ _) q
  have H01 := Aside0.mk (Nat.lt_of_lt_of_le H0.out (HB5E.out ▸ HB1.out).size)
  go_at_call 37
  refine (behind_at (K1.out.stay hbq) ((HF.out.below H0.out (HB5E.out ▸ HB1.out)).below H01.out hbq) HO.out (Nat.lt_of_lt_of_le H01.out hbq.size) lo (by have := HLE.out; have := HN.out; omega)).mono ?_
  rintro e w2 ⟨g, cg, rfl, hM, hg, hcg, hb2⟩
  have HB1s := Aside0.mk (show b5 < w1.heap.size from HR1.out.lt)
  have hb12 : Below w1.heap.size w1 w2 := hbq.trans (hb2.mono hbq.size)
  have HBG := Aside0.mk (show w1.heap.size ≤ g ∧ h.n ≤ cg from ⟨Nat.le_trans hbq.size hg, hcg⟩)
  have HB2 := Aside0.mk (show Below b5 W w2 from HB1.out.trans (hb12.mono (HB5E.out ▸ HB1.out.size)))
  have HR2 := Aside0.mk (show Rt 34 b5 [Value.slice Ak mk ck, Value.int IntKind.i64 torn, Value.int IntKind.i64 (y : Int)] w2 from (hb12.block _ HR1.out.lt).trans HR1.out)
  have HM2 := Aside0.mk hM
  clear hb12 hbq hM hg hcg hb2 c2 d2 HR1 HB1 K1
  have hsub : wrap64 ((n : Int) - (lo : Int)) = (m : Int) := by have := HM.out; have := HLE.out; have := HN.out; have := HL.out; unfold wrap64; omega
  obtain ⟨i0, hi0, hz0', hsz0, hby'⟩ := infoParts info4'
  have hmkd := run_make (P := Tryd.prog) w2 80 4 i0 (.bool false) Tryd.underlying80 hi0 hz0' .i64 .i64 (m : Int) (m : Int) (by omega) (by omega) (by rw [hby']; have := HM.out; have := HN.out; have := HL.out; omega) (by have := HM.out; have := HN.out; have := HL.out; omega)
  rw [hsz0, Nat.mul_one, Int.toNat_natCast] at hmkd
  have HMD := Aside0.mk hmkd
  clear hmkd hi0
  go_wp2_with fail
  rw [HMD.out]
  simp only [Result.andThen_ok, Oper.upon_value]
  have hr3 : Rt 4 w2.heap.size (thereV m []) (w2.alloc (.cells (madeCells (Value.bool false).cells m) 4)) := by
    have := heap_alloc_new w2 (.cells (madeCells (Value.bool false).cells m) 4)
    have e : madeCells (Value.bool false).cells m = (thereV m []).toArray := by
      apply Array.toList_inj.1
      rw [show (Value.bool false).cells = #[Value.bool false] from rfl, toList_madeCells_one, thereV_nil]
    rw [e] at this ⊢
    exact this
  have hb3 : Below b5 W (w2.alloc (.cells (madeCells (Value.bool false).cells m) 4)) := HB2.out.alloc (HB5E.out ▸ HB2.out.size) _
  have hm3 : Mem (w2.alloc (.cells (madeCells (Value.bool false).cells m) 4)) g (behindL fs (ops.take lo)) := HM2.out.below (below_alloc (Below.refl _ _) _)
  have hr5 : Rt 34 b5 [.slice Ak mk ck, .int .i64 torn, .int .i64 (y : Int)] (w2.alloc (.cells (madeCells (Value.bool false).cells m) 4)) := ((below_alloc (Below.refl _ _) _).block _ HR2.out.lt).trans HR2.out
  have hne : b5 < w2.heap.size ∧ g < w2.heap.size ∧ b5 ≤ g ∧ b5 < g := by
    have q1 := HB5E.out
    have q2 := HBG.out.1
    have q3 := HB1s.out
    exact ⟨HR2.out.lt, HM2.out.lt, by omega, by omega⟩
  obtain ⟨t, ht⟩ : ∃ t, w2.heap.size = t := ⟨_, rfl⟩
  rw [ht] at hr3 hne ⊢
  generalize w2.alloc (.cells (madeCells (Value.bool false).cells m) 4) = w3 at *
  have HR3 := Aside0.mk hr3
  have HB3 := Aside0.mk hb3
  have HM3 := Aside0.mk hm3
  have HR5 := Aside0.mk hr5
  have HNE := Aside0.mk hne
  have c0 := hr5.cell 0 _ rfl
  clear hr3 hb3 hm3 hr5 hne ht HMD HM2 HR2 HB2 hz0' hsz0 hby'
  have hmk0 : (0 : Int) ≤ (mk : Int) := by omega
  go_wp2_with fail
  go_loopw [51] (fun p wr => ∃ j : Nat, p = .int .i64 (j : Int) ∧ Aside0 (j ≤ mk) ∧ Aside0 (Rt 4 t (thereV m (keep.take j)) wr) ∧ Aside0 (Below b5 W wr) ∧ Aside0 (Mem wr g (behindL fs (ops.take lo))) ∧ Aside0 (Rt 34 b5 [.slice Ak mk ck, .int .i64 torn, .int .i64 (y : Int)] wr)) (fun p _ => mk - (intOf p).toNat)
  · exact ⟨0, rfl, ⟨Nat.zero_le _⟩, HR3, HB3, HM3, HR5⟩
  · obtain ⟨j, rfl, HJ, HRr, HBr, HMr, HR5r⟩ := hrel
    by_cases ci : j < mk
    · have ci1 : decide ((j : Int) < (mk : Int)) = true := decide_eq_true (by omega)
      have ci2 : decide (j < mk) = true := decide_eq_true ci
      have ci3 : (0 : Int) ≤ (j : Int) := by omega
      have ci4 : (j : Int) < (mk : Int) := by omega
      have hw1 : IntKind.i64.wrap ((j : Int) + 1) = ((j + 1 : Nat) : Int) := by rw [IntWalk.i64_in _ (by have := HMK.out; omega)]; omega
      obtain ⟨x, hx⟩ : ∃ x, keep[j]? = some x := ⟨_, List.getElem?_eq_getElem (by have := HKL.out; omega)⟩
      obtain ⟨ad, rfl, hcell⟩ := (Kd.reads_of_C (d := (0 : Int)) (h1 := fun _ => rfl) (Kd.C_below HC.out (HB5E.out.symm ▸ HBr.out))).2.2 (by omega)
      have cj := hcell j ci
      rw [List.getD_eq_getElem?_getD, hx] at cj
      simp only [Option.getD_some] at cj
      have HX := Aside0.mk hx
      clear hcell hx
      by_cases hx0 : 0 ≤ x
      · by_cases hxm : x < (m : Int)
        · obtain ⟨X, rfl⟩ : ∃ X : Nat, x = (X : Int) := ⟨x.toNat, by omega⟩
          have hX : X < m := by omega
          have ct := HRr.out.cell X _ (thereV_get m _ X hX)
          have ft := HRr.out.free X
          have dx0 : decide (0 ≤ (X : Int)) = true := decide_eq_true hx0
          have dxm : decide ((X : Int) < (m : Int)) = true := decide_eq_true hxm
          go_wp2_with fail
          refine ⟨⟨j + 1, congrArg (Value.int .i64) (by omega), ⟨ci⟩, ⟨?_⟩, ⟨?_⟩, ⟨?_⟩, ⟨?_⟩⟩, ?_⟩
          · rw [HRr.out.set X, take_snoc HX.out, ← thereV_set m _ X hX]
            exact HRr.out.row _
          · rw [HRr.out.set X]
            exact below_setRow' HBr.out (by have := HNE.out; omega) _
          · rw [HRr.out.set X]
            exact HMr.out.move (setRow_other _ _ _ _ (by have := HNE.out; omega))
          · rw [HRr.out.set X]
            exact (setRow_other _ _ _ _ (by have := HNE.out; omega)).trans HR5r.out
          · simp only [intOf]
            omega
        · have dx0 : decide (0 ≤ x) = true := decide_eq_true hx0
          have dxm : decide (x < (m : Int)) = false := decide_eq_false hxm
          go_wp2_with fail
          refine ⟨⟨j + 1, congrArg (Value.int .i64) (by omega), ⟨ci⟩, ⟨?_⟩, HBr, HMr, HR5r⟩, ?_⟩
          · rw [take_snoc HX.out, thereV_out m _ x (.inr (by omega))]
            exact HRr.out
          · simp only [intOf]
            omega
      · have dx0 : decide (0 ≤ x) = false := decide_eq_false hx0
        go_wp2_with fail
        refine ⟨⟨j + 1, congrArg (Value.int .i64) (by omega), ⟨ci⟩, ⟨?_⟩, HBr, HMr, HR5r⟩, ?_⟩
        · rw [take_snoc HX.out, thereV_out m _ x (.inl (by omega))]
          exact HRr.out
        · simp only [intOf]
          omega
    · have ci1 : decide ((j : Int) < (mk : Int)) = false := decide_eq_false (by omega)
      have ci2 : decide (j < mk) = false := decide_eq_false ci
      have HRr2 := Aside0.mk (show Rt 4 t (thereV m keep) wr from by
        have := HRr.out
        rwa [List.take_of_length_le (by have := HKL.out; omega)] at this)
      clear HRr HJ c0 HR3 HB3 HM3 HR5
      have Kr := Aside0.mk (K.out.stay (HB5E.out ▸ HBr.out : Below W.heap.size W wr))
      have c2 := Kr.out.row.cell 2 _ rfl
      have hc : ops.length ≤ c := by
        rcases Kr.out.o.2 with ⟨inner, ho, _⟩
        rcases ho.2 with ⟨e, hz⟩ | ⟨_, _, _, e, _, _, hcc, _⟩
        · injection e with _ e2 e3; omega
        · injection e with _ e2 e3; omega
      have h1 : (0 : Int) ≤ (lo : Int) := by omega
      have h2 : (lo : Int) ≤ (n : Int) := by have := HLE.out; omega
      have h3 : (n : Int) ≤ (c : Int) := by have := HN.out; omega
      have h4 : n ≤ c := by have := HN.out; omega
      clear hc
      have hmm : n - lo = m := HM.out
      rcases Nat.eq_zero_or_pos m with hm0 | hm0
      · have hnl : n = lo := by have := HLE.out; omega
        have hm1 : n - lo = 0 := by omega
        clear hmm
        subst hm0
        go_wp2_with fail
        go_loopw [76] (fun p wr' => p = .int .i64 0 ∧ wr' = wr) (fun p _ => 0)
        · exact ⟨by rfl, rfl⟩
        · obtain ⟨rfl, rfl⟩ := hrel
          go_wp2_with fail
          go_ret2
          refine ⟨g, cg, rfl, ?_, by have := HBG.out; have := HB1s.out; have := HB5E.out; omega, HBG.out.2, HB5E.out.symm ▸ HBr.out⟩
          have := HMr.out
          unfold atL
          rw [HLO.out, HM.out, List.take_zero]
          exact this
      have hnl : n ≠ lo := by omega
      obtain ⟨go, ego, hcgo⟩ : ∃ go, A = some ⟨go, 0, none⟩ ∧ ∀ (wr' : World) (i : Nat) (op : Int × List Int), DkAt h B fs ss (.slice A ops.length c) ops wr' → ops[i]? = some op → ∀ j v, (opCells op.1 op.2)[j]? = some v → wr'.cell? ⟨go, i * 129 + j, none⟩ = some v := by
        obtain ⟨op, hop⟩ : ∃ op, ops[lo]? = some op := ⟨_, List.getElem?_eq_getElem (by have := HM.out; have := HN.out; omega)⟩
        obtain ⟨_, go, e, _, _⟩ := ops_at Kr.out lo op hop
        refine ⟨go, e, fun wr' i op k' hi j v hj => ?_⟩
        obtain ⟨_, go', e', _, hc'⟩ := ops_at k' i op hi
        rw [e] at e'
        injection e' with e'
        injection e' with e'
        exact e' ▸ hc' j v hj
      have HCGO := Aside0.mk hcgo
      subst ego
      have haddr : Option.map (fun x : Addr => x.add (lo * 129)) (some ⟨go, 0, none⟩) = some ⟨go, lo * 129, none⟩ := by rw [Option.map_some, add_off, Nat.zero_add]
      clear hcgo
      go_wp2_with fail
      go_loopw [76] (fun p wr' => ∃ k : Nat, p = .int .i64 (k : Int) ∧ Aside0 (k ≤ m) ∧ Aside0 (Mem wr' g (crashL keep torn y (behindL fs (ops.take lo)) 0 ((ops.drop lo).take k))) ∧ Aside0 (Rt 4 t (thereV m keep) wr') ∧ Aside0 (Rt 34 b5 [.slice Ak mk ck, .int .i64 torn, .int .i64 (y : Int)] wr') ∧ Aside0 (Below b5 W wr')) (fun p _ => m - (intOf p).toNat)
      · refine ⟨0, rfl, ⟨Nat.zero_le _⟩, ⟨?_⟩, HRr2, HR5r, HBr⟩
        rw [List.take_zero]
        exact HMr.out
      · clear c2 HBr HMr HR5r HRr2 Kr
        obtain ⟨k, rfl, HK, HMr, HRr, HR5r, HBr⟩ := hrel
        by_cases ck1 : k < m
        · have cki1 : decide ((k : Int) < (m : Int)) = true := decide_eq_true (by omega)
          have cki2 : decide (k < m) = true := decide_eq_true ck1
          have cki3 : (0 : Int) ≤ (k : Int) := by omega
          have cki4 : (k : Int) < (m : Int) := by omega
          have hw1 : IntKind.i64.wrap ((k : Int) + 1) = ((k + 1 : Nat) : Int) := by rw [IntWalk.i64_in _ (by have := HM.out; have := HN.out; have := HL.out; omega)]; omega
          obtain ⟨op, hop⟩ : ∃ op, ops[lo + k]? = some op := ⟨_, List.getElem?_eq_getElem (by have := HM.out; have := HN.out; omega)⟩
          have Kr := Aside0.mk (K.out.stay (HB5E.out.symm ▸ HBr.out : Below W.heap.size W wr))
          have hl := loose_op HO.out (n := n) (by rw [HLO.out]; exact Nat.le_add_right _ _) (by have := HM.out; omega) hop
          have HCE := Aside0.mk (show ∀ j v, (opCells op.1 op.2)[j]? = some v → wr.cell? ⟨go, lo * 129 + k * 129 + j, none⟩ = some v from fun j v hj => by
            rw [← Nat.add_mul]; exact HCGO.out wr (lo + k) op Kr.out hop j v hj)
          have HOP := Aside0.mk hop
          have HLE2 := Aside0.mk hl.1
          obtain ⟨s, hs, hsn⟩ := hl.2
          have HSN := Aside0.mk (And.intro hs hsn)
          clear hop hl hs hsn
          go_upto_region 16 with fail
          apply wp_region_lit
          refine Great.wpList_readTo rfl (some 78) rfl (.int .i64 (k : Int)) (by go_simp) ?_
          simp only [Act.put, List.setIfInBounds_toArray, List.set_cons_zero, List.set_cons_succ]
          refine Great.wpList_readTo rfl (some 79) rfl (.pointer (some ⟨go, lo * 129 + k * 129, none⟩)) (by go_simp) ?_
          simp only [Act.put, List.setIfInBounds_toArray, List.set_cons_zero, List.set_cons_succ]
          refine Great.wpList_readTo rfl (some 80) rfl (.agg (opCells op.1 op.2).toArray) (exec_load83 (x := .tmp 79) rfl rfl (by rw [opCells_len, HLE2.out]) HCE.out) ?_
          simp only [Act.put, List.setIfInBounds_toArray, List.set_cons_zero, List.set_cons_succ]
          refine wpList_runAlloc rfl 83 rfl (ptr wr.heap.size) (alloc_op _ wr) ?_
          simp only [Act.put, List.setIfInBounds_toArray, List.set_cons_zero, List.set_cons_succ]
          refine Great.wpList_readTo rfl (some 13) rfl (.int .i64 (k : Int)) (by go_simp) ?_
          simp only [Act.put, List.setIfInBounds_toArray, List.set_cons_zero, List.set_cons_succ]
          refine wpList_store_row rfl 83 (.tmp 14) (.tmp 80) rfl wr.heap.size (opCells op.1 op.2).toArray rfl rfl 83 (newOp 0).toArray (heap_alloc_new wr _) (by rw [List.size_toArray, opCells_len, HLE2.out]; kernel_rfl) (by rw [List.size_toArray, List.size_toArray, newOp_len, opCells_len, HLE2.out]) (opCells_one _ _) ?_
          simp only [Act.put, List.setIfInBounds_toArray, List.set_cons_zero, List.set_cons_succ]
          refine wpList_nil ?_
          obtain ⟨b, hbe⟩ : ∃ b, wr.heap.size = b := ⟨_, rfl⟩
          have hr1 : Rt 83 b (opCells op.1 op.2) ((wr.alloc (.cells (newOp 0).toArray 83)).setRow b (opCells op.1 op.2).toArray) := by
            have h0 : Rt 83 b (newOp 0) (wr.alloc (.cells (newOp 0).toArray 83)) := hbe ▸ heap_alloc_new wr _
            exact h0.row _
          have hb1 : Below wr.heap.size wr ((wr.alloc (.cells (newOp 0).toArray 83)).setRow b (opCells op.1 op.2).toArray) := below_setRow' (below_alloc (Below.refl _ _) _) (Nat.le_of_eq hbe) _
          rw [hbe]
          generalize (wr.alloc (.cells (newOp 0).toArray 83)).setRow b (opCells op.1 op.2).toArray = w2 at *
          have HR2 := Aside0.mk hr1
          have HM2 := Aside0.mk (HMr.out.below hb1)
          have HRt := Aside0.mk (show Rt 4 t (thereV m keep) w2 from (hb1.block _ HRr.out.lt).trans HRr.out)
          have HR5 := Aside0.mk (show Rt 34 b5 [.slice Ak mk ck, .int .i64 torn, .int .i64 (y : Int)] w2 from (hb1.block _ HR5r.out.lt).trans HR5r.out)
          have HB2 := Aside0.mk (show Below b5 W w2 from HBr.out.trans (hb1.mono (HB5E.out ▸ HBr.out.size)))
          have HGB := Aside0.mk (show b5 ≤ g ∧ g ≠ t ∧ g ≠ b5 from ⟨HNE.out.2.2.1, by have := HNE.out; omega, by have := HNE.out; omega⟩)
          have ct := HRt.out.cell k _ (thereV_get m keep k ck1)
          have hbl : (crashL keep torn y (behindL fs (ops.take lo)) 0 ((ops.drop lo).take k)).length = h.n := crashL_len HY.out _ _ _ (behindL_len _ _ K.out.lf (HO.out.take lo)) (HLO.out ▸ loose_mem HO.out (n := n) HN.out (by rw [HLO.out]; have := HM.out; omega))
          have HBL := Aside0.mk hbl
          have hsnoc : crashL keep torn y (behindL fs (ops.take lo)) 0 ((ops.drop lo).take (k + 1)) = layC keep torn y (crashL keep torn y (behindL fs (ops.take lo)) 0 ((ops.drop lo).take k)) k op := by
            rw [take_snoc (x := op) (by rw [List.getElem?_drop]; exact HOP.out), crashL_snoc, List.length_take, List.length_drop]
            congr 1
            have := HM.out; have := HN.out; omega
          have HSNOC := Aside0.mk hsnoc
          generalize crashL keep torn y (behindL fs (ops.take lo)) 0 ((ops.drop lo).take k) = im at *
          clear hr1 hb1 hbe hbl hsnoc HMr HRr HR5r HBr Kr HCE
          by_cases hin : (k : Int) ∈ keep
          · have dk : decide ((k : Int) ∈ keep) = true := decide_eq_true hin
            rw [dk] at ct
            have HIN := Aside0.mk hin
            clear hin dk
            go_upto_region 18 with fail
            have cb0 : w2.drew.cell? ⟨b, 0, none⟩ = some (.int .i64 (s : Int)) := HR2.out.cell 0 _ (by rw [HSN.out.1]; rfl)
            obtain ⟨cs, hcp, hM3⟩ := Mem.copy (P := Tryd.prog) (dT := 29) (sT := 29) (ty := 3) Tryd.underlying29 size5' (W := w2.drew) HM2.out (128 * s) 128 128 128 128 (some ⟨b, 1, none⟩) (Rt.bytes (W := w2.drew) HR2.out HLE2.out 128 (Nat.le_refl _)) (Nat.le_refl _) (by rw [HBL.out]; exact HSN.out.2)
            rw [List.take_of_length_le (Nat.le_of_eq HLE2.out)] at hM3
            have HCP := Aside0.mk hcp
            have HM3 := Aside0.mk hM3
            clear hcp hM3 ct
            go_region_law (first
              | (refine step_copy rfl (.tmp 89) (.tmp 91) 29 29 rfl (.slice (some ⟨g, 128 * s, none⟩) 128 128) (.slice (some ⟨b, 1, none⟩) 128 128) _ rfl rfl HCP.out ?_)
              | (go_simp; go_at_call 38; refine (part_at g h.n cg s w2.drew HSN.out.2 HBG.out.2 (by have := K.out.big; omega)).mono ?_; rintro e w' ⟨rfl, hw⟩; subst w'))
            have HB3 := Aside0.mk (show Below b5 W (w2.drew.setRow g cs) from below_setRow' (below_drew HB2.out) HGB.out.1 cs)
            have HRt3 := Aside0.mk (show Rt 4 t (thereV m keep) (w2.drew.setRow g cs) from (setRow_other _ _ _ _ (Ne.symm HGB.out.2.1)).trans HRt.out)
            have HR53 := Aside0.mk (show Rt 34 b5 [.slice Ak mk ck, .int .i64 torn, .int .i64 (y : Int)] (w2.drew.setRow g cs) from (setRow_other _ _ _ _ (Ne.symm HGB.out.2.2)).trans HR5.out)
            clear HCP
            generalize w2.drew.setRow g cs = w3 at *
            go_wp2_with fail
            refine ⟨⟨k + 1, rfl, ⟨ck1⟩, ⟨?_⟩, HRt3, HR53, HB3⟩, ?_⟩
            · rw [HSNOC.out, layC, if_pos HIN.out, HSN.out.1, Int.toNat_natCast]
              exact HM3.out
            · simp only [intOf]
              omega
          · have dk : decide ((k : Int) ∈ keep) = false := decide_eq_false hin
            rw [dk] at ct
            have HIN := Aside0.mk hin
            have c1 := HR5.out.cell 1 _ rfl
            clear hin dk
            by_cases hto : (k : Int) = torn
            · have dt : ((k : Int) == torn) = true := by simpa using hto
              have HTO := Aside0.mk hto
              clear hto
              go_upto_region 20 with fail
              have cb0 : w2.drew.cell? ⟨b, 0, none⟩ = some (.int .i64 (s : Int)) := HR2.out.cell 0 _ (by rw [HSN.out.1]; rfl)
              have cy : w2.drew.cell? ⟨b5, 2, none⟩ = some (.int .i64 (y : Int)) := HR5.out.cell 2 _ rfl
              obtain ⟨cs, hcp, hM3⟩ := Mem.copy (P := Tryd.prog) (dT := 29) (sT := 29) (ty := 3) Tryd.underlying29 size5' (W := w2.drew) HM2.out (128 * s) y 128 128 y (some ⟨b, 1, none⟩) (Rt.bytes (W := w2.drew) HR2.out HLE2.out y HY.out) HY.out (by rw [HBL.out]; have := HSN.out.2; have := HY.out; omega)
              have HCP := Aside0.mk hcp
              have HM3 := Aside0.mk hM3
              clear hcp hM3 ct
              go_region_law (first
                | (refine step_copy rfl (.tmp 101) (.tmp 107) 29 29 rfl (.slice (some ⟨g, 128 * s, none⟩) 128 128) (.slice (some ⟨b, 1, none⟩) y y) _ rfl rfl HCP.out ?_)
                | (go_simp; go_at_call 38; refine (part_at g h.n cg s w2.drew HSN.out.2 HBG.out.2 (by have := K.out.big; omega)).mono ?_; rintro e w' ⟨rfl, hw⟩; subst w'))
              all_goals
                have HB3 := Aside0.mk (show Below b5 W (w2.drew.setRow g cs) from below_setRow' (below_drew HB2.out) HGB.out.1 cs)
                have HRt3 := Aside0.mk (show Rt 4 t (thereV m keep) (w2.drew.setRow g cs) from (setRow_other _ _ _ _ (Ne.symm HGB.out.2.1)).trans HRt.out)
                have HR53 := Aside0.mk (show Rt 34 b5 [.slice Ak mk ck, .int .i64 torn, .int .i64 (y : Int)] (w2.drew.setRow g cs) from (setRow_other _ _ _ _ (Ne.symm HGB.out.2.2)).trans HR5.out)
                clear HCP
                generalize w2.drew.setRow g cs = w3 at *
                go_wp2_with fail
                refine ⟨⟨k + 1, rfl, ⟨ck1⟩, ⟨?_⟩, HRt3, HR53, HB3⟩, ?_⟩
                · rw [HSNOC.out, layC, if_neg HIN.out, if_pos HTO.out, HSN.out.1, Int.toNat_natCast]
                  exact HM3.out
                · simp only [intOf]
                  omega
            · have dt : ((k : Int) == torn) = false := by simpa using hto
              have HTO := Aside0.mk hto
              go_wp2_with fail
              refine ⟨⟨k + 1, rfl, ⟨ck1⟩, ⟨?_⟩, HRt, HR5, HB2⟩, ?_⟩
              · rw [HSNOC.out, layC, if_neg HIN.out, if_neg HTO.out]
                exact HM2.out
              · simp only [intOf]
                omega
        · have cki1 : decide ((k : Int) < (m : Int)) = false := decide_eq_false (by omega)
          have cki2 : decide (k < m) = false := decide_eq_false ck1
          go_wp2_with fail
          go_ret2
          refine ⟨g, cg, rfl, ?_, by have := HBG.out; have := HB1s.out; have := HB5E.out; omega, HBG.out.2, HB5E.out.symm ▸ HBr.out⟩
          have := HMr.out
          unfold atL
          rw [HLO.out, HM.out]
          obtain rfl : k = m := by have := HK.out; omega
          exact this
end Go.Proofs.YtpaonoaedjkekaaDoor.Dk
namespace Go.Proofs.YtpaonoaedjkekaaDoor.Dk
open Go Go.RowKit Go.Proofs.YtpaonoaedjkekaaDoor.PD Go.Proofs.YtpaonoaedjkekaaDoorW.PrintWords Go.Proofs.YtpaonoaedjkekaaDoorW.PrintLast Go.Proofs.YtpaonoaedjkekaaDoorW.PrintMore
set_option linter.unusedVariables false
set_option linter.unusedSimpArgs false
set_option maxHeartbeats 4000000
set_option maxRecDepth 100000
theorem w64n {k : Nat} (h : k < 9223372036854775807) : wrap64 ((k : Int) + 1) = ((k + 1 : Nat) : Int) := by unfold wrap64; omega
theorem rd37 {puts : List S37} {i : Nat} {p : S37} (h : puts[i]? = some p) : rd_T37 puts (i : Int) = p := by
  unfold rd_T37; rw [Int.toNat_natCast, List.getD_eq_getElem?_getD, h]; rfl
theorem lastB_snoc {puts : List S37} {i : Nat} {p : S37} (h : puts[i]? = some p) (n : Nat) : lastB (puts.take (i + 1)) n = stepB n (lastB (puts.take i) n) p := by
  rw [take_snoc h]; simp [lastB, List.foldl_append]
theorem lastOf_l0 (puts : List S37) (hP : Puts puts) (hl : puts.length < 9223372036854775807) (n : Nat) : ∀ (k i : Nat), i + k = puts.length → larderlaw06_lastOf.l0 (k + 1) puts (n : Int) (lastB (puts.take i) n) (i : Int) = some (lastB puts n)
  | 0, i, h => by
    unfold larderlaw06_lastOf.l0
    rw [if_neg (by omega), List.take_of_length_le (by omega)]
  | k + 1, i, h => by
    have ih := lastOf_l0 puts hP hl n k (i + 1) (by omega)
    obtain ⟨p, hp⟩ : ∃ p, puts[i]? = some p := ⟨_, List.getElem?_eq_getElem (by omega)⟩
    rw [lastB_snoc hp] at ih
    unfold larderlaw06_lastOf.l0
    rw [if_pos (by omega), if_pos (by omega), rd37 hp, w64n (by omega)]
    by_cases hf : p.f2 = true
    · rw [if_pos hf]
      rw [stepB, if_neg (by rw [hf]; simp)] at ih
      exact ih
    · have hf' : p.f2 = false := by simpa using hf
      rw [if_neg hf, within_ok p.f0 (hP p (List.mem_of_getElem? hp)), Option.bind_some]
      by_cases hs : sec p.f0 = n
      · rw [if_pos (by omega)]
        rw [stepB, if_pos ⟨hf', hs⟩] at ih
        exact ih
      · rw [if_neg (by omega)]
        rw [stepB, if_neg (fun e => hs e.2)] at ih
        exact ih
theorem lastOf_ok (puts : List S37) (hP : Puts puts) (hl : puts.length < 9223372036854775807) (n : Nat) : larderlaw06_lastOf.f (puts.length + 1) puts (n : Int) = some (lastB puts n) :=
  lastOf_l0 puts hP hl n puts.length 0 (by omega)
theorem barrier_l0 (puts : List S37) (hl : puts.length < 9223372036854775807) : ∀ (i : Nat), i ≤ puts.length → larderlaw06_barrier.l0 (i + 1) puts (i : Int) = some (barN puts i : Int)
  | 0, h => by
    unfold larderlaw06_barrier.l0
    rw [if_neg (by decide)]
    rfl
  | i + 1, h => by
    have ih := barrier_l0 puts hl i (by omega)
    obtain ⟨p, hp⟩ : ∃ p, puts[i]? = some p := ⟨_, List.getElem?_eq_getElem (by omega)⟩
    have e1 : wrap64 (((i + 1 : Nat) : Int) - 1) = (i : Int) := by unfold wrap64; omega
    unfold larderlaw06_barrier.l0
    rw [if_pos (by omega), e1, if_pos (by omega), if_pos (by omega), rd37 hp]
    unfold barN
    rw [hp, Option.map_some]
    by_cases hf : p.f2 = true
    · rw [if_pos hf, if_pos (by rw [hf])]
    · rw [if_neg hf, if_neg (by simpa using hf)]
      exact ih
theorem barrier_ok (puts : List S37) (hl : puts.length < 9223372036854775807) : larderlaw06_barrier.f (puts.length + 1) puts = some (barN puts puts.length : Int) :=
  barrier_l0 puts hl puts.length (Nat.le_refl _)
theorem all_l0 (b : Int) (n : Nat) (hn : n < 9223372036854775807) : ∀ (k i : Nat), i + k = n → larderlaw06_all.l0 (k + 1) (List.replicate n b) b (i : Int) = some ((n : Int) == 128)
  | 0, i, h => by
    unfold larderlaw06_all.l0
    rw [List.length_replicate, if_neg (by omega)]
  | k + 1, i, h => by
    have ih := all_l0 b n hn k (i + 1) (by omega)
    have e : rd (List.replicate n b) (i : Int) = b := by
      unfold rd
      rw [Int.toNat_natCast, List.getD_eq_getElem?_getD, List.getElem?_replicate, if_pos (by omega)]
      rfl
    unfold larderlaw06_all.l0
    rw [List.length_replicate, if_pos (by omega), if_pos (by omega), e, if_pos rfl, w64n (by omega)]
    exact ih
theorem all_ok (b : Int) : larderlaw06_all.f 129 (List.replicate 128 b) b = some true := all_l0 b 128 (by decide) 128 0 rfl
theorem bytes_l0 (xs : List Int) (hn : xs.length < 9223372036854775807) : ∀ (k i : Nat), i + k = xs.length → larderlaw06_bytes.l0 (k + 1) xs xs (i : Int) = some true
  | 0, i, h => by
    unfold larderlaw06_bytes.l0
    rw [if_neg (by omega)]
  | k + 1, i, h => by
    have ih := bytes_l0 xs hn k (i + 1) (by omega)
    unfold larderlaw06_bytes.l0
    rw [if_pos (by omega), if_pos (by omega), if_pos (by omega), if_pos rfl, w64n (by omega)]
    exact ih
theorem bytes_ok (xs : List Int) (hn : xs.length < 9223372036854775807) : larderlaw06_bytes.f (xs.length + 1) xs xs = some true := by
  unfold larderlaw06_bytes.f
  rw [if_pos rfl]
  exact bytes_l0 xs hn xs.length 0 (by omega)
/-- Which of n + 1 a number means. -/
def modw (x : Int) (n : Nat) : Nat := if x < 0 then ((-(x + 1)) % ((n : Int) + 1)).toNat else (x % ((n : Int) + 1)).toNat
theorem modw_le (x : Int) (n : Nat) : modw x n ≤ n := by
  have h1 := Int.emod_lt_of_pos (-(x + 1)) (show (0 : Int) < (n : Int) + 1 by omega)
  have h2 := Int.emod_lt_of_pos x (show (0 : Int) < (n : Int) + 1 by omega)
  unfold modw
  split <;> omega
theorem modw_sec (x : Int) : modw x 5 = sec x := rfl
theorem within_to (x : Int) (n : Nat) (hn : n < 9223372036854775807) (h : -9223372036854775808 ≤ x ∧ x ≤ 9223372036854775807) : larderlaw06_within.f x 0 (n : Int) = some (modw x n : Int) := by
  have hw : ∀ z : Int, -9223372036854775808 ≤ z → z ≤ 9223372036854775807 → wrap64 z = z := fun z h1 h2 => by unfold wrap64; omega
  have e6 : wrap64 ((wrap64 ((n : Int) - 0)) + 1) = (n : Int) + 1 := by rw [hw ((n : Int) - 0) (by omega) (by omega), hw _ (by omega) (by omega)]; omega
  unfold larderlaw06_within.f
  simp only [e6]
  by_cases hx : x < 0
  · rw [if_pos hx, if_neg (by omega), hw (x + 1) (by omega) (by omega), hw (-(x + 1)) (by omega) (by omega), Int.tmod_eq_emod_of_nonneg (by omega)]
    have h1 := Int.emod_lt_of_pos (-(x + 1)) (show (0 : Int) < (n : Int) + 1 by omega)
    have h2 := Int.emod_nonneg (-(x + 1)) (show (n : Int) + 1 ≠ 0 by omega)
    have e3 : (modw x n : Int) = (-(x + 1)) % ((n : Int) + 1) := by unfold modw; rw [if_pos hx]; omega
    rw [e3]
    generalize (-(x + 1)) % ((n : Int) + 1) = z at *
    rw [hw _ (by omega) (by omega)]
    congr 1
    omega
  · rw [if_neg hx, if_neg (by omega), Int.tmod_eq_emod_of_nonneg (by omega)]
    have h1 := Int.emod_lt_of_pos x (show (0 : Int) < (n : Int) + 1 by omega)
    have h2 := Int.emod_nonneg x (show (n : Int) + 1 ≠ 0 by omega)
    have e3 : (modw x n : Int) = x % ((n : Int) + 1) := by unfold modw; rw [if_neg hx]; omega
    rw [e3]
    generalize x % ((n : Int) + 1) = z at *
    rw [hw _ (by omega) (by omega)]
    congr 1
    omega
theorem few_at (A : Option Addr) (n c : Nat) (hc : n ≤ c) (W : World) : Calls Tryd.prog 11 #[.slice A n c] W fun e w' => e = .returned (.slice A (min n 300) c) ∧ w' = W := by
  by_cases h : n ≤ 300
  · have c1 : ¬ ((300 : Int) < (n : Int)) := by omega
    have e1 := Aside0.mk (Nat.min_eq_left h)
    clear h
    go_enter Tryd.func11, Tryd.ntmps11
    go_wp2_with fail
    go_ret
    exact ⟨by rw [e1.out]; rfl, rfl⟩
  · have c1 : (300 : Int) < (n : Int) := by omega
    have c2 : (300 : Int) ≤ (c : Int) := by omega
    have c3 : 300 ≤ c := by omega
    have e1 := Aside0.mk (Nat.min_eq_right (show 300 ≤ n by omega))
    clear h
    go_enter Tryd.func11, Tryd.ntmps11
    go_wp2_with fail
    go_ret
    exact ⟨by rw [e1.out]; rfl, rfl⟩
theorem sectors_of (g c s : Nat) (hs : s < 6) (hc : 768 ≤ c) (W : World) : Calls Tryd.prog 17 #[.slice (some ⟨g, 0, none⟩) 768 c, .int .i64 (s : Int)] W fun e w' => e = .returned (.slice (some ⟨g, 128 * s, none⟩) 128 (c - 128 * s)) ∧ w' = W := by
  have h1 : wrap64 ((s : Int) * 128) = ((128 * s : Nat) : Int) := by unfold wrap64; omega
  have h2 : wrap64 ((s : Int) + 1) = ((s + 1 : Nat) : Int) := by unfold wrap64; omega
  have h3 : wrap64 (((s + 1 : Nat) : Int) * 128) = ((128 * s + 128 : Nat) : Int) := by unfold wrap64; omega
  go_enter Tryd.func17, Tryd.ntmps17
  go_wp2_with fail
  go_ret
  refine ⟨?_, rfl⟩
  rw [show s * 128 = 128 * s from by omega, show (s + 1) * 128 - 128 * s = 128 from by omega]
  rfl
theorem Puts.take {puts : List S37} (h : Puts puts) (n : Nat) : Puts (puts.take n) := fun p hp => h p (List.mem_of_mem_take hp)
theorem C_take37 {W : World} {A : Option Addr} {n : Nat} {puts : List S37} (h : Kd.C k37 W A n puts) (m : Nat) (hm : m ≤ n) : Kd.C k37 W A m (puts.take m) := by
  have hl := Kd.C_len h
  subst hl
  have := Kd.C_take h hm
  rwa [List.length_take, Nat.min_eq_left hm] at this
/-- Two rows of the same bytes are the same. -/
theorem bytes_at (xs : List Int) (hx : xs.length < 9223372036854775807) (A0 A1 : Option Addr) (n c0 c1 : Nat) (w : World) (hn : xs.length = n) (hr0 : Kd.C (Kd.int .u8) w A0 n xs) (hc0 : n ≤ c0) (hr1 : Kd.C (Kd.int .u8) w A1 n xs) (hc1 : n ≤ c1) :
    Calls Tryd.prog 26 #[.slice A0 n c0, .slice A1 n c1] w fun e w' => e = .returned (.bool true) ∧ ∃ m, w' = w.drewN m := by
  subst hn
  exact (larderlaw06_bytes.calls (xs.length + 1) A0 c0 xs A1 c1 xs true w hr0 hc0 hr1 hc1 (bytes_ok xs hx)).mono fun _ _ ⟨he, m, hm⟩ => ⟨he, m, hm⟩
theorem all_at (x : Int) (A0 : Option Addr) (c0 : Nat) (w : World) (hr0 : Kd.C (Kd.int .u8) w A0 128 (List.replicate 128 x)) (hc0 : 128 ≤ c0) :
    Calls Tryd.prog 24 #[.slice A0 128 c0, .int .u8 x] w fun e w' => e = .returned (.bool true) ∧ ∃ m, w' = w.drewN m := by
  have := larderlaw06_all.calls 129 A0 c0 (List.replicate 128 x) x true w (by rw [List.length_replicate]; exact hr0) (by rw [List.length_replicate]; exact hc0) (all_ok x)
  rw [List.length_replicate] at this
  exact this.mono fun _ _ ⟨he, m, hm⟩ => ⟨he, m, hm⟩
theorem full_at (x : Int) (w : World) : Calls Tryd.prog 28 #[.int .u8 x] w fun e w' => ∃ g c', e = .returned (.slice (some ⟨g, 0, none⟩) 128 c') ∧ Mem w' g (List.replicate 128 x) ∧ w.heap.size ≤ g ∧ 128 ≤ c' ∧ Below w.heap.size w w' := by
  refine (larderlaw06_full.calls 129 x _ w (full_ok x)).mono ?_
  rintro e w' ⟨v, rfl, hR, hb⟩
  obtain ⟨g, c', ev, hm, hB, _, hle⟩ := Mem.of_R hR (by rw [List.length_replicate]; decide)
  rw [List.length_replicate] at ev hle
  subst ev
  exact ⟨g, c', rfl, hm, hB, hle, hb⟩
theorem Mem.allN {W : World} {g : Nat} {xs : List Int} (h : Mem W g xs) {n : Nat} (hl : xs.length = n) (hn : n ≤ 9223372036854775807) : Kd.C (Kd.int .u8) W (some ⟨g, 0, none⟩) n xs := by
  subst hl; exact h.all hn
end Go.Proofs.YtpaonoaedjkekaaDoor.Dk
namespace Go.Proofs.YtpaonoaedjkekaaDoor.Dk
open Go Go.RowKit Go.Proofs.SeqWith Go.Proofs.YtpaonoaedjkekaaDoor.PD Go.Proofs.YtpaonoaedjkekaaDoorW.PrintWords Go.Proofs.YtpaonoaedjkekaaDoorW.PrintLast Go.Proofs.YtpaonoaedjkekaaDoorW.PrintMore
set_option linter.unusedVariables false
set_option linter.unusedSimpArgs false
set_option maxRecDepth 100000
theorem choices_len (k : Nat) (h : k ≤ 7) : (choicesL k).length = 2 ^ k + k * 2 ^ k / 2 := by
  have : ∀ k : Fin 8, (choicesL k.val).length = 2 ^ k.val + k.val * 2 ^ k.val / 2 := by decide +kernel
  exact this ⟨k, by omega⟩
theorem choices_small (k : Nat) (h : k ≤ 7) : (choicesL k).length ≤ 1000 := by
  have : ∀ k : Fin 8, (choicesL k.val).length ≤ 1000 := by decide +kernel
  exact this ⟨k, by omega⟩
/-- A number of a choice: another one for each. -/
def codeC (c : Ck) : Nat := (c.2.1 + 1).toNat * 1024 + c.1.foldl (fun s i => s + 2 ^ i.toNat) 0
def upB : List Nat → Bool
  | [] => true
  | [_] => true
  | a :: b :: l => decide (a < b) && upB (b :: l)
theorem upB_pairwise : ∀ l, upB l = true → l.Pairwise (· < ·)
  | [], _ => List.Pairwise.nil
  | [a], _ => by simp
  | a :: b :: l, h => by
    simp only [upB, Bool.and_eq_true, decide_eq_true_eq] at h
    have ih := upB_pairwise (b :: l) h.2
    refine List.Pairwise.cons (fun x hx => ?_) ih
    rcases List.mem_cons.1 hx with rfl | hx
    · exact h.1
    · exact Nat.lt_trans h.1 ((List.pairwise_cons.1 ih).1 x hx)
theorem codes_sorted (k : Nat) (h : k ≤ 7) : ((choicesL k).map codeC).Pairwise (· < ·) := by
  have : ∀ k : Fin 8, upB ((choicesL k.val).map codeC) = true := by decide +kernel
  exact upB_pairwise _ (this ⟨k, by omega⟩)
theorem choices_nodup (k : Nat) (h : k ≤ 7) : (choicesL k).Nodup :=
  List.Pairwise.of_map codeC (fun a b h e => by rw [e] at h; exact Nat.lt_irrefl _ h) (codes_sorted k h)
theorem choices_bytes (k : Nat) : ∀ c ∈ choicesL k, c.2.2 = 0 ∨ c.2.2 = 64 := fun c hc => by
  unfold choicesL at hc
  split at hc
  · cases hc
  · rcases List.mem_append.1 hc with hc | hc
    · obtain ⟨m, _, rfl⟩ := List.mem_map.1 hc
      exact .inl rfl
    · obtain ⟨i, _, hc⟩ := List.mem_flatMap.1 hc
      obtain ⟨m, _, rfl⟩ := List.mem_map.1 hc
      exact .inr rfl
theorem ints_l0 (l0 l1 : List Int) (hl : l0.length = l1.length) (hn : l0.length < 9223372036854775807) : ∀ (k i : Nat), i + k = l0.length → l0.take i = l1.take i → larderlaw06_ints.l0 (k + 1) l0 l1 (i : Int) = some (decide (l0 = l1))
  | 0, i, h, he => by
    unfold larderlaw06_ints.l0
    rw [if_neg (by omega)]
    rw [List.take_of_length_le (by omega), List.take_of_length_le (by omega)] at he
    rw [decide_eq_true he]
  | k + 1, i, h, he => by
    have ih := ints_l0 l0 l1 hl hn k (i + 1) (by omega)
    obtain ⟨x, hx⟩ : ∃ x, l0[i]? = some x := ⟨_, List.getElem?_eq_getElem (by omega)⟩
    obtain ⟨y, hy⟩ : ∃ y, l1[i]? = some y := ⟨_, List.getElem?_eq_getElem (by omega)⟩
    have e0 : rd l0 (i : Int) = x := by unfold rd; rw [Int.toNat_natCast, List.getD_eq_getElem?_getD, hx]; rfl
    have e1 : rd l1 (i : Int) = y := by unfold rd; rw [Int.toNat_natCast, List.getD_eq_getElem?_getD, hy]; rfl
    unfold larderlaw06_ints.l0
    rw [if_pos (by omega), if_pos (by omega), if_pos (by omega), e0, e1]
    by_cases hxy : x = y
    · rw [if_pos hxy, w64n (by omega)]
      exact ih (by rw [take_snoc hx, take_snoc hy, he, hxy])
    · rw [if_neg hxy, decide_eq_false (fun e => hxy (by rw [e] at hx; rw [hx] at hy; exact Option.some.inj hy))]
theorem ints_ok (l0 l1 : List Int) (hn : l0.length < 9223372036854775807) : larderlaw06_ints.f (l0.length + 1) l0 l1 = some (decide (l0 = l1)) := by
  unfold larderlaw06_ints.f
  by_cases h : l0.length = l1.length
  · rw [if_pos (by omega)]
    exact ints_l0 l0 l1 h hn l0.length 0 (by omega) (by simp)
  · rw [if_neg (by omega), decide_eq_false (fun e => h (by rw [e]))]
theorem crashes_ok (c d : Ck) (hn : c.1.length < 9223372036854775807) : larderlaw06_crashes.f (c.1.length + 1) c.1 c.2.1 c.2.2 d.1 d.2.1 d.2.2 = some (decide (c = d)) := by
  obtain ⟨k, t, b⟩ := c
  obtain ⟨k', t', b'⟩ := d
  unfold larderlaw06_crashes.f
  rw [ints_ok k k' hn, Option.bind_some]
  by_cases h1 : k = k'
  · rw [if_pos (decide_eq_true h1)]
    by_cases h2 : t = t'
    · rw [if_pos h2]
      congr 1
      subst h1 h2
      by_cases h3 : b = b'
      · subst h3; simp
      · simp [h3]
    · rw [if_neg h2]
      congr 1
      symm
      apply decide_eq_false
      intro e
      injection e with _ e
      injection e with e _
      exact h2 e
  · rw [if_neg (by simp [h1])]
    congr 1
    symm
    apply decide_eq_false
    intro e
    injection e with e _
    exact h1 e
end Go.Proofs.YtpaonoaedjkekaaDoor.Dk
namespace Go.Proofs.YtpaonoaedjkekaaDoor.Dk
open Go Go.RowKit Go.Proofs.YtpaonoaedjkekaaDoor.PD Go.Proofs.YtpaonoaedjkekaaDoorW.PrintWords Go.Proofs.YtpaonoaedjkekaaDoorW.PrintLast Go.Proofs.YtpaonoaedjkekaaDoorW.PrintMore
set_option linter.unusedVariables false
set_option linter.unusedSimpArgs false
set_option maxHeartbeats 4000000
set_option maxRecDepth 100000
abbrev krop : Kd (Int × List Int) := Kd.pair (Kd.int .i64) (Kd.slice 5 (Kd.int .u8))
/-- An operation as the document's disk keeps it. -/
def rof (op : Int × List Int) : Int × List Int := if op = flushOp then (-1, []) else op
theorem rof_one (op : Int × List Int) : (rof op).1 = op.1 := by
  unfold rof
  split
  · rename_i h; rw [h]; rfl
  · rfl
structure Rd where
  D : Nat
  gf : Nat
  n : Nat
  cf : Nat
structure RfAt (r : Rd) (B : Nat) (ok : Nat → Prop) (fs : List Int) (vo : Value) (ops : List (Int × List Int)) (W : World) : Prop where
  row : Rt 89 r.D [sl r.gf r.n r.cf, vo] W
  f : Mem W r.gf fs
  o : krop.R 95 W B ok vo (ops.map rof)
  fk : ok r.gf
  lf : fs.length = r.n
  bd : B ≤ r.D
  bf : B ≤ r.gf
  cf : r.n ≤ r.cf
  big : r.n ≤ 524288
  pos : 0 < r.n
  few : ops.length ≤ 65536
theorem RfAt.size {r : Rd} {B : Nat} {ok : Nat → Prop} {fs : List Int} {vo : Value} {ops : List (Int × List Int)} {W : World} (k : RfAt r B ok fs vo ops W) : B ≤ W.heap.size := Nat.le_of_lt (Nat.lt_of_le_of_lt k.bd k.row.lt)
theorem RfAt.stay {r : Rd} {B : Nat} {ok : Nat → Prop} {fs : List Int} {vo : Value} {ops : List (Int × List Int)} {W W1 : World} (k : RfAt r B ok fs vo ops W) (hb : Below W.heap.size W W1) : RfAt r B ok fs vo ops W1 :=
  { k with row := (hb.block _ k.row.lt).trans k.row, f := k.f.below hb, o := Kd.R_below k.o hb }
theorem RfAt.cap {r : Rd} {B : Nat} {ok : Nat → Prop} {fs : List Int} {A : Option Addr} {c : Nat} {ops : List (Int × List Int)} {W : World} (k : RfAt r B ok fs (.slice A ops.length c) ops W) : ops.length ≤ c := by
  rcases k.o.2 with ⟨inner, ho, _⟩
  rcases ho.2 with ⟨e, hz⟩ | ⟨_, _, _, e, _, _, hcc, _⟩
  · injection e with _ e2 e3; simp at hz; omega
  · injection e with _ e2 e3; simp at hcc; omega
/-- An operation's two cells, and its bytes. -/
theorem rops_at {r : Rd} {B : Nat} {ok : Nat → Prop} {fs : List Int} {A : Option Addr} {c : Nat} {ops : List (Int × List Int)} {W : World} (k : RfAt r B ok fs (.slice A ops.length c) ops W) (i : Nat) (op : Int × List Int) (hi : ops[i]? = some op) :
    ∃ g Ab cb, A = some ⟨g, 0, none⟩ ∧ W.cell? ⟨g, i * 2, none⟩ = some (.int .i64 op.1) ∧ W.cell? ⟨g, i * 2 + 1, none⟩ = some (.slice Ab (rof op).2.length cb) ∧ Kd.C (Kd.int .u8) W Ab (rof op).2.length (rof op).2 := by
  obtain ⟨hok, inner, ho, hr⟩ := k.o
  have hlt : i < ops.length := (List.getElem?_eq_some_iff.1 hi).1
  have hm := hr.2 i (rof op) (by rw [List.getElem?_map, hi]; rfl)
  have hm := krop.K_of_M hm
  obtain ⟨c0, c1, hcs, h0, Ab, cb, h1, h2, h3⟩ := hm
  have h0 : c0 = [Value.int .i64 (rof op).1] := h0
  have h1 : c1 = [Value.slice Ab (rof op).2.length cb] := h1
  rw [h0, h1, rof_one] at hcs
  have hcs : (inner.drop (i * 2)).take 2 = [Value.int .i64 op.1, .slice Ab (rof op).2.length cb] := hcs
  rcases ho.2 with ⟨_, hz⟩ | ⟨g, cap, cur, e, hB, hh, hc, _, _, ht⟩
  · rw [List.length_map] at hz; omega
  · injection e with e1 e2 e3
    have hcell : ∀ j v, [Value.int .i64 op.1, .slice Ab (rof op).2.length cb][j]? = some v → W.cell? ⟨g, i * 2 + j, none⟩ = some v := fun j v hj => by
      rw [cell_of_row W g _ cur 95 (0, 0) hh, ← Array.getElem?_toList]
      rw [← hcs, List.getElem?_take, List.getElem?_drop] at hj
      by_cases hj2 : j < 2
      · rw [if_pos hj2] at hj
        rw [← ht, List.getElem?_take] at hj
        split at hj
        · exact hj
        · cases hj
      · rw [if_neg hj2] at hj; cases hj
    exact ⟨g, Ab, cb, e1, hcell 0 _ rfl, hcell 1 _ rfl, h3⟩
theorem rsectors_at {r : Rd} {B : Nat} {ok : Nat → Prop} {fs : List Int} {vo : Value} {ops : List (Int × List Int)} {W : World} (k : RfAt r B ok fs vo ops W) (q : Nat) (hq : r.n / 128 = q) :
    Calls Tryd.prog 48 #[ptr r.D] W fun e w' => e = .returned (.int .i64 (q : Int)) ∧ w' = W := by
  have c0 := k.row.cell 0 _ rfl
  have hb := k.big
  have e1 : Int.tdiv (r.n : Int) 128 = (q : Int) := by rw [Int.tdiv_eq_ediv_of_nonneg (by omega)]; omega
  have e2 : wrap64 (q : Int) = (q : Int) := by unfold wrap64; omega
  clear k hq hb
  go_enter Tryd.func48, Tryd.ntmps48
  go_wp2_with fail
  go_ret
  exact ⟨by show Ending.returned (Value.int .i64 (wrap64 (q : Int))) = _; rw [e2], rfl⟩
theorem rcount_at {r : Rd} {B : Nat} {ok : Nat → Prop} {fs : List Int} {A : Option Addr} {c : Nat} {ops : List (Int × List Int)} {W : World} (k : RfAt r B ok fs (.slice A ops.length c) ops W) :
    Calls Tryd.prog 49 #[ptr r.D] W fun e w' => e = .returned (.int .i64 (ops.length : Int)) ∧ w' = W := by
  have c1 := k.row.cell 1 _ rfl
  clear k
  go_enter Tryd.func49, Tryd.ntmps49
  go_wp2_with fail
  go_ret
  exact ⟨rfl, rfl⟩
theorem rloose_at {r : Rd} {B : Nat} {ok : Nat → Prop} {fs : List Int} {A : Option Addr} {c : Nat} {ops : List (Int × List Int)} {W : World} (k : RfAt r B ok fs (.slice A ops.length c) ops W) (hO : Oks r.n ops) (n : Nat) (hn : n ≤ ops.length) :
    Calls Tryd.prog 56 #[ptr r.D, .int .i64 (n : Int)] W fun e w' => e = .returned (.int .i64 (looseN ops n : Int)) ∧ w' = W := by
  have K := Aside0.mk k
  have HO := Aside0.mk hO
  have HN := Aside0.mk hn
  have HL := Aside0.mk k.few
  have cd := k.row.cell 1 _ rfl
  clear k hO hn
  go_enter Tryd.func56, Tryd.ntmps56
  go_wp2_with fail
  go_loopw [5] (fun p wr => ∃ j : Nat, p = .int .i64 (j : Int) ∧ Aside0 (j ≤ n) ∧ Aside0 (looseN ops j = looseN ops n) ∧ wr = W) (fun p _ => (intOf p).toNat)
  · exact ⟨n, rfl, ⟨Nat.le_refl _⟩, ⟨rfl⟩, rfl⟩
  · obtain ⟨j, rfl, HJ, HE, rfl⟩ := hrel
    rcases j with _ | j
    · go_wp2_with fail
      go_ret
      refine ⟨?_, rfl⟩
      rw [← HE.out]
      rfl
    · have hj0 : decide ((0 : Int) < ((j + 1 : Nat) : Int)) = true := decide_eq_true (by omega)
      have hjb : j < 65536 := by have := HJ.out; have := HN.out; have := HL.out; omega
      have hw1 : IntKind.i64.wrap (((j + 1 : Nat) : Int) - 1) = (j : Int) := by rw [IntWalk.i64_in _ (by omega)]; omega
      clear hjb
      obtain ⟨op, hop⟩ : ∃ op, ops[j]? = some op := ⟨_, List.getElem?_eq_getElem (by have := HJ.out; have := HN.out; omega)⟩
      obtain ⟨g, Ab, cb, e, hc0, hc1, hcb⟩ := rops_at K.out j op hop
      subst e
      obtain ⟨J, hJ⟩ : ∃ J, ((j + 1 : Nat) : Int) = J := ⟨_, rfl⟩
      rw [hJ] at hj0 hw1 ⊢
      have h1 : (j : Int) < (ops.length : Int) := by have := HJ.out; have := HN.out; omega
      have HJJ := Aside0.mk hJ
      have HOP := Aside0.mk hop
      clear hJ hcb hc1 hop
      by_cases hfo : op = flushOp
      · have hneg : decide ((0 : Int) ≤ op.1) = false := by rw [hfo]; rfl
        have HFO := Aside0.mk hfo
        clear hfo
        go_wp2_with fail
        go_ret
        refine ⟨?_, rfl⟩
        rw [← HE.out, looseN, if_pos (by rw [HOP.out, HFO.out])]
        show Ending.returned (Value.int .i64 J) = _
        rw [HJJ.out]
      · have hpos : decide ((0 : Int) ≤ op.1) = true := decide_eq_true (by
          obtain ⟨s, hs, _⟩ := ((HO.out op (List.mem_of_getElem? HOP.out)).2).resolve_left hfo
          omega)
        have HFO := Aside0.mk hfo
        clear hfo
        go_wp2_with fail
        refine ⟨⟨j, rfl, ⟨by have := HJ.out; omega⟩, ⟨?_⟩, by trivial⟩, ?_⟩
        · rw [← HE.out, looseN, if_neg (by rw [HOP.out]; intro e; injection e with e; exact HFO.out e)]
        · have := HJJ.out
          simp only [intOf]
          omega
end Go.Proofs.YtpaonoaedjkekaaDoor.Dk
