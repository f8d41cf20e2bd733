/- Images of six sectors, byte by byte: what stands there behind some puts, and behind a crash. Plain facts. -/
import Derived.Test.YtpaonoaedjkekaaDoorDkP
namespace Go.Proofs.YtpaonoaedjkekaaDoor.Dk
open Go Go.RowKit Go.Proofs.YtpaonoaedjkekaaDoor.PD Go.Proofs.YtpaonoaedjkekaaDoorW.PrintWords Go.Proofs.YtpaonoaedjkekaaDoorW.PrintLast Go.Proofs.YtpaonoaedjkekaaDoorW.PrintMore
set_option linter.unusedVariables false
set_option linter.unusedSimpArgs false
/-- An image of six sectors: byte i of sector s is f s i. -/
def Img (im : List Int) (f : Nat → Nat → Int) : Prop := im.length = 768 ∧ ∀ s i, s < 6 → i < 128 → im[128 * s + i]? = some (f s i)
theorem Img.ext {im im' : List Int} {f g : Nat → Nat → Int} (h : Img im f) (h' : Img im' g) (e : ∀ s i, s < 6 → i < 128 → f s i = g s i) : im = im' := by
  apply List.ext_getElem?
  intro j
  by_cases hj : j < 768
  · have h1 := h.2 (j / 128) (j % 128) (by omega) (by omega)
    have h2 := h'.2 (j / 128) (j % 128) (by omega) (by omega)
    rw [show 128 * (j / 128) + j % 128 = j from by omega] at h1 h2
    rw [h1, h2, e _ _ (by omega) (by omega)]
  · rw [List.getElem?_eq_none (by have := h.1; omega), List.getElem?_eq_none (by have := h'.1; omega)]
theorem Img.congr {im : List Int} {f g : Nat → Nat → Int} (h : Img im f) (e : ∀ s i, s < 6 → i < 128 → f s i = g s i) : Img im g :=
  ⟨h.1, fun s i hs hi => by rw [h.2 s i hs hi, e s i hs hi]⟩
theorem put_get (im q : List Int) (k : Nat) (h : k + q.length ≤ im.length) (j : Nat) :
    (im.take k ++ q ++ im.drop (k + q.length))[j]? = if k ≤ j ∧ j < k + q.length then q[j - k]? else im[j]? := by
  have hl : (im.take k).length = k := by rw [List.length_take]; omega
  by_cases h1 : j < k
  · rw [if_neg (by omega), List.append_assoc, List.getElem?_append_left (by omega), List.getElem?_take, if_pos h1]
  · by_cases h2 : j < k + q.length
    · rw [if_pos (by omega), List.append_assoc, List.getElem?_append_right (by omega), hl, List.getElem?_append_left (by omega)]
    · rw [if_neg (by omega), List.getElem?_append_right (by rw [List.length_append, hl]; omega), List.length_append, hl, List.getElem?_drop]
      congr 1
      omega
/-- Bytes laid at the beginning of a sector. -/
theorem Img.put {im : List Int} {f : Nat → Nat → Int} (h : Img im f) (k : Nat) (hk : k < 6) (q : List Int) (b : Int) (m : Nat) (hm : m ≤ 128) (hq : q = List.replicate m b) :
    Img (im.take (128 * k) ++ q ++ im.drop (128 * k + m)) (fun s i => if s = k ∧ i < m then b else f s i) := by
  subst hq
  have hl : (List.replicate m b).length = m := List.length_replicate ..
  refine ⟨by simp only [List.length_append, List.length_take, List.length_drop, hl, h.1]; omega, fun s i hs hi => ?_⟩
  have := put_get im (List.replicate m b) (128 * k) (by rw [hl, h.1]; omega) (128 * s + i)
  rw [hl] at this
  rw [this]
  show _ = some (if s = k ∧ i < m then b else f s i)
  by_cases hsk : s = k
  · subst hsk
    by_cases him : i < m
    · rw [if_pos (by omega), if_pos ⟨rfl, him⟩, List.getElem?_replicate, if_pos (by omega)]
    · rw [if_neg (by omega), if_neg (by omega)]
      exact h.2 s i hs hi
  · rw [if_neg (by omega), if_neg (by omega)]
    exact h.2 s i hs hi
theorem Img.blank : Img blank (fun _ _ => 0) := ⟨by unfold Dk.blank; exact List.length_replicate .., fun s i hs hi => by unfold Dk.blank; rw [List.getElem?_replicate, if_pos (by omega)]⟩
/-- One put, seen from a sector. -/
def stepB (s : Nat) (b : Int) (p : S37) : Int := if p.f2 = false ∧ sec p.f0 = s then p.f1 else b
/-- The byte of a sector behind some puts. -/
def lastB (puts : List S37) (s : Nat) : Int := puts.foldl (stepB s) 0
theorem opOf_flush (p : S37) : opOf p = flushOp ↔ p.f2 = true := by
  unfold opOf
  split
  · rename_i h; simp [h]
  · rename_i h
    refine ⟨fun e => ?_, fun e => (h e).elim⟩
    have := congrArg Prod.fst e
    simp only [flushOp] at this
    omega
theorem Img.lay {im : List Int} {f : Nat → Nat → Int} (h : Img im f) (p : S37) : Img (layOp im (opOf p)) (fun s i => stepB s (f s i) p) := by
  unfold layOp
  by_cases hp : p.f2 = true
  · rw [if_pos ((opOf_flush p).2 hp)]
    refine h.congr fun s i _ _ => ?_
    unfold stepB
    rw [hp]
    simp
  · rw [if_neg (fun e => hp ((opOf_flush p).1 e))]
    have e : opOf p = ((sec p.f0 : Int), List.replicate 128 p.f1) := by unfold opOf; rw [if_neg hp]
    rw [e]
    refine (h.put (sec p.f0) (sec_lt _) (List.replicate 128 p.f1) p.f1 128 (Nat.le_refl _) rfl).congr fun s i _ hi => ?_
    have hpf : p.f2 = false := by simpa using hp
    unfold stepB
    by_cases hs : s = sec p.f0
    · rw [if_pos ⟨hs, hi⟩, if_pos ⟨hpf, hs.symm⟩]
    · rw [if_neg (fun e => hs e.1), if_neg (fun e => hs e.2.symm)]
theorem Img.behind : ∀ (puts : List S37) {im : List Int} {f : Nat → Nat → Int}, Img im f → Img (behindL im (opsOf puts)) (fun s i => puts.foldl (stepB s) (f s i))
  | [], _, _, h => h
  | p :: puts, _, _, h => Img.behind puts (h.lay p)
theorem behind_img (puts : List S37) : Img (behindL Dk.blank (opsOf puts)) (fun s _ => lastB puts s) := Img.behind puts Img.blank
theorem sector_img {im : List Int} {f : Nat → Nat → Int} (h : Img im f) (s : Nat) (hs : s < 6) : (sectorL im s).length = 128 ∧ ∀ i, i < 128 → (sectorL im s)[i]? = some (f s i) := by
  unfold sectorL
  refine ⟨by rw [List.length_take, List.length_drop, h.1]; omega, fun i hi => ?_⟩
  rw [List.getElem?_take, if_pos hi, List.getElem?_drop]
  exact h.2 s i hs hi
theorem sector_one {im : List Int} {f : Nat → Nat → Int} (h : Img im f) (s : Nat) (hs : s < 6) (b : Int) (hb : ∀ i, i < 128 → f s i = b) : sectorL im s = List.replicate 128 b := by
  obtain ⟨h1, h2⟩ := sector_img h s hs
  apply List.ext_getElem?
  intro j
  rw [List.getElem?_replicate]
  split
  · rename_i hj
    rw [h2 j hj, hb j hj]
  · rw [List.getElem?_eq_none (by omega)]
/-- How many puts there are up to the last flush. -/
def barN (puts : List S37) : Nat → Nat
  | 0 => 0
  | n + 1 => if (puts[n]?).map (·.f2) = some true then n + 1 else barN puts n
theorem looseN_opsOf (puts : List S37) : ∀ n, looseN (opsOf puts) n = barN puts n
  | 0 => rfl
  | n + 1 => by
    have ih := looseN_opsOf puts n
    unfold looseN barN
    rw [ih]
    have e : (opsOf puts)[n]? = (puts[n]?).map opOf := by simp [opsOf]
    rw [e]
    cases puts[n]? with
    | none => simp
    | some p =>
      simp only [Option.map_some, Option.some.injEq]
      by_cases hp : p.f2 = true
      · rw [if_pos ((opOf_flush p).2 hp), if_pos hp]
      · rw [if_neg (fun e => hp ((opOf_flush p).1 e)), if_neg hp]
theorem opsOf_takeN (puts : List S37) (n : Nat) : (opsOf puts).take n = opsOf (puts.take n) := by simp [opsOf, List.map_take]
theorem opsOf_dropN (puts : List S37) (n : Nat) : (opsOf puts).drop n = opsOf (puts.drop n) := by simp [opsOf, List.map_drop]
end Go.Proofs.YtpaonoaedjkekaaDoor.Dk
