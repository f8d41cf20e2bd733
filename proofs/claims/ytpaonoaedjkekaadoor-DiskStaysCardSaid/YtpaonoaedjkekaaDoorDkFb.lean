/- What a crash leaves of a sector: front and back, as the law computes them. Plain facts. -/
import Derived.Test.YtpaonoaedjkekaaDoorDkSm
namespace Go.Proofs.YtpaonoaedjkekaaDoor.Dk
open Go Go.RowKit Go.Proofs.YtpaonoaedjkekaaDoor.PD Go.Proofs.YtpaonoaedjkekaaDoorW.PrintWords Go.Proofs.YtpaonoaedjkekaaDoorW.PrintLast Go.Proofs.YtpaonoaedjkekaaDoorW.PrintMore
set_option linter.unusedVariables false
set_option linter.unusedSimpArgs false
/-- A loose put, seen from a sector: its front and its back. -/
def stepFB (s : Nat) (own : List Int) (t : Int) (j : Nat) (x : Int × Int) (p : S37) : Int × Int :=
  if sec p.f0 = s then (if (j : Int) ∈ own then (p.f1, p.f1) else if (j : Int) = t then (p.f1, x.2) else x) else x
def fbL (s : Nat) (own : List Int) (t : Int) : Int × Int → Nat → List S37 → Int × Int
  | x, _, [] => x
  | x, j, p :: l => fbL s own t (stepFB s own t j x p) (j + 1) l
theorem fbL_snoc (s : Nat) (own : List Int) (t : Int) (p : S37) : ∀ (l : List S37) (x : Int × Int) (j : Nat), fbL s own t x j (l ++ [p]) = stepFB s own t (j + l.length) (fbL s own t x j l) p
  | [], _, _ => rfl
  | q :: l, x, j => by
    have := fbL_snoc s own t p l (stepFB s own t j x q) (j + 1)
    simp only [List.cons_append, fbL, this, List.length_cons]
    rw [Nat.add_assoc, Nat.add_comm 1]
/-- A byte of a sector, of its front or its back. -/
def ofFB (y : Nat) (x : Int × Int) (i : Nat) : Int := if i < y then x.1 else x.2
theorem Img.layC {im : List Int} {F : Nat → Int × Int} (own : List Int) (t : Int) (y : Nat) (hy : y ≤ 128) (h : Img im (fun s i => ofFB y (F s) i)) (j : Nat) (p : S37) (hp : p.f2 = false) :
    Img (Dk.layC own t y im j (opOf p)) (fun s i => ofFB y (stepFB s own t j (F s) p) i) := by
  have e : opOf p = ((sec p.f0 : Int), List.replicate 128 p.f1) := by unfold opOf; rw [if_neg (by rw [hp]; simp)]
  unfold Dk.layC
  rw [e]
  simp only [Int.toNat_natCast]
  by_cases h1 : (j : Int) ∈ own
  · rw [if_pos h1]
    refine (h.put (sec p.f0) (sec_lt _) (List.replicate 128 p.f1) p.f1 128 (Nat.le_refl _) rfl).congr fun s i _ hi => ?_
    unfold stepFB
    by_cases hs : s = sec p.f0
    · rw [if_pos ⟨hs, hi⟩, if_pos hs.symm, if_pos h1]
      simp [ofFB]
    · rw [if_neg (fun e => hs e.1), if_neg (fun e => hs e.symm)]
  · rw [if_neg h1]
    by_cases h2 : (j : Int) = t
    · rw [if_pos h2, List.take_replicate, Nat.min_eq_left hy]
      refine (h.put (sec p.f0) (sec_lt _) (List.replicate y p.f1) p.f1 y hy rfl).congr fun s i _ hi => ?_
      unfold stepFB
      by_cases hs : s = sec p.f0
      · rw [if_pos hs.symm, if_neg h1, if_pos h2]
        by_cases hi2 : i < y
        · rw [if_pos ⟨hs, hi2⟩]; simp [ofFB, hi2]
        · rw [if_neg (fun e => hi2 e.2)]; simp [ofFB, hi2]
      · rw [if_neg (fun e => hs e.1), if_neg (fun e => hs e.symm)]
    · rw [if_neg h2]
      refine h.congr fun s i _ _ => ?_
      unfold stepFB
      rw [if_neg h1, if_neg h2, ite_self]
theorem Img.crash (own : List Int) (t : Int) (y : Nat) (hy : y ≤ 128) : ∀ (l : List S37) {im : List Int} {F : Nat → Int × Int} (j : Nat), (∀ p ∈ l, p.f2 = false) → Img im (fun s i => ofFB y (F s) i) →
    Img (crashL own t y im j (opsOf l)) (fun s i => ofFB y (fbL s own t (F s) j l) i)
  | [], _, _, _, _, h => h
  | p :: l, _, _, j, hl, h => Img.crash own t y hy l (j + 1) (fun q hq => hl q (List.mem_cons_of_mem _ hq)) (h.layC own t y hy j p (hl p List.mem_cons_self))
theorem barN_le (puts : List S37) : ∀ n, barN puts n ≤ n
  | 0 => Nat.le_refl _
  | n + 1 => by
    unfold barN
    split
    · exact Nat.le_refl _
    · exact Nat.le_succ_of_le (barN_le puts n)
theorem barN_take (puts : List S37) (m : Nat) : ∀ n, n ≤ m → barN (puts.take m) n = barN puts n
  | 0, _ => rfl
  | n + 1, h => by
    unfold barN
    rw [barN_take puts m n (by omega), List.getElem?_take, if_pos (show n < m by omega)]
theorem barN_loose (puts : List S37) : ∀ (n i : Nat) (p : S37), barN puts n ≤ i → i < n → puts[i]? = some p → p.f2 = false
  | 0, _, _, _, h, _ => by omega
  | n + 1, i, p, h1, h2, hp => by
    unfold barN at h1
    split at h1
    · omega
    · rename_i hne
      by_cases e : i = n
      · subst e
        rw [hp] at hne
        simpa using hne
      · exact barN_loose puts n i p h1 (by omega) hp
/-- What At tells of a disk behind some puts. -/
theorem at_img (puts : List S37) (n : Nat) (hn : n ≤ puts.length) (own : List Int) (t : Int) (y : Nat) (hy : y ≤ 128) :
    Img (atL Dk.blank (opsOf puts) n own t y) (fun s i => ofFB y (fbL s own t (lastB (puts.take (barN puts n)) s, lastB (puts.take (barN puts n)) s) 0 ((puts.drop (barN puts n)).take (n - barN puts n))) i) := by
  unfold atL
  rw [looseN_opsOf, opsOf_takeN, opsOf_dropN, opsOf_takeN]
  refine Img.crash own t y hy _ 0 (fun p hp => ?_) ((behind_img _).congr fun s i _ _ => by simp [ofFB])
  obtain ⟨i, hi⟩ := List.getElem?_of_mem hp
  rw [List.getElem?_take] at hi
  split at hi
  · rw [List.getElem?_drop] at hi
    exact barN_loose puts n _ p (Nat.le_add_right _ i) (by omega) hi
  · cases hi
/-- The law's own list of kept writes: numbers below m. -/
def ownL (m : Nat) (keep : List Int) : List Int := if m = 0 then [] else keep.map fun x => (modw x (m - 1) : Int)
theorem ownL_snoc {m : Nat} (hm : 0 < m) {keep : List Int} {i : Nat} {x : Int} (h : keep[i]? = some x) : ownL m (keep.take (i + 1)) = ownL m (keep.take i) ++ [(modw x (m - 1) : Int)] := by
  unfold ownL
  rw [if_neg (by omega), if_neg (by omega), take_snoc h, List.map_append]
  rfl
end Go.Proofs.YtpaonoaedjkekaaDoor.Dk
