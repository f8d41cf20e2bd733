/- The small functions of the disk's laws: what the printed ones answer, and few, sectors walked. -/
import Derived.Test.YtpaonoaedjkekaaDoorDkSec
import Derived.Test.YtpaonoaedjkekaaDoorDkC
namespace Go.Proofs.YtpaonoaedjkekaaDoor.Dk
open Go Go.RowKit Go.Proofs.YtpaonoaedjkekaaDoor.PD Go.Proofs.YtpaonoaedjkekaaDoorW.PrintWords Go.Proofs.YtpaonoaedjkekaaDoorW.PrintLast Go.Proofs.YtpaonoaedjkekaaDoorW.PrintMore
set_option linter.unusedVariables false
set_option linter.unusedSimpArgs false
set_option maxHeartbeats 4000000
set_option maxRecDepth 100000
theorem w64n {k : Nat} (h : k < 9223372036854775807) : wrap64 ((k : Int) + 1) = ((k + 1 : Nat) : Int) := by unfold wrap64; omega
theorem rd37 {puts : List S37} {i : Nat} {p : S37} (h : puts[i]? = some p) : rd_T37 puts (i : Int) = p := by
  unfold rd_T37; rw [Int.toNat_natCast, List.getD_eq_getElem?_getD, h]; rfl
theorem lastB_snoc {puts : List S37} {i : Nat} {p : S37} (h : puts[i]? = some p) (n : Nat) : lastB (puts.take (i + 1)) n = stepB n (lastB (puts.take i) n) p := by
  rw [take_snoc h]; simp [lastB, List.foldl_append]
theorem lastOf_l0 (puts : List S37) (hP : Puts puts) (hl : puts.length < 9223372036854775807) (n : Nat) : ∀ (k i : Nat), i + k = puts.length → larderlaw06_lastOf.l0 (k + 1) puts (n : Int) (lastB (puts.take i) n) (i : Int) = some (lastB puts n)
  | 0, i, h => by
    unfold larderlaw06_lastOf.l0
    rw [if_neg (by omega), List.take_of_length_le (by omega)]
  | k + 1, i, h => by
    have ih := lastOf_l0 puts hP hl n k (i + 1) (by omega)
    obtain ⟨p, hp⟩ : ∃ p, puts[i]? = some p := ⟨_, List.getElem?_eq_getElem (by omega)⟩
    rw [lastB_snoc hp] at ih
    unfold larderlaw06_lastOf.l0
    rw [if_pos (by omega), if_pos (by omega), rd37 hp, w64n (by omega)]
    by_cases hf : p.f2 = true
    · rw [if_pos hf]
      rw [stepB, if_neg (by rw [hf]; simp)] at ih
      exact ih
    · have hf' : p.f2 = false := by simpa using hf
      rw [if_neg hf, within_ok p.f0 (hP p (List.mem_of_getElem? hp)), Option.bind_some]
      by_cases hs : sec p.f0 = n
      · rw [if_pos (by omega)]
        rw [stepB, if_pos ⟨hf', hs⟩] at ih
        exact ih
      · rw [if_neg (by omega)]
        rw [stepB, if_neg (fun e => hs e.2)] at ih
        exact ih
theorem lastOf_ok (puts : List S37) (hP : Puts puts) (hl : puts.length < 9223372036854775807) (n : Nat) : larderlaw06_lastOf.f (puts.length + 1) puts (n : Int) = some (lastB puts n) :=
  lastOf_l0 puts hP hl n puts.length 0 (by omega)
theorem barrier_l0 (puts : List S37) (hl : puts.length < 9223372036854775807) : ∀ (i : Nat), i ≤ puts.length → larderlaw06_barrier.l0 (i + 1) puts (i : Int) = some (barN puts i : Int)
  | 0, h => by
    unfold larderlaw06_barrier.l0
    rw [if_neg (by decide)]
    rfl
  | i + 1, h => by
    have ih := barrier_l0 puts hl i (by omega)
    obtain ⟨p, hp⟩ : ∃ p, puts[i]? = some p := ⟨_, List.getElem?_eq_getElem (by omega)⟩
    have e1 : wrap64 (((i + 1 : Nat) : Int) - 1) = (i : Int) := by unfold wrap64; omega
    unfold larderlaw06_barrier.l0
    rw [if_pos (by omega), e1, if_pos (by omega), if_pos (by omega), rd37 hp]
    unfold barN
    rw [hp, Option.map_some]
    by_cases hf : p.f2 = true
    · rw [if_pos hf, if_pos (by rw [hf])]
    · rw [if_neg hf, if_neg (by simpa using hf)]
      exact ih
theorem barrier_ok (puts : List S37) (hl : puts.length < 9223372036854775807) : larderlaw06_barrier.f (puts.length + 1) puts = some (barN puts puts.length : Int) :=
  barrier_l0 puts hl puts.length (Nat.le_refl _)
theorem all_l0 (b : Int) (n : Nat) (hn : n < 9223372036854775807) : ∀ (k i : Nat), i + k = n → larderlaw06_all.l0 (k + 1) (List.replicate n b) b (i : Int) = some ((n : Int) == 128)
  | 0, i, h => by
    unfold larderlaw06_all.l0
    rw [List.length_replicate, if_neg (by omega)]
  | k + 1, i, h => by
    have ih := all_l0 b n hn k (i + 1) (by omega)
    have e : rd (List.replicate n b) (i : Int) = b := by
      unfold rd
      rw [Int.toNat_natCast, List.getD_eq_getElem?_getD, List.getElem?_replicate, if_pos (by omega)]
      rfl
    unfold larderlaw06_all.l0
    rw [List.length_replicate, if_pos (by omega), if_pos (by omega), e, if_pos rfl, w64n (by omega)]
    exact ih
theorem all_ok (b : Int) : larderlaw06_all.f 129 (List.replicate 128 b) b = some true := all_l0 b 128 (by decide) 128 0 rfl
theorem bytes_l0 (xs : List Int) (hn : xs.length < 9223372036854775807) : ∀ (k i : Nat), i + k = xs.length → larderlaw06_bytes.l0 (k + 1) xs xs (i : Int) = some true
  | 0, i, h => by
    unfold larderlaw06_bytes.l0
    rw [if_neg (by omega)]
  | k + 1, i, h => by
    have ih := bytes_l0 xs hn k (i + 1) (by omega)
    unfold larderlaw06_bytes.l0
    rw [if_pos (by omega), if_pos (by omega), if_pos (by omega), if_pos rfl, w64n (by omega)]
    exact ih
theorem bytes_ok (xs : List Int) (hn : xs.length < 9223372036854775807) : larderlaw06_bytes.f (xs.length + 1) xs xs = some true := by
  unfold larderlaw06_bytes.f
  rw [if_pos rfl]
  exact bytes_l0 xs hn xs.length 0 (by omega)
/-- Which of n + 1 a number means. -/
def modw (x : Int) (n : Nat) : Nat := if x < 0 then ((-(x + 1)) % ((n : Int) + 1)).toNat else (x % ((n : Int) + 1)).toNat
theorem modw_le (x : Int) (n : Nat) : modw x n ≤ n := by
  have h1 := Int.emod_lt_of_pos (-(x + 1)) (show (0 : Int) < (n : Int) + 1 by omega)
  have h2 := Int.emod_lt_of_pos x (show (0 : Int) < (n : Int) + 1 by omega)
  unfold modw
  split <;> omega
theorem modw_sec (x : Int) : modw x 5 = sec x := rfl
theorem within_to (x : Int) (n : Nat) (hn : n < 9223372036854775807) (h : -9223372036854775808 ≤ x ∧ x ≤ 9223372036854775807) : larderlaw06_within.f x 0 (n : Int) = some (modw x n : Int) := by
  have hw : ∀ z : Int, -9223372036854775808 ≤ z → z ≤ 9223372036854775807 → wrap64 z = z := fun z h1 h2 => by unfold wrap64; omega
  have e6 : wrap64 ((wrap64 ((n : Int) - 0)) + 1) = (n : Int) + 1 := by rw [hw ((n : Int) - 0) (by omega) (by omega), hw _ (by omega) (by omega)]; omega
  unfold larderlaw06_within.f
  simp only [e6]
  by_cases hx : x < 0
  · rw [if_pos hx, if_neg (by omega), hw (x + 1) (by omega) (by omega), hw (-(x + 1)) (by omega) (by omega), Int.tmod_eq_emod_of_nonneg (by omega)]
    have h1 := Int.emod_lt_of_pos (-(x + 1)) (show (0 : Int) < (n : Int) + 1 by omega)
    have h2 := Int.emod_nonneg (-(x + 1)) (show (n : Int) + 1 ≠ 0 by omega)
    have e3 : (modw x n : Int) = (-(x + 1)) % ((n : Int) + 1) := by unfold modw; rw [if_pos hx]; omega
    rw [e3]
    generalize (-(x + 1)) % ((n : Int) + 1) = z at *
    rw [hw _ (by omega) (by omega)]
    congr 1
    omega
  · rw [if_neg hx, if_neg (by omega), Int.tmod_eq_emod_of_nonneg (by omega)]
    have h1 := Int.emod_lt_of_pos x (show (0 : Int) < (n : Int) + 1 by omega)
    have h2 := Int.emod_nonneg x (show (n : Int) + 1 ≠ 0 by omega)
    have e3 : (modw x n : Int) = x % ((n : Int) + 1) := by unfold modw; rw [if_neg hx]; omega
    rw [e3]
    generalize x % ((n : Int) + 1) = z at *
    rw [hw _ (by omega) (by omega)]
    congr 1
    omega
theorem few_at (A : Option Addr) (n c : Nat) (hc : n ≤ c) (W : World) : Calls Tryd.prog 11 #[.slice A n c] W fun e w' => e = .returned (.slice A (min n 300) c) ∧ w' = W := by
  by_cases h : n ≤ 300
  · have c1 : ¬ ((300 : Int) < (n : Int)) := by omega
    have e1 := Aside0.mk (Nat.min_eq_left h)
    clear h
    go_enter Tryd.func11, Tryd.ntmps11
    go_wp2_with fail
    go_ret
    exact ⟨by rw [e1.out]; rfl, rfl⟩
  · have c1 : (300 : Int) < (n : Int) := by omega
    have c2 : (300 : Int) ≤ (c : Int) := by omega
    have c3 : 300 ≤ c := by omega
    have e1 := Aside0.mk (Nat.min_eq_right (show 300 ≤ n by omega))
    clear h
    go_enter Tryd.func11, Tryd.ntmps11
    go_wp2_with fail
    go_ret
    exact ⟨by rw [e1.out]; rfl, rfl⟩
theorem sectors_of (g c s : Nat) (hs : s < 6) (hc : 768 ≤ c) (W : World) : Calls Tryd.prog 17 #[.slice (some ⟨g, 0, none⟩) 768 c, .int .i64 (s : Int)] W fun e w' => e = .returned (.slice (some ⟨g, 128 * s, none⟩) 128 (c - 128 * s)) ∧ w' = W := by
  have h1 : wrap64 ((s : Int) * 128) = ((128 * s : Nat) : Int) := by unfold wrap64; omega
  have h2 : wrap64 ((s : Int) + 1) = ((s + 1 : Nat) : Int) := by unfold wrap64; omega
  have h3 : wrap64 (((s + 1 : Nat) : Int) * 128) = ((128 * s + 128 : Nat) : Int) := by unfold wrap64; omega
  go_enter Tryd.func17, Tryd.ntmps17
  go_wp2_with fail
  go_ret
  refine ⟨?_, rfl⟩
  rw [show s * 128 = 128 * s from by omega, show (s + 1) * 128 - 128 * s = 128 from by omega]
  rfl
theorem Puts.take {puts : List S37} (h : Puts puts) (n : Nat) : Puts (puts.take n) := fun p hp => h p (List.mem_of_mem_take hp)
theorem C_take37 {W : World} {A : Option Addr} {n : Nat} {puts : List S37} (h : Kd.C k37 W A n puts) (m : Nat) (hm : m ≤ n) : Kd.C k37 W A m (puts.take m) := by
  have hl := Kd.C_len h
  subst hl
  have := Kd.C_take h hm
  rwa [List.length_take, Nat.min_eq_left hm] at this
/-- Two rows of the same bytes are the same. -/
theorem bytes_at (xs : List Int) (hx : xs.length < 9223372036854775807) (A0 A1 : Option Addr) (n c0 c1 : Nat) (w : World) (hn : xs.length = n) (hr0 : Kd.C (Kd.int .u8) w A0 n xs) (hc0 : n ≤ c0) (hr1 : Kd.C (Kd.int .u8) w A1 n xs) (hc1 : n ≤ c1) :
    Calls Tryd.prog 26 #[.slice A0 n c0, .slice A1 n c1] w fun e w' => e = .returned (.bool true) ∧ ∃ m, w' = w.drewN m := by
  subst hn
  exact (larderlaw06_bytes.calls (xs.length + 1) A0 c0 xs A1 c1 xs true w hr0 hc0 hr1 hc1 (bytes_ok xs hx)).mono fun _ _ ⟨he, m, hm⟩ => ⟨he, m, hm⟩
theorem all_at (x : Int) (A0 : Option Addr) (c0 : Nat) (w : World) (hr0 : Kd.C (Kd.int .u8) w A0 128 (List.replicate 128 x)) (hc0 : 128 ≤ c0) :
    Calls Tryd.prog 24 #[.slice A0 128 c0, .int .u8 x] w fun e w' => e = .returned (.bool true) ∧ ∃ m, w' = w.drewN m := by
  have := larderlaw06_all.calls 129 A0 c0 (List.replicate 128 x) x true w (by rw [List.length_replicate]; exact hr0) (by rw [List.length_replicate]; exact hc0) (all_ok x)
  rw [List.length_replicate] at this
  exact this.mono fun _ _ ⟨he, m, hm⟩ => ⟨he, m, hm⟩
theorem full_at (x : Int) (w : World) : Calls Tryd.prog 28 #[.int .u8 x] w fun e w' => ∃ g c', e = .returned (.slice (some ⟨g, 0, none⟩) 128 c') ∧ Mem w' g (List.replicate 128 x) ∧ w.heap.size ≤ g ∧ 128 ≤ c' ∧ Below w.heap.size w w' := by
  refine (larderlaw06_full.calls 129 x _ w (full_ok x)).mono ?_
  rintro e w' ⟨v, rfl, hR, hb⟩
  obtain ⟨g, c', ev, hm, hB, _, hle⟩ := Mem.of_R hR (by rw [List.length_replicate]; decide)
  rw [List.length_replicate] at ev hle
  subst ev
  exact ⟨g, c', rfl, hm, hB, hle, hb⟩
theorem Mem.allN {W : World} {g : Nat} {xs : List Int} (h : Mem W g xs) {n : Nat} (hl : xs.length = n) (hn : n ≤ 9223372036854775807) : Kd.C (Kd.int .u8) W (some ⟨g, 0, none⟩) n xs := by
  subst hl; exact h.all hn
end Go.Proofs.YtpaonoaedjkekaaDoor.Dk
