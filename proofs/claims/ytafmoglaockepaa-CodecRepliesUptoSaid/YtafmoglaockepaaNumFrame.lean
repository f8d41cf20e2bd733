/- What the program's numbers answer: Num's own reading and writing. -/
import Derived.Test.YtafmoglaockepaaNumSpec
import Derived.Test.YtafmoglaockepaaPGx3
import Derived.Test.YtafmoglaockepaaPGx4
namespace Go.Proofs.Ytafmoglaockepaa.Num
open Go Go.RowKit Go.Proofs.YtafmoglaockepaaW.PrintWords Go.Proofs.YtafmoglaockepaaW.PrintLast Go.Proofs.YtafmoglaockepaaW.PrintMore Go.Proofs.Ytafmoglaockepaa.PG

set_option linter.unusedVariables false
theorem group_wide (k : Nat) (hk : 0 < k) (n c : Int) (h : c > 1) : frame_group.f k n 9 c = some (0, false, 11) := by
  obtain ⟨k, rfl⟩ : ∃ m, k = m + 1 := ⟨k - 1, by omega⟩
  unfold frame_group.f
  rw [if_pos rfl, decide_eq_true h]
  simp [frame_group.j0]
theorem group_form (k : Nat) (hk : 0 < k) (n : Int) (i : Nat) (h : 0 < i) : frame_group.f k n i 0 = some (0, false, 10) := by
  obtain ⟨k, rfl⟩ : ∃ m, k = m + 1 := ⟨k - 1, by omega⟩
  unfold frame_group.f
  split
  · rw [decide_eq_false (by decide)]
    simp only [frame_group.j0]
    rw [if_neg (by decide), if_pos trivial, if_pos (by omega)]
  · simp only [frame_group.j0]
    rw [if_neg (by decide), if_pos trivial, if_pos (by omega)]
theorem group_ok (k : Nat) (hk : 0 < k) (i n : Nat) (c : Int) (hi : i ≤ 9) (hn : n < 128 ^ i) (hc : 0 ≤ c ∧ c < 256) (h1 : ¬ (i = 9 ∧ c > 1)) (h2 : ¬ (0 < i ∧ c = 0)) :
    frame_group.f k n i c = some (((n + c.toNat % 128 * 128 ^ i : Nat) : Int), decide (c < 128), 0) := by
  obtain ⟨k, rfl⟩ : ∃ m, k = m + 1 := ⟨k - 1, by omega⟩
  have hw : 0 ≤ wrap64 ((i : Int) * 7) := by rw [w64 (by omega) (by omega)]; omega
  have hv : Go.bits .or .u64 (n : Int) (shl .u64 (IntKind.u64.wrap (Go.bits .andNot .u8 c 128)) (wrap64 ((i : Int) * 7))) = ((n + c.toNat % 128 * 128 ^ i : Nat) : Int) := by
    have hw : wrap64 ((i : Int) * 7) = ((7 * i : Nat) : Int) := by unfold wrap64; omega
    have hg := group_lt (i := i) (d := c.toNat % 128) hi (Nat.mod_lt _ (by decide)) (fun e => by omega)
    have h9 := pow_le9 hi
    have hb : Go.bits .andNot .u8 c 128 = ((c.toNat % 128 : Nat) : Int) := by
      have := u8_andNot_nat c.toNat 128 (by omega) (by decide)
      rw [show ((c.toNat : Nat) : Int) = c by omega, show (255 - 128 : Nat) = 127 from rfl, nat_mask7] at this
      exact this
    have hd : c.toNat % 128 < 128 := Nat.mod_lt _ (by decide)
    have hp : (2 : Int) ^ (7 * i) = ((128 ^ i : Nat) : Int) := by rw [← pow_128]; exact_mod_cast rfl
    rw [hb, hw, IntKind.wrap_u64, Int.emod_eq_of_lt (by omega) (by omega)]
    unfold shl
    rw [Int.toNat_natCast, Nat.min_eq_left (show 7 * i ≤ IntKind.u64.bits by show 7 * i ≤ 64; omega), hp, ← Int.natCast_mul, IntKind.wrap_u64, Int.emod_eq_of_lt (by omega) (by omega), u64_or_nat n _ (by omega) (by omega), or_add hn]
  have key : ∀ x : Bool, x = false → frame_group.j0 (k + 1) n i c x = some (((n + c.toNat % 128 * 128 ^ i : Nat) : Int), decide (c < 128), 0) := by
    intro x hx
    subst hx
    simp only [frame_group.j0]
    rw [if_neg (by decide), hv]
    by_cases h0 : c = 0
    · rw [if_pos h0, if_neg (by omega), if_pos hw]
    · rw [if_neg h0, if_pos hw]
  unfold frame_group.f
  split
  · exact key _ (decide_eq_false (by omega))
  · exact key _ rfl
theorem frame_uint_l0 (l : List Int) (hb : IsBytes l) (hl : l.length < 9223372036854775807) : ∀ (rest : List Int) (i n k : Nat), l.drop i = rest → i ≤ l.length → i ≤ 9 → n < 128 ^ i → rest.length + 1 < k →
    frame_Uint.l0 k l n l (l.length : Int) i = some (ug i n rest) := by
  intro rest
  induction rest with
  | nil =>
    intro i n k hd hil _ _ hk
    obtain ⟨k, rfl⟩ : ∃ m, k = m + 1 := ⟨k - 1, by omega⟩
    have : l.length ≤ i := by
      rcases Nat.lt_or_ge i l.length with h | h
      · have := congrArg List.length hd; simp at this; omega
      · exact h
    simp only [frame_Uint.l0]
    rw [if_neg (by omega), ug, show i = l.length by omega]
  | cons c t ih =>
    intro i n k hd _ hi hn hk
    obtain ⟨k, rfl⟩ : ∃ m, k = m + 1 := ⟨k - 1, by omega⟩
    obtain ⟨hlt, hrd, hd2⟩ := rd_drop hd
    have hc : 0 ≤ c ∧ c < 256 := (hb.drop i) c (by rw [hd]; exact List.mem_cons_self ..)
    simp only [List.length_cons] at hk
    simp only [frame_Uint.l0]
    rw [if_pos (by omega), if_pos (by omega), if_pos (by omega), hrd, ug]
    have hw : wrap64 ((i : Int) + 1) = ((i + 1 : Nat) : Int) := by unfold wrap64; omega
    by_cases h1 : i = 9 ∧ c > 1
    · rw [if_pos h1]
      obtain ⟨rfl, h1⟩ := h1
      rw [show ((9 : Nat) : Int) = 9 from rfl, group_wide k (by omega) _ c h1]
      simp
    · rw [if_neg h1]
      by_cases h2 : 0 < i ∧ c = 0
      · rw [if_pos h2]
        obtain ⟨h2, rfl⟩ := h2
        rw [group_form k (by omega) _ i h2]
        simp
      · rw [if_neg h2, group_ok k (by omega) i n c hi hn hc h1 h2]
        simp only [Option.bind_some, if_true]
        by_cases h3 : c < 128
        · rw [if_pos h3, if_pos (decide_eq_true h3), hw]
        · rw [if_neg h3, if_neg (by simp [h3]), hw]
          exact ih (i + 1) _ k hd2 (by omega) (by omega) (next_lt hn (Nat.mod_lt _ (by decide))) (by omega)
theorem frame_uint (l : List Int) (hb : IsBytes l) (hl : l.length < 9223372036854775807) (k : Nat) (hk : l.length + 1 < k) : frame_Uint.f k l = some (ug 0 0 l) := by
  unfold frame_Uint.f
  exact frame_uint_l0 l hb hl l 0 0 k rfl (by omega) (by omega) (by decide) hk

theorem grown_ok (l : List Int) (n : Int) (h0 : 0 ≤ n) (h1 : n ≤ 140737488355328) (hl : l.length < 140737488355328) : frame_grown.f l n = some l := by
  unfold frame_grown.f
  have hw : wrap64 ((l.length : Int) + n) = (l.length : Int) + n := by unfold wrap64; omega
  rw [hw, if_pos (by omega), if_pos (by omega)]
  simp only [Option.bind_some, List.length_nil, List.nil_append]
  rw [if_pos (by omega)]
theorem putUint_l0 (f : Nat) : ∀ (n k : Nat) (x : List Int), n < 128 ^ f → 0 < f → n < 18446744073709551616 → f < k → x.length + f < 140737488355328 → frame_putUint.l0 k x n = some (x ++ enc f n) := by
  induction f with
  | zero => intro n k x _ h; omega
  | succ f ih =>
    intro n k x hn _ hb hk hx
    obtain ⟨k, rfl⟩ : ∃ m, k = m + 1 := ⟨k - 1, by omega⟩
    simp only [frame_putUint.l0]
    rw [enc]
    by_cases h : n < 128
    · rw [if_neg (by omega), if_pos (by omega), if_pos h, show (n : Int) % 256 = n by omega]
    · rw [if_pos (by omega), if_pos (by omega), if_neg h]
      have h2 : n / 128 < 128 ^ f := by rw [Nat.pow_succ] at hn; omega
      have hf : 0 < f := by
        rcases Nat.eq_zero_or_pos f with h0 | h0
        · subst h0; simp at hn; omega
        · exact h0
      have hv : Go.bits .or .u8 ((n : Int) % 256) 128 = ((n % 128 + 128 : Nat) : Int) := by
        have := u8_or_nat (n % 256) 128 (by omega) (by decide)
        rw [show ((n % 256 : Nat) : Int) = (n : Int) % 256 by omega] at this
        rw [show ((128 : Nat) : Int) = 128 from rfl] at this
        rw [this]
        congr 1
        have h3 : n % 256 = n % 256 / 128 * 128 + n % 128 := by omega
        rw [show n % 256 ||| 128 = (n % 128) + 128 from ?_]
        have h5 : n % 256 < 256 := Nat.mod_lt _ (by decide)
        have h6 : n % 128 = n % 256 % 128 := by omega
        rw [h6]
        generalize n % 256 = m at h5
        have : ∀ m, m < 256 → m ||| 128 = m % 128 + 128 := by decide +kernel
        exact this m h5
      rw [hv, show (n : Int) / 128 = ((n / 128 : Nat) : Int) by omega, ih (n / 128) k _ h2 hf (by omega) (by omega) (by simp; omega), List.append_assoc]
      rfl
theorem pow10 : (18446744073709551616 : Nat) ≤ 128 ^ 10 := by decide
theorem putUint_raw (k : Nat) (hk : 10 < k) (l : List Int) (n : Nat) (hn : n < 18446744073709551616) (hl : l.length + 10 < 140737488355328) : frame_putUint.f k l n = some (l ++ enc 10 n) :=
  putUint_l0 10 n k l (Nat.lt_of_lt_of_le hn pow10) (by decide) hn hk hl
theorem putUint_ok (k : Nat) (hk : 10 < k) (l : List Int) (n : Nat) (hn : n < 18446744073709551616) (hl : l.length + 10 < 140737488355328) : frame_PutUint.f k l n = some (l ++ enc 10 n) := by
  unfold frame_PutUint.f
  rw [grown_ok l 10 (by decide) (by decide) (by omega)]
  simp only [Option.bind_some]
  rw [putUint_raw k hk l n hn hl]
  rfl
end Go.Proofs.Ytafmoglaockepaa.Num
