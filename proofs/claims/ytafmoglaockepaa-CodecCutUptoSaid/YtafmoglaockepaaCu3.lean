/- What the codec writes and reads: texts of this session joined, with what is not needed left out. -/
import Derived.Laws.BitsAllLaws
import Derived.Laws.Bits64
import Derived.Test.YtafmoglaockepaaCu1
import Derived.Test.YtafmoglaockepaaCu2
import Derived.Lib.Zigzag
import Derived.WalkKit
import Derived.Deep.RegionHeld3
import Derived.Deep.RegionLaw
import Derived.WalkLawsBesides
section
namespace Go.Proofs.Ytafmoglaockepaa.Num
open Go Go.RowKit Go.Proofs.YtafmoglaockepaaW.PrintWords Go.Proofs.YtafmoglaockepaaW.PrintMore
theorem w64 {x : Int} (h0 : -9223372036854775808 ≤ x) (h1 : x ≤ 9223372036854775807) : wrap64 x = x := by unfold wrap64; omega
def IsBytes (l : List Int) : Prop := ∀ x ∈ l, 0 ≤ x ∧ x < 256
theorem IsBytes.append {a b : List Int} (ha : IsBytes a) (hb : IsBytes b) : IsBytes (a ++ b) := fun x hx => by
  rcases List.mem_append.1 hx with h | h
  · exact ha x h
  · exact hb x h
theorem IsBytes.drop {a : List Int} (ha : IsBytes a) (n : Nat) : IsBytes (a.drop n) := fun x hx => ha x (List.mem_of_mem_drop hx)
theorem IsBytes.take {a : List Int} (ha : IsBytes a) (n : Nat) : IsBytes (a.take n) := fun x hx => ha x (List.mem_of_mem_take hx)
def enc : Nat → Nat → List Int
  | 0, _ => []
  | f + 1, n => if n < 128 then [(n : Int)] else ((n % 128 + 128 : Nat) : Int) :: enc f (n / 128)
theorem enc_len (f : Nat) : ∀ n, (enc f n).length ≤ f := by
  induction f with
  | zero => intro n; simp [enc]
  | succ f ih =>
    intro n
    unfold enc
    split
    · simp
    · simp only [List.length_cons]; have := ih (n / 128); omega
theorem enc_pos (f : Nat) (n : Nat) : 0 < (enc (f + 1) n).length := by
  unfold enc
  split <;> simp
def ug : Nat → Nat → List Int → Int × Int × Int
  | i, _, [] => (0, (i : Int), 3)
  | i, n, c :: t => if i = 9 ∧ c > 1 then (0, (i : Int), 11) else if 0 < i ∧ c = 0 then (0, (i : Int), 10) else if c < 128 then (((n + c.toNat % 128 * 128 ^ i : Nat) : Int), ((i + 1 : Nat) : Int), 0) else ug (i + 1) (n + c.toNat % 128 * 128 ^ i) t
theorem pow_128 (i : Nat) : (2 : Nat) ^ (7 * i) = 128 ^ i := by rw [Nat.pow_mul]
theorem pow_le8 {i : Nat} (h : i ≤ 8) : 128 ^ i ≤ 72057594037927936 := Nat.le_trans (Nat.pow_le_pow_right (by decide) h) (by decide)
theorem pow_le9 {i : Nat} (h : i ≤ 9) : 128 ^ i ≤ 9223372036854775808 := Nat.le_trans (Nat.pow_le_pow_right (by decide) h) (by decide)
theorem group_lt {i d : Nat} (hi : i ≤ 9) (hd : d < 128) (h9 : i = 9 → d ≤ 1) : d * 128 ^ i ≤ 9223372036854775808 := by
  rcases Nat.lt_or_ge i 9 with h | h
  · have h1 := pow_le8 (show i ≤ 8 by omega)
    have h2 : d * 128 ^ i ≤ 127 * 72057594037927936 := Nat.mul_le_mul (by omega) h1
    omega
  · obtain rfl : i = 9 := by omega
    have h2 : d * 128 ^ 9 ≤ 1 * 128 ^ 9 := Nat.mul_le_mul_right _ (h9 rfl)
    have h3 : (128 : Nat) ^ 9 = 9223372036854775808 := by decide
    omega
theorem or_add {i n d : Nat} (hn : n < 128 ^ i) : n ||| d * 128 ^ i = n + d * 128 ^ i := by
  rw [Nat.or_comm, nat_join (7 * i) (d * 128 ^ i) n, Nat.add_comm]
  · rw [pow_128, Nat.mul_mod_left]
  · rw [pow_128]; exact hn
theorem next_lt {i n d : Nat} (hn : n < 128 ^ i) (hd : d < 128) : n + d * 128 ^ i < 128 ^ (i + 1) := by
  rw [Nat.pow_succ]
  have h1 : d * 128 ^ i ≤ 127 * 128 ^ i := Nat.mul_le_mul_right _ (by omega)
  omega
theorem ug_lt (l : List Int) : ∀ (i n : Nat), i ≤ 9 → n < 128 ^ i → IsBytes l → 0 ≤ (ug i n l).1 ∧ (ug i n l).1 < 18446744073709551616 := by
  induction l with
  | nil => intro i n _ _ _; simp [ug]
  | cons c t ih =>
    intro i n hi hn hb
    have hc := hb c (List.mem_cons_self ..)
    unfold ug
    by_cases h1 : i = 9 ∧ c > 1
    · rw [if_pos h1]; simp
    · rw [if_neg h1]
      by_cases h2 : 0 < i ∧ c = 0
      · rw [if_pos h2]; simp
      · rw [if_neg h2]
        have h9 := pow_le9 hi
        have hg := group_lt (i := i) (d := c.toNat % 128) hi (Nat.mod_lt _ (by decide)) (fun e => by omega)
        by_cases h3 : c < 128
        · rw [if_pos h3]
          simp only
          omega
        · rw [if_neg h3]
          exact ih (i + 1) _ (by omega) (next_lt hn (Nat.mod_lt _ (by decide))) (fun x hx => hb x (List.mem_cons_of_mem _ hx))
theorem rd_drop {l : List Int} {i : Nat} {c : Int} {t : List Int} (h : l.drop i = c :: t) : i < l.length ∧ rd l (i : Int) = c ∧ l.drop (i + 1) = t := by
  have hl : i < l.length := by
    rcases Nat.lt_or_ge i l.length with h2 | h2
    · exact h2
    · rw [List.drop_eq_nil_of_le h2] at h; cases h
  refine ⟨hl, ?_, ?_⟩
  · unfold rd
    rw [Int.toNat_natCast, List.getD_eq_getElem?_getD]
    have : (l.drop i)[0]? = some c := by rw [h]; rfl
    rw [List.getElem?_drop] at this
    simp only [Nat.add_zero] at this
    rw [this]; rfl
  · have := congrArg (List.drop 1) h
    rw [List.drop_drop] at this
    exact this
end Go.Proofs.Ytafmoglaockepaa.Num
end
section
namespace Go.Proofs.Ytafmoglaockepaa.Num
open Go Go.RowKit Go.Proofs.YtafmoglaockepaaW.PrintWords Go.Proofs.YtafmoglaockepaaW.PrintLast Go.Proofs.YtafmoglaockepaaW.PrintMore Go.Proofs.Ytafmoglaockepaa.PG
set_option linter.unusedVariables false
theorem group_wide (k : Nat) (hk : 0 < k) (n c : Int) (h : c > 1) : frame_group.f k n 9 c = some (0, false, 11) := by
  obtain ⟨k, rfl⟩ : ∃ m, k = m + 1 := ⟨k - 1, by omega⟩
  unfold frame_group.f
  rw [if_pos rfl, decide_eq_true h]
  simp [frame_group.j0]
theorem group_form (k : Nat) (hk : 0 < k) (n : Int) (i : Nat) (h : 0 < i) : frame_group.f k n i 0 = some (0, false, 10) := by
  obtain ⟨k, rfl⟩ : ∃ m, k = m + 1 := ⟨k - 1, by omega⟩
  unfold frame_group.f
  split
  · rw [decide_eq_false (by decide)]
    simp only [frame_group.j0]
    rw [if_neg (by decide), if_pos trivial, if_pos (by omega)]
  · simp only [frame_group.j0]
    rw [if_neg (by decide), if_pos trivial, if_pos (by omega)]
theorem group_ok (k : Nat) (hk : 0 < k) (i n : Nat) (c : Int) (hi : i ≤ 9) (hn : n < 128 ^ i) (hc : 0 ≤ c ∧ c < 256) (h1 : ¬ (i = 9 ∧ c > 1)) (h2 : ¬ (0 < i ∧ c = 0)) :
    frame_group.f k n i c = some (((n + c.toNat % 128 * 128 ^ i : Nat) : Int), decide (c < 128), 0) := by
  obtain ⟨k, rfl⟩ : ∃ m, k = m + 1 := ⟨k - 1, by omega⟩
  have hw : 0 ≤ wrap64 ((i : Int) * 7) := by rw [w64 (by omega) (by omega)]; omega
  have hv : Go.bits .or .u64 (n : Int) (shl .u64 (IntKind.u64.wrap (Go.bits .andNot .u8 c 128)) (wrap64 ((i : Int) * 7))) = ((n + c.toNat % 128 * 128 ^ i : Nat) : Int) := by
    have hw : wrap64 ((i : Int) * 7) = ((7 * i : Nat) : Int) := by unfold wrap64; omega
    have hg := group_lt (i := i) (d := c.toNat % 128) hi (Nat.mod_lt _ (by decide)) (fun e => by omega)
    have h9 := pow_le9 hi
    have hb : Go.bits .andNot .u8 c 128 = ((c.toNat % 128 : Nat) : Int) := by
      have := u8_andNot_nat c.toNat 128 (by omega) (by decide)
      rw [show ((c.toNat : Nat) : Int) = c by omega, show (255 - 128 : Nat) = 127 from rfl, nat_mask7] at this
      exact this
    have hd : c.toNat % 128 < 128 := Nat.mod_lt _ (by decide)
    have hp : (2 : Int) ^ (7 * i) = ((128 ^ i : Nat) : Int) := by rw [← pow_128]; exact_mod_cast rfl
    rw [hb, hw, IntKind.wrap_u64, Int.emod_eq_of_lt (by omega) (by omega)]
    unfold shl
    rw [Int.toNat_natCast, Nat.min_eq_left (show 7 * i ≤ IntKind.u64.bits by show 7 * i ≤ 64; omega), hp, ← Int.natCast_mul, IntKind.wrap_u64, Int.emod_eq_of_lt (by omega) (by omega), u64_or_nat n _ (by omega) (by omega), or_add hn]
  have key : ∀ x : Bool, x = false → frame_group.j0 (k + 1) n i c x = some (((n + c.toNat % 128 * 128 ^ i : Nat) : Int), decide (c < 128), 0) := by
    intro x hx
    subst hx
    simp only [frame_group.j0]
    rw [if_neg (by decide), hv]
    by_cases h0 : c = 0
    · rw [if_pos h0, if_neg (by omega), if_pos hw]
    · rw [if_neg h0, if_pos hw]
  unfold frame_group.f
  split
  · exact key _ (decide_eq_false (by omega))
  · exact key _ rfl
theorem frame_uint_l0 (l : List Int) (hb : IsBytes l) (hl : l.length < 9223372036854775807) : ∀ (rest : List Int) (i n k : Nat), l.drop i = rest → i ≤ l.length → i ≤ 9 → n < 128 ^ i → rest.length + 1 < k →
    frame_Uint.l0 k l n l (l.length : Int) i = some (ug i n rest) := by
  intro rest
  induction rest with
  | nil =>
    intro i n k hd hil _ _ hk
    obtain ⟨k, rfl⟩ : ∃ m, k = m + 1 := ⟨k - 1, by omega⟩
    have : l.length ≤ i := by
      rcases Nat.lt_or_ge i l.length with h | h
      · have := congrArg List.length hd; simp at this; omega
      · exact h
    simp only [frame_Uint.l0]
    rw [if_neg (by omega), ug, show i = l.length by omega]
  | cons c t ih =>
    intro i n k hd _ hi hn hk
    obtain ⟨k, rfl⟩ : ∃ m, k = m + 1 := ⟨k - 1, by omega⟩
    obtain ⟨hlt, hrd, hd2⟩ := rd_drop hd
    have hc : 0 ≤ c ∧ c < 256 := (hb.drop i) c (by rw [hd]; exact List.mem_cons_self ..)
    simp only [List.length_cons] at hk
    simp only [frame_Uint.l0]
    rw [if_pos (by omega), if_pos (by omega), if_pos (by omega), hrd, ug]
    have hw : wrap64 ((i : Int) + 1) = ((i + 1 : Nat) : Int) := by unfold wrap64; omega
    by_cases h1 : i = 9 ∧ c > 1
    · rw [if_pos h1]
      obtain ⟨rfl, h1⟩ := h1
      rw [show ((9 : Nat) : Int) = 9 from rfl, group_wide k (by omega) _ c h1]
      simp
    · rw [if_neg h1]
      by_cases h2 : 0 < i ∧ c = 0
      · rw [if_pos h2]
        obtain ⟨h2, rfl⟩ := h2
        rw [group_form k (by omega) _ i h2]
        simp
      · rw [if_neg h2, group_ok k (by omega) i n c hi hn hc h1 h2]
        simp only [Option.bind_some, if_true]
        by_cases h3 : c < 128
        · rw [if_pos h3, if_pos (decide_eq_true h3), hw]
        · rw [if_neg h3, if_neg (by simp [h3]), hw]
          exact ih (i + 1) _ k hd2 (by omega) (by omega) (next_lt hn (Nat.mod_lt _ (by decide))) (by omega)
theorem frame_uint (l : List Int) (hb : IsBytes l) (hl : l.length < 9223372036854775807) (k : Nat) (hk : l.length + 1 < k) : frame_Uint.f k l = some (ug 0 0 l) := by
  unfold frame_Uint.f
  exact frame_uint_l0 l hb hl l 0 0 k rfl (by omega) (by omega) (by decide) hk
theorem grown_ok (l : List Int) (n : Int) (h0 : 0 ≤ n) (h1 : n ≤ 140737488355328) (hl : l.length < 140737488355328) : frame_grown.f l n = some l := by
  unfold frame_grown.f
  have hw : wrap64 ((l.length : Int) + n) = (l.length : Int) + n := by unfold wrap64; omega
  rw [hw, if_pos (by omega), if_pos (by omega)]
  simp only [Option.bind_some, List.length_nil, List.nil_append]
  rw [if_pos (by omega)]
theorem putUint_l0 (f : Nat) : ∀ (n k : Nat) (x : List Int), n < 128 ^ f → 0 < f → n < 18446744073709551616 → f < k → x.length + f < 140737488355328 → frame_putUint.l0 k x n = some (x ++ enc f n) := by
  induction f with
  | zero => intro n k x _ h; omega
  | succ f ih =>
    intro n k x hn _ hb hk hx
    obtain ⟨k, rfl⟩ : ∃ m, k = m + 1 := ⟨k - 1, by omega⟩
    simp only [frame_putUint.l0]
    rw [enc]
    by_cases h : n < 128
    · rw [if_neg (by omega), if_pos (by omega), if_pos h, show (n : Int) % 256 = n by omega]
    · rw [if_pos (by omega), if_pos (by omega), if_neg h]
      have h2 : n / 128 < 128 ^ f := by rw [Nat.pow_succ] at hn; omega
      have hf : 0 < f := by
        rcases Nat.eq_zero_or_pos f with h0 | h0
        · subst h0; simp at hn; omega
        · exact h0
      have hv : Go.bits .or .u8 ((n : Int) % 256) 128 = ((n % 128 + 128 : Nat) : Int) := by
        have := u8_or_nat (n % 256) 128 (by omega) (by decide)
        rw [show ((n % 256 : Nat) : Int) = (n : Int) % 256 by omega] at this
        rw [show ((128 : Nat) : Int) = 128 from rfl] at this
        rw [this]
        congr 1
        have h3 : n % 256 = n % 256 / 128 * 128 + n % 128 := by omega
        rw [show n % 256 ||| 128 = (n % 128) + 128 from ?_]
        have h5 : n % 256 < 256 := Nat.mod_lt _ (by decide)
        have h6 : n % 128 = n % 256 % 128 := by omega
        rw [h6]
        generalize n % 256 = m at h5
        have : ∀ m, m < 256 → m ||| 128 = m % 128 + 128 := by decide +kernel
        exact this m h5
      rw [hv, show (n : Int) / 128 = ((n / 128 : Nat) : Int) by omega, ih (n / 128) k _ h2 hf (by omega) (by omega) (by simp; omega), List.append_assoc]
      rfl
theorem pow10 : (18446744073709551616 : Nat) ≤ 128 ^ 10 := by decide
theorem putUint_raw (k : Nat) (hk : 10 < k) (l : List Int) (n : Nat) (hn : n < 18446744073709551616) (hl : l.length + 10 < 140737488355328) : frame_putUint.f k l n = some (l ++ enc 10 n) :=
  putUint_l0 10 n k l (Nat.lt_of_lt_of_le hn pow10) (by decide) hn hk hl
theorem putUint_ok (k : Nat) (hk : 10 < k) (l : List Int) (n : Nat) (hn : n < 18446744073709551616) (hl : l.length + 10 < 140737488355328) : frame_PutUint.f k l n = some (l ++ enc 10 n) := by
  unfold frame_PutUint.f
  rw [grown_ok l 10 (by decide) (by decide) (by omega)]
  simp only [Option.bind_some]
  rw [putUint_raw k hk l n hn hl]
  rfl
end Go.Proofs.Ytafmoglaockepaa.Num
end
section
namespace Go.Proofs.Ytafmoglaockepaa.Num
open Go Go.RowKit Go.Proofs.YtafmoglaockepaaW.PrintWords Go.Proofs.YtafmoglaockepaaW.PrintLast Go.Proofs.YtafmoglaockepaaW.PrintMore Go.Proofs.Ytafmoglaockepaa.PG
set_option linter.unusedVariables false
theorem ref_uint_l0 (l : List Int) (hb : IsBytes l) (hl : l.length < 9223372036854775807) : ∀ (rest : List Int) (i n k : Nat), l.drop i = rest → i ≤ l.length → i ≤ 9 → n < 128 ^ i → 3 * rest.length + 1 < k →
    larderref01_Uint.l0 k l n ((128 ^ i : Nat) : Int) i = some (ug i n rest) := by
  intro rest
  induction rest with
  | nil =>
    intro i n k hd hil _ _ hk
    obtain ⟨k, rfl⟩ : ∃ m, k = m + 1 := ⟨k - 1, by omega⟩
    have : l.length ≤ i := by
      rcases Nat.lt_or_ge i l.length with h | h
      · have := congrArg List.length hd; simp at this; omega
      · exact h
    simp only [larderref01_Uint.l0]
    rw [if_neg (by omega), ug, show i = l.length by omega]
  | cons c t ih =>
    intro i n k hd _ hi hn hk
    simp only [List.length_cons] at hk
    obtain ⟨k, rfl⟩ : ∃ m, k = m + 3 := ⟨k - 3, by omega⟩
    obtain ⟨hlt, hrd, hd2⟩ := rd_drop hd
    have hc : 0 ≤ c ∧ c < 256 := (hb.drop i) c (by rw [hd]; exact List.mem_cons_self ..)
    have hw : wrap64 ((i : Int) + 1) = ((i + 1 : Nat) : Int) := by rw [w64 (by omega) (by omega)]; omega
    have hp9 := pow_le9 hi
    have e1 : ¬ (i = 9 ∧ c > 1) → IntKind.u64.wrap ((n : Int) + IntKind.u64.wrap (IntKind.u64.wrap (Int.tmod c 128) * ((128 ^ i : Nat) : Int))) = ((n + c.toNat % 128 * 128 ^ i : Nat) : Int) := by
      intro h1
      have hg := group_lt (i := i) (d := c.toNat % 128) hi (Nat.mod_lt _ (by decide)) (fun e => by omega)
      have h3 : IntKind.u64.wrap (Int.tmod c 128) = ((c.toNat % 128 : Nat) : Int) := by
        rw [Int.tmod_eq_emod_of_nonneg hc.1, IntKind.wrap_u64]; omega
      rw [h3, ← Int.natCast_mul, IntKind.wrap_u64, IntKind.wrap_u64]
      generalize c.toNat % 128 * 128 ^ i = q at hg
      omega
    have j2 : ∀ x : Bool, x = false → ¬ (i = 9 ∧ c > 1) → ¬ (0 < i ∧ c = 0) → larderref01_Uint.j2 (k + 1) l n ((128 ^ i : Nat) : Int) i x = some (ug i n (c :: t)) := by
      intro x hx h1 h2
      subst hx
      simp only [larderref01_Uint.j2]
      rw [if_neg (by decide), if_pos (by omega), if_pos (by omega), hrd, e1 h1, ug, if_neg h1, if_neg h2, hw]
      by_cases h3 : c < 128
      · rw [if_pos h3, if_pos h3]
      · rw [if_neg h3, if_neg h3]
        have hi9 : i ≤ 8 := by omega
        have e2 : IntKind.u64.wrap (((128 ^ i : Nat) : Int) * 128) = ((128 ^ (i + 1) : Nat) : Int) := by
          have := pow_le8 hi9
          rw [show ((128 ^ i : Nat) : Int) * 128 = ((128 ^ i * 128 : Nat) : Int) from (Int.natCast_mul _ _).symm, ← Nat.pow_succ, IntKind.wrap_u64]
          have h5 := pow_le9 (show i + 1 ≤ 9 by omega)
          exact Int.emod_eq_of_lt (by omega) (by omega)
        rw [e2]
        exact ih (i + 1) _ k hd2 (by omega) (by omega) (next_lt hn (Nat.mod_lt _ (by decide))) (by omega)
    have j2t : 0 < i → c = 0 → ¬ (i = 9 ∧ c > 1) → larderref01_Uint.j2 (k + 1) l n ((128 ^ i : Nat) : Int) i true = some (ug i n (c :: t)) := by
      intro h0 h2 h1
      simp only [larderref01_Uint.j2]
      rw [if_pos trivial, ug, if_neg h1, if_pos ⟨h0, h2⟩]
    have j1 : ∀ x : Bool, x = false → ¬ (i = 9 ∧ c > 1) → larderref01_Uint.j1 (k + 2) l n ((128 ^ i : Nat) : Int) i x = some (ug i n (c :: t)) := by
      intro x hx h1
      subst hx
      simp only [larderref01_Uint.j1]
      rw [if_neg (by decide)]
      by_cases h0 : 0 < i
      · rw [if_pos (by omega), if_pos (by omega), if_pos (by omega), hrd]
        by_cases h2 : c = 0
        · rw [show (c == 0) = true by rw [h2]; rfl]
          exact j2t h0 h2 h1
        · exact j2 _ (by simp [h2]) h1 (fun h => h2 h.2)
      · rw [if_neg (by omega)]
        exact j2 _ rfl h1 (fun h => h0 h.1)
    rw [larderref01_Uint.l0, if_pos (by omega)]
    by_cases h9 : i = 9
    · subst h9
      rw [if_pos (show ((9 : Nat) : Int) = 9 from rfl), if_pos (by decide), hrd]
      by_cases h1 : c > 1
      · rw [decide_eq_true h1]
        simp only [larderref01_Uint.j1]
        rw [if_pos trivial, ug, if_pos ⟨rfl, h1⟩]
      · exact j1 _ (decide_eq_false h1) (fun h => h1 h.2)
    · rw [if_neg (by omega)]
      exact j1 _ rfl (fun h => h9 h.1)
theorem ref_uint (l : List Int) (hb : IsBytes l) (hl : l.length < 9223372036854775807) (k : Nat) (hk : 3 * l.length + 1 < k) : larderref01_Uint.f k l = some (ug 0 0 l) := by
  unfold larderref01_Uint.f
  exact ref_uint_l0 l hb hl l 0 0 k rfl (by omega) (by omega) (by decide) hk
def zz (a : Int) : Nat := if 0 ≤ a then (2 * a).toNat else (-2 * a - 1).toNat
def unzz (u : Int) : Int := if u % 2 = 0 then u / 2 else -(u / 2) - 1
theorem zz_lt {a : Int} (h0 : -9223372036854775808 ≤ a) (h1 : a ≤ 9223372036854775807) : zz a < 18446744073709551616 := by
  unfold zz; split <;> omega
theorem unzz_zz (a : Int) : unzz (zz a) = a := by
  unfold zz unzz; split <;> (split <;> omega)
theorem frame_fold {a : Int} (h0 : -9223372036854775808 ≤ a) (h1 : a ≤ 9223372036854775807) :
    Go.bits .xor .u64 (IntKind.u64.wrap (IntKind.u64.wrap a * 2)) (IntKind.u64.wrap (a / 9223372036854775808)) = ((zz a : Nat) : Int) := by
  by_cases h : 0 ≤ a
  · have e1 : IntKind.u64.wrap (IntKind.u64.wrap a * 2) = (((2 * a).toNat : Nat) : Int) := by
      rw [IntKind.wrap_u64, IntKind.wrap_u64]; omega
    have e2 : IntKind.u64.wrap (a / 9223372036854775808) = ((0 : Nat) : Int) := by
      rw [IntKind.wrap_u64]; omega
    rw [e1, e2, bits_xor_u64_nat _ _ (by omega) (by decide), Nat.xor_zero]
    unfold zz
    rw [if_pos h]
  · have e1 : IntKind.u64.wrap (IntKind.u64.wrap a * 2) = (((2 * a + 18446744073709551616).toNat : Nat) : Int) := by
      rw [IntKind.wrap_u64, IntKind.wrap_u64]; omega
    have e2 : IntKind.u64.wrap (a / 9223372036854775808) = ((2 ^ 64 - 1 : Nat) : Int) := by
      rw [IntKind.wrap_u64, show a / 9223372036854775808 = -1 by omega]; rfl
    rw [e1, e2, bits_xor_u64_nat _ _ (by omega) (by decide), Nat.xor_comm, Lib.xor_ones64 _ (by omega)]
    unfold zz
    rw [if_neg h]
    omega
theorem putInt_ok (k : Nat) (hk : 10 < k) (l : List Int) (a : Int) (h0 : -9223372036854775808 ≤ a) (h1 : a ≤ 9223372036854775807) (hl : l.length + 10 < 140737488355328) : frame_PutInt.f k l a = some (l ++ enc 10 (zz a)) := by
  unfold frame_PutInt.f
  rw [frame_fold h0 h1, putUint_ok k hk l _ (zz_lt h0 h1) hl]
  rfl
theorem xor_comm_i64 (x y : Int) : Go.bits .xor .i64 x y = Go.bits .xor .i64 y x := by
  unfold Go.bits
  simp only
  rw [BitVec.xor_comm]
theorem xor_zero_i64 (x : Nat) (h : x < 9223372036854775808) : Go.bits .xor .i64 (x : Int) 0 = x := by
  show IntKind.i64.wrap ((BitVec.ofInt 64 (x : Int) ^^^ BitVec.ofInt 64 0).toNat : Int) = _
  rw [show BitVec.ofInt 64 0 = 0#64 from rfl, BitVec.xor_zero, BitVec.ofInt_natCast, BitVec.toNat_ofNat, Nat.mod_eq_of_lt (by omega), IntKind.wrap_i64]
  omega
theorem frame_unfold {u : Int} (h0 : 0 ≤ u) (h1 : u < 18446744073709551616) : Go.bits .xor .i64 (wrap64 (u / 2)) (wrap64 (-(wrap64 (Go.bits .and .u64 u 1)))) = unzz u := by
  rw [Lib.u64_and1 u h0 h1, w64 (x := u / 2) (by omega) (by omega), w64 (x := u % 2) (by omega) (by omega), w64 (by omega) (by omega)]
  unfold unzz
  have e : u / 2 = (((u / 2).toNat : Nat) : Int) := by omega
  by_cases h : u % 2 = 0
  · rw [if_pos h, h, e]
    exact xor_zero_i64 _ (by omega)
  · rw [if_neg h, show u % 2 = 1 by omega, xor_comm_i64, e]
    exact Lib.i64_not _ (by omega)
def ig (r : Int × Int × Int) : Int × Int × Int := (unzz r.1, r.2.1, r.2.2)
theorem frame_int (l : List Int) (hb : IsBytes l) (hl : l.length < 9223372036854775807) (k : Nat) (hk : l.length + 1 < k) : frame_Int.f k l = some (ig (ug 0 0 l)) := by
  unfold frame_Int.f
  rw [frame_uint l hb hl k hk]
  simp only [Option.bind_some]
  have := ug_lt l 0 0 (by omega) (by decide) hb
  rw [frame_unfold this.1 this.2]
  rfl
end Go.Proofs.Ytafmoglaockepaa.Num
end
section
namespace Go.Proofs.Ytafmoglaockepaa.Cd
open Go Go.RowKit Go.Proofs.Ytafmoglaockepaa.Num Go.Proofs.Ytafmoglaockepaa.PG Go.Proofs.YtafmoglaockepaaW.PrintWords Go.Proofs.YtafmoglaockepaaW.PrintLast Go.Proofs.YtafmoglaockepaaW.PrintMore
set_option linter.unusedVariables false
inductive Res (α : Type) where
  | ok (x : α) (n : Nat)
  | fail (e p : Int)
def Res.bind {α β : Type} : Res α → (α → Nat → Res β) → Res β
  | .ok x n, f => f x n
  | .fail e p, _ => .fail e p
def Res.map {α β : Type} (f : α → β) : Res α → Res β
  | .ok x n => .ok (f x) n
  | .fail e p => .fail e p
def tx (most : Int) (l : List Int) : ByteArray × Int × Int :=
  if (ug 0 0 l).2.2 = 0 then
    if (ug 0 0 l).1 > most then (⟨#[]⟩, 0, 12)
    else if (ug 0 0 l).1 > (l.length : Int) - (ug 0 0 l).2.1 then (⟨#[]⟩, (l.length : Int), 3)
    else (strOfNums ((l.take ((ug 0 0 l).2.1 + (ug 0 0 l).1).toNat).drop (ug 0 0 l).2.1.toNat), (ug 0 0 l).2.1 + (ug 0 0 l).1, 0)
  else (⟨#[]⟩, (ug 0 0 l).2.1, (ug 0 0 l).2.2)
def took {α : Type} (n : Nat) (r : α × Int × Int) : Res α := if r.2.2 = 0 then .ok r.1 (n + r.2.1.toNat) else .fail r.2.2 ((n : Int) + r.2.1)
def pI (xs : List Int) (n : Nat) : Res Int := took n (ig (ug 0 0 (xs.drop n)))
def pT (xs : List Int) (most : Nat) (n : Nat) : Res ByteArray := took n (tx most (xs.drop n))
def pU (xs : List Int) (most : Nat) (n : Nat) : Res Nat := (took n (ug 0 0 (xs.drop n))).bind fun u m => if u > (most : Int) then .fail 91 (n : Int) else .ok u.toNat m
def pN {α : Type} (one : Nat → Res α) : Nat → List α → Nat → Res (List α)
  | 0, l, n => .ok l n
  | k + 1, l, n => (one n).bind fun x m => pN one k (l ++ [x]) m
def pList {α : Type} (xs : List Int) (most : Nat) (one : Nat → Res α) (n : Nat) : Res (List α) := (pU xs most n).bind fun k m => pN one k [] m
def pLevel (xs : List Int) (most : Nat) (n : Nat) : Res S28 := (pT xs most n).bind fun c n => (pI xs n).bind fun a n => (pI xs n).bind fun b n => .ok ⟨c, a, b⟩ n
def whole {α : Type} (key : Int) (most : Nat) (xs : List Int) (fields : Nat → Res α) : Res α :=
  if most < xs.length then .fail 1 0
  else if xs.length = 0 then .fail 3 0
  else if xs.headD 0 ≠ key then .fail 90 0
  else (fields 1).bind fun x n => if n < xs.length then .fail 4 (n : Int) else .ok x n
theorem ug_at (l : List Int) : ∀ (i n : Nat), (i : Int) ≤ (ug i n l).2.1 ∧ (ug i n l).2.1 ≤ (i : Int) + l.length := by
  induction l with
  | nil => intro i n; simp [ug]
  | cons c t ih =>
    intro i n
    unfold ug
    split
    · simp only [List.length_cons]; omega
    · split
      · simp only [List.length_cons]; omega
      · split
        · simp only [List.length_cons]; omega
        · have := ih (i + 1) (n + c.toNat % 128 * 128 ^ i)
          simp only [List.length_cons]
          omega
theorem sclone_ok (l : List Int) (h : l.length < 140737488355328) : slices_Clone_byte_byte.f l = some l := by
  unfold slices_Clone_byte_byte.f
  rw [if_pos h]
theorem text_ok (k : Nat) (l : List Int) (a : Nat) (hb : IsBytes l) (hl : l.length < 140737488355328) (hk : 3 * l.length + 20 < k) (ha : a ≤ 9223372036854775807) :
    frame_Text.f k l a = some (tx a l) ∧ larderref01_Text.f k l a = some (tx a l) := by
  unfold frame_Text.f larderref01_Text.f tx
  have h0 : ¬ ((a : Int) < 0) := by omega
  rw [if_neg h0, if_neg h0, frame_uint l hb (by omega) k (by omega), Option.bind_some, ref_uint l hb (by omega) k (by omega), Option.bind_some]
  have hu := ug_lt l 0 0 (by omega) (by decide) hb
  have hat := ug_at l 0 0
  generalize ug 0 0 l = g at *
  obtain ⟨u, t, e⟩ := g
  dsimp only at hu hat ⊢
  by_cases he : e = 0
  · rw [if_pos he, if_pos he, if_pos he, show IntKind.u64.wrap (a : Int) = a by rw [IntKind.wrap_u64]; omega]
    by_cases h1 : u > (a : Int)
    · rw [if_pos h1, if_pos h1, if_pos h1]
      exact ⟨rfl, rfl⟩
    · rw [if_neg h1, if_neg h1, if_neg h1, w64 (x := (l.length : Int) - t) (by omega) (by omega), show IntKind.u64.wrap ((l.length : Int) - t) = (l.length : Int) - t by rw [IntKind.wrap_u64]; omega]
      by_cases h2 : u > (l.length : Int) - t
      · rw [if_pos h2, if_pos h2, if_pos h2]
        exact ⟨rfl, rfl⟩
      · rw [if_neg h2, if_neg h2, if_neg h2, w64 (x := u) (by omega) (by omega), w64 (x := t + u) (by omega) (by omega), if_pos (by omega), if_pos (by omega), if_pos (by omega), sclone_ok _ (by rw [List.length_drop, List.length_take]; omega), Option.bind_some, if_pos (by omega), if_pos (by omega), if_pos (by omega)]
        exact ⟨rfl, rfl⟩
  · rw [if_neg he, if_neg he, if_neg he]
    exact ⟨rfl, rfl⟩
def encT (s : ByteArray) : List Int := enc 10 s.size ++ bytesOf s
def encI (a : Int) : List Int := enc 10 (zz a)
def encU (n : Nat) : List Int := enc 10 n
theorem encT_len (s : ByteArray) : (encT s).length ≤ 10 + s.size := by
  unfold encT
  have := enc_len 10 s.size
  have h2 : (bytesOf s).length = s.size := bytesOf_length s
  rw [List.length_append]
  omega
theorem encI_len (a : Int) : (encI a).length ≤ 10 := enc_len 10 _
theorem encU_len (n : Nat) : (encU n).length ≤ 10 := enc_len 10 _
theorem putText_ok (k : Nat) (hk : 10 < k) (l : List Int) (s : ByteArray) (hl : l.length + s.size + 20 < 140737488355328) : frame_PutText.f k l s = some (l ++ encT s) := by
  have hlen : (bytesOf s).length = s.size := bytesOf_length s
  have e2 : IntKind.u64.wrap (s.size : Int) = ((s.size : Nat) : Int) := by rw [IntKind.wrap_u64]; omega
  have hel := enc_len 10 s.size
  unfold frame_PutText.f encT
  rw [w64 (by omega) (by omega), grown_ok l _ (by omega) (by omega) (by omega), Option.bind_some, e2, putUint_raw _ (by omega) l s.size (by omega) (by omega), Option.bind_some, if_pos (by rw [List.length_append]; omega), List.append_assoc]
end Go.Proofs.Ytafmoglaockepaa.Cd
end
section
namespace Go.Proofs.Ytafmoglaockepaa.Cd
open Go Go.RowKit Go.Proofs.YtafmoglaockepaaW.PrintWords Go.Proofs.YtafmoglaockepaaW.PrintLast Go.Proofs.YtafmoglaockepaaW.PrintMore
set_option linter.unusedVariables false
abbrev ptr (g : Nat) : Value := .pointer (some ⟨g, 0, none⟩)
abbrev Rt (t g : Nat) (vs : List Value) (W : World) : Prop := W.heap[g]? = some (.cells vs.toArray t (0, 0))
theorem Rt.cell {t g : Nat} {vs : List Value} {W : World} (h : Rt t g vs W) (k : Nat) (v : Value) (hk : vs[k]? = some v) : W.cell? ⟨g, k, none⟩ = some v := by
  rw [cell_of_row W g k _ _ _ h]
  simpa using hk
theorem Rt.free {t g : Nat} {vs : List Value} {W : World} (h : Rt t g vs W) (k : Nat) : W.frozen? ⟨g, k, none⟩ = false := by simp [World.frozen?, h]
theorem Rt.set {t g : Nat} {vs : List Value} {W : World} (h : Rt t g vs W) (k : Nat) (v : Value) : W.setCell ⟨g, k, none⟩ v = W.setRow g (vs.set k v).toArray := by
  unfold World.setCell World.setRow
  congr 1
  apply Array.ext
  · simp
  · intro i h1 h2
    simp only [Array.getElem_modify]
    by_cases e : g = i
    · subst e
      have hlt : g < W.heap.size := by simpa using h1
      have hv : W.heap[g] = .cells vs.toArray t (0, 0) := (Array.getElem?_eq_some_iff.1 h).2
      simp [hv]
    · simp [e]
theorem Rt.row {t g : Nat} {vs : List Value} {W : World} (h : Rt t g vs W) (us : List Value) : Rt t g us (W.setRow g us.toArray) := setRow_heap W g _ _ _ _ h
theorem Rt.same {t g : Nat} {vs : List Value} {W : World} (h : Rt t g vs W) (k : Nat) (v : Value) (hk : vs[k]? = some v) : W.setCell ⟨g, k, none⟩ v = W := by
  have e : vs.set k v = vs := by
    obtain ⟨hlt, rfl⟩ := List.getElem?_eq_some_iff.1 hk
    exact List.set_getElem_self hlt
  rw [h.set, e]
  have h2 : W.heap[g]? = some (.cells vs.toArray t (0, 0)) := h
  clear h hk
  obtain ⟨heap, tape, drawn, os, output⟩ := W
  simp only [World.setRow, World.mk.injEq, and_true]
  simp only at h2
  apply Array.ext
  · simp
  · intro i h1 h3
    simp only [Array.getElem_modify]
    by_cases e : g = i
    · subst e
      have hv : heap[g] = .cells vs.toArray t (0, 0) := (Array.getElem?_eq_some_iff.1 h2).2
      simp [hv]
    · simp [e]
theorem Rt.lt {t g : Nat} {vs : List Value} {W : World} (h : Rt t g vs W) : g < W.heap.size := (Array.getElem?_eq_some_iff.1 h).1
theorem Rt.below {t g : Nat} {vs : List Value} {W W' : World} (h : Rt t g vs W) (hb : Below W.heap.size W W') : Rt t g vs W' := (hb.block _ h.lt).trans h
theorem below_setRow' {B g : Nat} {w0 w : World} (hb : Below B w0 w) (hBg : B ≤ g) (cs : Array Value) : Below B w0 (w.setRow g cs) :=
  ⟨hb.os, hb.tape, hb.output, by rw [setRow_size]; exact hb.size, fun k hk => (setRow_other w g k cs (by omega)).trans (hb.block k hk)⟩
theorem info5' : (Try.prog.info? 5).map (fun i => (i.zero, i.size, i.bytes)) = some (some (.int .u8 0), 1, 1) := by kernel_rfl
theorem blk_types {W : World} {g a b : Nat} {u v : Array Value} (h1 : W.heap[g]? = some (.cells u a (0, 0))) (h2 : W.heap[g]? = some (.cells v b (0, 0))) : a = b := by
  have := h1.symm.trans h2
  injection this with this
  injection this with _ e _
def Others (W W' : World) : Prop := ∀ (j t : Nat) (u : Array Value), W.heap[j]? = some (.cells u t (0, 0)) → t ≠ 146 → t ≠ 5 → W'.heap[j]? = W.heap[j]?
theorem Others.refl (W : World) : Others W W := fun _ _ _ _ _ _ => rfl
theorem Others.trans {A B C : World} (h : Others A B) (k : Others B C) : Others A C := fun j t u hj h1 h2 => by
  have e := h j t u hj h1 h2
  exact (k j t u (e.trans hj) h1 h2).trans e
theorem Others.of_below {W W' : World} (h : Below W.heap.size W W') : Others W W' := fun j t u hj _ _ => h.block j (Array.getElem?_eq_some_iff.1 hj).1
theorem Others.row {W W' : World} (h : Others W W') {t g : Nat} {vs : List Value} (hr : Rt t g vs W) (h1 : t ≠ 146) (h2 : t ≠ 5) : Rt t g vs W' := (h g t _ hr h1 h2).trans hr
structure WrAt (g B : Nat) (xs : List Int) (W : World) : Prop where
  ex : ∃ v, Rt 146 g [v] W ∧ (Kd.int .u8).R 5 W B (fun _ => True) v xs
  b : B ≤ g
theorem WrAt.size {g B : Nat} {xs : List Int} {W : World} (k : WrAt g B xs W) : B ≤ W.heap.size := by
  obtain ⟨v, hr, _⟩ := k.ex
  exact Nat.le_of_lt (Nat.lt_of_le_of_lt k.b hr.lt)
theorem WrAt.below {g B : Nat} {xs : List Int} {W W' : World} (k : WrAt g B xs W) (hb : Below W.heap.size W W') : WrAt g B xs W' := by
  obtain ⟨v, hr, hR⟩ := k.ex
  exact ⟨⟨v, hr.below hb, Kd.R_below hR hb⟩, k.b⟩
theorem WrAt.appended {g B : Nat} {xs ys : List Int} {v v1 : Value} {W w1 : World} (hr : Rt 146 g [v] W) (hR0 : (Kd.int .u8).R 5 W B (fun _ => True) v xs) (hB : B ≤ g) (hR : (Kd.int .u8).R 5 w1 B (fun _ => True) v1 ys) (hb : Below B W w1) (hg : W.grownBy w1 v.ownBlock) :
    Rt 146 g [v] w1 ∧ WrAt g B ys (w1.setRow g [v1].toArray) ∧ Below B W (w1.setRow g [v1].toArray) ∧ Others W (w1.setRow g [v1].toArray) := by
  have hr1 : Rt 146 g [v] w1 := (hg.block g hr.lt (Kd.R_ne hR0 hr (by decide))).trans hr
  refine ⟨hr1, ⟨⟨v1, hr1.row _, ?_⟩, hB⟩, below_setRow' hb hB _, fun j t u hj h1 h2 => ?_⟩
  rotate_left
  · have hjg : j ≠ g := by
      rintro rfl
      exact h1 (blk_types hj hr)
    exact (setRow_other _ _ _ _ hjg).trans (hg.block j (Array.getElem?_eq_some_iff.1 hj).1 (Kd.R_ne hR0 hj (Ne.symm h2)))
  exact Kd.R_mono (Kd.R_step (Kd.R_types hR hr1 (by intro q hq; simp [Kd.int, Kd.scalar] at hq; omega)) (fun j hj _ => setRow_other _ _ _ _ hj.2)) (fun _ _ => trivial)
end Go.Proofs.Ytafmoglaockepaa.Cd
end
section
namespace Go.Proofs.Ytafmoglaockepaa.Cd
open Go Go.RowKit Go.Proofs.Ytafmoglaockepaa.Num Go.Proofs.Ytafmoglaockepaa.PG Go.Proofs.YtafmoglaockepaaW.PrintWords Go.Proofs.YtafmoglaockepaaW.PrintLast Go.Proofs.YtafmoglaockepaaW.PrintMore
set_option linter.unusedVariables false
set_option linter.unusedSimpArgs false
set_option maxHeartbeats 4000000
set_option maxRecDepth 100000
theorem w_text {g B : Nat} {xs : List Int} {W : World} (k : WrAt g B xs W) (s : ByteArray) (hl : xs.length + s.size + 20 < 140737488355328) :
    Calls Try.prog 52 #[ptr g, .string s] W fun e w' => e = .returned (.tuple #[]) ∧ WrAt g B (xs ++ encT s) w' ∧ Below B W w' ∧ Others W w' := by
  have HSZ := Aside0.mk k.size
  have HBG := Aside0.mk k.b
  obtain ⟨v, hr, hR⟩ := k.ex
  have HR := Aside0.mk hr
  have HX := Aside0.mk hR
  have HLEN := Aside0.mk (show (xs.length + (encT s).length) * 1 ≤ 140737488355328 by have := encT_len s; omega)
  have HLEN2 := Aside0.mk hl
  have c0 := hr.cell 0 _ rfl
  clear k hr hR hl
  go_enter Try.func52, Try.ntmps52
  go_upto_region 0 with fail
  go_region_law (first
    | (go_simp
       go_at_call 106
       refine (frame_PutText.calls 11 none 0 [] s (encT s) _ (Kd.C_nil _ _) (Nat.le_refl _) (by have := putText_ok 11 (by decide) [] s (by have := HLEN2.out; simp only [List.length_nil]; omega); rwa [List.nil_append] at this)).mono ?_
       rintro e wa ⟨v0, rfl, hR, hb⟩
       obtain ⟨Av, cv, rfl, hcv, hC⟩ := Kd.R_reads hR
       have hb0 : Below W.heap.size W wa := (below_drew (Below.refl _ _)).trans hb
       have HRa := Aside0.mk (HR.out.below hb0)
       have HXa := Aside0.mk (Kd.R_below HX.out hb0)
       have HBa := Aside0.mk (hb0.mono HSZ.out)
       have HSB := Aside0.mk (Nat.le_trans HSZ.out hb0.size)
       have HCa := Aside0.mk hC
       have HOa := Aside0.mk (Others.of_below hb0)
       have ca := HRa.out.cell 0 _ rfl
       clear hR hb hcv hC hb0)
    | (refine Kd.R_append_rows_step (Kd.int .u8) (Rr := (Kd.int .u8).K wa) (w0 := W) B (by rfl) (.tmp 8) (.tmp 10) 26 5 (.int .u8 0) 1 rfl Try.underlying26 info5' rfl (by decide) (by decide) v xs (encT s) Av (encT s).length cv (fun _ => True) (fun _ => False) rfl rfl HXa.out HCa.out (fun _ _ h => h) (fun _ h => h.elim) (fun _ _ => trivial) HBa.out HSB.out HLEN.out ?_
       intro v1 w1 ho hb hg hat
       obtain ⟨Al, cl, el⟩ := Kd.R_slice ho
       obtain ⟨n1, hn1⟩ : ∃ n1, (xs ++ encT s).length = n1 := ⟨_, rfl⟩
       rw [hn1] at el
       subst el
       clear hn1
       have hfin := WrAt.appended HRa.out HXa.out HBG.out ho ((Below.refl _ _).grown hg HSB.out (Kd.R_base HXa.out)) hg
       have HFIN := Aside0.mk (show WrAt g B (xs ++ encT s) (w1.setRow g [Value.slice Al n1 cl].toArray) ∧ Below B W (w1.setRow g [Value.slice Al n1 cl].toArray) ∧ Others W (w1.setRow g [Value.slice Al n1 cl].toArray) from ⟨hfin.2.1, HBa.out.trans hfin.2.2.1, HOa.out.trans hfin.2.2.2⟩)
       have HR1 := Aside0.mk hfin.1
       have c1 := hfin.1.cell 0 _ rfl
       have f1 := hfin.1.free 0
       clear ho hb hg hat hfin))
  all_goals
    have e1 := HR1.out.set 0 (.slice Al n1 cl)
    rw [show [v].set 0 (.slice Al n1 cl) = [Value.slice Al n1 cl] from rfl] at e1
    go_wp2_with fail
    go_end0
    rw [e1]
    exact ⟨rfl, HFIN.out⟩
theorem w_int {g B : Nat} {xs : List Int} {W : World} (k : WrAt g B xs W) (a : Int) (ha : -9223372036854775808 ≤ a ∧ a ≤ 9223372036854775807) (hl : xs.length + 20 < 140737488355328) :
    Calls Try.prog 53 #[ptr g, .int .i64 a] W fun e w' => e = .returned (.tuple #[]) ∧ WrAt g B (xs ++ encI a) w' ∧ Below B W w' ∧ Others W w' := by
  have HSZ := Aside0.mk k.size
  have HBG := Aside0.mk k.b
  obtain ⟨v, hr, hR⟩ := k.ex
  have HR := Aside0.mk hr
  have HX := Aside0.mk hR
  have HLEN := Aside0.mk (show (xs.length + (encI a).length) * 1 ≤ 140737488355328 by have := encI_len a; omega)
  have HLEN2 := Aside0.mk ha
  have c0 := hr.cell 0 _ rfl
  clear k hr hR ha hl
  go_enter Try.func53, Try.ntmps53
  go_upto_region 0 with fail
  go_region_law (first
    | (go_simp
       go_at_call 107
       refine (frame_PutInt.calls 11 none 0 [] a (encI a) _ (Kd.C_nil _ _) (Nat.le_refl _) (by have := putInt_ok 11 (by decide) [] a HLEN2.out.1 HLEN2.out.2 (by decide); rwa [List.nil_append] at this)).mono ?_
       rintro e wa ⟨v0, rfl, hR, hb⟩
       obtain ⟨Av, cv, rfl, hcv, hC⟩ := Kd.R_reads hR
       have hb0 : Below W.heap.size W wa := (below_drew (Below.refl _ _)).trans hb
       have HRa := Aside0.mk (HR.out.below hb0)
       have HXa := Aside0.mk (Kd.R_below HX.out hb0)
       have HBa := Aside0.mk (hb0.mono HSZ.out)
       have HSB := Aside0.mk (Nat.le_trans HSZ.out hb0.size)
       have HCa := Aside0.mk hC
       have HOa := Aside0.mk (Others.of_below hb0)
       have ca := HRa.out.cell 0 _ rfl
       clear hR hb hcv hC hb0)
    | (refine Kd.R_append_rows_step (Kd.int .u8) (Rr := (Kd.int .u8).K wa) (w0 := W) B (by rfl) (.tmp 8) (.tmp 10) 26 5 (.int .u8 0) 1 rfl Try.underlying26 info5' rfl (by decide) (by decide) v xs (encI a) Av (encI a).length cv (fun _ => True) (fun _ => False) rfl rfl HXa.out HCa.out (fun _ _ h => h) (fun _ h => h.elim) (fun _ _ => trivial) HBa.out HSB.out HLEN.out ?_
       intro v1 w1 ho hb hg hat
       obtain ⟨Al, cl, el⟩ := Kd.R_slice ho
       obtain ⟨n1, hn1⟩ : ∃ n1, (xs ++ encI a).length = n1 := ⟨_, rfl⟩
       rw [hn1] at el
       subst el
       clear hn1
       have hfin := WrAt.appended HRa.out HXa.out HBG.out ho ((Below.refl _ _).grown hg HSB.out (Kd.R_base HXa.out)) hg
       have HFIN := Aside0.mk (show WrAt g B (xs ++ encI a) (w1.setRow g [Value.slice Al n1 cl].toArray) ∧ Below B W (w1.setRow g [Value.slice Al n1 cl].toArray) ∧ Others W (w1.setRow g [Value.slice Al n1 cl].toArray) from ⟨hfin.2.1, HBa.out.trans hfin.2.2.1, HOa.out.trans hfin.2.2.2⟩)
       have HR1 := Aside0.mk hfin.1
       have c1 := hfin.1.cell 0 _ rfl
       have f1 := hfin.1.free 0
       clear ho hb hg hat hfin))
  all_goals
    have e1 := HR1.out.set 0 (.slice Al n1 cl)
    rw [show [v].set 0 (.slice Al n1 cl) = [Value.slice Al n1 cl] from rfl] at e1
    go_wp2_with fail
    go_end0
    rw [e1]
    exact ⟨rfl, HFIN.out⟩
end Go.Proofs.Ytafmoglaockepaa.Cd
end
section
namespace Go.Proofs.Ytafmoglaockepaa.Cd
open Go Go.RowKit Go.Proofs.Ytafmoglaockepaa.Num Go.Proofs.Ytafmoglaockepaa.PG Go.Proofs.YtafmoglaockepaaW.PrintWords Go.Proofs.YtafmoglaockepaaW.PrintLast Go.Proofs.YtafmoglaockepaaW.PrintMore
set_option linter.unusedVariables false
set_option linter.unusedSimpArgs false
set_option maxHeartbeats 4000000
set_option maxRecDepth 100000
def encL (x : S28) : List Int := encT x.f0 ++ (encI x.f1 ++ encI x.f2)
theorem encL_len (x : S28) : (encL x).length ≤ 30 + x.f0.size := by
  have h0 := encT_len x.f0
  have h1 := encI_len x.f1
  have h2 := encI_len x.f2
  unfold encL
  rw [List.length_append, List.length_append]
  omega
def Int64 (a : Int) : Prop := -9223372036854775808 ≤ a ∧ a ≤ 9223372036854775807
theorem w_level {g B gb : Nat} {xs : List Int} {W : World} (k : WrAt g B xs W) (hbx : Rt 92 gb [ptr g] W) (x : S28) (h1 : Int64 x.f1) (h2 : Int64 x.f2) (hl : xs.length + x.f0.size + 100 < 140737488355328) :
    Calls Try.prog 109 #[.agg #[.string x.f0, .int .i64 x.f1, .int .i64 x.f2], ptr gb] W fun e w' => e = .returned (.tuple #[]) ∧ WrAt g B (xs ++ encL x) w' ∧ Below B W w' ∧ Others W w' := by
  have HK := Aside0.mk k
  have HBX := Aside0.mk hbx
  have H1 := Aside0.mk h1
  have H2 := Aside0.mk h2
  have HL := Aside0.mk hl
  have HS := Aside0.mk k.size
  clear k hbx h1 h2 hl
  go_enter Try.func109, Try.ntmps109
  go_upto_region 1 with fail
  have hr2 : Rt 28 W.heap.size [.string x.f0, .int .i64 x.f1, .int .i64 x.f2] (W.alloc (.cells #[.string x.f0, .int .i64 x.f1, .int .i64 x.f2] 28)) := heap_alloc_new W _
  have hb1 : Below W.heap.size W (W.alloc (.cells #[.string x.f0, .int .i64 x.f1, .int .i64 x.f2] 28)) := below_alloc (Below.refl _ _) _
  obtain ⟨b2, hb2⟩ : ∃ b2, W.heap.size = b2 := ⟨_, rfl⟩
  have K1 := Aside0.mk (HK.out.below hb1)
  have B1 := Aside0.mk (hb1.mono HS.out)
  have O1 := Aside0.mk (Others.of_below hb1)
  have X1 := Aside0.mk (HBX.out.below hb1)
  rw [hb2] at hr2 ⊢
  have R1 := Aside0.mk hr2
  clear hr2 hb1 hb2
  generalize W.alloc (.cells #[.string x.f0, .int .i64 x.f1, .int .i64 x.f2] 28) = w1 at *
  have c0 := R1.out.cell 0 _ rfl
  have cx := X1.out.cell 0 _ rfl
  go_wp2_with fail
  go_at_call 52
  refine (w_text K1.out x.f0 (by have := HL.out; omega)).mono ?_
  rintro e w2 ⟨rfl, hk, hb, ho⟩
  have K2 := Aside0.mk hk
  have B2 := Aside0.mk (B1.out.trans hb)
  have O2 := Aside0.mk (O1.out.trans ho)
  have R2 := Aside0.mk (ho.row R1.out (by decide) (by decide))
  have X2 := Aside0.mk (ho.row X1.out (by decide) (by decide))
  clear hk hb ho c0 cx
  have c1 := R2.out.cell 1 _ rfl
  have cx := X2.out.cell 0 _ rfl
  go_wp2_with fail
  go_at_call 53
  refine (w_int K2.out x.f1 H1.out (by have := HL.out; have := encT_len x.f0; rw [List.length_append]; omega)).mono ?_
  rintro e w3 ⟨rfl, hk, hb, ho⟩
  have K3 := Aside0.mk hk
  have B3 := Aside0.mk (B2.out.trans hb)
  have O3 := Aside0.mk (O2.out.trans ho)
  have R3 := Aside0.mk (ho.row R2.out (by decide) (by decide))
  have X3 := Aside0.mk (ho.row X2.out (by decide) (by decide))
  clear hk hb ho c1 cx
  have c2 := R3.out.cell 2 _ rfl
  have cx := X3.out.cell 0 _ rfl
  go_wp2_with fail
  go_at_call 53
  refine (w_int K3.out x.f2 H2.out (by have := HL.out; have := encT_len x.f0; have := encI_len x.f1; rw [List.length_append, List.length_append]; omega)).mono ?_
  rintro e w4 ⟨rfl, hk, hb, ho⟩
  have K4 := Aside0.mk hk
  have B4 := Aside0.mk (B3.out.trans hb)
  have O4 := Aside0.mk (O3.out.trans ho)
  clear hk hb ho c2 cx
  go_wp2_with fail
  go_end0
  have e : xs ++ encL x = xs ++ encT x.f0 ++ encI x.f1 ++ encI x.f2 := by unfold encL; simp only [List.append_assoc]
  rw [e]
  exact ⟨rfl, K4.out, B4.out, O4.out⟩
def encLs (l : List S28) : List Int := l.flatMap encL
def bulkL (l : List S28) : Nat := (l.map fun x => 30 + x.f0.size).sum
theorem encLs_len : ∀ l : List S28, (encLs l).length ≤ bulkL l
  | [] => by simp [encLs, bulkL]
  | x :: l => by
    have h1 := encLs_len l
    have h2 := encL_len x
    simp only [encLs, bulkL, List.flatMap_cons, List.length_append, List.map_cons, List.sum_cons] at h1 ⊢
    omega
theorem bulkL_take : ∀ (l : List S28) (i : Nat), bulkL (l.take i) ≤ bulkL l
  | [], i => by simp [bulkL]
  | x :: l, 0 => by simp [bulkL]
  | x :: l, i + 1 => by
    have h1 := bulkL_take l i
    simp only [bulkL, List.take_succ_cons, List.map_cons, List.sum_cons] at h1 ⊢
    omega
theorem bulkL_mem : ∀ (l : List S28) (x : S28), x ∈ l → 30 + x.f0.size ≤ bulkL l
  | y :: l, x, h => by
    simp only [bulkL, List.map_cons, List.sum_cons]
    rcases List.mem_cons.1 h with rfl | h
    · omega
    · have := bulkL_mem l x h
      simp only [bulkL] at this
      omega
theorem take_snoc {α : Type} {l : List α} {j : Nat} {x : α} (h : l[j]? = some x) : l.take (j + 1) = l.take j ++ [x] := by rw [List.take_add_one, h]; rfl
def LevOk (l : List S28) : Prop := ∀ x ∈ l, Int64 x.f1 ∧ Int64 x.f2
theorem w_putLevels {g B gb : Nat} {xs : List Int} {W : World} (k : WrAt g B xs W) (hbx : Rt 92 gb [ptr g] W) (A : Option Addr) (n c : Nat) (l : List S28) (hC : ∀ W', Below B W W' → Kd.C k28 W' A n l) (hlo : LevOk l) (hl : xs.length + bulkL l + 200 < 140737488355328) :
    Calls Try.prog 108 #[ptr g, .slice A n c, .func (.func 109) #[] #[ptr gb]] W fun e w' => e = .returned (.tuple #[]) ∧ WrAt g B (xs ++ (encU n ++ encLs l)) w' ∧ Below B W w' ∧ Others W w' := by
  have hln : l.length = n := Kd.C_len (hC W (Below.refl _ _))
  have hn63 := (Kd.C_len (hC W (Below.refl _ _)))
  have hbl : 30 * l.length ≤ bulkL l := by
    clear hC hl hlo hln hn63
    induction l with
    | nil => simp [bulkL]
    | cons x l ih => simp only [bulkL, List.map_cons, List.sum_cons, List.length_cons] at ih ⊢; omega
  have HN := Aside0.mk (show n < 140737488355328 by omega)
  have HLN := Aside0.mk hln
  have HCC := Aside0.mk hC
  have HLO := Aside0.mk hlo
  have HLL := Aside0.mk hl
  have HBX := Aside0.mk hbx
  have HSZ := Aside0.mk k.size
  have HBG := Aside0.mk k.b
  obtain ⟨v, hr, hR⟩ := k.ex
  have HR := Aside0.mk hr
  have HX := Aside0.mk hR
  have HLEN := Aside0.mk (show (xs.length + (encU n).length) * 1 ≤ 140737488355328 by have := encU_len n; omega)
  have c0 := hr.cell 0 _ rfl
  have hw64 : IntKind.u64.wrap (n : Int) = (n : Int) := by rw [IntKind.wrap_u64]; omega
  clear k hr hR hln hn63 hbl hC hlo hl hbx
  go_enter Try.func108, Try.ntmps108
  go_upto_region 0 with fail
  go_region_law (first
    | (go_simp
       go_at_call 125
       refine (frame_PutUint.calls 11 none 0 [] (n : Int) (encU n) _ (Kd.C_nil _ _) (Nat.le_refl _) (by have := putUint_ok 11 (by decide) [] n (by have := HN.out; omega) (by decide); rwa [List.nil_append] at this)).mono ?_
       rintro e wa ⟨v0, rfl, hR, hb⟩
       obtain ⟨Av, cv, rfl, hcv, hC⟩ := Kd.R_reads hR
       have hb0 : Below W.heap.size W wa := (below_drew (Below.refl _ _)).trans hb
       have HRa := Aside0.mk (HR.out.below hb0)
       have HXa := Aside0.mk (Kd.R_below HX.out hb0)
       have HBa := Aside0.mk (hb0.mono HSZ.out)
       have HSB := Aside0.mk (Nat.le_trans HSZ.out hb0.size)
       have HCa := Aside0.mk hC
       have HOa := Aside0.mk (Others.of_below hb0)
       have ca := HRa.out.cell 0 _ rfl
       clear hR hb hcv hC hb0)
    | (refine Kd.R_append_rows_step (Kd.int .u8) (Rr := (Kd.int .u8).K wa) (w0 := W) B (by rfl) (.tmp 12) (.tmp 16) 26 5 (.int .u8 0) 1 rfl Try.underlying26 info5' rfl (by decide) (by decide) v xs (encU n) Av (encU n).length cv (fun _ => True) (fun _ => False) rfl rfl HXa.out HCa.out (fun _ _ h => h) (fun _ h => h.elim) (fun _ _ => trivial) HBa.out HSB.out HLEN.out ?_
       intro v1 w1 ho hb hg hat
       obtain ⟨Al, cl, el⟩ := Kd.R_slice ho
       obtain ⟨n1, hn1⟩ : ∃ n1, (xs ++ encU n).length = n1 := ⟨_, rfl⟩
       rw [hn1] at el
       subst el
       clear hn1
       have hfin := WrAt.appended HRa.out HXa.out HBG.out ho ((Below.refl _ _).grown hg HSB.out (Kd.R_base HXa.out)) hg
       have HFIN := Aside0.mk (show WrAt g B (xs ++ encU n) (w1.setRow g [Value.slice Al n1 cl].toArray) ∧ Below B W (w1.setRow g [Value.slice Al n1 cl].toArray) ∧ Others W (w1.setRow g [Value.slice Al n1 cl].toArray) from ⟨hfin.2.1, HBa.out.trans hfin.2.2.1, HOa.out.trans hfin.2.2.2⟩)
       have HR1 := Aside0.mk hfin.1
       have c1 := hfin.1.cell 0 _ rfl
       have f1 := hfin.1.free 0
       clear ho hb hg hat hfin))
  all_goals
    have e1 := HR1.out.set 0 (.slice Al n1 cl)
    rw [show [v].set 0 (.slice Al n1 cl) = [Value.slice Al n1 cl] from rfl] at e1
    rw [e1]
    clear e1 c0 ca c1 f1 hw64
    have X1 := Aside0.mk (HFIN.out.2.2.row HBX.out (by decide) (by decide))
    generalize w1.setRow g [Value.slice Al n1 cl].toArray = w2 at *
    go_wp2_with fail
    go_loopw [22] (fun p wr => ∃ i : Nat, p = .int .i64 (i : Int) ∧ Aside0 (i ≤ n) ∧ Aside0 (WrAt g B (xs ++ encU n ++ encLs (l.take i)) wr) ∧ Aside0 (Below B W wr) ∧ Aside0 (Others W wr) ∧ Aside0 (Rt 92 gb [ptr g] wr)) (fun p _ => n - (intOf p).toNat)
    · exact ⟨0, rfl, ⟨Nat.zero_le _⟩, ⟨by rw [List.take_zero]; show WrAt g B (xs ++ encU n ++ []) w2; rw [List.append_nil]; exact HFIN.out.1⟩, ⟨HFIN.out.2.1⟩, ⟨HFIN.out.2.2⟩, X1⟩
    · obtain ⟨i, rfl, HI, HK, HB, HO, HXr⟩ := hrel
      by_cases ci : i < n
      · have ci1 : decide ((i : Int) < (n : Int)) = true := decide_eq_true (by omega)
        have ci2 : (i : Int) < (n : Int) := by omega
        have ci3 : (0 : Int) ≤ (i : Int) := by omega
        have hw1 : IntKind.i64.wrap ((i : Int) + 1) = ((i + 1 : Nat) : Int) := by rw [IntWalk.i64_in _ (by have := HN.out; omega)]; omega
        obtain ⟨x, hx⟩ : ∃ x, l[i]? = some x := ⟨_, List.getElem?_eq_getElem (by have := HLN.out; omega)⟩
        obtain ⟨ad, rfl, d0, d1, d2⟩ := at_T28 (HCC.out wr HB.out) (i : Int) ci3 ci2
        have hrd : rd_T28 l (i : Int) = x := by unfold rd_T28; rw [Int.toNat_natCast, List.getD_eq_getElem?_getD, hx]; rfl
        rw [hrd, Int.toNat_natCast] at d0 d1 d2
        have HX2 := Aside0.mk hx
        clear hrd hx
        have hsz : B ≤ wr.heap.size := HK.out.size
        have hba : Below wr.heap.size wr (wr.alloc (.cells #[.string x.f0, .int .i64 x.f1, .int .i64 x.f2] 28)) := below_alloc (Below.refl _ _) _
        have HK2 := Aside0.mk (HK.out.below hba)
        have HB2 := Aside0.mk (HB.out.trans (hba.mono hsz))
        have HO2 := Aside0.mk (HO.out.trans (Others.of_below hba))
        have HXr2 := Aside0.mk (HXr.out.below hba)
        have hr7 : Rt 28 wr.heap.size [.string x.f0, .int .i64 x.f1, .int .i64 x.f2] (wr.alloc (.cells #[.string x.f0, .int .i64 x.f1, .int .i64 x.f2] 28)) := heap_alloc_new wr _
        have s0 := hr7.cell 0 _ rfl
        have s1 := hr7.cell 1 _ rfl
        have s2 := hr7.cell 2 _ rfl
        have hmem : x ∈ l := List.mem_of_getElem? HX2.out
        have HLV := Aside0.mk (HLO.out x hmem)
        have HSM := Aside0.mk (show (xs ++ encU n ++ encLs (l.take i)).length + x.f0.size + 100 < 140737488355328 by
          have h1 := encU_len n
          have h2 := encLs_len (l.take (i + 1))
          have h3 := bulkL_take l (i + 1)
          have h4 := HLL.out
          have h5 := bulkL_mem _ x (show x ∈ l.take (i + 1) by rw [take_snoc HX2.out]; simp)
          have h6 := encLs_len (l.take i)
          have h7 : bulkL (l.take (i + 1)) = bulkL (l.take i) + (30 + x.f0.size) := by rw [take_snoc HX2.out]; simp [bulkL]
          rw [List.length_append, List.length_append]
          omega)
        clear hba hsz hr7 hmem HK
        go_upto_region 4 with fail
        generalize wr.alloc (.cells #[.string x.f0, .int .i64 x.f1, .int .i64 x.f2] 28) = w5 at *
        go_wp2_with fail
        go_at_call 109
        refine (w_level HK2.out HXr2.out x HLV.out.1 HLV.out.2 HSM.out).mono ?_
        rintro e w6 ⟨rfl, hk, hb, ho⟩
        have HK3 := Aside0.mk (show WrAt g B (xs ++ encU n ++ encLs (l.take (i + 1))) w6 from by
          have e : xs ++ encU n ++ encLs (l.take (i + 1)) = xs ++ encU n ++ encLs (l.take i) ++ encL x := by
            rw [take_snoc HX2.out]
            simp [encLs]
          rw [e]
          exact hk)
        have HB3 := Aside0.mk (HB2.out.trans hb)
        have HO3 := Aside0.mk (HO2.out.trans ho)
        have HX3 := Aside0.mk (ho.row HXr2.out (by decide) (by decide))
        clear hk hb ho s0 s1 s2 d0 d1 d2
        go_wp2_with fail
        refine ⟨⟨i + 1, rfl, ⟨ci⟩, HK3, HB3, HO3, HX3⟩, ?_⟩
        simp only [intOf]
        omega
      · have ci1 : decide ((i : Int) < (n : Int)) = false := decide_eq_false (by omega)
        go_wp2_with fail
        go_end0
        obtain rfl : i = n := by have := HI.out; omega
        have hk := HK.out
        rw [List.take_of_length_le (Nat.le_of_eq HLN.out), List.append_assoc] at hk
        exact ⟨rfl, hk, HB.out, HO.out⟩
theorem w_levels {g B : Nat} {xs : List Int} {W : World} (k : WrAt g B xs W) (A : Option Addr) (n c : Nat) (l : List S28) (hC : ∀ W', Below B W W' → Kd.C k28 W' A n l) (hlo : LevOk l) (hl : xs.length + bulkL l + 200 < 140737488355328) :
    Calls Try.prog 54 #[ptr g, .slice A n c] W fun e w' => e = .returned (.tuple #[]) ∧ WrAt g B (xs ++ (encU n ++ encLs l)) w' ∧ Below B W w' ∧ Others W w' := by
  have HK := Aside0.mk k
  have HC := Aside0.mk hC
  have HLO := Aside0.mk hlo
  have HLL := Aside0.mk hl
  have hr2 : Rt 92 W.heap.size [ptr g] (W.alloc (.cells #[ptr g] 92)) := heap_alloc_new W _
  have hb1 : Below W.heap.size W (W.alloc (.cells #[ptr g] 92)) := below_alloc (Below.refl _ _) _
  have hmf : ∀ (fn : Fn) (first cap : Array Value) (w : World), (Instr.makeFunc fn first cap).run Try.prog w = .ok (.func fn first cap) w := fun _ _ _ _ => rfl
  clear k hC hlo hl
  go_enter Try.func54, Try.ntmps54
  go_upto_region 1 with fail
  obtain ⟨b2, hb2⟩ : ∃ b2, W.heap.size = b2 := ⟨_, rfl⟩
  have K1 := Aside0.mk (HK.out.below hb1)
  have B1 := Aside0.mk (hb1.mono HK.out.size)
  have O1 := Aside0.mk (Others.of_below hb1)
  rw [hb2] at hr2 ⊢
  have R1 := Aside0.mk hr2
  clear hr2 hb1 hb2
  generalize W.alloc (.cells #[ptr g] 92) = w1 at *
  have c0 := R1.out.cell 0 _ rfl
  go_wp2_with fail
  go_at_call 108
  refine (w_putLevels K1.out R1.out A n c l (fun W' hb => HC.out W' (B1.out.trans hb)) HLO.out HLL.out).mono ?_
  rintro e w2 ⟨rfl, hk, hb, ho⟩
  have K2 := Aside0.mk hk
  have B2 := Aside0.mk (B1.out.trans hb)
  have O2 := Aside0.mk (O1.out.trans ho)
  clear hk hb ho c0 hmf
  go_wp2_with fail
  go_end0
  exact ⟨rfl, K2.out, B2.out, O2.out⟩
def encReply (id : ByteArray) (er line : Int) (l : List S28) (now : Int) : List Int := encT id ++ (encI er ++ (encI line ++ ((encU l.length ++ encLs l) ++ encI now)))
theorem w_reply {g B br : Nat} {xs : List Int} {W : World} (k : WrAt g B xs W) (id : ByteArray) (er line now : Int) (A : Option Addr) (n c : Nat) (l : List S28) (hbr : Rt 25 br [.string id, .int .i64 er, .int .i64 line, .slice A n c, .int .i64 now] W) (hC : ∀ W', Below B W W' → Kd.C k28 W' A n l) (hlo : LevOk l)
    (h1 : Int64 er) (h2 : Int64 line) (h3 : Int64 now) (hl : xs.length + id.size + bulkL l + 400 < 140737488355328) :
    Calls Try.prog 51 #[ptr g, ptr br] W fun e w' => e = .returned (.tuple #[]) ∧ WrAt g B (xs ++ encReply id er line l now) w' ∧ Below B W w' ∧ Others W w' := by
  have HK := Aside0.mk k
  have HC := Aside0.mk hC
  have HLO := Aside0.mk hlo
  have HLL := Aside0.mk hl
  have H1 := Aside0.mk h1
  have H2 := Aside0.mk h2
  have H3 := Aside0.mk h3
  have HR := Aside0.mk hbr
  have HN := Aside0.mk (show l.length = n from Kd.C_len (hC W (Below.refl _ _)))
  have HT := Aside0.mk (encT_len id)
  have HI := Aside0.mk (fun a => encI_len a)
  have HU := Aside0.mk (encU_len n)
  have HE := Aside0.mk (encLs_len l)
  clear k hC hlo hl h1 h2 h3 hbr
  have c0 := HR.out.cell 0 _ rfl
  go_enter Try.func51, Try.ntmps51
  go_wp2_with fail
  go_at_call 52
  refine (w_text HK.out id (by have := HLL.out; omega)).mono ?_
  rintro e w1 ⟨rfl, hk, hb, ho⟩
  have K1 := Aside0.mk hk
  have B1 := Aside0.mk hb
  have O1 := Aside0.mk ho
  have R1 := Aside0.mk (ho.row HR.out (by decide) (by decide))
  clear hk hb ho c0
  have c1 := R1.out.cell 1 _ rfl
  go_wp2_with fail
  go_at_call 53
  refine (w_int K1.out er H1.out (by have := HLL.out; have := HT.out; rw [List.length_append]; omega)).mono ?_
  rintro e w2 ⟨rfl, hk, hb, ho⟩
  have K2 := Aside0.mk hk
  have B2 := Aside0.mk (B1.out.trans hb)
  have O2 := Aside0.mk (O1.out.trans ho)
  have R2 := Aside0.mk (ho.row R1.out (by decide) (by decide))
  clear hk hb ho c1
  have c2 := R2.out.cell 2 _ rfl
  go_wp2_with fail
  go_at_call 53
  refine (w_int K2.out line H2.out (by have := HLL.out; have := HT.out; have := HI.out er; rw [List.length_append, List.length_append]; omega)).mono ?_
  rintro e w3 ⟨rfl, hk, hb, ho⟩
  have K3 := Aside0.mk hk
  have B3 := Aside0.mk (B2.out.trans hb)
  have O3 := Aside0.mk (O2.out.trans ho)
  have R3 := Aside0.mk (ho.row R2.out (by decide) (by decide))
  clear hk hb ho c2
  have c3 := R3.out.cell 3 _ rfl
  go_wp2_with fail
  go_at_call 54
  refine (w_levels K3.out A n c l (fun W' hb => HC.out W' (B3.out.trans hb)) HLO.out (by have := HLL.out; have := HT.out; have := HI.out er; have := HI.out line; rw [List.length_append, List.length_append, List.length_append]; omega)).mono ?_
  rintro e w4 ⟨rfl, hk, hb, ho⟩
  have K4 := Aside0.mk hk
  have B4 := Aside0.mk (B3.out.trans hb)
  have O4 := Aside0.mk (O3.out.trans ho)
  have R4 := Aside0.mk (ho.row R3.out (by decide) (by decide))
  clear hk hb ho c3
  have c4 := R4.out.cell 4 _ rfl
  go_wp2_with fail
  go_at_call 53
  refine (w_int K4.out now H3.out (by have := HLL.out; have := HT.out; have := HI.out er; have := HI.out line; have := HU.out; have := HE.out; rw [List.length_append, List.length_append, List.length_append, List.length_append, List.length_append]; omega)).mono ?_
  rintro e w5 ⟨rfl, hk, hb, ho⟩
  have K5 := Aside0.mk hk
  have B5 := Aside0.mk (B4.out.trans hb)
  have O5 := Aside0.mk (O4.out.trans ho)
  clear hk hb ho c4
  go_wp2_with fail
  go_end0
  have e : xs ++ encReply id er line l now = xs ++ encT id ++ encI er ++ encI line ++ (encU n ++ encLs l) ++ encI now := by
    unfold encReply
    rw [HN.out]
    simp only [List.append_assoc]
  rw [e]
  exact ⟨rfl, K5.out, B5.out, O5.out⟩
end Go.Proofs.Ytafmoglaockepaa.Cd
end
section
namespace Go.Proofs.Ytafmoglaockepaa.Cd
open Go Go.RowKit Go.Proofs.Ytafmoglaockepaa.Num Go.Proofs.Ytafmoglaockepaa.PG Go.Proofs.YtafmoglaockepaaW.PrintWords Go.Proofs.YtafmoglaockepaaW.PrintLast Go.Proofs.YtafmoglaockepaaW.PrintMore
set_option linter.unusedVariables false
set_option linter.unusedSimpArgs false
set_option maxHeartbeats 4000000
set_option maxRecDepth 100000
theorem key_row {W : World} {g B : Nat} {x : Int} (h : W.heap[g]? = some (.cells #[.int .u8 x] 5 (0, 0))) (hB : B ≤ g) : (Kd.int .u8).R 5 W B (fun _ => True) (.slice (some ⟨g, 0, none⟩) 1 1) [x] := by
  refine Kd.R_of_own ?_ (fun _ _ => trivial)
  exact ⟨rfl, .inr ⟨g, 1, #[.int .u8 x], rfl, hB, h, Nat.le_refl _, by decide, rfl, rfl⟩⟩
def putCode (most : Nat) (bs : List Int) : Int := if most < bs.length then 1 else 0
def putOut (most : Nat) (bs : List Int) : List Int := if most < bs.length then [] else bs
theorem put_reply (key : Int) (most br : Nat) (ys : List Int) (W : World) (hm : most ≤ 1000000000)
    (hF : ∀ g W', WrAt g W.heap.size [key] W' → Below W.heap.size W W' → Calls Try.prog 51 #[ptr g, ptr br] W' fun e w' => e = .returned (.tuple #[]) ∧ WrAt g W.heap.size ([key] ++ ys) w' ∧ Below W.heap.size W' w' ∧ Others W' w') :
    Calls Try.prog 50 #[.int .u8 key, .int .i64 (most : Int), .func (.func 51) #[] #[ptr br]] W fun e w' => ∃ v, e = .returned (.tuple #[v, .int .i64 (putCode most (key :: ys))]) ∧ (Kd.int .u8).R 5 w' W.heap.size (fun _ => True) v (putOut most (key :: ys)) ∧ Below W.heap.size W w' := by
  have HF := Aside0.mk hF
  have HM := Aside0.mk hm
  clear hF hm
  go_enter Try.func50, Try.ntmps50
  go_upto_region 2 with fail
  have ha1 : (W.alloc (.cells #[.int .u8 key] 5)).heap[W.heap.size]? = some (.cells #[.int .u8 key] 5 (0, 0)) := heap_alloc_new W _
  have hs1 : (W.alloc (.cells #[.int .u8 key] 5)).heap.size = W.heap.size + 1 := by simp
  have hb1 : Below W.heap.size W (W.alloc (.cells #[.int .u8 key] 5)) := below_alloc (Below.refl _ _) _
  obtain ⟨B, hB⟩ : ∃ B, W.heap.size = B := ⟨_, rfl⟩
  have HB := Aside0.mk hB
  rw [hB] at ha1 hs1 hb1 ⊢
  generalize W.alloc (.cells #[.int .u8 key] 5) = wx at *
  have hr2 : Rt 146 wx.heap.size [.slice (some ⟨B, 0, none⟩) 1 1] (wx.alloc (.cells #[.slice (some ⟨B, 0, none⟩) 1 1] 146)) := heap_alloc_new wx _
  have hb2 : Below wx.heap.size wx (wx.alloc (.cells #[.slice (some ⟨B, 0, none⟩) 1 1] 146)) := below_alloc (Below.refl _ _) _
  have hk := key_row (B := B) ((hb2.block B (by omega)).trans ha1) (Nat.le_refl _)
  have K1 := Aside0.mk (show WrAt (B + 1) B [key] (wx.alloc (.cells #[.slice (some ⟨B, 0, none⟩) 1 1] 146)) from ⟨⟨_, by rw [hs1] at hr2; exact hr2, hk⟩, Nat.le_succ _⟩)
  have B1 := Aside0.mk (show Below B W (wx.alloc (.cells #[.slice (some ⟨B, 0, none⟩) 1 1] 146)) from hb1.trans (hb2.mono (by omega)))
  clear ha1 hs1 hb1 hr2 hb2 hk hB
  generalize wx.alloc (.cells #[.slice (some ⟨B, 0, none⟩) 1 1] 146) = w1 at *
  obtain ⟨g, hg⟩ : ∃ g, B + 1 = g := ⟨_, rfl⟩
  have k1 := K1.out
  rw [hg] at k1 ⊢
  have K1 := Aside0.mk k1
  have HFN := HF.out g w1 (by rw [HB.out]; exact K1.out) (by rw [HB.out]; exact B1.out)
  rw [HB.out] at HFN
  have HFN := Aside0.mk HFN
  clear k1 hg HF
  go_wp2_with fail
  go_at_call 51
  refine HFN.out.mono ?_
  rintro e w2 ⟨rfl, hk, hb, ho⟩
  obtain ⟨ys2, hys⟩ : ∃ ys2, [key] ++ ys = ys2 := ⟨_, rfl⟩
  rw [hys] at hk
  have HYS := Aside0.mk (show key :: ys = ys2 from hys)
  obtain ⟨v, hr, hR⟩ := hk.ex
  have B2 := Aside0.mk (B1.out.trans hb)
  obtain ⟨Av, cv, rfl⟩ := Kd.R_slice hR
  obtain ⟨m, hm2⟩ : ∃ m, ys2.length = m := ⟨_, rfl⟩
  have HRR := Aside0.mk hR
  have HM2 := Aside0.mk hm2
  rw [hm2] at hr
  have c0 := hr.cell 0 _ rfl
  clear hk hb ho hr hR hm2 hys HFN K1 B1
  by_cases hmo : most < m
  · have d1 : decide ((most : Int) < (m : Int)) = true := decide_eq_true (by omega)
    have d2 : decide (most < m) = true := decide_eq_true hmo
    have HMO := Aside0.mk hmo
    clear hmo
    go_wp2_with fail
    go_ret2
    rw [HYS.out, HB.out]
    refine ⟨.slice none 0 0, ?_, ?_, B2.out⟩
    · unfold putCode
      rw [HM2.out, if_pos HMO.out]
      rfl
    · unfold putOut
      rw [HM2.out, if_pos HMO.out]
      exact Kd.R_nil _ _ _ _ _
  · have d1 : decide ((most : Int) < (m : Int)) = false := decide_eq_false (by omega)
    have d2 : decide (most < m) = false := decide_eq_false hmo
    have HMO := Aside0.mk hmo
    clear hmo
    go_wp2_with fail
    go_ret2
    rw [HYS.out, HB.out]
    refine ⟨.slice Av m cv, ?_, ?_, B2.out⟩
    · unfold putCode
      rw [HM2.out, if_neg HMO.out]
      rfl
    · unfold putOut
      rw [HM2.out, if_neg HMO.out, ← HM2.out]
      exact HRR.out
theorem PutReply_at (id : ByteArray) (er line now : Int) (A : Option Addr) (n c : Nat) (l : List S28) (W : World) (hC : Kd.C k28 W A n l) (hlo : LevOk l) (h1 : Int64 er) (h2 : Int64 line) (h3 : Int64 now) (hl : id.size + bulkL l + 500 < 140737488355328) :
    Calls Try.prog 11 #[.agg #[.string id, .int .i64 er, .int .i64 line, .slice A n c, .int .i64 now]] W fun e w' => ∃ v, e = .returned (.tuple #[v, .int .i64 (putCode 4096 (82 :: encReply id er line l now))]) ∧ (Kd.int .u8).R 5 w' W.heap.size (fun _ => True) v (putOut 4096 (82 :: encReply id er line l now)) ∧ Below W.heap.size W w' := by
  have HC := Aside0.mk hC
  have HLO := Aside0.mk hlo
  have H1 := Aside0.mk h1
  have H2 := Aside0.mk h2
  have H3 := Aside0.mk h3
  have HL := Aside0.mk hl
  have hr1 : Rt 25 W.heap.size [.string id, .int .i64 er, .int .i64 line, .slice A n c, .int .i64 now] (W.alloc (.cells #[.string id, .int .i64 er, .int .i64 line, .slice A n c, .int .i64 now] 25)) := heap_alloc_new W _
  have hb1 : Below W.heap.size W (W.alloc (.cells #[.string id, .int .i64 er, .int .i64 line, .slice A n c, .int .i64 now] 25)) := below_alloc (Below.refl _ _) _
  have hmf : ∀ (fn : Fn) (first cap : Array Value) (w : World), (Instr.makeFunc fn first cap).run Try.prog w = .ok (.func fn first cap) w := fun _ _ _ _ => rfl
  clear hC hlo h1 h2 h3 hl
  go_enter Try.func11, Try.ntmps11
  go_upto_region 1 with fail
  obtain ⟨b, hb⟩ : ∃ b, W.heap.size = b := ⟨_, rfl⟩
  have HB := Aside0.mk hb1
  have HBE := Aside0.mk hb
  rw [hb] at hr1 ⊢
  have HR := Aside0.mk hr1
  clear hr1 hb1 hb
  generalize W.alloc (.cells #[.string id, .int .i64 er, .int .i64 line, .slice A n c, .int .i64 now] 25) = w1 at *
  have HPUT := Aside0.mk (put_reply 82 4096 b (encReply id er line l now) w1 (by decide) (fun g W' hk hb => w_reply hk id er line now A n c l (HR.out.below hb) (fun W2 hb2 => Kd.C_below HC.out ((HB.out.trans (hb.mono HB.out.size)).trans (hb2.mono HB.out.size))) HLO.out H1.out H2.out H3.out (by have := HL.out; simp only [List.length_singleton]; omega)))
  go_wp2_with fail
  go_at_call 50
  refine HPUT.out.mono ?_
  rintro e w2 ⟨v, rfl, hR, hb⟩
  have HRR := Aside0.mk (show (Kd.int .u8).R 5 w2 W.heap.size (fun _ => True) v (putOut 4096 (82 :: encReply id er line l now)) from Kd.R_lower hR HB.out.size)
  have HBB := Aside0.mk (HB.out.trans (hb.mono HB.out.size))
  obtain ⟨Av, cv, ev⟩ := Kd.R_slice hR
  obtain ⟨m, hm⟩ : ∃ m, (putOut 4096 (82 :: encReply id er line l now)).length = m := ⟨_, rfl⟩
  rw [hm] at ev
  subst ev
  clear hR hb hm hmf HPUT
  go_wp2_with fail
  go_ret2
  rw [HBE.out] at *
  exact ⟨_, rfl, HRR.out, HBB.out⟩
end Go.Proofs.Ytafmoglaockepaa.Cd
end
section
namespace Go.Proofs.Ytafmoglaockepaa.Cd
open Go Go.RowKit Go.Proofs.Ytafmoglaockepaa.Num Go.Proofs.Ytafmoglaockepaa.PG Go.Proofs.YtafmoglaockepaaW.PrintWords Go.Proofs.YtafmoglaockepaaW.PrintLast Go.Proofs.YtafmoglaockepaaW.PrintMore
set_option linter.unusedVariables false
theorem w64n {k : Nat} (h : k < 9223372036854775807) : wrap64 ((k : Int) + 1) = ((k + 1 : Nat) : Int) := by unfold wrap64; omega
theorem drop_at {α : Type} {l : List α} {i : Nat} {x : α} (h : l[i]? = some x) : l.drop i = x :: l.drop (i + 1) := by
  obtain ⟨hd, rfl⟩ := List.getElem?_eq_some_iff.1 h
  exact List.drop_eq_getElem_cons hd
end Go.Proofs.Ytafmoglaockepaa.Cd
end
section
namespace Go.Proofs.Ytafmoglaockepaa.Cd
open Go Go.RowKit Go.Proofs.Ytafmoglaockepaa.Mine Go.Proofs.Ytafmoglaockepaa.Num Go.Proofs.Ytafmoglaockepaa.PG Go.Proofs.YtafmoglaockepaaW.PrintWords Go.Proofs.YtafmoglaockepaaW.PrintLast Go.Proofs.YtafmoglaockepaaW.PrintMore
attribute [local go_sem] max2_int min2_int max_two min_two max_three min_three max_four min_four
attribute [local go_sem high] eqA110
set_option linter.unusedVariables false
set_option linter.unusedSimpArgs false
set_option maxHeartbeats 8000000
set_option maxRecDepth 100000
theorem rd110 {l : List S110} {i : Nat} {x : S110} (h : l[i]? = some x) : rd_T110 l (i : Int) = x := by
  unfold rd_T110
  rw [Int.toNat_natCast, List.getD_eq_getElem?_getD, h]
  rfl
end Go.Proofs.Ytafmoglaockepaa.Cd
end
section
namespace Go.Proofs.Ytafmoglaockepaa.Cd
open Go Go.RowKit Go.Proofs.Ytafmoglaockepaa.Num Go.Proofs.Ytafmoglaockepaa.PG Go.Proofs.YtafmoglaockepaaW.PrintWords Go.Proofs.YtafmoglaockepaaW.PrintLast Go.Proofs.YtafmoglaockepaaW.PrintMore
set_option linter.unusedVariables false
set_option linter.unusedSimpArgs false
set_option maxHeartbeats 4000000
set_option maxRecDepth 100000
def encN (x : S110) : List Int := encT x.f0 ++ encI x.f1
theorem encN_len (x : S110) : (encN x).length ≤ 20 + x.f0.size := by
  have h0 := encT_len x.f0
  have h1 := encI_len x.f1
  unfold encN
  rw [List.length_append]
  omega
theorem w_line {g B gb : Nat} {xs : List Int} {W : World} (k : WrAt g B xs W) (hbx : Rt 92 gb [ptr g] W) (x : S110) (h1 : Int64 x.f1) (hl : xs.length + x.f0.size + 100 < 140737488355328) :
    Calls Try.prog 127 #[.agg #[.string x.f0, .int .i64 x.f1], ptr gb] W fun e w' => e = .returned (.tuple #[]) ∧ WrAt g B (xs ++ encN x) w' ∧ Below B W w' ∧ Others W w' := by
  have HK := Aside0.mk k
  have HBX := Aside0.mk hbx
  have H1 := Aside0.mk h1
  have HL := Aside0.mk hl
  have HS := Aside0.mk k.size
  clear k hbx h1 hl
  go_enter Try.func127, Try.ntmps127
  go_upto_region 1 with fail
  have hr2 : Rt 110 W.heap.size [.string x.f0, .int .i64 x.f1] (W.alloc (.cells #[.string x.f0, .int .i64 x.f1] 110)) := heap_alloc_new W _
  have hb1 : Below W.heap.size W (W.alloc (.cells #[.string x.f0, .int .i64 x.f1] 110)) := below_alloc (Below.refl _ _) _
  obtain ⟨b2, hb2⟩ : ∃ b2, W.heap.size = b2 := ⟨_, rfl⟩
  have K1 := Aside0.mk (HK.out.below hb1)
  have B1 := Aside0.mk (hb1.mono HS.out)
  have O1 := Aside0.mk (Others.of_below hb1)
  have X1 := Aside0.mk (HBX.out.below hb1)
  rw [hb2] at hr2 ⊢
  have R1 := Aside0.mk hr2
  clear hr2 hb1 hb2
  generalize W.alloc (.cells #[.string x.f0, .int .i64 x.f1] 110) = w1 at *
  have c0 := R1.out.cell 0 _ rfl
  have cx := X1.out.cell 0 _ rfl
  go_wp2_with fail
  go_at_call 52
  refine (w_text K1.out x.f0 (by have := HL.out; omega)).mono ?_
  rintro e w2 ⟨rfl, hk, hb, ho⟩
  have K2 := Aside0.mk hk
  have B2 := Aside0.mk (B1.out.trans hb)
  have O2 := Aside0.mk (O1.out.trans ho)
  have R2 := Aside0.mk (ho.row R1.out (by decide) (by decide))
  have X2 := Aside0.mk (ho.row X1.out (by decide) (by decide))
  clear hk hb ho c0 cx
  have c1 := R2.out.cell 1 _ rfl
  have cx := X2.out.cell 0 _ rfl
  go_wp2_with fail
  go_at_call 53
  refine (w_int K2.out x.f1 H1.out (by have := HL.out; have := encT_len x.f0; rw [List.length_append]; omega)).mono ?_
  rintro e w3 ⟨rfl, hk, hb, ho⟩
  have K3 := Aside0.mk hk
  have B3 := Aside0.mk (B2.out.trans hb)
  have O3 := Aside0.mk (O2.out.trans ho)
  have R3 := Aside0.mk (ho.row R2.out (by decide) (by decide))
  have X3 := Aside0.mk (ho.row X2.out (by decide) (by decide))
  clear hk hb ho c1 cx
  go_wp2_with fail
  go_end0
  have e : xs ++ encN x = xs ++ encT x.f0 ++ encI x.f1 := by unfold encN; simp only [List.append_assoc]
  rw [e]
  exact ⟨rfl, K3.out, B3.out, O3.out⟩
def encNs (l : List S110) : List Int := l.flatMap encN
def bulkN (l : List S110) : Nat := (l.map fun x => 20 + x.f0.size).sum
theorem encNs_len : ∀ l : List S110, (encNs l).length ≤ bulkN l
  | [] => by simp [encNs, bulkN]
  | x :: l => by
    have h1 := encNs_len l
    have h2 := encN_len x
    simp only [encNs, bulkN, List.flatMap_cons, List.length_append, List.map_cons, List.sum_cons] at h1 ⊢
    omega
theorem bulkN_take : ∀ (l : List S110) (i : Nat), bulkN (l.take i) ≤ bulkN l
  | [], i => by simp [bulkN]
  | x :: l, 0 => by simp [bulkN]
  | x :: l, i + 1 => by
    have h1 := bulkN_take l i
    simp only [bulkN, List.take_succ_cons, List.map_cons, List.sum_cons] at h1 ⊢
    omega
theorem bulkN_mem : ∀ (l : List S110) (x : S110), x ∈ l → 20 + x.f0.size ≤ bulkN l
  | y :: l, x, h => by
    simp only [bulkN, List.map_cons, List.sum_cons]
    rcases List.mem_cons.1 h with rfl | h
    · omega
    · have := bulkN_mem l x h
      simp only [bulkN] at this
      omega
def LinOk (l : List S110) : Prop := ∀ x ∈ l, Int64 x.f1
theorem w_putLines {g B gb : Nat} {xs : List Int} {W : World} (k : WrAt g B xs W) (hbx : Rt 92 gb [ptr g] W) (A : Option Addr) (n c : Nat) (l : List S110) (hC : ∀ W', Below B W W' → Kd.C k110 W' A n l) (hlo : LinOk l) (hl : xs.length + bulkN l + 200 < 140737488355328) :
    Calls Try.prog 126 #[ptr g, .slice A n c, .func (.func 127) #[] #[ptr gb]] W fun e w' => e = .returned (.tuple #[]) ∧ WrAt g B (xs ++ (encU n ++ encNs l)) w' ∧ Below B W w' ∧ Others W w' := by
  have hln : l.length = n := Kd.C_len (hC W (Below.refl _ _))
  have hn63 := (Kd.C_len (hC W (Below.refl _ _)))
  have hbl : 20 * l.length ≤ bulkN l := by
    clear hC hl hlo hln hn63
    induction l with
    | nil => simp [bulkN]
    | cons x l ih => simp only [bulkN, List.map_cons, List.sum_cons, List.length_cons] at ih ⊢; omega
  have HN := Aside0.mk (show n < 140737488355328 by omega)
  have HLN := Aside0.mk hln
  have HCC := Aside0.mk hC
  have HLO := Aside0.mk hlo
  have HLL := Aside0.mk hl
  have HBX := Aside0.mk hbx
  have HSZ := Aside0.mk k.size
  have HBG := Aside0.mk k.b
  obtain ⟨v, hr, hR⟩ := k.ex
  have HR := Aside0.mk hr
  have HX := Aside0.mk hR
  have HLEN := Aside0.mk (show (xs.length + (encU n).length) * 1 ≤ 140737488355328 by have := encU_len n; omega)
  have c0 := hr.cell 0 _ rfl
  have hw64 : IntKind.u64.wrap (n : Int) = (n : Int) := by rw [IntKind.wrap_u64]; omega
  clear k hr hR hln hn63 hbl hC hlo hl hbx
  go_enter Try.func126, Try.ntmps126
  go_upto_region 0 with fail
  go_region_law (first
    | (go_simp
       go_at_call 125
       refine (frame_PutUint.calls 11 none 0 [] (n : Int) (encU n) _ (Kd.C_nil _ _) (Nat.le_refl _) (by have := putUint_ok 11 (by decide) [] n (by have := HN.out; omega) (by decide); rwa [List.nil_append] at this)).mono ?_
       rintro e wa ⟨v0, rfl, hR, hb⟩
       obtain ⟨Av, cv, rfl, hcv, hC⟩ := Kd.R_reads hR
       have hb0 : Below W.heap.size W wa := (below_drew (Below.refl _ _)).trans hb
       have HRa := Aside0.mk (HR.out.below hb0)
       have HXa := Aside0.mk (Kd.R_below HX.out hb0)
       have HBa := Aside0.mk (hb0.mono HSZ.out)
       have HSB := Aside0.mk (Nat.le_trans HSZ.out hb0.size)
       have HCa := Aside0.mk hC
       have HOa := Aside0.mk (Others.of_below hb0)
       have ca := HRa.out.cell 0 _ rfl
       clear hR hb hcv hC hb0)
    | (refine Kd.R_append_rows_step (Kd.int .u8) (Rr := (Kd.int .u8).K wa) (w0 := W) B (by rfl) (.tmp 12) (.tmp 16) 26 5 (.int .u8 0) 1 rfl Try.underlying26 info5' rfl (by decide) (by decide) v xs (encU n) Av (encU n).length cv (fun _ => True) (fun _ => False) rfl rfl HXa.out HCa.out (fun _ _ h => h) (fun _ h => h.elim) (fun _ _ => trivial) HBa.out HSB.out HLEN.out ?_
       intro v1 w1 ho hb hg hat
       obtain ⟨Al, cl, el⟩ := Kd.R_slice ho
       obtain ⟨n1, hn1⟩ : ∃ n1, (xs ++ encU n).length = n1 := ⟨_, rfl⟩
       rw [hn1] at el
       subst el
       clear hn1
       have hfin := WrAt.appended HRa.out HXa.out HBG.out ho ((Below.refl _ _).grown hg HSB.out (Kd.R_base HXa.out)) hg
       have HFIN := Aside0.mk (show WrAt g B (xs ++ encU n) (w1.setRow g [Value.slice Al n1 cl].toArray) ∧ Below B W (w1.setRow g [Value.slice Al n1 cl].toArray) ∧ Others W (w1.setRow g [Value.slice Al n1 cl].toArray) from ⟨hfin.2.1, HBa.out.trans hfin.2.2.1, HOa.out.trans hfin.2.2.2⟩)
       have HR1 := Aside0.mk hfin.1
       have c1 := hfin.1.cell 0 _ rfl
       have f1 := hfin.1.free 0
       clear ho hb hg hat hfin))
  all_goals
    have e1 := HR1.out.set 0 (.slice Al n1 cl)
    rw [show [v].set 0 (.slice Al n1 cl) = [Value.slice Al n1 cl] from rfl] at e1
    rw [e1]
    clear e1 c0 ca c1 f1 hw64
    have X1 := Aside0.mk (HFIN.out.2.2.row HBX.out (by decide) (by decide))
    generalize w1.setRow g [Value.slice Al n1 cl].toArray = w2 at *
    go_wp2_with fail
    go_loopw [22] (fun p wr => ∃ i : Nat, p = .int .i64 (i : Int) ∧ Aside0 (i ≤ n) ∧ Aside0 (WrAt g B (xs ++ encU n ++ encNs (l.take i)) wr) ∧ Aside0 (Below B W wr) ∧ Aside0 (Others W wr) ∧ Aside0 (Rt 92 gb [ptr g] wr)) (fun p _ => n - (intOf p).toNat)
    · exact ⟨0, rfl, ⟨Nat.zero_le _⟩, ⟨by rw [List.take_zero]; show WrAt g B (xs ++ encU n ++ []) w2; rw [List.append_nil]; exact HFIN.out.1⟩, ⟨HFIN.out.2.1⟩, ⟨HFIN.out.2.2⟩, X1⟩
    · obtain ⟨i, rfl, HI, HK, HB, HO, HXr⟩ := hrel
      by_cases ci : i < n
      · have ci1 : decide ((i : Int) < (n : Int)) = true := decide_eq_true (by omega)
        have ci2 : (i : Int) < (n : Int) := by omega
        have ci3 : (0 : Int) ≤ (i : Int) := by omega
        have hw1 : IntKind.i64.wrap ((i : Int) + 1) = ((i + 1 : Nat) : Int) := by rw [IntWalk.i64_in _ (by have := HN.out; omega)]; omega
        obtain ⟨x, hx⟩ : ∃ x, l[i]? = some x := ⟨_, List.getElem?_eq_getElem (by have := HLN.out; omega)⟩
        obtain ⟨ad, rfl, d0, d1⟩ := at_T110 (HCC.out wr HB.out) (i : Int) ci3 ci2
        have hrd : rd_T110 l (i : Int) = x := by unfold rd_T110; rw [Int.toNat_natCast, List.getD_eq_getElem?_getD, hx]; rfl
        rw [hrd, Int.toNat_natCast] at d0 d1
        have HX2 := Aside0.mk hx
        clear hrd hx
        have hsz : B ≤ wr.heap.size := HK.out.size
        have hba : Below wr.heap.size wr (wr.alloc (.cells #[.string x.f0, .int .i64 x.f1] 110)) := below_alloc (Below.refl _ _) _
        have HK2 := Aside0.mk (HK.out.below hba)
        have HB2 := Aside0.mk (HB.out.trans (hba.mono hsz))
        have HO2 := Aside0.mk (HO.out.trans (Others.of_below hba))
        have HXr2 := Aside0.mk (HXr.out.below hba)
        have hr7 : Rt 110 wr.heap.size [.string x.f0, .int .i64 x.f1] (wr.alloc (.cells #[.string x.f0, .int .i64 x.f1] 110)) := heap_alloc_new wr _
        have s0 := hr7.cell 0 _ rfl
        have s1 := hr7.cell 1 _ rfl
        have hmem : x ∈ l := List.mem_of_getElem? HX2.out
        have HLV := Aside0.mk (HLO.out x hmem)
        have HSM := Aside0.mk (show (xs ++ encU n ++ encNs (l.take i)).length + x.f0.size + 100 < 140737488355328 by
          have h1 := encU_len n
          have h2 := encNs_len (l.take (i + 1))
          have h3 := bulkN_take l (i + 1)
          have h4 := HLL.out
          have h5 := bulkN_mem _ x (show x ∈ l.take (i + 1) by rw [take_snoc HX2.out]; simp)
          have h6 := encNs_len (l.take i)
          have h7 : bulkN (l.take (i + 1)) = bulkN (l.take i) + (20 + x.f0.size) := by rw [take_snoc HX2.out]; simp [bulkN]
          rw [List.length_append, List.length_append]
          omega)
        clear hba hsz hr7 hmem HK
        go_upto_region 4 with fail
        generalize wr.alloc (.cells #[.string x.f0, .int .i64 x.f1] 110) = w5 at *
        go_wp2_with fail
        go_at_call 127
        refine (w_line HK2.out HXr2.out x HLV.out HSM.out).mono ?_
        rintro e w6 ⟨rfl, hk, hb, ho⟩
        have HK3 := Aside0.mk (show WrAt g B (xs ++ encU n ++ encNs (l.take (i + 1))) w6 from by
          have e : xs ++ encU n ++ encNs (l.take (i + 1)) = xs ++ encU n ++ encNs (l.take i) ++ encN x := by
            rw [take_snoc HX2.out]
            simp [encNs]
          rw [e]
          exact hk)
        have HB3 := Aside0.mk (HB2.out.trans hb)
        have HO3 := Aside0.mk (HO2.out.trans ho)
        have HX3 := Aside0.mk (ho.row HXr2.out (by decide) (by decide))
        clear hk hb ho s0 s1 d0 d1
        go_wp2_with fail
        refine ⟨⟨i + 1, rfl, ⟨ci⟩, HK3, HB3, HO3, HX3⟩, ?_⟩
        simp only [intOf]
        omega
      · have ci1 : decide ((i : Int) < (n : Int)) = false := decide_eq_false (by omega)
        go_wp2_with fail
        go_end0
        obtain rfl : i = n := by have := HI.out; omega
        have hk := HK.out
        rw [List.take_of_length_le (Nat.le_of_eq HLN.out), List.append_assoc] at hk
        exact ⟨rfl, hk, HB.out, HO.out⟩
theorem w_lines {g B : Nat} {xs : List Int} {W : World} (k : WrAt g B xs W) (A : Option Addr) (n c : Nat) (l : List S110) (hC : ∀ W', Below B W W' → Kd.C k110 W' A n l) (hlo : LinOk l) (hl : xs.length + bulkN l + 200 < 140737488355328) :
    Calls Try.prog 84 #[ptr g, .slice A n c] W fun e w' => e = .returned (.tuple #[]) ∧ WrAt g B (xs ++ (encU n ++ encNs l)) w' ∧ Below B W w' ∧ Others W w' := by
  have HK := Aside0.mk k
  have HC := Aside0.mk hC
  have HLO := Aside0.mk hlo
  have HLL := Aside0.mk hl
  have hr2 : Rt 92 W.heap.size [ptr g] (W.alloc (.cells #[ptr g] 92)) := heap_alloc_new W _
  have hb1 : Below W.heap.size W (W.alloc (.cells #[ptr g] 92)) := below_alloc (Below.refl _ _) _
  have hmf : ∀ (fn : Fn) (first cap : Array Value) (w : World), (Instr.makeFunc fn first cap).run Try.prog w = .ok (.func fn first cap) w := fun _ _ _ _ => rfl
  clear k hC hlo hl
  go_enter Try.func84, Try.ntmps84
  go_upto_region 1 with fail
  obtain ⟨b2, hb2⟩ : ∃ b2, W.heap.size = b2 := ⟨_, rfl⟩
  have K1 := Aside0.mk (HK.out.below hb1)
  have B1 := Aside0.mk (hb1.mono HK.out.size)
  have O1 := Aside0.mk (Others.of_below hb1)
  rw [hb2] at hr2 ⊢
  have R1 := Aside0.mk hr2
  clear hr2 hb1 hb2
  generalize W.alloc (.cells #[ptr g] 92) = w1 at *
  have c0 := R1.out.cell 0 _ rfl
  go_wp2_with fail
  go_at_call 126
  refine (w_putLines K1.out R1.out A n c l (fun W' hb => HC.out W' (B1.out.trans hb)) HLO.out HLL.out).mono ?_
  rintro e w2 ⟨rfl, hk, hb, ho⟩
  have K2 := Aside0.mk hk
  have B2 := Aside0.mk (B1.out.trans hb)
  have O2 := Aside0.mk (O1.out.trans ho)
  clear hk hb ho c0 hmf
  go_wp2_with fail
  go_end0
  exact ⟨rfl, K2.out, B2.out, O2.out⟩
def encReq (id : ByteArray) (ki : Int) (l : List S110) (ho : ByteArray) (ttl now : Int) : List Int := encT id ++ (encI ki ++ ((encU l.length ++ encNs l) ++ (encT ho ++ (encI ttl ++ encI now))))
theorem w_request {g B : Nat} {xs : List Int} {W : World} (k : WrAt g B xs W) (id : ByteArray) (ki : Int) (A : Option Addr) (n c : Nat) (l : List S110) (ho : ByteArray) (ttl now : Int) (hC : ∀ W', Below B W W' → Kd.C k110 W' A n l) (hlo : LinOk l)
    (h1 : Int64 ki) (h2 : Int64 ttl) (h3 : Int64 now) (hl : xs.length + id.size + ho.size + bulkN l + 400 < 140737488355328) :
    Calls Try.prog 71 #[ptr g, .agg #[.string id, .int .i64 ki, .slice A n c, .string ho, .int .i64 ttl, .int .i64 now]] W fun e w' => e = .returned (.tuple #[]) ∧ WrAt g B (xs ++ encReq id ki l ho ttl now) w' ∧ Below B W w' ∧ Others W w' := by
  have HLL := Aside0.mk hl
  have HN := Aside0.mk (show l.length = n from Kd.C_len (hC W (Below.refl _ _)))
  have HC := Aside0.mk hC
  have HLO := Aside0.mk hlo
  have H1 := Aside0.mk h1
  have H2 := Aside0.mk h2
  have H3 := Aside0.mk h3
  have HT := Aside0.mk (encT_len id)
  have HT2 := Aside0.mk (encT_len ho)
  have HI := Aside0.mk (fun a => encI_len a)
  have HU := Aside0.mk (encU_len n)
  have HE := Aside0.mk (encNs_len l)
  have hr2 : Rt 40 W.heap.size [.string id, .int .i64 ki, .slice A n c, .string ho, .int .i64 ttl, .int .i64 now] (W.alloc (.cells #[.string id, .int .i64 ki, .slice A n c, .string ho, .int .i64 ttl, .int .i64 now] 40)) := heap_alloc_new W _
  have hb1 : Below W.heap.size W (W.alloc (.cells #[.string id, .int .i64 ki, .slice A n c, .string ho, .int .i64 ttl, .int .i64 now] 40)) := below_alloc (Below.refl _ _) _
  have HS := Aside0.mk k.size
  obtain ⟨b2, hb2⟩ : ∃ b2, W.heap.size = b2 := ⟨_, rfl⟩
  have HB2 := Aside0.mk hb2
  have K1 := Aside0.mk (k.below hb1)
  have B1 := Aside0.mk (hb1.mono HS.out)
  have O1 := Aside0.mk (Others.of_below hb1)
  rw [hb2] at hr2
  have R1 := Aside0.mk hr2
  clear k hC hlo hl h1 h2 h3 hr2 hb1 hb2
  go_enter Try.func71, Try.ntmps71
  go_upto_region 1 with fail
  have hb2 := HB2.out
  rw [hb2]
  clear hb2
  generalize W.alloc (.cells #[.string id, .int .i64 ki, .slice A n c, .string ho, .int .i64 ttl, .int .i64 now] 40) = w1 at *
  have c0 := R1.out.cell 0 _ rfl
  go_wp2_with fail
  go_at_call 52
  refine (w_text K1.out id (by have := HLL.out; have := HT.out; have := HT2.out; have := HI.out ki; have := HI.out ttl; have := HI.out now; have := HU.out; have := HE.out; (try simp only [List.length_append]); omega)).mono ?_
  rintro e w2 ⟨rfl, hk, hb, ho⟩
  have K2 := Aside0.mk hk
  have B2 := Aside0.mk (B1.out.trans hb)
  have O2 := Aside0.mk (O1.out.trans ho)
  have R2 := Aside0.mk (ho.row R1.out (by decide) (by decide))
  clear hk hb ho c0
  have c0 := R2.out.cell 1 _ rfl
  go_wp2_with fail
  go_at_call 53
  refine (w_int K2.out ki H1.out (by have := HLL.out; have := HT.out; have := HT2.out; have := HI.out ki; have := HI.out ttl; have := HI.out now; have := HU.out; have := HE.out; (try simp only [List.length_append]); omega)).mono ?_
  rintro e w3 ⟨rfl, hk, hb, ho⟩
  have K3 := Aside0.mk hk
  have B3 := Aside0.mk (B2.out.trans hb)
  have O3 := Aside0.mk (O2.out.trans ho)
  have R3 := Aside0.mk (ho.row R2.out (by decide) (by decide))
  clear hk hb ho c0
  have c0 := R3.out.cell 2 _ rfl
  go_wp2_with fail
  go_at_call 84
  refine (w_lines K3.out A n c l (fun W' hb => HC.out W' (B3.out.trans hb)) HLO.out (by have := HLL.out; have := HT.out; have := HT2.out; have := HI.out ki; have := HI.out ttl; have := HI.out now; have := HU.out; have := HE.out; (try simp only [List.length_append]); omega)).mono ?_
  rintro e w4 ⟨rfl, hk, hb, ho⟩
  have K4 := Aside0.mk hk
  have B4 := Aside0.mk (B3.out.trans hb)
  have O4 := Aside0.mk (O3.out.trans ho)
  have R4 := Aside0.mk (ho.row R3.out (by decide) (by decide))
  clear hk hb ho c0
  have c0 := R4.out.cell 3 _ rfl
  go_wp2_with fail
  go_at_call 52
  refine (w_text K4.out ho (by have := HLL.out; have := HT.out; have := HT2.out; have := HI.out ki; have := HI.out ttl; have := HI.out now; have := HU.out; have := HE.out; (try simp only [List.length_append]); omega)).mono ?_
  rintro e w5 ⟨rfl, hk, hb, ho⟩
  have K5 := Aside0.mk hk
  have B5 := Aside0.mk (B4.out.trans hb)
  have O5 := Aside0.mk (O4.out.trans ho)
  have R5 := Aside0.mk (ho.row R4.out (by decide) (by decide))
  clear hk hb ho c0
  have c0 := R5.out.cell 4 _ rfl
  go_wp2_with fail
  go_at_call 53
  refine (w_int K5.out ttl H2.out (by have := HLL.out; have := HT.out; have := HT2.out; have := HI.out ki; have := HI.out ttl; have := HI.out now; have := HU.out; have := HE.out; (try simp only [List.length_append]); omega)).mono ?_
  rintro e w6 ⟨rfl, hk, hb, ho⟩
  have K6 := Aside0.mk hk
  have B6 := Aside0.mk (B5.out.trans hb)
  have O6 := Aside0.mk (O5.out.trans ho)
  have R6 := Aside0.mk (ho.row R5.out (by decide) (by decide))
  clear hk hb ho c0
  have c0 := R6.out.cell 5 _ rfl
  go_wp2_with fail
  go_at_call 53
  refine (w_int K6.out now H3.out (by have := HLL.out; have := HT.out; have := HT2.out; have := HI.out ki; have := HI.out ttl; have := HI.out now; have := HU.out; have := HE.out; (try simp only [List.length_append]); omega)).mono ?_
  rintro e w7 ⟨rfl, hk, hb, ho⟩
  have K7 := Aside0.mk hk
  have B7 := Aside0.mk (B6.out.trans hb)
  have O7 := Aside0.mk (O6.out.trans ho)
  have R7 := Aside0.mk (ho.row R6.out (by decide) (by decide))
  clear hk hb ho c0
  go_wp2_with fail
  go_end0
  have e : xs ++ encReq id ki l ho ttl now = xs ++ encT id ++ encI ki ++ (encU n ++ encNs l) ++ encT ho ++ encI ttl ++ encI now := by
    unfold encReq
    rw [HN.out]
    simp only [List.append_assoc]
  rw [e]
  exact ⟨rfl, K7.out, B7.out, O7.out⟩
theorem w_requestC {g B br : Nat} {xs : List Int} {W : World} (k : WrAt g B xs W) (id : ByteArray) (ki : Int) (A : Option Addr) (n c : Nat) (l : List S110) (ho : ByteArray) (ttl now : Int) (hbr : Rt 40 br [.string id, .int .i64 ki, .slice A n c, .string ho, .int .i64 ttl, .int .i64 now] W) (hC : ∀ W', Below B W W' → Kd.C k110 W' A n l) (hlo : LinOk l)
    (h1 : Int64 ki) (h2 : Int64 ttl) (h3 : Int64 now) (hl : xs.length + id.size + ho.size + bulkN l + 400 < 140737488355328) :
    Calls Try.prog 70 #[ptr g, ptr br] W fun e w' => e = .returned (.tuple #[]) ∧ WrAt g B (xs ++ encReq id ki l ho ttl now) w' ∧ Below B W w' ∧ Others W w' := by
  have HQ := Aside0.mk (w_request k id ki A n c l ho ttl now hC hlo h1 h2 h3 hl)
  have q0 := hbr.cell 0 _ rfl
  have q1 := hbr.cell 1 _ rfl
  have q2 := hbr.cell 2 _ rfl
  have q3 := hbr.cell 3 _ rfl
  have q4 := hbr.cell 4 _ rfl
  have q5 := hbr.cell 5 _ rfl
  clear k hbr hC hlo h1 h2 h3 hl
  go_enter Try.func70, Try.ntmps70
  go_wp2_with fail
  go_at_call 71
  refine HQ.out.mono ?_
  rintro e w2 ⟨rfl, hk, hb, ho⟩
  have K2 := Aside0.mk hk
  have B2 := Aside0.mk hb
  have O2 := Aside0.mk ho
  clear hk hb ho q0 q1 q2 q3 q4 q5
  go_wp2_with fail
  go_end0
  exact ⟨rfl, K2.out, B2.out, O2.out⟩
theorem put_request (key : Int) (most br : Nat) (ys : List Int) (W : World) (hm : most ≤ 1000000000)
    (hF : ∀ g W', WrAt g W.heap.size [key] W' → Below W.heap.size W W' → Calls Try.prog 70 #[ptr g, ptr br] W' fun e w' => e = .returned (.tuple #[]) ∧ WrAt g W.heap.size ([key] ++ ys) w' ∧ Below W.heap.size W' w' ∧ Others W' w') :
    Calls Try.prog 50 #[.int .u8 key, .int .i64 (most : Int), .func (.func 70) #[] #[ptr br]] W fun e w' => ∃ v, e = .returned (.tuple #[v, .int .i64 (putCode most (key :: ys))]) ∧ (Kd.int .u8).R 5 w' W.heap.size (fun _ => True) v (putOut most (key :: ys)) ∧ Below W.heap.size W w' := by
  have HF := Aside0.mk hF
  have HM := Aside0.mk hm
  clear hF hm
  go_enter Try.func50, Try.ntmps50
  go_upto_region 2 with fail
  have ha1 : (W.alloc (.cells #[.int .u8 key] 5)).heap[W.heap.size]? = some (.cells #[.int .u8 key] 5 (0, 0)) := heap_alloc_new W _
  have hs1 : (W.alloc (.cells #[.int .u8 key] 5)).heap.size = W.heap.size + 1 := by simp
  have hb1 : Below W.heap.size W (W.alloc (.cells #[.int .u8 key] 5)) := below_alloc (Below.refl _ _) _
  obtain ⟨B, hB⟩ : ∃ B, W.heap.size = B := ⟨_, rfl⟩
  have HB := Aside0.mk hB
  rw [hB] at ha1 hs1 hb1 ⊢
  generalize W.alloc (.cells #[.int .u8 key] 5) = wx at *
  have hr2 : Rt 146 wx.heap.size [.slice (some ⟨B, 0, none⟩) 1 1] (wx.alloc (.cells #[.slice (some ⟨B, 0, none⟩) 1 1] 146)) := heap_alloc_new wx _
  have hb2 : Below wx.heap.size wx (wx.alloc (.cells #[.slice (some ⟨B, 0, none⟩) 1 1] 146)) := below_alloc (Below.refl _ _) _
  have hk := key_row (B := B) ((hb2.block B (by omega)).trans ha1) (Nat.le_refl _)
  have K1 := Aside0.mk (show WrAt (B + 1) B [key] (wx.alloc (.cells #[.slice (some ⟨B, 0, none⟩) 1 1] 146)) from ⟨⟨_, by rw [hs1] at hr2; exact hr2, hk⟩, Nat.le_succ _⟩)
  have B1 := Aside0.mk (show Below B W (wx.alloc (.cells #[.slice (some ⟨B, 0, none⟩) 1 1] 146)) from hb1.trans (hb2.mono (by omega)))
  clear ha1 hs1 hb1 hr2 hb2 hk hB
  generalize wx.alloc (.cells #[.slice (some ⟨B, 0, none⟩) 1 1] 146) = w1 at *
  obtain ⟨g, hg⟩ : ∃ g, B + 1 = g := ⟨_, rfl⟩
  have k1 := K1.out
  rw [hg] at k1 ⊢
  have K1 := Aside0.mk k1
  have HFN := HF.out g w1 (by rw [HB.out]; exact K1.out) (by rw [HB.out]; exact B1.out)
  rw [HB.out] at HFN
  have HFN := Aside0.mk HFN
  clear k1 hg HF
  go_wp2_with fail
  go_at_call 70
  refine HFN.out.mono ?_
  rintro e w2 ⟨rfl, hk, hb, ho⟩
  obtain ⟨ys2, hys⟩ : ∃ ys2, [key] ++ ys = ys2 := ⟨_, rfl⟩
  rw [hys] at hk
  have HYS := Aside0.mk (show key :: ys = ys2 from hys)
  obtain ⟨v, hr, hR⟩ := hk.ex
  have B2 := Aside0.mk (B1.out.trans hb)
  obtain ⟨Av, cv, rfl⟩ := Kd.R_slice hR
  obtain ⟨m, hm2⟩ : ∃ m, ys2.length = m := ⟨_, rfl⟩
  have HRR := Aside0.mk hR
  have HM2 := Aside0.mk hm2
  rw [hm2] at hr
  have c0 := hr.cell 0 _ rfl
  clear hk hb ho hr hR hm2 hys HFN K1 B1
  by_cases hmo : most < m
  · have d1 : decide ((most : Int) < (m : Int)) = true := decide_eq_true (by omega)
    have d2 : decide (most < m) = true := decide_eq_true hmo
    have HMO := Aside0.mk hmo
    clear hmo
    go_wp2_with fail
    go_ret2
    rw [HYS.out, HB.out]
    refine ⟨.slice none 0 0, ?_, ?_, B2.out⟩
    · unfold putCode
      rw [HM2.out, if_pos HMO.out]
      rfl
    · unfold putOut
      rw [HM2.out, if_pos HMO.out]
      exact Kd.R_nil _ _ _ _ _
  · have d1 : decide ((most : Int) < (m : Int)) = false := decide_eq_false (by omega)
    have d2 : decide (most < m) = false := decide_eq_false hmo
    have HMO := Aside0.mk hmo
    clear hmo
    go_wp2_with fail
    go_ret2
    rw [HYS.out, HB.out]
    refine ⟨.slice Av m cv, ?_, ?_, B2.out⟩
    · unfold putCode
      rw [HM2.out, if_neg HMO.out]
      rfl
    · unfold putOut
      rw [HM2.out, if_neg HMO.out, ← HM2.out]
      exact HRR.out
theorem PutRequest_at (id : ByteArray) (ki : Int) (A : Option Addr) (n c : Nat) (l : List S110) (ho : ByteArray) (ttl now : Int) (W : World) (hC : Kd.C k110 W A n l) (hlo : LinOk l) (h1 : Int64 ki) (h2 : Int64 ttl) (h3 : Int64 now) (hl : id.size + ho.size + bulkN l + 500 < 140737488355328) :
    Calls Try.prog 21 #[.agg #[.string id, .int .i64 ki, .slice A n c, .string ho, .int .i64 ttl, .int .i64 now]] W fun e w' => ∃ v, e = .returned (.tuple #[v, .int .i64 (putCode 4096 (81 :: encReq id ki l ho ttl now))]) ∧ (Kd.int .u8).R 5 w' W.heap.size (fun _ => True) v (putOut 4096 (81 :: encReq id ki l ho ttl now)) ∧ Below W.heap.size W w' := by
  have HC := Aside0.mk hC
  have HLO := Aside0.mk hlo
  have H1 := Aside0.mk h1
  have H2 := Aside0.mk h2
  have H3 := Aside0.mk h3
  have HL := Aside0.mk hl
  have hr1 : Rt 40 W.heap.size [.string id, .int .i64 ki, .slice A n c, .string ho, .int .i64 ttl, .int .i64 now] (W.alloc (.cells #[.string id, .int .i64 ki, .slice A n c, .string ho, .int .i64 ttl, .int .i64 now] 40)) := heap_alloc_new W _
  have hb1 : Below W.heap.size W (W.alloc (.cells #[.string id, .int .i64 ki, .slice A n c, .string ho, .int .i64 ttl, .int .i64 now] 40)) := below_alloc (Below.refl _ _) _
  have hmf : ∀ (fn : Fn) (first cap : Array Value) (w : World), (Instr.makeFunc fn first cap).run Try.prog w = .ok (.func fn first cap) w := fun _ _ _ _ => rfl
  clear hC hlo h1 h2 h3 hl
  go_enter Try.func21, Try.ntmps21
  go_upto_region 1 with fail
  obtain ⟨b, hb⟩ : ∃ b, W.heap.size = b := ⟨_, rfl⟩
  have HB := Aside0.mk hb1
  have HBE := Aside0.mk hb
  rw [hb] at hr1 ⊢
  have HR := Aside0.mk hr1
  clear hr1 hb1 hb
  generalize W.alloc (.cells #[.string id, .int .i64 ki, .slice A n c, .string ho, .int .i64 ttl, .int .i64 now] 40) = w1 at *
  have HPUT := Aside0.mk (put_request 81 4096 b (encReq id ki l ho ttl now) w1 (by decide) (fun g W' hk hb => w_requestC hk id ki A n c l ho ttl now (HR.out.below hb) (fun W2 hb2 => Kd.C_below HC.out ((HB.out.trans (hb.mono HB.out.size)).trans (hb2.mono HB.out.size))) HLO.out H1.out H2.out H3.out (by have := HL.out; simp only [List.length_singleton]; omega)))
  go_wp2_with fail
  go_at_call 50
  refine HPUT.out.mono ?_
  rintro e w2 ⟨v, rfl, hR, hb⟩
  have HRR := Aside0.mk (show (Kd.int .u8).R 5 w2 W.heap.size (fun _ => True) v (putOut 4096 (81 :: encReq id ki l ho ttl now)) from Kd.R_lower hR HB.out.size)
  have HBB := Aside0.mk (HB.out.trans (hb.mono HB.out.size))
  obtain ⟨Av, cv, ev⟩ := Kd.R_slice hR
  obtain ⟨m, hm⟩ : ∃ m, (putOut 4096 (81 :: encReq id ki l ho ttl now)).length = m := ⟨_, rfl⟩
  rw [hm] at ev
  subst ev
  clear hR hb hm hmf HPUT
  go_wp2_with fail
  go_ret2
  rw [HBE.out] at *
  exact ⟨_, rfl, HRR.out, HBB.out⟩
end Go.Proofs.Ytafmoglaockepaa.Cd
end
section
namespace Go.Proofs.Ytafmoglaockepaa.Cd
open Go Go.RowKit Go.Proofs.Ytafmoglaockepaa.Num Go.Proofs.Ytafmoglaockepaa.PG Go.Proofs.YtafmoglaockepaaW.PrintWords Go.Proofs.YtafmoglaockepaaW.PrintLast Go.Proofs.YtafmoglaockepaaW.PrintMore
set_option linter.unusedVariables false
set_option linter.unusedSimpArgs false
set_option maxHeartbeats 4000000
set_option maxRecDepth 100000
theorem cell_up {w w' : World} {p : Addr} {v : Value} (h : Below w.heap.size w w') (hc : w.cell? p = some v) : w'.cell? p = some v := by
  have hp : p.block < w.heap.size := by
    rcases Nat.lt_or_ge p.block w.heap.size with h | h
    · exact h
    · have : w.heap[p.block]? = none := Array.getElem?_eq_none h
      simp [World.cell?, this] at hc
  rw [h.cell hp]
  exact hc
def encQ (q : S40) : List Int := encReq q.f0 q.f1 q.f2 q.f3 q.f4 q.f5
def encH (x : S121) : List Int := encT x.f0 ++ ((encU x.f1.length ++ encNs x.f1) ++ encI x.f2)
def encD (x : S123) : List Int := encQ x.f0 ++ encI x.f1
def bulkQ (q : S40) : Nat := 60 + q.f0.size + q.f3.size + bulkN q.f2
def bulkH (x : S121) : Nat := 40 + x.f0.size + bulkN x.f1
def bulkD (x : S123) : Nat := 20 + bulkQ x.f0
def ReqOk (q : S40) : Prop := Int64 q.f1 ∧ LinOk q.f2 ∧ Int64 q.f4 ∧ Int64 q.f5
def HeldOk (x : S121) : Prop := LinOk x.f1 ∧ Int64 x.f2
def DoneOk (x : S123) : Prop := ReqOk x.f0 ∧ Int64 x.f1
theorem bulkH_ge (x : S121) : 20 ≤ bulkH x := by unfold bulkH; omega
theorem bulkD_ge (x : S123) : 20 ≤ bulkD x := by unfold bulkD; omega
theorem encQ_len (q : S40) : (encQ q).length ≤ bulkQ q := by
  have h0 := encT_len q.f0
  have h1 := encI_len q.f1
  have h2 := encU_len q.f2.length
  have h3 := encNs_len q.f2
  have h4 := encT_len q.f3
  have h5 := encI_len q.f4
  have h6 := encI_len q.f5
  unfold encQ encReq bulkQ
  simp only [List.length_append]
  omega
theorem encH_len (x : S121) : (encH x).length ≤ bulkH x := by
  have h0 := encT_len x.f0
  have h2 := encU_len x.f1.length
  have h3 := encNs_len x.f1
  have h6 := encI_len x.f2
  unfold encH bulkH
  simp only [List.length_append]
  omega
theorem encD_len (x : S123) : (encD x).length ≤ bulkD x := by
  have h0 := encQ_len x.f0
  have h6 := encI_len x.f1
  unfold encD bulkD
  simp only [List.length_append]
  omega
theorem w_held {g B gb : Nat} {xs : List Int} {W W0 : World} (k : WrAt g B xs W) (hbx : Rt 92 gb [ptr g] W) (hW0 : Below W0.heap.size W0 W) (hB0 : W0.heap.size ≤ B) (x : S121) (Al : Option Addr) (cl : Nat) (hCl : Kd.C k110 W0 Al x.f1.length x.f1) (h1 : LinOk x.f1) (h2 : Int64 x.f2) (hl : xs.length + bulkH x + 900 < 140737488355328) :
    Calls Try.prog 83 #[.agg #[.string x.f0, .slice Al x.f1.length cl, .int .i64 x.f2], ptr gb] W fun e w' => e = .returned (.tuple #[]) ∧ WrAt g B (xs ++ encH x) w' ∧ Below B W w' ∧ Others W w' := by
  have HLL := Aside0.mk hl
  have HW0 := Aside0.mk hW0
  have HB0 := Aside0.mk hB0
  have HS := Aside0.mk k.size
  have HCl := Aside0.mk hCl
  have H1 := Aside0.mk h1
  have H2 := Aside0.mk h2
  have hr2 : Rt 121 W.heap.size [.string x.f0, .slice Al x.f1.length cl, .int .i64 x.f2] (W.alloc (.cells #[.string x.f0, .slice Al x.f1.length cl, .int .i64 x.f2] 121)) := heap_alloc_new W _
  have hb1 : Below W.heap.size W (W.alloc (.cells #[.string x.f0, .slice Al x.f1.length cl, .int .i64 x.f2] 121)) := below_alloc (Below.refl _ _) _
  obtain ⟨b2, hb2⟩ : ∃ b2, W.heap.size = b2 := ⟨_, rfl⟩
  have HB2 := Aside0.mk hb2
  have K1 := Aside0.mk (k.below hb1)
  have B1 := Aside0.mk (hb1.mono HS.out)
  have O1 := Aside0.mk (Others.of_below hb1)
  have X1 := Aside0.mk (hbx.below hb1)
  rw [hb2] at hr2
  have R1 := Aside0.mk hr2
  clear k hbx hr2 hb1 hb2 hl hW0 hB0 hCl h1 h2
  go_enter Try.func83, Try.ntmps83
  go_upto_region 1 with fail
  have hb2 := HB2.out
  rw [hb2]
  clear hb2
  generalize W.alloc (.cells #[.string x.f0, .slice Al x.f1.length cl, .int .i64 x.f2] 121) = w1 at *
  have cx := X1.out.cell 0 _ rfl
  have c0 := R1.out.cell 0 _ rfl
  go_wp2_with fail
  go_at_call 52
  refine (w_text K1.out x.f0 (by have := HLL.out; have := encT_len x.f0; have := encU_len x.f1.length; have := encNs_len x.f1; have := encI_len x.f2; have := show bulkH x = 40 + x.f0.size + bulkN x.f1 from rfl; (try simp only [List.length_append]); omega)).mono ?_
  rintro e w2 ⟨rfl, hk, hb, ho⟩
  have K2 := Aside0.mk hk
  have B2 := Aside0.mk (B1.out.trans hb)
  have O2 := Aside0.mk (O1.out.trans ho)
  have R2 := Aside0.mk (ho.row R1.out (by decide) (by decide))
  have X2 := Aside0.mk (ho.row X1.out (by decide) (by decide))
  clear hk hb ho cx c0
  have cx := X2.out.cell 0 _ rfl
  have c1 := R2.out.cell 1 _ rfl
  go_wp2_with fail
  go_at_call 84
  refine (w_lines K2.out Al x.f1.length cl x.f1 (fun W' hb => Kd.C_below HCl.out (HW0.out.trans ((B2.out.trans hb).mono HB0.out))) H1.out (by have := HLL.out; have := encT_len x.f0; have := encU_len x.f1.length; have := encNs_len x.f1; have := encI_len x.f2; have := show bulkH x = 40 + x.f0.size + bulkN x.f1 from rfl; (try simp only [List.length_append]); omega)).mono ?_
  rintro e w3 ⟨rfl, hk, hb, ho⟩
  have K3 := Aside0.mk hk
  have B3 := Aside0.mk (B2.out.trans hb)
  have O3 := Aside0.mk (O2.out.trans ho)
  have R3 := Aside0.mk (ho.row R2.out (by decide) (by decide))
  have X3 := Aside0.mk (ho.row X2.out (by decide) (by decide))
  clear hk hb ho cx c1
  have cx := X3.out.cell 0 _ rfl
  have c2 := R3.out.cell 2 _ rfl
  go_wp2_with fail
  go_at_call 53
  refine (w_int K3.out x.f2 H2.out (by have := HLL.out; have := encT_len x.f0; have := encU_len x.f1.length; have := encNs_len x.f1; have := encI_len x.f2; have := show bulkH x = 40 + x.f0.size + bulkN x.f1 from rfl; (try simp only [List.length_append]); omega)).mono ?_
  rintro e w4 ⟨rfl, hk, hb, ho⟩
  have K4 := Aside0.mk hk
  have B4 := Aside0.mk (B3.out.trans hb)
  have O4 := Aside0.mk (O3.out.trans ho)
  have R4 := Aside0.mk (ho.row R3.out (by decide) (by decide))
  have X4 := Aside0.mk (ho.row X3.out (by decide) (by decide))
  clear hk hb ho cx c2
  go_wp2_with fail
  go_end0
  have e : xs ++ encH x = xs ++ encT x.f0 ++ (encU x.f1.length ++ encNs x.f1) ++ encI x.f2 := by
    unfold encH
    simp only [List.append_assoc]
  rw [e]
  exact ⟨rfl, K4.out, B4.out, O4.out⟩
theorem w_done {g B gb : Nat} {xs : List Int} {W W0 : World} (k : WrAt g B xs W) (hbx : Rt 92 gb [ptr g] W) (hW0 : Below W0.heap.size W0 W) (hB0 : W0.heap.size ≤ B) (x : S123) (Al : Option Addr) (cl : Nat) (hCl : Kd.C k110 W0 Al x.f0.f2.length x.f0.f2) (h0 : ReqOk x.f0) (h1 : Int64 x.f1) (hl : xs.length + bulkD x + 900 < 140737488355328) :
    Calls Try.prog 86 #[.agg #[.string x.f0.f0, .int .i64 x.f0.f1, .slice Al x.f0.f2.length cl, .string x.f0.f3, .int .i64 x.f0.f4, .int .i64 x.f0.f5, .int .i64 x.f1], ptr gb] W fun e w' => e = .returned (.tuple #[]) ∧ WrAt g B (xs ++ encD x) w' ∧ Below B W w' ∧ Others W w' := by
  have HLL := Aside0.mk hl
  have HW0 := Aside0.mk hW0
  have HB0 := Aside0.mk hB0
  have HS := Aside0.mk k.size
  have HCl := Aside0.mk hCl
  have H0 := Aside0.mk h0
  have H1 := Aside0.mk h1
  have hr2 : Rt 123 W.heap.size [.string x.f0.f0, .int .i64 x.f0.f1, .slice Al x.f0.f2.length cl, .string x.f0.f3, .int .i64 x.f0.f4, .int .i64 x.f0.f5, .int .i64 x.f1] (W.alloc (.cells #[.string x.f0.f0, .int .i64 x.f0.f1, .slice Al x.f0.f2.length cl, .string x.f0.f3, .int .i64 x.f0.f4, .int .i64 x.f0.f5, .int .i64 x.f1] 123)) := heap_alloc_new W _
  have hb1 : Below W.heap.size W (W.alloc (.cells #[.string x.f0.f0, .int .i64 x.f0.f1, .slice Al x.f0.f2.length cl, .string x.f0.f3, .int .i64 x.f0.f4, .int .i64 x.f0.f5, .int .i64 x.f1] 123)) := below_alloc (Below.refl _ _) _
  obtain ⟨b2, hb2⟩ : ∃ b2, W.heap.size = b2 := ⟨_, rfl⟩
  have HB2 := Aside0.mk hb2
  have K1 := Aside0.mk (k.below hb1)
  have B1 := Aside0.mk (hb1.mono HS.out)
  have O1 := Aside0.mk (Others.of_below hb1)
  have X1 := Aside0.mk (hbx.below hb1)
  rw [hb2] at hr2
  have R1 := Aside0.mk hr2
  clear k hbx hr2 hb1 hb2 hl hW0 hB0 hCl h0 h1
  go_enter Try.func86, Try.ntmps86
  go_upto_region 1 with fail
  have hb2 := HB2.out
  rw [hb2]
  clear hb2
  generalize W.alloc (.cells #[.string x.f0.f0, .int .i64 x.f0.f1, .slice Al x.f0.f2.length cl, .string x.f0.f3, .int .i64 x.f0.f4, .int .i64 x.f0.f5, .int .i64 x.f1] 123) = w1 at *
  have cx := X1.out.cell 0 _ rfl
  have c0 := R1.out.cell 0 _ rfl
  have c1 := R1.out.cell 1 _ rfl
  have c2 := R1.out.cell 2 _ rfl
  have c3 := R1.out.cell 3 _ rfl
  have c4 := R1.out.cell 4 _ rfl
  have c5 := R1.out.cell 5 _ rfl
  go_wp2_with fail
  go_at_call 71
  refine (w_request K1.out x.f0.f0 x.f0.f1 Al x.f0.f2.length cl x.f0.f2 x.f0.f3 x.f0.f4 x.f0.f5 (fun W' hb => Kd.C_below HCl.out (HW0.out.trans ((B1.out.trans hb).mono HB0.out))) H0.out.2.1 H0.out.1 H0.out.2.2.1 H0.out.2.2.2 (by have := HLL.out; have := show (encReq x.f0.f0 x.f0.f1 x.f0.f2 x.f0.f3 x.f0.f4 x.f0.f5).length ≤ bulkQ x.f0 from encQ_len x.f0; have := show bulkQ x.f0 = 60 + x.f0.f0.size + x.f0.f3.size + bulkN x.f0.f2 from rfl; have := encI_len x.f1; have := show bulkD x = 20 + bulkQ x.f0 from rfl; (try simp only [List.length_append]); omega)).mono ?_
  rintro e w2 ⟨rfl, hk, hb, ho⟩
  have K2 := Aside0.mk hk
  have B2 := Aside0.mk (B1.out.trans hb)
  have O2 := Aside0.mk (O1.out.trans ho)
  have R2 := Aside0.mk (ho.row R1.out (by decide) (by decide))
  have X2 := Aside0.mk (ho.row X1.out (by decide) (by decide))
  clear hk hb ho cx c0 c1 c2 c3 c4 c5
  have cx := X2.out.cell 0 _ rfl
  have c6 := R2.out.cell 6 _ rfl
  go_wp2_with fail
  go_at_call 53
  refine (w_int K2.out x.f1 H1.out (by have := HLL.out; have := show (encReq x.f0.f0 x.f0.f1 x.f0.f2 x.f0.f3 x.f0.f4 x.f0.f5).length ≤ bulkQ x.f0 from encQ_len x.f0; have := show bulkQ x.f0 = 60 + x.f0.f0.size + x.f0.f3.size + bulkN x.f0.f2 from rfl; have := encI_len x.f1; have := show bulkD x = 20 + bulkQ x.f0 from rfl; (try simp only [List.length_append]); omega)).mono ?_
  rintro e w3 ⟨rfl, hk, hb, ho⟩
  have K3 := Aside0.mk hk
  have B3 := Aside0.mk (B2.out.trans hb)
  have O3 := Aside0.mk (O2.out.trans ho)
  have R3 := Aside0.mk (ho.row R2.out (by decide) (by decide))
  have X3 := Aside0.mk (ho.row X2.out (by decide) (by decide))
  clear hk hb ho cx c6
  go_wp2_with fail
  go_end0
  have e : xs ++ encD x = xs ++ encQ x.f0 ++ encI x.f1 := by
    unfold encD
    simp only [List.append_assoc]
  rw [e]
  exact ⟨rfl, K3.out, B3.out, O3.out⟩
end Go.Proofs.Ytafmoglaockepaa.Cd
end
section
namespace Go.Proofs.Ytafmoglaockepaa.Cd
open Go Go.RowKit Go.Proofs.Ytafmoglaockepaa.Num Go.Proofs.Ytafmoglaockepaa.PG Go.Proofs.YtafmoglaockepaaW.PrintWords Go.Proofs.YtafmoglaockepaaW.PrintLast Go.Proofs.YtafmoglaockepaaW.PrintMore
set_option linter.unusedVariables false
set_option linter.unusedSimpArgs false
set_option maxHeartbeats 4000000
set_option maxRecDepth 100000
def encHs (l : List S121) : List Int := l.flatMap encH
def bulkHs (l : List S121) : Nat := (l.map fun x => bulkH x).sum
theorem encHs_len : ∀ l : List S121, (encHs l).length ≤ bulkHs l
  | [] => by simp [encHs, bulkHs]
  | x :: l => by
    have h1 := encHs_len l
    have h2 := encH_len x
    simp only [encHs, bulkHs, List.flatMap_cons, List.length_append, List.map_cons, List.sum_cons] at h1 ⊢
    omega
theorem bulkHs_take : ∀ (l : List S121) (i : Nat), bulkHs (l.take i) ≤ bulkHs l
  | [], i => by simp [bulkHs]
  | x :: l, 0 => by simp [bulkHs]
  | x :: l, i + 1 => by
    have h1 := bulkHs_take l i
    simp only [bulkHs, List.take_succ_cons, List.map_cons, List.sum_cons] at h1 ⊢
    omega
theorem bulkHs_mem : ∀ (l : List S121) (x : S121), x ∈ l → bulkH x ≤ bulkHs l
  | y :: l, x, h => by
    simp only [bulkHs, List.map_cons, List.sum_cons]
    rcases List.mem_cons.1 h with rfl | h
    · omega
    · have := bulkHs_mem l x h
      simp only [bulkHs] at this
      omega
def HeldsOk (l : List S121) : Prop := ∀ x ∈ l, HeldOk x
theorem w_putHelds {g B gb : Nat} {xs : List Int} {W W0 : World} (k : WrAt g B xs W) (hbx : Rt 92 gb [ptr g] W) (hW0 : Below W0.heap.size W0 W) (hB0 : W0.heap.size ≤ B) (A : Option Addr) (c : Nat) (l : List S121) (hC : Kd.C k121 W0 A l.length l) (hlo : HeldsOk l) (hl : xs.length + bulkHs l + 1000 < 140737488355328) :
    Calls Try.prog 82 #[ptr g, .slice A l.length c, .func (.func 83) #[] #[ptr gb]] W fun e w' => e = .returned (.tuple #[]) ∧ WrAt g B (xs ++ (encU l.length ++ encHs l)) w' ∧ Below B W w' ∧ Others W w' := by
  obtain ⟨n, hln⟩ : ∃ n, l.length = n := ⟨_, rfl⟩
  rw [hln] at hC ⊢
  have HW0 := Aside0.mk hW0
  have HB0 := Aside0.mk hB0
  have hn63 := (Kd.C_len hC)
  have hbl : 20 * l.length ≤ bulkHs l := by
    clear hC hl hlo hln hn63
    induction l with
    | nil => simp [bulkHs]
    | cons x l ih =>
      have := bulkH_ge x
      simp only [bulkHs, List.map_cons, List.sum_cons, List.length_cons] at ih ⊢
      omega
  have HN := Aside0.mk (show n < 140737488355328 by omega)
  have HLN := Aside0.mk hln
  have HCC := Aside0.mk hC
  have HLO := Aside0.mk hlo
  have HLL := Aside0.mk hl
  have HBX := Aside0.mk hbx
  have HSZ := Aside0.mk k.size
  have HBG := Aside0.mk k.b
  obtain ⟨v, hr, hR⟩ := k.ex
  have HR := Aside0.mk hr
  have HX := Aside0.mk hR
  have HLEN := Aside0.mk (show (xs.length + (encU n).length) * 1 ≤ 140737488355328 by have := encU_len n; omega)
  have c0 := hr.cell 0 _ rfl
  have hw64 : IntKind.u64.wrap (n : Int) = (n : Int) := by rw [IntKind.wrap_u64]; omega
  clear k hr hR hln hn63 hbl hC hlo hl hbx hW0 hB0
  go_enter Try.func82, Try.ntmps82
  go_upto_region 0 with fail
  go_region_law (first
    | (go_simp
       go_at_call 125
       refine (frame_PutUint.calls 11 none 0 [] (n : Int) (encU n) _ (Kd.C_nil _ _) (Nat.le_refl _) (by have := putUint_ok 11 (by decide) [] n (by have := HN.out; omega) (by decide); rwa [List.nil_append] at this)).mono ?_
       rintro e wa ⟨v0, rfl, hR, hb⟩
       obtain ⟨Av, cv, rfl, hcv, hC⟩ := Kd.R_reads hR
       have hb0 : Below W.heap.size W wa := (below_drew (Below.refl _ _)).trans hb
       have HRa := Aside0.mk (HR.out.below hb0)
       have HXa := Aside0.mk (Kd.R_below HX.out hb0)
       have HBa := Aside0.mk (hb0.mono HSZ.out)
       have HSB := Aside0.mk (Nat.le_trans HSZ.out hb0.size)
       have HCa := Aside0.mk hC
       have HOa := Aside0.mk (Others.of_below hb0)
       have ca := HRa.out.cell 0 _ rfl
       clear hR hb hcv hC hb0)
    | (refine Kd.R_append_rows_step (Kd.int .u8) (Rr := (Kd.int .u8).K wa) (w0 := W) B (by rfl) (.tmp 12) (.tmp 16) 26 5 (.int .u8 0) 1 rfl Try.underlying26 info5' rfl (by decide) (by decide) v xs (encU n) Av (encU n).length cv (fun _ => True) (fun _ => False) rfl rfl HXa.out HCa.out (fun _ _ h => h) (fun _ h => h.elim) (fun _ _ => trivial) HBa.out HSB.out HLEN.out ?_
       intro v1 w1 ho hb hg hat
       obtain ⟨Al, cl, el⟩ := Kd.R_slice ho
       obtain ⟨n1, hn1⟩ : ∃ n1, (xs ++ encU n).length = n1 := ⟨_, rfl⟩
       rw [hn1] at el
       subst el
       clear hn1
       have hfin := WrAt.appended HRa.out HXa.out HBG.out ho ((Below.refl _ _).grown hg HSB.out (Kd.R_base HXa.out)) hg
       have HFIN := Aside0.mk (show WrAt g B (xs ++ encU n) (w1.setRow g [Value.slice Al n1 cl].toArray) ∧ Below B W (w1.setRow g [Value.slice Al n1 cl].toArray) ∧ Others W (w1.setRow g [Value.slice Al n1 cl].toArray) from ⟨hfin.2.1, HBa.out.trans hfin.2.2.1, HOa.out.trans hfin.2.2.2⟩)
       have HR1 := Aside0.mk hfin.1
       have c1 := hfin.1.cell 0 _ rfl
       have f1 := hfin.1.free 0
       clear ho hb hg hat hfin))
  all_goals
    have e1 := HR1.out.set 0 (.slice Al n1 cl)
    rw [show [v].set 0 (.slice Al n1 cl) = [Value.slice Al n1 cl] from rfl] at e1
    rw [e1]
    clear e1 c0 ca c1 f1 hw64
    have X1 := Aside0.mk (HFIN.out.2.2.row HBX.out (by decide) (by decide))
    generalize w1.setRow g [Value.slice Al n1 cl].toArray = w2 at *
    go_wp2_with fail
    go_loopw [22] (fun p wr => ∃ i : Nat, p = .int .i64 (i : Int) ∧ Aside0 (i ≤ n) ∧ Aside0 (WrAt g B (xs ++ encU n ++ encHs (l.take i)) wr) ∧ Aside0 (Below B W wr) ∧ Aside0 (Others W wr) ∧ Aside0 (Rt 92 gb [ptr g] wr)) (fun p _ => n - (intOf p).toNat)
    · exact ⟨0, rfl, ⟨Nat.zero_le _⟩, ⟨by rw [List.take_zero]; show WrAt g B (xs ++ encU n ++ []) w2; rw [List.append_nil]; exact HFIN.out.1⟩, ⟨HFIN.out.2.1⟩, ⟨HFIN.out.2.2⟩, X1⟩
    · obtain ⟨i, rfl, HI, HK, HB, HO, HXr⟩ := hrel
      by_cases ci : i < n
      · have ci1 : decide ((i : Int) < (n : Int)) = true := decide_eq_true (by omega)
        have ci2 : (i : Int) < (n : Int) := by omega
        have ci3 : (0 : Int) ≤ (i : Int) := by omega
        have hw1 : IntKind.i64.wrap ((i : Int) + 1) = ((i + 1 : Nat) : Int) := by rw [IntWalk.i64_in _ (by have := HN.out; omega)]; omega
        obtain ⟨x, hx⟩ : ∃ x, l[i]? = some x := ⟨_, List.getElem?_eq_getElem (by have := HLN.out; omega)⟩
        have HBr := Aside0.mk (HW0.out.trans (HB.out.mono HB0.out))
        obtain ⟨ad, A1, c1, rfl, d0, d1, d2, hle, hcx⟩ := at_T121 HCC.out (i : Int) ci3 ci2
        have hrd : rd_T121 l (i : Int) = x := by unfold rd_T121; rw [Int.toNat_natCast, List.getD_eq_getElem?_getD, hx]; rfl
        rw [hrd] at d0 d1 d2 hle hcx
        rw [Int.toNat_natCast] at d0 d1 d2
        replace d0 := cell_up HBr.out d0
        replace d1 := cell_up HBr.out d1
        replace d2 := cell_up HBr.out d2
        have HCX := Aside0.mk hcx
        have HX2 := Aside0.mk hx
        clear hrd hx hcx hle
        have hsz : B ≤ wr.heap.size := HK.out.size
        have hba : Below wr.heap.size wr (wr.alloc (.cells #[.string x.f0, .slice A1 x.f1.length c1, .int .i64 x.f2] 121)) := below_alloc (Below.refl _ _) _
        have HK2 := Aside0.mk (HK.out.below hba)
        have HB2 := Aside0.mk (HB.out.trans (hba.mono hsz))
        have HO2 := Aside0.mk (HO.out.trans (Others.of_below hba))
        have HXr2 := Aside0.mk (HXr.out.below hba)
        have hr7 : Rt 121 wr.heap.size [.string x.f0, .slice A1 x.f1.length c1, .int .i64 x.f2] (wr.alloc (.cells #[.string x.f0, .slice A1 x.f1.length c1, .int .i64 x.f2] 121)) := heap_alloc_new wr _
        have s0 := hr7.cell 0 _ rfl
        have s1 := hr7.cell 1 _ rfl
        have s2 := hr7.cell 2 _ rfl
        have hmem : x ∈ l := List.mem_of_getElem? HX2.out
        have HLV := Aside0.mk (HLO.out x hmem)
        have HSM := Aside0.mk (show (xs ++ encU n ++ encHs (l.take i)).length + bulkH x + 900 < 140737488355328 by
          have h1 := encU_len n
          have h2 := encHs_len (l.take (i + 1))
          have h3 := bulkHs_take l (i + 1)
          have h4 := HLL.out
          have h5 := bulkHs_mem _ x (show x ∈ l.take (i + 1) by rw [take_snoc HX2.out]; simp)
          have h6 := encHs_len (l.take i)
          have h7 : bulkHs (l.take (i + 1)) = bulkHs (l.take i) + (bulkH x) := by rw [take_snoc HX2.out]; simp [bulkHs]
          rw [List.length_append, List.length_append]
          omega)
        clear hba hsz hr7 hmem HK
        go_upto_region 4 with fail
        generalize wr.alloc (.cells #[.string x.f0, .slice A1 x.f1.length c1, .int .i64 x.f2] 121) = w5 at *
        go_wp2_with fail
        go_at_call 83
        refine (w_held HK2.out HXr2.out (HW0.out.trans (HB2.out.mono HB0.out)) HB0.out x A1 c1 HCX.out HLV.out.1 HLV.out.2 HSM.out).mono ?_
        rintro e w6 ⟨rfl, hk, hb, ho⟩
        have HK3 := Aside0.mk (show WrAt g B (xs ++ encU n ++ encHs (l.take (i + 1))) w6 from by
          have e : xs ++ encU n ++ encHs (l.take (i + 1)) = xs ++ encU n ++ encHs (l.take i) ++ encH x := by
            rw [take_snoc HX2.out]
            simp [encHs]
          rw [e]
          exact hk)
        have HB3 := Aside0.mk (HB2.out.trans hb)
        have HO3 := Aside0.mk (HO2.out.trans ho)
        have HX3 := Aside0.mk (ho.row HXr2.out (by decide) (by decide))
        clear hk hb ho s0 d0 s1 d1 s2 d2
        go_wp2_with fail
        refine ⟨⟨i + 1, rfl, ⟨ci⟩, HK3, HB3, HO3, HX3⟩, ?_⟩
        simp only [intOf]
        omega
      · have ci1 : decide ((i : Int) < (n : Int)) = false := decide_eq_false (by omega)
        go_wp2_with fail
        go_end0
        obtain rfl : i = n := by have := HI.out; omega
        have hk := HK.out
        rw [List.take_of_length_le (Nat.le_of_eq HLN.out), List.append_assoc] at hk
        exact ⟨rfl, hk, HB.out, HO.out⟩
def encDs (l : List S123) : List Int := l.flatMap encD
def bulkDs (l : List S123) : Nat := (l.map fun x => bulkD x).sum
theorem encDs_len : ∀ l : List S123, (encDs l).length ≤ bulkDs l
  | [] => by simp [encDs, bulkDs]
  | x :: l => by
    have h1 := encDs_len l
    have h2 := encD_len x
    simp only [encDs, bulkDs, List.flatMap_cons, List.length_append, List.map_cons, List.sum_cons] at h1 ⊢
    omega
theorem bulkDs_take : ∀ (l : List S123) (i : Nat), bulkDs (l.take i) ≤ bulkDs l
  | [], i => by simp [bulkDs]
  | x :: l, 0 => by simp [bulkDs]
  | x :: l, i + 1 => by
    have h1 := bulkDs_take l i
    simp only [bulkDs, List.take_succ_cons, List.map_cons, List.sum_cons] at h1 ⊢
    omega
theorem bulkDs_mem : ∀ (l : List S123) (x : S123), x ∈ l → bulkD x ≤ bulkDs l
  | y :: l, x, h => by
    simp only [bulkDs, List.map_cons, List.sum_cons]
    rcases List.mem_cons.1 h with rfl | h
    · omega
    · have := bulkDs_mem l x h
      simp only [bulkDs] at this
      omega
def DonesOk (l : List S123) : Prop := ∀ x ∈ l, DoneOk x
theorem w_putDones {g B gb : Nat} {xs : List Int} {W W0 : World} (k : WrAt g B xs W) (hbx : Rt 92 gb [ptr g] W) (hW0 : Below W0.heap.size W0 W) (hB0 : W0.heap.size ≤ B) (A : Option Addr) (c : Nat) (l : List S123) (hC : Kd.C k123 W0 A l.length l) (hlo : DonesOk l) (hl : xs.length + bulkDs l + 1000 < 140737488355328) :
    Calls Try.prog 85 #[ptr g, .slice A l.length c, .func (.func 86) #[] #[ptr gb]] W fun e w' => e = .returned (.tuple #[]) ∧ WrAt g B (xs ++ (encU l.length ++ encDs l)) w' ∧ Below B W w' ∧ Others W w' := by
  obtain ⟨n, hln⟩ : ∃ n, l.length = n := ⟨_, rfl⟩
  rw [hln] at hC ⊢
  have HW0 := Aside0.mk hW0
  have HB0 := Aside0.mk hB0
  have hn63 := (Kd.C_len hC)
  have hbl : 20 * l.length ≤ bulkDs l := by
    clear hC hl hlo hln hn63
    induction l with
    | nil => simp [bulkDs]
    | cons x l ih =>
      have := bulkD_ge x
      simp only [bulkDs, List.map_cons, List.sum_cons, List.length_cons] at ih ⊢
      omega
  have HN := Aside0.mk (show n < 140737488355328 by omega)
  have HLN := Aside0.mk hln
  have HCC := Aside0.mk hC
  have HLO := Aside0.mk hlo
  have HLL := Aside0.mk hl
  have HBX := Aside0.mk hbx
  have HSZ := Aside0.mk k.size
  have HBG := Aside0.mk k.b
  obtain ⟨v, hr, hR⟩ := k.ex
  have HR := Aside0.mk hr
  have HX := Aside0.mk hR
  have HLEN := Aside0.mk (show (xs.length + (encU n).length) * 1 ≤ 140737488355328 by have := encU_len n; omega)
  have c0 := hr.cell 0 _ rfl
  have hw64 : IntKind.u64.wrap (n : Int) = (n : Int) := by rw [IntKind.wrap_u64]; omega
  clear k hr hR hln hn63 hbl hC hlo hl hbx hW0 hB0
  go_enter Try.func85, Try.ntmps85
  go_upto_region 0 with fail
  go_region_law (first
    | (go_simp
       go_at_call 125
       refine (frame_PutUint.calls 11 none 0 [] (n : Int) (encU n) _ (Kd.C_nil _ _) (Nat.le_refl _) (by have := putUint_ok 11 (by decide) [] n (by have := HN.out; omega) (by decide); rwa [List.nil_append] at this)).mono ?_
       rintro e wa ⟨v0, rfl, hR, hb⟩
       obtain ⟨Av, cv, rfl, hcv, hC⟩ := Kd.R_reads hR
       have hb0 : Below W.heap.size W wa := (below_drew (Below.refl _ _)).trans hb
       have HRa := Aside0.mk (HR.out.below hb0)
       have HXa := Aside0.mk (Kd.R_below HX.out hb0)
       have HBa := Aside0.mk (hb0.mono HSZ.out)
       have HSB := Aside0.mk (Nat.le_trans HSZ.out hb0.size)
       have HCa := Aside0.mk hC
       have HOa := Aside0.mk (Others.of_below hb0)
       have ca := HRa.out.cell 0 _ rfl
       clear hR hb hcv hC hb0)
    | (refine Kd.R_append_rows_step (Kd.int .u8) (Rr := (Kd.int .u8).K wa) (w0 := W) B (by rfl) (.tmp 12) (.tmp 16) 26 5 (.int .u8 0) 1 rfl Try.underlying26 info5' rfl (by decide) (by decide) v xs (encU n) Av (encU n).length cv (fun _ => True) (fun _ => False) rfl rfl HXa.out HCa.out (fun _ _ h => h) (fun _ h => h.elim) (fun _ _ => trivial) HBa.out HSB.out HLEN.out ?_
       intro v1 w1 ho hb hg hat
       obtain ⟨Al, cl, el⟩ := Kd.R_slice ho
       obtain ⟨n1, hn1⟩ : ∃ n1, (xs ++ encU n).length = n1 := ⟨_, rfl⟩
       rw [hn1] at el
       subst el
       clear hn1
       have hfin := WrAt.appended HRa.out HXa.out HBG.out ho ((Below.refl _ _).grown hg HSB.out (Kd.R_base HXa.out)) hg
       have HFIN := Aside0.mk (show WrAt g B (xs ++ encU n) (w1.setRow g [Value.slice Al n1 cl].toArray) ∧ Below B W (w1.setRow g [Value.slice Al n1 cl].toArray) ∧ Others W (w1.setRow g [Value.slice Al n1 cl].toArray) from ⟨hfin.2.1, HBa.out.trans hfin.2.2.1, HOa.out.trans hfin.2.2.2⟩)
       have HR1 := Aside0.mk hfin.1
       have c1 := hfin.1.cell 0 _ rfl
       have f1 := hfin.1.free 0
       clear ho hb hg hat hfin))
  all_goals
    have e1 := HR1.out.set 0 (.slice Al n1 cl)
    rw [show [v].set 0 (.slice Al n1 cl) = [Value.slice Al n1 cl] from rfl] at e1
    rw [e1]
    clear e1 c0 ca c1 f1 hw64
    have X1 := Aside0.mk (HFIN.out.2.2.row HBX.out (by decide) (by decide))
    generalize w1.setRow g [Value.slice Al n1 cl].toArray = w2 at *
    go_wp2_with fail
    go_loopw [22] (fun p wr => ∃ i : Nat, p = .int .i64 (i : Int) ∧ Aside0 (i ≤ n) ∧ Aside0 (WrAt g B (xs ++ encU n ++ encDs (l.take i)) wr) ∧ Aside0 (Below B W wr) ∧ Aside0 (Others W wr) ∧ Aside0 (Rt 92 gb [ptr g] wr)) (fun p _ => n - (intOf p).toNat)
    · exact ⟨0, rfl, ⟨Nat.zero_le _⟩, ⟨by rw [List.take_zero]; show WrAt g B (xs ++ encU n ++ []) w2; rw [List.append_nil]; exact HFIN.out.1⟩, ⟨HFIN.out.2.1⟩, ⟨HFIN.out.2.2⟩, X1⟩
    · obtain ⟨i, rfl, HI, HK, HB, HO, HXr⟩ := hrel
      by_cases ci : i < n
      · have ci1 : decide ((i : Int) < (n : Int)) = true := decide_eq_true (by omega)
        have ci2 : (i : Int) < (n : Int) := by omega
        have ci3 : (0 : Int) ≤ (i : Int) := by omega
        have hw1 : IntKind.i64.wrap ((i : Int) + 1) = ((i + 1 : Nat) : Int) := by rw [IntWalk.i64_in _ (by have := HN.out; omega)]; omega
        obtain ⟨x, hx⟩ : ∃ x, l[i]? = some x := ⟨_, List.getElem?_eq_getElem (by have := HLN.out; omega)⟩
        have HBr := Aside0.mk (HW0.out.trans (HB.out.mono HB0.out))
        obtain ⟨ad, A1, c1, rfl, d0, d1, d2, d3, d4, d5, d6, hle, hcx⟩ := at_T123 HCC.out (i : Int) ci3 ci2
        have hrd : rd_T123 l (i : Int) = x := by unfold rd_T123; rw [Int.toNat_natCast, List.getD_eq_getElem?_getD, hx]; rfl
        rw [hrd] at d0 d1 d2 d3 d4 d5 d6 hle hcx
        rw [Int.toNat_natCast] at d0 d1 d2 d3 d4 d5 d6
        replace d0 := cell_up HBr.out d0
        replace d1 := cell_up HBr.out d1
        replace d2 := cell_up HBr.out d2
        replace d3 := cell_up HBr.out d3
        replace d4 := cell_up HBr.out d4
        replace d5 := cell_up HBr.out d5
        replace d6 := cell_up HBr.out d6
        have HCX := Aside0.mk hcx
        have HX2 := Aside0.mk hx
        clear hrd hx hcx hle
        have hsz : B ≤ wr.heap.size := HK.out.size
        have hba : Below wr.heap.size wr (wr.alloc (.cells #[.string x.f0.f0, .int .i64 x.f0.f1, .slice A1 x.f0.f2.length c1, .string x.f0.f3, .int .i64 x.f0.f4, .int .i64 x.f0.f5, .int .i64 x.f1] 123)) := below_alloc (Below.refl _ _) _
        have HK2 := Aside0.mk (HK.out.below hba)
        have HB2 := Aside0.mk (HB.out.trans (hba.mono hsz))
        have HO2 := Aside0.mk (HO.out.trans (Others.of_below hba))
        have HXr2 := Aside0.mk (HXr.out.below hba)
        have hr7 : Rt 123 wr.heap.size [.string x.f0.f0, .int .i64 x.f0.f1, .slice A1 x.f0.f2.length c1, .string x.f0.f3, .int .i64 x.f0.f4, .int .i64 x.f0.f5, .int .i64 x.f1] (wr.alloc (.cells #[.string x.f0.f0, .int .i64 x.f0.f1, .slice A1 x.f0.f2.length c1, .string x.f0.f3, .int .i64 x.f0.f4, .int .i64 x.f0.f5, .int .i64 x.f1] 123)) := heap_alloc_new wr _
        have s0 := hr7.cell 0 _ rfl
        have s1 := hr7.cell 1 _ rfl
        have s2 := hr7.cell 2 _ rfl
        have s3 := hr7.cell 3 _ rfl
        have s4 := hr7.cell 4 _ rfl
        have s5 := hr7.cell 5 _ rfl
        have s6 := hr7.cell 6 _ rfl
        have hmem : x ∈ l := List.mem_of_getElem? HX2.out
        have HLV := Aside0.mk (HLO.out x hmem)
        have HSM := Aside0.mk (show (xs ++ encU n ++ encDs (l.take i)).length + bulkD x + 900 < 140737488355328 by
          have h1 := encU_len n
          have h2 := encDs_len (l.take (i + 1))
          have h3 := bulkDs_take l (i + 1)
          have h4 := HLL.out
          have h5 := bulkDs_mem _ x (show x ∈ l.take (i + 1) by rw [take_snoc HX2.out]; simp)
          have h6 := encDs_len (l.take i)
          have h7 : bulkDs (l.take (i + 1)) = bulkDs (l.take i) + (bulkD x) := by rw [take_snoc HX2.out]; simp [bulkDs]
          rw [List.length_append, List.length_append]
          omega)
        clear hba hsz hr7 hmem HK
        go_upto_region 4 with fail
        generalize wr.alloc (.cells #[.string x.f0.f0, .int .i64 x.f0.f1, .slice A1 x.f0.f2.length c1, .string x.f0.f3, .int .i64 x.f0.f4, .int .i64 x.f0.f5, .int .i64 x.f1] 123) = w5 at *
        go_wp2_with fail
        go_at_call 86
        refine (w_done HK2.out HXr2.out (HW0.out.trans (HB2.out.mono HB0.out)) HB0.out x A1 c1 HCX.out HLV.out.1 HLV.out.2 HSM.out).mono ?_
        rintro e w6 ⟨rfl, hk, hb, ho⟩
        have HK3 := Aside0.mk (show WrAt g B (xs ++ encU n ++ encDs (l.take (i + 1))) w6 from by
          have e : xs ++ encU n ++ encDs (l.take (i + 1)) = xs ++ encU n ++ encDs (l.take i) ++ encD x := by
            rw [take_snoc HX2.out]
            simp [encDs]
          rw [e]
          exact hk)
        have HB3 := Aside0.mk (HB2.out.trans hb)
        have HO3 := Aside0.mk (HO2.out.trans ho)
        have HX3 := Aside0.mk (ho.row HXr2.out (by decide) (by decide))
        clear hk hb ho s0 d0 s1 d1 s2 d2 s3 d3 s4 d4 s5 d5 s6 d6
        go_wp2_with fail
        refine ⟨⟨i + 1, rfl, ⟨ci⟩, HK3, HB3, HO3, HX3⟩, ?_⟩
        simp only [intOf]
        omega
      · have ci1 : decide ((i : Int) < (n : Int)) = false := decide_eq_false (by omega)
        go_wp2_with fail
        go_end0
        obtain rfl : i = n := by have := HI.out; omega
        have hk := HK.out
        rw [List.take_of_length_le (Nat.le_of_eq HLN.out), List.append_assoc] at hk
        exact ⟨rfl, hk, HB.out, HO.out⟩
end Go.Proofs.Ytafmoglaockepaa.Cd
end
section
namespace Go.Proofs.Ytafmoglaockepaa.Cd
open Go Go.RowKit Go.Proofs.Ytafmoglaockepaa.Num Go.Proofs.Ytafmoglaockepaa.PG Go.Proofs.YtafmoglaockepaaW.PrintWords Go.Proofs.YtafmoglaockepaaW.PrintLast Go.Proofs.YtafmoglaockepaaW.PrintMore
set_option linter.unusedVariables false
set_option linter.unusedSimpArgs false
set_option maxHeartbeats 4000000
set_option maxRecDepth 100000
def fault (e p : Int) : Value := .iface 155 (.agg #[.int .i64 e, .int .i64 p])
def gaveUp (e p : Int) : Ending := .panicked [{ v := fault e p, recovered := false }]
structure CrAt (g B : Nat) (A : Option Addr) (n c : Nat) (xs : List Int) (m most : Nat) (W : World) : Prop where
  row : Rt 158 g [.slice A n c, .int .i64 (m : Int), .int .i64 (most : Int)] W
  foot : ∀ W', Below B W W' → Kd.C (Kd.int .u8) W' A n xs
  b : B ≤ g
  nc : n ≤ c
  le : m ≤ n
  big : n < 1000000000
  mb : most < 1000000000
  by_ : IsBytes xs
def Out {α : Type} (g B : Nat) (A : Option Addr) (n c : Nat) (xs : List Int) (most : Nat) (enc : α → Value) (r : Res α) (e : Ending) (w' : World) : Prop :=
  match r with
  | .ok x m' => e = .returned (enc x) ∧ CrAt g B A n c xs m' most w'
  | .fail er p => e = gaveUp er p
theorem CrAt.len {g B : Nat} {A : Option Addr} {n c : Nat} {xs : List Int} {m most : Nat} {W : World} (k : CrAt g B A n c xs m most W) : xs.length = n := Kd.C_len (k.foot W (Below.refl _ _))
theorem CrAt.size {g B : Nat} {A : Option Addr} {n c : Nat} {xs : List Int} {m most : Nat} {W : World} (k : CrAt g B A n c xs m most W) : B ≤ W.heap.size := Nat.le_of_lt (Nat.lt_of_le_of_lt k.b k.row.lt)
theorem CrAt.below {g B : Nat} {A : Option Addr} {n c : Nat} {xs : List Int} {m most : Nat} {W W' : World} (k : CrAt g B A n c xs m most W) (hb : Below W.heap.size W W') : CrAt g B A n c xs m most W' :=
  { k with row := k.row.below hb, foot := fun W2 hb2 => k.foot W2 ((hb.mono k.size).trans hb2) }
theorem CrAt.moved {g B : Nat} {A : Option Addr} {n c : Nat} {xs : List Int} {m m' most : Nat} {W : World} (k : CrAt g B A n c xs m most W) (hm : m' ≤ n) :
    CrAt g B A n c xs m' most (W.setRow g [Value.slice A n c, .int .i64 (m' : Int), .int .i64 (most : Int)].toArray) ∧ Below B W (W.setRow g [Value.slice A n c, .int .i64 (m' : Int), .int .i64 (most : Int)].toArray) ∧ Kept W (W.setRow g [Value.slice A n c, .int .i64 (m' : Int), .int .i64 (most : Int)].toArray) (fun j => j = g) := by
  have hb : Below B W (W.setRow g [Value.slice A n c, .int .i64 (m' : Int), .int .i64 (most : Int)].toArray) := below_setRow' (Below.refl _ _) k.b _
  refine ⟨{ k with row := k.row.row _, foot := fun W2 hb2 => k.foot W2 (hb.trans hb2), le := hm }, hb, ?_⟩
  exact ⟨by rw [setRow_size]; exact Nat.le_refl _, fun j hj hn => setRow_other _ _ _ _ hn⟩
theorem took_ok {g B : Nat} {A : Option Addr} {n c : Nat} {xs : List Int} {m most : Nat} {W : World} (k : CrAt g B A n c xs m most W) (d : Nat) (hd : m + d ≤ n) :
    Calls Try.prog 116 #[ptr g, .int .i64 (d : Int), .int .i64 0] W fun e w' => e = .returned (.tuple #[]) ∧ CrAt g B A n c xs (m + d) most w' ∧ Below B W w' ∧ Kept W w' (fun j => j = g) := by
  have HK := Aside0.mk k
  have HM := Aside0.mk (k.moved (m' := m + d) hd)
  have c1 := k.row.cell 1 _ rfl
  have f1 := k.row.free 1
  have hw : wrap64 ((m : Int) + (d : Int)) = ((m + d : Nat) : Int) := by have := k.big; unfold wrap64; omega
  clear k hd
  go_enter Try.func116, Try.ntmps116
  go_wp2_with fail
  go_end0
  have e1 := HK.out.row.set 1 (.int .i64 ((m + d : Nat) : Int))
  rw [show [Value.slice A n c, .int .i64 (m : Int), .int .i64 (most : Int)].set 1 (.int .i64 ((m + d : Nat) : Int)) = [Value.slice A n c, .int .i64 ((m + d : Nat) : Int), .int .i64 (most : Int)] from rfl] at e1
  rw [show (m : Int) + (d : Int) = ((m + d : Nat) : Int) from by omega, e1]
  exact ⟨rfl, HM.out⟩
theorem took_fail {g B : Nat} {A : Option Addr} {n c : Nat} {xs : List Int} {m most : Nat} {W : World} (k : CrAt g B A n c xs m most W) (d e : Int) (hd : 0 ≤ d ∧ d ≤ 2000000000) (he : e ≠ 0) :
    Calls Try.prog 116 #[ptr g, .int .i64 d, .int .i64 e] W fun e' w' => e' = gaveUp e ((m : Int) + d) ∧ w' = W := by
  have c1 := k.row.cell 1 _ rfl
  have hw : wrap64 ((m : Int) + d) = (m : Int) + d := by have := k.big; have := k.le; unfold wrap64; omega
  have h0 : (e == 0) = false := by simpa using he
  have h1 : decide (e = 0) = false := decide_eq_false he
  clear k hd he
  go_enter Try.func116, Try.ntmps116
  go_wp2_with fail
  exact ⟨rfl, rfl, rfl⟩
theorem CrAt.rest {g B : Nat} {A : Option Addr} {n c : Nat} {xs : List Int} {m most : Nat} {W : World} (k : CrAt g B A n c xs m most W) {W' : World} (hb : Below B W W') : Kd.C (Kd.int .u8) W' (if c = m then A else A.map (·.add m)) (xs.drop m).length (xs.drop m) := by
  have hl := k.len
  have hC := k.foot W' hb
  rw [← hl] at hC
  have h1 := k.le
  have h2 := k.nc
  have := Kd.C_drop (m := m) (c := c) hC (by omega) (by omega)
  rwa [show m * (Kd.int .u8).sz = m from Nat.mul_one m] at this
theorem CrAt.dl {g B : Nat} {A : Option Addr} {n c : Nat} {xs : List Int} {m most : Nat} {W : World} (k : CrAt g B A n c xs m most W) : (xs.drop m).length = n - m := by rw [List.length_drop, k.len]
theorem ug_place (xs : List Int) (m n : Nat) (h : xs.length = n) (hm : m ≤ n) : 0 ≤ (ug 0 0 (xs.drop m)).2.1 ∧ (ug 0 0 (xs.drop m)).2.1 ≤ ((n - m : Nat) : Int) := by
  have := ug_at (xs.drop m) 0 0
  rw [List.length_drop, h] at this
  omega
theorem r_int {g B : Nat} {A : Option Addr} {n c : Nat} {xs : List Int} {m most : Nat} {W : World} (k : CrAt g B A n c xs m most W) :
    Calls Try.prog 62 #[ptr g] W fun e w' => Below B W w' ∧ Kept W w' (fun j => j = g) ∧ Out g B A n c xs most (Value.int .i64) (pI xs m) e w' := by
  have HK := Aside0.mk k
  have c1 : (m : Int) ≤ (n : Int) := by have := k.le; omega
  have c2 : (n : Int) ≤ (c : Int) := by have := k.nc; omega
  have c3 : (0 : Int) ≤ (m : Int) := by omega
  have MKS := Aside0.mk (show ∀ w', Below W.heap.size W w' → (fun w' => w'.cell? ⟨g, 0, none⟩ = some (.slice A n c) ∧ w'.cell? ⟨g, 1, none⟩ = some (.int .i64 (m : Int)) ∧ w'.cell? ⟨g, 2, none⟩ = some (.int .i64 (most : Int))) w' from fun w' hb => by
    have r := HK.out.row.below hb
    exact ⟨r.cell 0 _ rfl, r.cell 1 _ rfl, r.cell 2 _ rfl⟩)
  clear k
  have hdl := HK.out.dl
  obtain ⟨q, hq⟩ : ∃ q, ig (ug 0 0 (xs.drop m)) = q := ⟨_, rfl⟩
  have HQ := Aside0.mk hq
  have hpl := (show 0 ≤ (ig (ug 0 0 (xs.drop m))).2.1 ∧ (ig (ug 0 0 (xs.drop m))).2.1 ≤ ((n - m : Nat) : Int) from ug_place xs m n HK.out.len HK.out.le)
  have HF := Aside0.mk (show ∀ w', Below W.heap.size W w' → Calls Try.prog 117 #[.slice (if c = m then A else A.map (·.add m)) (n - m) (c - m)] w' fun e w2 => e = .returned (.tuple #[.int .i64 q.1, .int .i64 q.2.1, .int .i64 q.2.2]) ∧ Drawn0 w' w2 from fun w' hb => by
    have := frame_Int.calls ((xs.drop m).length + 2) (if c = m then A else A.map (·.add m)) (c - m) (xs.drop m) q.1 q.2.1 q.2.2 w' (HK.out.rest (hb.mono HK.out.size)) (by rw [hdl]; have := HK.out.nc; omega) (by rw [frame_int _ (HK.out.by_.drop m) (by rw [hdl]; have := HK.out.big; omega) _ (by omega), hq])
    rwa [hdl] at this)
  rw [hq] at hpl
  obtain ⟨v, d, er⟩ := q
  obtain ⟨dn, hdn⟩ : ∃ dn : Nat, d = (dn : Int) := ⟨d.toNat, by have h1 : 0 ≤ d := hpl.1; omega⟩
  subst hdn
  have HPL := Aside0.mk (show m + dn ≤ n by have h1 : (dn : Int) ≤ ((n - m : Nat) : Int) := hpl.2; have := HK.out.le; omega)
  clear hdl hq hpl
  go_enter Try.func62, Try.ntmps62
  go_upto_region 1 with fail
  refine wp_region_held_drew (S := fun w' => w'.cell? ⟨g, 0, none⟩ = some (.slice A n c) ∧ w'.cell? ⟨g, 1, none⟩ = some (.int .i64 (m : Int)) ∧ w'.cell? ⟨g, 2, none⟩ = some (.int .i64 (most : Int))) (by kernel_rfl) (MKS.out _ (below_drew (Below.refl _ _))) (fun hHeld => ?_)
  refine wpAnyH_take (i := 0) (oi := { dst := some 7, op := Op.move (Operand.tmp 0), type := 101, pos := "read.go:30", after := #[], guard := none }) (v := ?_) rfl (by kernel_rfl) (by kernel_rfl) (by kernel_rfl) (fun _ _ _ h => h) (Or.inl ⟨by rfl, ?_⟩) hHeld ?_
  rotate_left
  · intro w' hS; obtain ⟨hS0, hS1, hS2⟩ := hS; go_simp; all_goals (with_reducible rfl)
  (try simp only [Act.put, List.setIfInBounds_toArray, List.set_cons_zero, List.set_cons_succ])
  refine wpAnyH_take (i := 1) (oi := { dst := some 8, op := Op.nilCheck (Operand.tmp 7), type := 0, pos := "read.go:30", after := #[{ on := 0, ground := Ground.data }], guard := none }) (v := ?_) rfl (by kernel_rfl) (by kernel_rfl) (by kernel_rfl) (fun _ _ _ h => h) (Or.inl ⟨by rfl, ?_⟩) hHeld ?_
  rotate_left
  · intro w' hS; obtain ⟨hS0, hS1, hS2⟩ := hS; go_simp; all_goals (with_reducible rfl)
  (try simp only [Act.put, List.setIfInBounds_toArray, List.set_cons_zero, List.set_cons_succ])
  refine wpAnyH_take (i := 2) (oi := { dst := some 9, op := Op.fieldAddr 158 (Operand.tmp 8) 0, type := 0, pos := "read.go:30", after := #[{ on := 1, ground := Ground.data }], guard := none }) (v := ?_) rfl (by kernel_rfl) (by kernel_rfl) (by kernel_rfl) (fun _ _ _ h => h) (Or.inl ⟨by rfl, ?_⟩) hHeld ?_
  rotate_left
  · intro w' hS; obtain ⟨hS0, hS1, hS2⟩ := hS; go_simp; all_goals (with_reducible rfl)
  (try simp only [Act.put, List.setIfInBounds_toArray, List.set_cons_zero, List.set_cons_succ])
  refine wpAnyH_take (i := 3) (oi := { dst := some 10, op := Op.load 26 (Operand.tmp 9), type := 26, pos := "read.go:30", after := #[{ on := 2, ground := Ground.data }], guard := none }) (v := ?_) rfl (by kernel_rfl) (by kernel_rfl) (by kernel_rfl) (fun _ _ _ h => h) (Or.inl ⟨by rfl, ?_⟩) hHeld ?_
  rotate_left
  · intro w' hS; obtain ⟨hS0, hS1, hS2⟩ := hS; go_simp; all_goals (with_reducible rfl)
  (try simp only [Act.put, List.setIfInBounds_toArray, List.set_cons_zero, List.set_cons_succ])
  refine wpAnyH_take (i := 4) (oi := { dst := some 11, op := Op.move (Operand.tmp 0), type := 101, pos := "read.go:30", after := #[], guard := none }) (v := ?_) rfl (by kernel_rfl) (by kernel_rfl) (by kernel_rfl) (fun _ _ _ h => h) (Or.inl ⟨by rfl, ?_⟩) hHeld ?_
  rotate_left
  · intro w' hS; obtain ⟨hS0, hS1, hS2⟩ := hS; go_simp; all_goals (with_reducible rfl)
  (try simp only [Act.put, List.setIfInBounds_toArray, List.set_cons_zero, List.set_cons_succ])
  refine wpAnyH_take (i := 5) (oi := { dst := some 12, op := Op.nilCheck (Operand.tmp 11), type := 0, pos := "read.go:30", after := #[{ on := 4, ground := Ground.data }], guard := none }) (v := ?_) rfl (by kernel_rfl) (by kernel_rfl) (by kernel_rfl) (fun _ _ _ h => h) (Or.inl ⟨by rfl, ?_⟩) hHeld ?_
  rotate_left
  · intro w' hS; obtain ⟨hS0, hS1, hS2⟩ := hS; go_simp; all_goals (with_reducible rfl)
  (try simp only [Act.put, List.setIfInBounds_toArray, List.set_cons_zero, List.set_cons_succ])
  refine wpAnyH_take (i := 6) (oi := { dst := some 13, op := Op.fieldAddr 158 (Operand.tmp 12) 1, type := 0, pos := "read.go:30", after := #[{ on := 5, ground := Ground.data }], guard := none }) (v := ?_) rfl (by kernel_rfl) (by kernel_rfl) (by kernel_rfl) (fun _ _ _ h => h) (Or.inl ⟨by rfl, ?_⟩) hHeld ?_
  rotate_left
  · intro w' hS; obtain ⟨hS0, hS1, hS2⟩ := hS; go_simp; all_goals (with_reducible rfl)
  (try simp only [Act.put, List.setIfInBounds_toArray, List.set_cons_zero, List.set_cons_succ])
  refine wpAnyH_take (i := 7) (oi := { dst := some 14, op := Op.load 3 (Operand.tmp 13), type := 3, pos := "read.go:30", after := #[{ on := 6, ground := Ground.data }], guard := none }) (v := ?_) rfl (by kernel_rfl) (by kernel_rfl) (by kernel_rfl) (fun _ _ _ h => h) (Or.inl ⟨by rfl, ?_⟩) hHeld ?_
  rotate_left
  · intro w' hS; obtain ⟨hS0, hS1, hS2⟩ := hS; go_simp; all_goals (with_reducible rfl)
  (try simp only [Act.put, List.setIfInBounds_toArray, List.set_cons_zero, List.set_cons_succ])
  refine wpAnyH_take (i := 8) (oi := { dst := some 15, op := Op.slice 26 (Operand.tmp 10) (some (Operand.tmp 14)) none none, type := 26, pos := "read.go:30", after := #[{ on := 3, ground := Ground.data }, { on := 7, ground := Ground.data }], guard := none }) (v := ?_) rfl (by kernel_rfl) (by kernel_rfl) (by kernel_rfl) (fun _ _ _ h => h) (Or.inl ⟨by rfl, ?_⟩) hHeld ?_
  rotate_left
  · intro w' hS; obtain ⟨hS0, hS1, hS2⟩ := hS; go_simp; all_goals (with_reducible rfl)
  (try simp only [Act.put, List.setIfInBounds_toArray, List.set_cons_zero, List.set_cons_succ])
  refine wpAnyH_ready (rs := [9]) (by kernel_rfl) (by simp) ?_
  refine AllReadyH.cons (o := { dst := some 16, op := Op.call { callee := Callee.value (Operand.func 117), args := #[Operand.tmp 15], argTypes := #[26] }, type := 162, pos := "read.go:30", after := #[{ on := 8, ground := Ground.data }], guard := none }) rfl (fun K hK => ?_) AllReadyH.nil
  go_simp
  go_at_call 117
  refine (HF.out _ (below_drew (Below.refl _ _))).mono ?_
  rintro e wa ⟨rfl, hd⟩
  have HB1 := Aside0.mk (show Below W.heap.size W wa from by
    obtain ⟨md, rfl⟩ := hd
    exact pw_below_drewN (below_drew (Below.refl _ _)) md)
  clear hd
  refine hK.out _ _ (MKS.out _ HB1.out) (fun hHeld => ?_)
  clear hK K
  (try simp only [Act.put, List.setIfInBounds_toArray, List.set_cons_zero, List.set_cons_succ])
  refine wpAnyH_take (i := 10) (oi := { dst := some 6, op := Op.move (Operand.tmp 16), type := 162, pos := "read.go:30", after := #[{ on := 9, ground := Ground.data }], guard := none }) (v := ?_) rfl (by kernel_rfl) (by kernel_rfl) (by kernel_rfl) (fun _ _ _ h => h) (Or.inl ⟨by rfl, ?_⟩) hHeld ?_
  rotate_left
  · intro w' hS; obtain ⟨hS0, hS1, hS2⟩ := hS; go_simp; all_goals (with_reducible rfl)
  (try simp only [Act.put, List.setIfInBounds_toArray, List.set_cons_zero, List.set_cons_succ])
  refine wpAnyH_take (i := 11) (oi := { dst := some 17, op := Op.extract (Operand.tmp 6) 0, type := 3, pos := "read.go:30", after := #[{ on := 10, ground := Ground.data }], guard := none }) (v := ?_) rfl (by kernel_rfl) (by kernel_rfl) (by kernel_rfl) (fun _ _ _ h => h) (Or.inl ⟨by rfl, ?_⟩) hHeld ?_
  rotate_left
  · intro w' hS; obtain ⟨hS0, hS1, hS2⟩ := hS; go_simp; all_goals (with_reducible rfl)
  (try simp only [Act.put, List.setIfInBounds_toArray, List.set_cons_zero, List.set_cons_succ])
  refine wpAnyH_take (i := 12) (oi := { dst := some 18, op := Op.extract (Operand.tmp 6) 1, type := 3, pos := "read.go:30", after := #[{ on := 10, ground := Ground.data }, { on := 14, ground := Ground.gcOnly Departure.lateStores }], guard := none }) (v := ?_) rfl (by kernel_rfl) (by kernel_rfl) (by kernel_rfl) (fun _ _ _ h => h) (Or.inl ⟨by rfl, ?_⟩) hHeld ?_
  rotate_left
  · intro w' hS; obtain ⟨hS0, hS1, hS2⟩ := hS; go_simp; all_goals (with_reducible rfl)
  (try simp only [Act.put, List.setIfInBounds_toArray, List.set_cons_zero, List.set_cons_succ])
  refine wpAnyH_take (i := 13) (oi := { dst := some 19, op := Op.extract (Operand.tmp 6) 2, type := 22, pos := "read.go:30", after := #[{ on := 10, ground := Ground.data }, { on := 15, ground := Ground.gcOnly Departure.lateStores }], guard := none }) (v := ?_) rfl (by kernel_rfl) (by kernel_rfl) (by kernel_rfl) (fun _ _ _ h => h) (Or.inl ⟨by rfl, ?_⟩) hHeld ?_
  rotate_left
  · intro w' hS; obtain ⟨hS0, hS1, hS2⟩ := hS; go_simp; all_goals (with_reducible rfl)
  (try simp only [Act.put, List.setIfInBounds_toArray, List.set_cons_zero, List.set_cons_succ])
  refine wpAnyH_take (i := 14) (oi := { dst := some 3, op := Op.assign (Operand.tmp 17), type := 3, pos := "read.go:30", after := #[{ on := 11, ground := Ground.data }, { on := 9, ground := Ground.chain }, { on := 0, ground := Ground.phase }, { on := 1, ground := Ground.phase }, { on := 2, ground := Ground.phase }, { on := 3, ground := Ground.phase }, { on := 4, ground := Ground.phase }, { on := 5, ground := Ground.phase }, { on := 6, ground := Ground.phase }, { on := 7, ground := Ground.phase }, { on := 8, ground := Ground.phase }, { on := 9, ground := Ground.phase }, { on := 10, ground := Ground.phase }, { on := 11, ground := Ground.phase }, { on := 12, ground := Ground.textOnly Departure.lateStores }, { on := 13, ground := Ground.textOnly Departure.lateStores }], guard := none }) (v := ?_) rfl (by kernel_rfl) (by kernel_rfl) (by kernel_rfl) (fun _ _ _ h => h) (Or.inl ⟨by rfl, ?_⟩) hHeld ?_
  rotate_left
  · intro w' hS; obtain ⟨hS0, hS1, hS2⟩ := hS; go_simp; all_goals (with_reducible rfl)
  (try simp only [Act.put, List.setIfInBounds_toArray, List.set_cons_zero, List.set_cons_succ])
  refine wpAnyH_take (i := 15) (oi := { dst := some 4, op := Op.assign (Operand.tmp 18), type := 3, pos := "read.go:30", after := #[{ on := 12, ground := Ground.data }, { on := 14, ground := Ground.chain }, { on := 0, ground := Ground.phase }, { on := 1, ground := Ground.phase }, { on := 2, ground := Ground.phase }, { on := 3, ground := Ground.phase }, { on := 4, ground := Ground.phase }, { on := 5, ground := Ground.phase }, { on := 6, ground := Ground.phase }, { on := 7, ground := Ground.phase }, { on := 8, ground := Ground.phase }, { on := 9, ground := Ground.phase }, { on := 10, ground := Ground.phase }, { on := 11, ground := Ground.phase }, { on := 12, ground := Ground.phase }, { on := 13, ground := Ground.textOnly Departure.lateStores }, { on := 14, ground := Ground.phase }], guard := none }) (v := ?_) rfl (by kernel_rfl) (by kernel_rfl) (by kernel_rfl) (fun _ _ _ h => h) (Or.inl ⟨by rfl, ?_⟩) hHeld ?_
  rotate_left
  · intro w' hS; obtain ⟨hS0, hS1, hS2⟩ := hS; go_simp; all_goals (with_reducible rfl)
  (try simp only [Act.put, List.setIfInBounds_toArray, List.set_cons_zero, List.set_cons_succ])
  refine wpAnyH_take (i := 16) (oi := { dst := some 5, op := Op.assign (Operand.tmp 19), type := 22, pos := "read.go:30", after := #[{ on := 13, ground := Ground.data }, { on := 15, ground := Ground.chain }, { on := 0, ground := Ground.phase }, { on := 1, ground := Ground.phase }, { on := 2, ground := Ground.phase }, { on := 3, ground := Ground.phase }, { on := 4, ground := Ground.phase }, { on := 5, ground := Ground.phase }, { on := 6, ground := Ground.phase }, { on := 7, ground := Ground.phase }, { on := 8, ground := Ground.phase }, { on := 9, ground := Ground.phase }, { on := 10, ground := Ground.phase }, { on := 11, ground := Ground.phase }, { on := 12, ground := Ground.phase }, { on := 13, ground := Ground.phase }, { on := 14, ground := Ground.phase }, { on := 15, ground := Ground.phase }], guard := none }) (v := ?_) rfl (by kernel_rfl) (by kernel_rfl) (by kernel_rfl) (fun _ _ _ h => h) (Or.inl ⟨by rfl, ?_⟩) hHeld ?_
  rotate_left
  · intro w' hS; obtain ⟨hS0, hS1, hS2⟩ := hS; go_simp; all_goals (with_reducible rfl)
  (try simp only [Act.put, List.setIfInBounds_toArray, List.set_cons_zero, List.set_cons_succ])
  refine wpAnyH_done (by kernel_rfl) ?_ _
  (try simp only [Act.put, List.setIfInBounds_toArray, List.set_cons_zero, List.set_cons_succ])
  clear HF
  generalize (if c = m then A else Option.map (fun x => x.add m) A) = Am at *
  by_cases he : er = 0
  · subst he
    have HP := Aside0.mk (show pI xs m = Res.ok v (m + dn) from by unfold pI took; rw [HQ.out, if_pos rfl]; rfl)
    go_wp2_with fail
    go_at_call 116
    refine (took_ok (HK.out.below HB1.out) dn HPL.out).mono ?_
    rintro e w2 ⟨rfl, hk, hb, hkp⟩
    have K2 := Aside0.mk hk
    have B2 := Aside0.mk ((HB1.out.mono HK.out.size).trans hb)
    have P2 := Aside0.mk ((Kept.of_below HB1.out (fun j => j = g)).then_ hkp (fun _ h => .inl h))
    clear hk hb hkp
    go_wp2_with fail
    go_ret
    refine ⟨B2.out, P2.out, ?_⟩
    rw [HP.out]
    exact ⟨rfl, K2.out⟩
  · have HP := Aside0.mk (show pI xs m = Res.fail er ((m : Int) + (dn : Int)) from by unfold pI took; rw [HQ.out, if_neg he])
    have HE := Aside0.mk he
    clear he
    go_wp2_with fail
    go_at_call 116
    refine (took_fail (HK.out.below HB1.out) (dn : Int) er (by have := HPL.out; have := HK.out.big; omega) HE.out).mono ?_
    rintro e w2 ⟨rfl, rfl⟩
    refine ⟨rfl, HB1.out.mono HK.out.size, Kept.of_below HB1.out _, ?_⟩
    rw [HP.out]
    rfl
theorem tx_place (most : Int) (l : List Int) (hb : IsBytes l) : 0 ≤ (tx most l).2.1 ∧ (tx most l).2.1 ≤ (l.length : Int) := by
  have h1 := ug_at l 0 0
  have h2 := ug_lt l 0 0 (by omega) (by decide) hb
  unfold tx
  repeat' split
  all_goals simp only
  all_goals omega
theorem r_text {g B : Nat} {A : Option Addr} {n c : Nat} {xs : List Int} {m most : Nat} {W : World} (k : CrAt g B A n c xs m most W) :
    Calls Try.prog 61 #[ptr g] W fun e w' => Below B W w' ∧ Kept W w' (fun j => j = g) ∧ Out g B A n c xs most (Value.string) (pT xs most m) e w' := by
  have HK := Aside0.mk k
  have c1 : (m : Int) ≤ (n : Int) := by have := k.le; omega
  have c2 : (n : Int) ≤ (c : Int) := by have := k.nc; omega
  have c3 : (0 : Int) ≤ (m : Int) := by omega
  have MKS := Aside0.mk (show ∀ w', Below W.heap.size W w' → (fun w' => w'.cell? ⟨g, 0, none⟩ = some (.slice A n c) ∧ w'.cell? ⟨g, 1, none⟩ = some (.int .i64 (m : Int)) ∧ w'.cell? ⟨g, 2, none⟩ = some (.int .i64 (most : Int))) w' from fun w' hb => by
    have r := HK.out.row.below hb
    exact ⟨r.cell 0 _ rfl, r.cell 1 _ rfl, r.cell 2 _ rfl⟩)
  clear k
  have hdl := HK.out.dl
  obtain ⟨q, hq⟩ : ∃ q, tx (most : Int) (xs.drop m) = q := ⟨_, rfl⟩
  have HQ := Aside0.mk hq
  have hpl := (show 0 ≤ (tx (most : Int) (xs.drop m)).2.1 ∧ (tx (most : Int) (xs.drop m)).2.1 ≤ ((n - m : Nat) : Int) from by have := tx_place (most : Int) (xs.drop m) (HK.out.by_.drop m); rwa [hdl] at this)
  have HF := Aside0.mk (show ∀ w', Below W.heap.size W w' → Calls Try.prog 115 #[.slice (if c = m then A else A.map (·.add m)) (n - m) (c - m), .int .i64 (most : Int)] w' fun e w2 => e = .returned (.tuple #[.string q.1, .int .i64 q.2.1, .int .i64 q.2.2]) ∧ Below w'.heap.size w' w2 from fun w' hb => by
    have := frame_Text.calls (3 * (xs.drop m).length + 30) (if c = m then A else A.map (·.add m)) (c - m) (xs.drop m) (most : Int) q.1 q.2.1 q.2.2 w' (HK.out.rest (hb.mono HK.out.size)) (by rw [hdl]; have := HK.out.nc; omega) (by rw [(text_ok (3 * (xs.drop m).length + 30) _ most (HK.out.by_.drop m) (by rw [hdl]; have := HK.out.big; omega) (by omega) (by have := HK.out.mb; omega)).1, hq])
    rwa [hdl] at this)
  rw [hq] at hpl
  obtain ⟨v, d, er⟩ := q
  obtain ⟨dn, hdn⟩ : ∃ dn : Nat, d = (dn : Int) := ⟨d.toNat, by have h1 : 0 ≤ d := hpl.1; omega⟩
  subst hdn
  have HPL := Aside0.mk (show m + dn ≤ n by have h1 : (dn : Int) ≤ ((n - m : Nat) : Int) := hpl.2; have := HK.out.le; omega)
  clear hdl hq hpl
  go_enter Try.func61, Try.ntmps61
  go_upto_region 1 with fail
  refine wp_region_held_drew (S := fun w' => w'.cell? ⟨g, 0, none⟩ = some (.slice A n c) ∧ w'.cell? ⟨g, 1, none⟩ = some (.int .i64 (m : Int)) ∧ w'.cell? ⟨g, 2, none⟩ = some (.int .i64 (most : Int))) (by kernel_rfl) (MKS.out _ (below_drew (Below.refl _ _))) (fun hHeld => ?_)
  refine wpAnyH_take (i := 0) (oi := { dst := some 7, op := Op.move (Operand.tmp 0), type := 101, pos := "read.go:36", after := #[], guard := none }) (v := ?_) rfl (by kernel_rfl) (by kernel_rfl) (by kernel_rfl) (fun _ _ _ h => h) (Or.inl ⟨by rfl, ?_⟩) hHeld ?_
  rotate_left
  · intro w' hS; obtain ⟨hS0, hS1, hS2⟩ := hS; go_simp; all_goals (with_reducible rfl)
  (try simp only [Act.put, List.setIfInBounds_toArray, List.set_cons_zero, List.set_cons_succ])
  refine wpAnyH_take (i := 1) (oi := { dst := some 8, op := Op.nilCheck (Operand.tmp 7), type := 0, pos := "read.go:36", after := #[{ on := 0, ground := Ground.data }], guard := none }) (v := ?_) rfl (by kernel_rfl) (by kernel_rfl) (by kernel_rfl) (fun _ _ _ h => h) (Or.inl ⟨by rfl, ?_⟩) hHeld ?_
  rotate_left
  · intro w' hS; obtain ⟨hS0, hS1, hS2⟩ := hS; go_simp; all_goals (with_reducible rfl)
  (try simp only [Act.put, List.setIfInBounds_toArray, List.set_cons_zero, List.set_cons_succ])
  refine wpAnyH_take (i := 2) (oi := { dst := some 9, op := Op.fieldAddr 158 (Operand.tmp 8) 0, type := 0, pos := "read.go:36", after := #[{ on := 1, ground := Ground.data }], guard := none }) (v := ?_) rfl (by kernel_rfl) (by kernel_rfl) (by kernel_rfl) (fun _ _ _ h => h) (Or.inl ⟨by rfl, ?_⟩) hHeld ?_
  rotate_left
  · intro w' hS; obtain ⟨hS0, hS1, hS2⟩ := hS; go_simp; all_goals (with_reducible rfl)
  (try simp only [Act.put, List.setIfInBounds_toArray, List.set_cons_zero, List.set_cons_succ])
  refine wpAnyH_take (i := 3) (oi := { dst := some 10, op := Op.load 26 (Operand.tmp 9), type := 26, pos := "read.go:36", after := #[{ on := 2, ground := Ground.data }], guard := none }) (v := ?_) rfl (by kernel_rfl) (by kernel_rfl) (by kernel_rfl) (fun _ _ _ h => h) (Or.inl ⟨by rfl, ?_⟩) hHeld ?_
  rotate_left
  · intro w' hS; obtain ⟨hS0, hS1, hS2⟩ := hS; go_simp; all_goals (with_reducible rfl)
  (try simp only [Act.put, List.setIfInBounds_toArray, List.set_cons_zero, List.set_cons_succ])
  refine wpAnyH_take (i := 4) (oi := { dst := some 11, op := Op.move (Operand.tmp 0), type := 101, pos := "read.go:36", after := #[], guard := none }) (v := ?_) rfl (by kernel_rfl) (by kernel_rfl) (by kernel_rfl) (fun _ _ _ h => h) (Or.inl ⟨by rfl, ?_⟩) hHeld ?_
  rotate_left
  · intro w' hS; obtain ⟨hS0, hS1, hS2⟩ := hS; go_simp; all_goals (with_reducible rfl)
  (try simp only [Act.put, List.setIfInBounds_toArray, List.set_cons_zero, List.set_cons_succ])
  refine wpAnyH_take (i := 5) (oi := { dst := some 12, op := Op.nilCheck (Operand.tmp 11), type := 0, pos := "read.go:36", after := #[{ on := 4, ground := Ground.data }], guard := none }) (v := ?_) rfl (by kernel_rfl) (by kernel_rfl) (by kernel_rfl) (fun _ _ _ h => h) (Or.inl ⟨by rfl, ?_⟩) hHeld ?_
  rotate_left
  · intro w' hS; obtain ⟨hS0, hS1, hS2⟩ := hS; go_simp; all_goals (with_reducible rfl)
  (try simp only [Act.put, List.setIfInBounds_toArray, List.set_cons_zero, List.set_cons_succ])
  refine wpAnyH_take (i := 6) (oi := { dst := some 13, op := Op.fieldAddr 158 (Operand.tmp 12) 1, type := 0, pos := "read.go:36", after := #[{ on := 5, ground := Ground.data }], guard := none }) (v := ?_) rfl (by kernel_rfl) (by kernel_rfl) (by kernel_rfl) (fun _ _ _ h => h) (Or.inl ⟨by rfl, ?_⟩) hHeld ?_
  rotate_left
  · intro w' hS; obtain ⟨hS0, hS1, hS2⟩ := hS; go_simp; all_goals (with_reducible rfl)
  (try simp only [Act.put, List.setIfInBounds_toArray, List.set_cons_zero, List.set_cons_succ])
  refine wpAnyH_take (i := 7) (oi := { dst := some 14, op := Op.load 3 (Operand.tmp 13), type := 3, pos := "read.go:36", after := #[{ on := 6, ground := Ground.data }], guard := none }) (v := ?_) rfl (by kernel_rfl) (by kernel_rfl) (by kernel_rfl) (fun _ _ _ h => h) (Or.inl ⟨by rfl, ?_⟩) hHeld ?_
  rotate_left
  · intro w' hS; obtain ⟨hS0, hS1, hS2⟩ := hS; go_simp; all_goals (with_reducible rfl)
  (try simp only [Act.put, List.setIfInBounds_toArray, List.set_cons_zero, List.set_cons_succ])
  refine wpAnyH_take (i := 8) (oi := { dst := some 15, op := Op.slice 26 (Operand.tmp 10) (some (Operand.tmp 14)) none none, type := 26, pos := "read.go:36", after := #[{ on := 3, ground := Ground.data }, { on := 7, ground := Ground.data }], guard := none }) (v := ?_) rfl (by kernel_rfl) (by kernel_rfl) (by kernel_rfl) (fun _ _ _ h => h) (Or.inl ⟨by rfl, ?_⟩) hHeld ?_
  rotate_left
  · intro w' hS; obtain ⟨hS0, hS1, hS2⟩ := hS; go_simp; all_goals (with_reducible rfl)
  (try simp only [Act.put, List.setIfInBounds_toArray, List.set_cons_zero, List.set_cons_succ])
  refine wpAnyH_take (i := 9) (oi := { dst := some 16, op := Op.move (Operand.tmp 0), type := 101, pos := "read.go:36", after := #[], guard := none }) (v := ?_) rfl (by kernel_rfl) (by kernel_rfl) (by kernel_rfl) (fun _ _ _ h => h) (Or.inl ⟨by rfl, ?_⟩) hHeld ?_
  rotate_left
  · intro w' hS; obtain ⟨hS0, hS1, hS2⟩ := hS; go_simp; all_goals (with_reducible rfl)
  (try simp only [Act.put, List.setIfInBounds_toArray, List.set_cons_zero, List.set_cons_succ])
  refine wpAnyH_take (i := 10) (oi := { dst := some 17, op := Op.nilCheck (Operand.tmp 16), type := 0, pos := "read.go:36", after := #[{ on := 9, ground := Ground.data }], guard := none }) (v := ?_) rfl (by kernel_rfl) (by kernel_rfl) (by kernel_rfl) (fun _ _ _ h => h) (Or.inl ⟨by rfl, ?_⟩) hHeld ?_
  rotate_left
  · intro w' hS; obtain ⟨hS0, hS1, hS2⟩ := hS; go_simp; all_goals (with_reducible rfl)
  (try simp only [Act.put, List.setIfInBounds_toArray, List.set_cons_zero, List.set_cons_succ])
  refine wpAnyH_take (i := 11) (oi := { dst := some 18, op := Op.fieldAddr 158 (Operand.tmp 17) 2, type := 0, pos := "read.go:36", after := #[{ on := 10, ground := Ground.data }], guard := none }) (v := ?_) rfl (by kernel_rfl) (by kernel_rfl) (by kernel_rfl) (fun _ _ _ h => h) (Or.inl ⟨by rfl, ?_⟩) hHeld ?_
  rotate_left
  · intro w' hS; obtain ⟨hS0, hS1, hS2⟩ := hS; go_simp; all_goals (with_reducible rfl)
  (try simp only [Act.put, List.setIfInBounds_toArray, List.set_cons_zero, List.set_cons_succ])
  refine wpAnyH_take (i := 12) (oi := { dst := some 19, op := Op.load 3 (Operand.tmp 18), type := 3, pos := "read.go:36", after := #[{ on := 11, ground := Ground.data }], guard := none }) (v := ?_) rfl (by kernel_rfl) (by kernel_rfl) (by kernel_rfl) (fun _ _ _ h => h) (Or.inl ⟨by rfl, ?_⟩) hHeld ?_
  rotate_left
  · intro w' hS; obtain ⟨hS0, hS1, hS2⟩ := hS; go_simp; all_goals (with_reducible rfl)
  (try simp only [Act.put, List.setIfInBounds_toArray, List.set_cons_zero, List.set_cons_succ])
  refine wpAnyH_ready (rs := [13]) (by kernel_rfl) (by simp) ?_
  refine AllReadyH.cons (o := { dst := some 20, op := Op.call { callee := Callee.value (Operand.func 115), args := #[Operand.tmp 15, Operand.tmp 19], argTypes := #[26, 3] }, type := 159, pos := "read.go:36", after := #[{ on := 8, ground := Ground.data }, { on := 12, ground := Ground.data }], guard := none }) rfl (fun K hK => ?_) AllReadyH.nil
  go_simp
  go_at_call 115
  refine (HF.out _ (below_drew (Below.refl _ _))).mono ?_
  rintro e wa ⟨rfl, hd⟩
  have HB1 := Aside0.mk (show Below W.heap.size W wa from (below_drew (Below.refl _ _)).trans hd)
  clear hd
  refine hK.out _ _ (MKS.out _ HB1.out) (fun hHeld => ?_)
  clear hK K
  (try simp only [Act.put, List.setIfInBounds_toArray, List.set_cons_zero, List.set_cons_succ])
  refine wpAnyH_take (i := 14) (oi := { dst := some 6, op := Op.move (Operand.tmp 20), type := 159, pos := "read.go:36", after := #[{ on := 13, ground := Ground.data }], guard := none }) (v := ?_) rfl (by kernel_rfl) (by kernel_rfl) (by kernel_rfl) (fun _ _ _ h => h) (Or.inl ⟨by rfl, ?_⟩) hHeld ?_
  rotate_left
  · intro w' hS; obtain ⟨hS0, hS1, hS2⟩ := hS; go_simp; all_goals (with_reducible rfl)
  (try simp only [Act.put, List.setIfInBounds_toArray, List.set_cons_zero, List.set_cons_succ])
  refine wpAnyH_take (i := 15) (oi := { dst := some 21, op := Op.extract (Operand.tmp 6) 0, type := 9, pos := "read.go:36", after := #[{ on := 14, ground := Ground.data }], guard := none }) (v := ?_) rfl (by kernel_rfl) (by kernel_rfl) (by kernel_rfl) (fun _ _ _ h => h) (Or.inl ⟨by rfl, ?_⟩) hHeld ?_
  rotate_left
  · intro w' hS; obtain ⟨hS0, hS1, hS2⟩ := hS; go_simp; all_goals (with_reducible rfl)
  (try simp only [Act.put, List.setIfInBounds_toArray, List.set_cons_zero, List.set_cons_succ])
  refine wpAnyH_take (i := 16) (oi := { dst := some 22, op := Op.extract (Operand.tmp 6) 1, type := 3, pos := "read.go:36", after := #[{ on := 14, ground := Ground.data }, { on := 18, ground := Ground.gcOnly Departure.lateStores }], guard := none }) (v := ?_) rfl (by kernel_rfl) (by kernel_rfl) (by kernel_rfl) (fun _ _ _ h => h) (Or.inl ⟨by rfl, ?_⟩) hHeld ?_
  rotate_left
  · intro w' hS; obtain ⟨hS0, hS1, hS2⟩ := hS; go_simp; all_goals (with_reducible rfl)
  (try simp only [Act.put, List.setIfInBounds_toArray, List.set_cons_zero, List.set_cons_succ])
  refine wpAnyH_take (i := 17) (oi := { dst := some 23, op := Op.extract (Operand.tmp 6) 2, type := 22, pos := "read.go:36", after := #[{ on := 14, ground := Ground.data }, { on := 19, ground := Ground.gcOnly Departure.lateStores }], guard := none }) (v := ?_) rfl (by kernel_rfl) (by kernel_rfl) (by kernel_rfl) (fun _ _ _ h => h) (Or.inl ⟨by rfl, ?_⟩) hHeld ?_
  rotate_left
  · intro w' hS; obtain ⟨hS0, hS1, hS2⟩ := hS; go_simp; all_goals (with_reducible rfl)
  (try simp only [Act.put, List.setIfInBounds_toArray, List.set_cons_zero, List.set_cons_succ])
  refine wpAnyH_take (i := 18) (oi := { dst := some 3, op := Op.assign (Operand.tmp 21), type := 9, pos := "read.go:36", after := #[{ on := 15, ground := Ground.data }, { on := 13, ground := Ground.chain }, { on := 0, ground := Ground.phase }, { on := 1, ground := Ground.phase }, { on := 2, ground := Ground.phase }, { on := 3, ground := Ground.phase }, { on := 4, ground := Ground.phase }, { on := 5, ground := Ground.phase }, { on := 6, ground := Ground.phase }, { on := 7, ground := Ground.phase }, { on := 8, ground := Ground.phase }, { on := 9, ground := Ground.phase }, { on := 10, ground := Ground.phase }, { on := 11, ground := Ground.phase }, { on := 12, ground := Ground.phase }, { on := 13, ground := Ground.phase }, { on := 14, ground := Ground.phase }, { on := 15, ground := Ground.phase }, { on := 16, ground := Ground.textOnly Departure.lateStores }, { on := 17, ground := Ground.textOnly Departure.lateStores }], guard := none }) (v := ?_) rfl (by kernel_rfl) (by kernel_rfl) (by kernel_rfl) (fun _ _ _ h => h) (Or.inl ⟨by rfl, ?_⟩) hHeld ?_
  rotate_left
  · intro w' hS; obtain ⟨hS0, hS1, hS2⟩ := hS; go_simp; all_goals (with_reducible rfl)
  (try simp only [Act.put, List.setIfInBounds_toArray, List.set_cons_zero, List.set_cons_succ])
  refine wpAnyH_take (i := 19) (oi := { dst := some 4, op := Op.assign (Operand.tmp 22), type := 3, pos := "read.go:36", after := #[{ on := 16, ground := Ground.data }, { on := 18, ground := Ground.chain }, { on := 0, ground := Ground.phase }, { on := 1, ground := Ground.phase }, { on := 2, ground := Ground.phase }, { on := 3, ground := Ground.phase }, { on := 4, ground := Ground.phase }, { on := 5, ground := Ground.phase }, { on := 6, ground := Ground.phase }, { on := 7, ground := Ground.phase }, { on := 8, ground := Ground.phase }, { on := 9, ground := Ground.phase }, { on := 10, ground := Ground.phase }, { on := 11, ground := Ground.phase }, { on := 12, ground := Ground.phase }, { on := 13, ground := Ground.phase }, { on := 14, ground := Ground.phase }, { on := 15, ground := Ground.phase }, { on := 16, ground := Ground.phase }, { on := 17, ground := Ground.textOnly Departure.lateStores }, { on := 18, ground := Ground.phase }], guard := none }) (v := ?_) rfl (by kernel_rfl) (by kernel_rfl) (by kernel_rfl) (fun _ _ _ h => h) (Or.inl ⟨by rfl, ?_⟩) hHeld ?_
  rotate_left
  · intro w' hS; obtain ⟨hS0, hS1, hS2⟩ := hS; go_simp; all_goals (with_reducible rfl)
  (try simp only [Act.put, List.setIfInBounds_toArray, List.set_cons_zero, List.set_cons_succ])
  refine wpAnyH_take (i := 20) (oi := { dst := some 5, op := Op.assign (Operand.tmp 23), type := 22, pos := "read.go:36", after := #[{ on := 17, ground := Ground.data }, { on := 19, ground := Ground.chain }, { on := 0, ground := Ground.phase }, { on := 1, ground := Ground.phase }, { on := 2, ground := Ground.phase }, { on := 3, ground := Ground.phase }, { on := 4, ground := Ground.phase }, { on := 5, ground := Ground.phase }, { on := 6, ground := Ground.phase }, { on := 7, ground := Ground.phase }, { on := 8, ground := Ground.phase }, { on := 9, ground := Ground.phase }, { on := 10, ground := Ground.phase }, { on := 11, ground := Ground.phase }, { on := 12, ground := Ground.phase }, { on := 13, ground := Ground.phase }, { on := 14, ground := Ground.phase }, { on := 15, ground := Ground.phase }, { on := 16, ground := Ground.phase }, { on := 17, ground := Ground.phase }, { on := 18, ground := Ground.phase }, { on := 19, ground := Ground.phase }], guard := none }) (v := ?_) rfl (by kernel_rfl) (by kernel_rfl) (by kernel_rfl) (fun _ _ _ h => h) (Or.inl ⟨by rfl, ?_⟩) hHeld ?_
  rotate_left
  · intro w' hS; obtain ⟨hS0, hS1, hS2⟩ := hS; go_simp; all_goals (with_reducible rfl)
  (try simp only [Act.put, List.setIfInBounds_toArray, List.set_cons_zero, List.set_cons_succ])
  refine wpAnyH_done (by kernel_rfl) ?_ _
  (try simp only [Act.put, List.setIfInBounds_toArray, List.set_cons_zero, List.set_cons_succ])
  clear HF
  generalize (if c = m then A else Option.map (fun x => x.add m) A) = Am at *
  by_cases he : er = 0
  · subst he
    have HP := Aside0.mk (show pT xs most m = Res.ok v (m + dn) from by unfold pT took; rw [HQ.out, if_pos rfl]; rfl)
    go_wp2_with fail
    go_at_call 116
    refine (took_ok (HK.out.below HB1.out) dn HPL.out).mono ?_
    rintro e w2 ⟨rfl, hk, hb, hkp⟩
    have K2 := Aside0.mk hk
    have B2 := Aside0.mk ((HB1.out.mono HK.out.size).trans hb)
    have P2 := Aside0.mk ((Kept.of_below HB1.out (fun j => j = g)).then_ hkp (fun _ h => .inl h))
    clear hk hb hkp
    go_wp2_with fail
    go_ret
    refine ⟨B2.out, P2.out, ?_⟩
    rw [HP.out]
    exact ⟨rfl, K2.out⟩
  · have HP := Aside0.mk (show pT xs most m = Res.fail er ((m : Int) + (dn : Int)) from by unfold pT took; rw [HQ.out, if_neg he])
    have HE := Aside0.mk he
    clear he
    go_wp2_with fail
    go_at_call 116
    refine (took_fail (HK.out.below HB1.out) (dn : Int) er (by have := HPL.out; have := HK.out.big; omega) HE.out).mono ?_
    rintro e w2 ⟨rfl, rfl⟩
    refine ⟨rfl, HB1.out.mono HK.out.size, Kept.of_below HB1.out _, ?_⟩
    rw [HP.out]
    rfl
end Go.Proofs.Ytafmoglaockepaa.Cd
end
section
namespace Go.Proofs.Ytafmoglaockepaa.Cd
open Go Go.RowKit Go.Proofs.Ytafmoglaockepaa.Num Go.Proofs.Ytafmoglaockepaa.PG Go.Proofs.YtafmoglaockepaaW.PrintWords Go.Proofs.YtafmoglaockepaaW.PrintLast Go.Proofs.YtafmoglaockepaaW.PrintMore
set_option linter.unusedVariables false
set_option linter.unusedSimpArgs false
set_option maxHeartbeats 4000000
set_option maxRecDepth 100000
theorem info28 : (Try.prog.info? 28).map (fun i => (i.zero, i.size, i.bytes)) = some (some (.agg #[.string ⟨#[]⟩, .int .i64 0, .int .i64 0]), 3, 32) := by kernel_rfl
theorem CrAt.aside {g B : Nat} {A : Option Addr} {n c : Nat} {xs : List Int} {m most : Nat} {W W' : World} (k : CrAt g B A n c xs m most W) (hb : Below B W W') (hg : W'.heap[g]? = W.heap[g]?) : CrAt g B A n c xs m most W' :=
  { k with row := hg.trans k.row, foot := fun W2 hb2 => k.foot W2 (hb.trans hb2) }
abbrev lev (x : S28) : Value := .agg #[.string x.f0, .int .i64 x.f1, .int .i64 x.f2]
theorem r_level {g B gb : Nat} {A : Option Addr} {n c : Nat} {xs : List Int} {m most : Nat} {W : World} (k : CrAt g B A n c xs m most W) (hbx : Rt 101 gb [ptr g] W) :
    Calls Try.prog 119 #[ptr gb] W fun e w' => Below B W w' ∧ Kept W w' (fun j => j = g) ∧ Out g B A n c xs most lev (pLevel xs most m) e w' := by
  have HK := Aside0.mk k
  have HBX := Aside0.mk hbx
  have HNE := Aside0.mk (show gb ≠ g from fun e => by
    have h2 := hbx
    rw [e] at h2
    have := blk_types h2 k.row
    omega)
  clear k hbx
  go_enter Try.func119, Try.ntmps119
  go_upto_region 1 with fail
  have hr1 : Rt 28 W.heap.size [.string ⟨#[]⟩, .int .i64 0, .int .i64 0] (W.alloc (.cells #[.string ⟨#[]⟩, .int .i64 0, .int .i64 0] 28)) := heap_alloc_new W _
  have hb1 : Below W.heap.size W (W.alloc (.cells #[.string ⟨#[]⟩, .int .i64 0, .int .i64 0] 28)) := below_alloc (Below.refl _ _) _
  obtain ⟨b, hbe⟩ : ∃ b, W.heap.size = b := ⟨_, rfl⟩
  have K1 := Aside0.mk (HK.out.below hb1)
  have X1 := Aside0.mk (HBX.out.below hb1)
  have B1 := Aside0.mk (hb1.mono HK.out.size)
  have P1 := Aside0.mk (Kept.of_below hb1 (fun j => j = g))
  have HBE := Aside0.mk hbe
  have HLT := Aside0.mk (show g < b ∧ gb < b ∧ B ≤ b by have := HK.out.row.lt; have := HBX.out.lt; have := HK.out.size; omega)
  rw [hbe] at hr1 ⊢
  have R1 := Aside0.mk hr1
  clear hr1 hb1 hbe
  generalize W.alloc (.cells #[.string ⟨#[]⟩, .int .i64 0, .int .i64 0] 28) = w1 at *
  have cx := X1.out.cell 0 _ rfl
  have cr := R1.out.cell 0 _ rfl
  have fr := R1.out.free 0
  go_wp2_with fail
  go_at_call 61
  refine (r_text K1.out).mono ?_
  rintro e w2 ⟨hb, hp, ho⟩
  have hbt := B1.out.trans hb
  have hpt := P1.out.then_ hp (fun _ h => .inl h)
  rcases hq : pT xs most m with ⟨t, m1⟩ | ⟨er, p⟩
  rotate_left
  · rw [hq] at ho
    have ho : e = gaveUp er p := ho
    subst ho
    refine ⟨rfl, hbt, hpt, ?_⟩
    have e9 : pLevel xs most m = Res.fail er p := by
      unfold pLevel
      simp only [Res.bind, hq]
    rw [e9]
    rfl
  rw [hq] at ho
  obtain ⟨he, hk⟩ : e = .returned (.string t) ∧ CrAt g B A n c xs m1 most w2 := ho
  subst he
  have HQ0 := Aside0.mk hq
  have K2 := Aside0.mk hk
  have B2 := Aside0.mk hbt
  have P2 := Aside0.mk hpt
  have X2 := Aside0.mk (show Rt 101 gb [ptr g] w2 from (hp.2 gb X1.out.lt HNE.out).trans X1.out)
  have R2 := Aside0.mk (show Rt 28 b [.string ⟨#[]⟩, .int .i64 0, .int .i64 0] w2 from (hp.2 b R1.out.lt (by have := HLT.out; show b ≠ g; omega)).trans R1.out)
  clear hb hp hbt hpt hq hk cx cr fr
  try clear ho
  have cr := R2.out.cell 0 _ rfl
  have fr := R2.out.free 0
  go_upto_region 2 with fail
  have e1 := R2.out.set 0 (.string t)
  rw [e1]
  clear e1 cr fr
  have hl : [Value.string ⟨#[]⟩, .int .i64 0, .int .i64 0].set 0 (.string t) = [Value.string t, .int .i64 0, .int .i64 0] := rfl
  rw [hl]
  clear hl
  have hbs : Below B W (w2.setRow b [Value.string t, .int .i64 0, .int .i64 0].toArray) := below_setRow' B2.out HLT.out.2.2 _
  have K3 := Aside0.mk (show CrAt g B A n c xs m1 most (w2.setRow b [Value.string t, .int .i64 0, .int .i64 0].toArray) from K2.out.aside (below_setRow' (Below.refl _ _) HLT.out.2.2 _) (setRow_other _ _ _ _ (by have := HLT.out; omega)))
  have B3 := Aside0.mk hbs
  have P3 := Aside0.mk (show Kept W (w2.setRow b [Value.string t, .int .i64 0, .int .i64 0].toArray) (fun j => j = g) from ⟨by rw [setRow_size]; exact P2.out.1, fun j hj hn => (setRow_other _ _ _ _ (by have := HBE.out; omega)).trans (P2.out.2 j hj hn)⟩)
  have X3 := Aside0.mk (show Rt 101 gb [ptr g] (w2.setRow b [Value.string t, .int .i64 0, .int .i64 0].toArray) from (setRow_other _ _ _ _ (by have := HLT.out; omega)).trans X2.out)
  have R3 := Aside0.mk (show Rt 28 b [Value.string t, .int .i64 0, .int .i64 0] (w2.setRow b [Value.string t, .int .i64 0, .int .i64 0].toArray) from R2.out.row _)
  clear hbs
  generalize w2.setRow b [Value.string t, .int .i64 0, .int .i64 0].toArray = w3 at *
  have cx := X3.out.cell 0 _ rfl
  have cr := R3.out.cell 1 _ rfl
  have fr := R3.out.free 1
  go_wp2_with fail
  go_at_call 62
  refine (r_int K3.out).mono ?_
  rintro e w4 ⟨hb, hp, ho⟩
  have hbt := B3.out.trans hb
  have hpt := P3.out.then_ hp (fun _ h => .inl h)
  rcases hq : pI xs m1 with ⟨a, m2⟩ | ⟨er, p⟩
  rotate_left
  · rw [hq] at ho
    have ho : e = gaveUp er p := ho
    subst ho
    refine ⟨rfl, hbt, hpt, ?_⟩
    have e9 : pLevel xs most m = Res.fail er p := by
      unfold pLevel
      simp only [Res.bind, HQ0.out, hq]
    rw [e9]
    rfl
  rw [hq] at ho
  obtain ⟨he, hk⟩ : e = .returned (.int .i64 a) ∧ CrAt g B A n c xs m2 most w4 := ho
  subst he
  have HQ1 := Aside0.mk hq
  have K4 := Aside0.mk hk
  have B4 := Aside0.mk hbt
  have P4 := Aside0.mk hpt
  have X4 := Aside0.mk (show Rt 101 gb [ptr g] w4 from (hp.2 gb X3.out.lt HNE.out).trans X3.out)
  have R4 := Aside0.mk (show Rt 28 b [.string t, .int .i64 0, .int .i64 0] w4 from (hp.2 b R3.out.lt (by have := HLT.out; show b ≠ g; omega)).trans R3.out)
  clear hb hp hbt hpt hq hk cx cr fr
  try clear ho
  have cr := R4.out.cell 1 _ rfl
  have fr := R4.out.free 1
  go_upto_region 3 with fail
  have e1 := R4.out.set 1 (.int .i64 a)
  rw [e1]
  clear e1 cr fr
  have hl : [Value.string t, .int .i64 0, .int .i64 0].set 1 (.int .i64 a) = [Value.string t, .int .i64 a, .int .i64 0] := rfl
  rw [hl]
  clear hl
  have hbs : Below B W (w4.setRow b [Value.string t, .int .i64 a, .int .i64 0].toArray) := below_setRow' B4.out HLT.out.2.2 _
  have K5 := Aside0.mk (show CrAt g B A n c xs m2 most (w4.setRow b [Value.string t, .int .i64 a, .int .i64 0].toArray) from K4.out.aside (below_setRow' (Below.refl _ _) HLT.out.2.2 _) (setRow_other _ _ _ _ (by have := HLT.out; omega)))
  have B5 := Aside0.mk hbs
  have P5 := Aside0.mk (show Kept W (w4.setRow b [Value.string t, .int .i64 a, .int .i64 0].toArray) (fun j => j = g) from ⟨by rw [setRow_size]; exact P4.out.1, fun j hj hn => (setRow_other _ _ _ _ (by have := HBE.out; omega)).trans (P4.out.2 j hj hn)⟩)
  have X5 := Aside0.mk (show Rt 101 gb [ptr g] (w4.setRow b [Value.string t, .int .i64 a, .int .i64 0].toArray) from (setRow_other _ _ _ _ (by have := HLT.out; omega)).trans X4.out)
  have R5 := Aside0.mk (show Rt 28 b [Value.string t, .int .i64 a, .int .i64 0] (w4.setRow b [Value.string t, .int .i64 a, .int .i64 0].toArray) from R4.out.row _)
  clear hbs
  generalize w4.setRow b [Value.string t, .int .i64 a, .int .i64 0].toArray = w5 at *
  have cx := X5.out.cell 0 _ rfl
  have cr := R5.out.cell 2 _ rfl
  have fr := R5.out.free 2
  go_wp2_with fail
  go_at_call 62
  refine (r_int K5.out).mono ?_
  rintro e w6 ⟨hb, hp, ho⟩
  have hbt := B5.out.trans hb
  have hpt := P5.out.then_ hp (fun _ h => .inl h)
  rcases hq : pI xs m2 with ⟨z, m3⟩ | ⟨er, p⟩
  rotate_left
  · rw [hq] at ho
    have ho : e = gaveUp er p := ho
    subst ho
    refine ⟨rfl, hbt, hpt, ?_⟩
    have e9 : pLevel xs most m = Res.fail er p := by
      unfold pLevel
      simp only [Res.bind, HQ0.out, HQ1.out, hq]
    rw [e9]
    rfl
  rw [hq] at ho
  obtain ⟨he, hk⟩ : e = .returned (.int .i64 z) ∧ CrAt g B A n c xs m3 most w6 := ho
  subst he
  have HQ2 := Aside0.mk hq
  have K6 := Aside0.mk hk
  have B6 := Aside0.mk hbt
  have P6 := Aside0.mk hpt
  have X6 := Aside0.mk (show Rt 101 gb [ptr g] w6 from (hp.2 gb X5.out.lt HNE.out).trans X5.out)
  have R6 := Aside0.mk (show Rt 28 b [.string t, .int .i64 a, .int .i64 0] w6 from (hp.2 b R5.out.lt (by have := HLT.out; show b ≠ g; omega)).trans R5.out)
  clear hb hp hbt hpt hq hk cx cr fr
  try clear ho
  have cr := R6.out.cell 2 _ rfl
  have fr := R6.out.free 2
  go_upto_region 4 with fail
  have e1 := R6.out.set 2 (.int .i64 z)
  rw [e1]
  clear e1 cr fr
  have hl : [Value.string t, .int .i64 a, .int .i64 0].set 2 (.int .i64 z) = [Value.string t, .int .i64 a, .int .i64 z] := rfl
  rw [hl]
  clear hl
  have hbs : Below B W (w6.setRow b [Value.string t, .int .i64 a, .int .i64 z].toArray) := below_setRow' B6.out HLT.out.2.2 _
  have K7 := Aside0.mk (show CrAt g B A n c xs m3 most (w6.setRow b [Value.string t, .int .i64 a, .int .i64 z].toArray) from K6.out.aside (below_setRow' (Below.refl _ _) HLT.out.2.2 _) (setRow_other _ _ _ _ (by have := HLT.out; omega)))
  have B7 := Aside0.mk hbs
  have P7 := Aside0.mk (show Kept W (w6.setRow b [Value.string t, .int .i64 a, .int .i64 z].toArray) (fun j => j = g) from ⟨by rw [setRow_size]; exact P6.out.1, fun j hj hn => (setRow_other _ _ _ _ (by have := HBE.out; omega)).trans (P6.out.2 j hj hn)⟩)
  have X7 := Aside0.mk (show Rt 101 gb [ptr g] (w6.setRow b [Value.string t, .int .i64 a, .int .i64 z].toArray) from (setRow_other _ _ _ _ (by have := HLT.out; omega)).trans X6.out)
  have R7 := Aside0.mk (show Rt 28 b [Value.string t, .int .i64 a, .int .i64 z] (w6.setRow b [Value.string t, .int .i64 a, .int .i64 z].toArray) from R6.out.row _)
  clear hbs
  generalize w6.setRow b [Value.string t, .int .i64 a, .int .i64 z].toArray = w7 at *
  have c0 := R7.out.cell 0 _ rfl
  have c1 := R7.out.cell 1 _ rfl
  have c2 := R7.out.cell 2 _ rfl
  have f0 := R7.out.free 0
  have f1 := R7.out.free 1
  have f2 := R7.out.free 2
  go_wp2_with fail
  rw [R7.out.same 0 _ rfl, R7.out.same 1 _ rfl, R7.out.same 2 _ rfl]
  refine bodyPost_ret (results_cell_row rfl _ _ b 28 _ (0, 0) _ rfl R7.out Try.underlying28 rfl (by kernel_rfl)) rfl ?_
  refine ⟨B7.out, P7.out, ?_⟩
  have e9 : pLevel xs most m = Res.ok ⟨t, a, z⟩ m3 := by
    unfold pLevel
    simp only [Res.bind, HQ0.out, HQ1.out, HQ2.out]
  rw [e9]
  exact ⟨rfl, K7.out⟩
end Go.Proofs.Ytafmoglaockepaa.Cd
end
section
namespace Go.Proofs.Ytafmoglaockepaa.Cd
open Go Go.RowKit Go.Proofs.Ytafmoglaockepaa.Num Go.Proofs.Ytafmoglaockepaa.PG Go.Proofs.YtafmoglaockepaaW.PrintWords Go.Proofs.YtafmoglaockepaaW.PrintLast Go.Proofs.YtafmoglaockepaaW.PrintMore
set_option linter.unusedVariables false
set_option linter.unusedSimpArgs false
set_option maxHeartbeats 4000000
set_option maxRecDepth 100000
def OutR {α : Type} (g B : Nat) (A : Option Addr) (n c : Nat) (xs : List Int) (most : Nat) (enc : α → Value → World → Prop) (r : Res α) (e : Ending) (w' : World) : Prop :=
  match r with
  | .ok x m' => ∃ v, e = .returned v ∧ enc x v w' ∧ CrAt g B A n c xs m' most w'
  | .fail er p => e = gaveUp er p
theorem r_levelList {g B gb : Nat} {A : Option Addr} {n c : Nat} {xs : List Int} {m most : Nat} {W : World} (k : CrAt g B A n c xs m most W) (hbx : Rt 101 gb [ptr g] W) :
    Calls Try.prog 118 #[ptr g, .func (.func 119) #[] #[ptr gb]] W fun e w' => Below B W w' ∧ Kept W w' (fun j => j = g) ∧ OutR g B A n c xs most (fun l v w' => k28.R 28 w' W.heap.size (fun _ => True) v l) (pList xs most (pLevel xs most) m) e w' := by
  have HK := Aside0.mk k
  have HBX := Aside0.mk hbx
  have HNE := Aside0.mk (show gb ≠ g from fun e => by
    have h2 := hbx
    rw [e] at h2
    have := blk_types h2 k.row
    omega)
  have c1 : (m : Int) ≤ (n : Int) := by have := k.le; omega
  have c2 : (n : Int) ≤ (c : Int) := by have := k.nc; omega
  have c3 : (0 : Int) ≤ (m : Int) := by omega
  have MKS := Aside0.mk (show ∀ w', Below W.heap.size W w' → (fun w' => w'.cell? ⟨g, 0, none⟩ = some (.slice A n c) ∧ w'.cell? ⟨g, 1, none⟩ = some (.int .i64 (m : Int)) ∧ w'.cell? ⟨g, 2, none⟩ = some (.int .i64 (most : Int))) w' from fun w' hb => by
    have r := HK.out.row.below hb
    exact ⟨r.cell 0 _ rfl, r.cell 1 _ rfl, r.cell 2 _ rfl⟩)
  clear k hbx
  have hdl := HK.out.dl
  have hul := ug_lt (xs.drop m) 0 0 (by omega) (by decide) (HK.out.by_.drop m)
  obtain ⟨q, hq⟩ : ∃ q, ug 0 0 (xs.drop m) = q := ⟨_, rfl⟩
  have HQ := Aside0.mk hq
  have hpl := ug_place xs m n HK.out.len HK.out.le
  have HF := Aside0.mk (show ∀ w', Below W.heap.size W w' → Calls Try.prog 129 #[.slice (if c = m then A else A.map (·.add m)) (n - m) (c - m)] w' fun e w2 => e = .returned (.tuple #[.int .u64 q.1, .int .i64 q.2.1, .int .i64 q.2.2]) ∧ Drawn0 w' w2 from fun w' hb => by
    have := frame_Uint.calls ((xs.drop m).length + 2) (if c = m then A else A.map (·.add m)) (c - m) (xs.drop m) q.1 q.2.1 q.2.2 w' (HK.out.rest (hb.mono HK.out.size)) (by rw [hdl]; have := HK.out.nc; omega) (by rw [frame_uint _ (HK.out.by_.drop m) (by rw [hdl]; have := HK.out.big; omega) _ (by omega), hq])
    rwa [hdl] at this)
  rw [hq] at hpl hul
  obtain ⟨v, d, er⟩ := q
  obtain ⟨dn, hdn⟩ : ∃ dn : Nat, d = (dn : Int) := ⟨d.toNat, by have h1 : 0 ≤ d := hpl.1; omega⟩
  subst hdn
  obtain ⟨u, hu⟩ : ∃ u : Nat, v = (u : Int) := ⟨v.toNat, by have h1 : 0 ≤ v := hul.1; omega⟩
  subst hu
  have HPL := Aside0.mk (show m + dn ≤ n by have h1 : (dn : Int) ≤ ((n - m : Nat) : Int) := hpl.2; have := HK.out.le; omega)
  have HUL := Aside0.mk (show u < 18446744073709551616 by have h1 : (u : Int) < 18446744073709551616 := hul.2; omega)
  clear hdl hq hpl hul
  have cm := (MKS.out W (Below.refl _ _)).2.1
  go_enter Try.func118, Try.ntmps118
  go_upto_region 2 with fail
  refine wp_region_held_drew (S := fun w' => w'.cell? ⟨g, 0, none⟩ = some (.slice A n c) ∧ w'.cell? ⟨g, 1, none⟩ = some (.int .i64 (m : Int)) ∧ w'.cell? ⟨g, 2, none⟩ = some (.int .i64 (most : Int))) (by kernel_rfl) (MKS.out _ (below_drew (Below.refl _ _))) (fun hHeld => ?_)
  refine wpAnyH_take (i := 0) (oi := { dst := some 15, op := Op.move (Operand.tmp 0), type := 101, pos := "read.go:44", after := #[], guard := none }) (v := ?_) rfl (by kernel_rfl) (by kernel_rfl) (by kernel_rfl) (fun _ _ _ h => h) (Or.inl ⟨by rfl, ?_⟩) hHeld ?_
  rotate_left
  · intro w' hS; obtain ⟨hS0, hS1, hS2⟩ := hS; go_simp; all_goals (with_reducible rfl)
  (try simp only [Act.put, List.setIfInBounds_toArray, List.set_cons_zero, List.set_cons_succ])
  refine wpAnyH_take (i := 1) (oi := { dst := some 16, op := Op.nilCheck (Operand.tmp 15), type := 0, pos := "read.go:44", after := #[{ on := 0, ground := Ground.data }], guard := none }) (v := ?_) rfl (by kernel_rfl) (by kernel_rfl) (by kernel_rfl) (fun _ _ _ h => h) (Or.inl ⟨by rfl, ?_⟩) hHeld ?_
  rotate_left
  · intro w' hS; obtain ⟨hS0, hS1, hS2⟩ := hS; go_simp; all_goals (with_reducible rfl)
  (try simp only [Act.put, List.setIfInBounds_toArray, List.set_cons_zero, List.set_cons_succ])
  refine wpAnyH_take (i := 2) (oi := { dst := some 17, op := Op.fieldAddr 158 (Operand.tmp 16) 0, type := 0, pos := "read.go:44", after := #[{ on := 1, ground := Ground.data }], guard := none }) (v := ?_) rfl (by kernel_rfl) (by kernel_rfl) (by kernel_rfl) (fun _ _ _ h => h) (Or.inl ⟨by rfl, ?_⟩) hHeld ?_
  rotate_left
  · intro w' hS; obtain ⟨hS0, hS1, hS2⟩ := hS; go_simp; all_goals (with_reducible rfl)
  (try simp only [Act.put, List.setIfInBounds_toArray, List.set_cons_zero, List.set_cons_succ])
  refine wpAnyH_take (i := 3) (oi := { dst := some 18, op := Op.load 26 (Operand.tmp 17), type := 26, pos := "read.go:44", after := #[{ on := 2, ground := Ground.data }], guard := none }) (v := ?_) rfl (by kernel_rfl) (by kernel_rfl) (by kernel_rfl) (fun _ _ _ h => h) (Or.inl ⟨by rfl, ?_⟩) hHeld ?_
  rotate_left
  · intro w' hS; obtain ⟨hS0, hS1, hS2⟩ := hS; go_simp; all_goals (with_reducible rfl)
  (try simp only [Act.put, List.setIfInBounds_toArray, List.set_cons_zero, List.set_cons_succ])
  refine wpAnyH_take (i := 4) (oi := { dst := some 19, op := Op.move (Operand.tmp 0), type := 101, pos := "read.go:44", after := #[], guard := none }) (v := ?_) rfl (by kernel_rfl) (by kernel_rfl) (by kernel_rfl) (fun _ _ _ h => h) (Or.inl ⟨by rfl, ?_⟩) hHeld ?_
  rotate_left
  · intro w' hS; obtain ⟨hS0, hS1, hS2⟩ := hS; go_simp; all_goals (with_reducible rfl)
  (try simp only [Act.put, List.setIfInBounds_toArray, List.set_cons_zero, List.set_cons_succ])
  refine wpAnyH_take (i := 5) (oi := { dst := some 20, op := Op.nilCheck (Operand.tmp 19), type := 0, pos := "read.go:44", after := #[{ on := 4, ground := Ground.data }], guard := none }) (v := ?_) rfl (by kernel_rfl) (by kernel_rfl) (by kernel_rfl) (fun _ _ _ h => h) (Or.inl ⟨by rfl, ?_⟩) hHeld ?_
  rotate_left
  · intro w' hS; obtain ⟨hS0, hS1, hS2⟩ := hS; go_simp; all_goals (with_reducible rfl)
  (try simp only [Act.put, List.setIfInBounds_toArray, List.set_cons_zero, List.set_cons_succ])
  refine wpAnyH_take (i := 6) (oi := { dst := some 21, op := Op.fieldAddr 158 (Operand.tmp 20) 1, type := 0, pos := "read.go:44", after := #[{ on := 5, ground := Ground.data }], guard := none }) (v := ?_) rfl (by kernel_rfl) (by kernel_rfl) (by kernel_rfl) (fun _ _ _ h => h) (Or.inl ⟨by rfl, ?_⟩) hHeld ?_
  rotate_left
  · intro w' hS; obtain ⟨hS0, hS1, hS2⟩ := hS; go_simp; all_goals (with_reducible rfl)
  (try simp only [Act.put, List.setIfInBounds_toArray, List.set_cons_zero, List.set_cons_succ])
  refine wpAnyH_take (i := 7) (oi := { dst := some 22, op := Op.load 3 (Operand.tmp 21), type := 3, pos := "read.go:44", after := #[{ on := 6, ground := Ground.data }], guard := none }) (v := ?_) rfl (by kernel_rfl) (by kernel_rfl) (by kernel_rfl) (fun _ _ _ h => h) (Or.inl ⟨by rfl, ?_⟩) hHeld ?_
  rotate_left
  · intro w' hS; obtain ⟨hS0, hS1, hS2⟩ := hS; go_simp; all_goals (with_reducible rfl)
  (try simp only [Act.put, List.setIfInBounds_toArray, List.set_cons_zero, List.set_cons_succ])
  refine wpAnyH_take (i := 8) (oi := { dst := some 23, op := Op.slice 26 (Operand.tmp 18) (some (Operand.tmp 22)) none none, type := 26, pos := "read.go:44", after := #[{ on := 3, ground := Ground.data }, { on := 7, ground := Ground.data }], guard := none }) (v := ?_) rfl (by kernel_rfl) (by kernel_rfl) (by kernel_rfl) (fun _ _ _ h => h) (Or.inl ⟨by rfl, ?_⟩) hHeld ?_
  rotate_left
  · intro w' hS; obtain ⟨hS0, hS1, hS2⟩ := hS; go_simp; all_goals (with_reducible rfl)
  (try simp only [Act.put, List.setIfInBounds_toArray, List.set_cons_zero, List.set_cons_succ])
  refine wpAnyH_ready (rs := [9]) (by kernel_rfl) (by simp) ?_
  refine AllReadyH.cons (o := { dst := some 24, op := Op.call { callee := Callee.value (Operand.func 129), args := #[Operand.tmp 23], argTypes := #[26] }, type := 169, pos := "read.go:44", after := #[{ on := 8, ground := Ground.data }], guard := none }) rfl (fun K hK => ?_) AllReadyH.nil
  go_simp
  go_at_call 129
  refine (HF.out _ (below_drew (Below.refl _ _))).mono ?_
  rintro e wa ⟨rfl, hd⟩
  have HB1 := Aside0.mk (show Below W.heap.size W wa from by
    obtain ⟨md, rfl⟩ := hd
    exact pw_below_drewN (below_drew (Below.refl _ _)) md)
  clear hd
  refine hK.out _ _ (MKS.out _ HB1.out) (fun hHeld => ?_)
  clear hK K
  (try simp only [Act.put, List.setIfInBounds_toArray, List.set_cons_zero, List.set_cons_succ])
  refine wpAnyH_take (i := 10) (oi := { dst := some 14, op := Op.move (Operand.tmp 24), type := 169, pos := "read.go:44", after := #[{ on := 9, ground := Ground.data }], guard := none }) (v := ?_) rfl (by kernel_rfl) (by kernel_rfl) (by kernel_rfl) (fun _ _ _ h => h) (Or.inl ⟨by rfl, ?_⟩) hHeld ?_
  rotate_left
  · intro w' hS; obtain ⟨hS0, hS1, hS2⟩ := hS; go_simp; all_goals (with_reducible rfl)
  (try simp only [Act.put, List.setIfInBounds_toArray, List.set_cons_zero, List.set_cons_succ])
  refine wpAnyH_take (i := 11) (oi := { dst := some 25, op := Op.extract (Operand.tmp 14) 0, type := 151, pos := "read.go:44", after := #[{ on := 10, ground := Ground.data }], guard := none }) (v := ?_) rfl (by kernel_rfl) (by kernel_rfl) (by kernel_rfl) (fun _ _ _ h => h) (Or.inl ⟨by rfl, ?_⟩) hHeld ?_
  rotate_left
  · intro w' hS; obtain ⟨hS0, hS1, hS2⟩ := hS; go_simp; all_goals (with_reducible rfl)
  (try simp only [Act.put, List.setIfInBounds_toArray, List.set_cons_zero, List.set_cons_succ])
  refine wpAnyH_take (i := 12) (oi := { dst := some 26, op := Op.extract (Operand.tmp 14) 1, type := 3, pos := "read.go:44", after := #[{ on := 10, ground := Ground.data }, { on := 14, ground := Ground.gcOnly Departure.lateStores }], guard := none }) (v := ?_) rfl (by kernel_rfl) (by kernel_rfl) (by kernel_rfl) (fun _ _ _ h => h) (Or.inl ⟨by rfl, ?_⟩) hHeld ?_
  rotate_left
  · intro w' hS; obtain ⟨hS0, hS1, hS2⟩ := hS; go_simp; all_goals (with_reducible rfl)
  (try simp only [Act.put, List.setIfInBounds_toArray, List.set_cons_zero, List.set_cons_succ])
  refine wpAnyH_take (i := 13) (oi := { dst := some 27, op := Op.extract (Operand.tmp 14) 2, type := 22, pos := "read.go:44", after := #[{ on := 10, ground := Ground.data }, { on := 15, ground := Ground.gcOnly Departure.lateStores }], guard := none }) (v := ?_) rfl (by kernel_rfl) (by kernel_rfl) (by kernel_rfl) (fun _ _ _ h => h) (Or.inl ⟨by rfl, ?_⟩) hHeld ?_
  rotate_left
  · intro w' hS; obtain ⟨hS0, hS1, hS2⟩ := hS; go_simp; all_goals (with_reducible rfl)
  (try simp only [Act.put, List.setIfInBounds_toArray, List.set_cons_zero, List.set_cons_succ])
  refine wpAnyH_take (i := 14) (oi := { dst := some 6, op := Op.assign (Operand.tmp 25), type := 151, pos := "read.go:44", after := #[{ on := 11, ground := Ground.data }, { on := 9, ground := Ground.chain }, { on := 0, ground := Ground.phase }, { on := 1, ground := Ground.phase }, { on := 2, ground := Ground.phase }, { on := 3, ground := Ground.phase }, { on := 4, ground := Ground.phase }, { on := 5, ground := Ground.phase }, { on := 6, ground := Ground.phase }, { on := 7, ground := Ground.phase }, { on := 8, ground := Ground.phase }, { on := 9, ground := Ground.phase }, { on := 10, ground := Ground.phase }, { on := 11, ground := Ground.phase }, { on := 12, ground := Ground.textOnly Departure.lateStores }, { on := 13, ground := Ground.textOnly Departure.lateStores }], guard := none }) (v := ?_) rfl (by kernel_rfl) (by kernel_rfl) (by kernel_rfl) (fun _ _ _ h => h) (Or.inl ⟨by rfl, ?_⟩) hHeld ?_
  rotate_left
  · intro w' hS; obtain ⟨hS0, hS1, hS2⟩ := hS; go_simp; all_goals (with_reducible rfl)
  (try simp only [Act.put, List.setIfInBounds_toArray, List.set_cons_zero, List.set_cons_succ])
  refine wpAnyH_take (i := 15) (oi := { dst := some 7, op := Op.assign (Operand.tmp 26), type := 3, pos := "read.go:44", after := #[{ on := 12, ground := Ground.data }, { on := 14, ground := Ground.chain }, { on := 0, ground := Ground.phase }, { on := 1, ground := Ground.phase }, { on := 2, ground := Ground.phase }, { on := 3, ground := Ground.phase }, { on := 4, ground := Ground.phase }, { on := 5, ground := Ground.phase }, { on := 6, ground := Ground.phase }, { on := 7, ground := Ground.phase }, { on := 8, ground := Ground.phase }, { on := 9, ground := Ground.phase }, { on := 10, ground := Ground.phase }, { on := 11, ground := Ground.phase }, { on := 12, ground := Ground.phase }, { on := 13, ground := Ground.textOnly Departure.lateStores }, { on := 14, ground := Ground.phase }], guard := none }) (v := ?_) rfl (by kernel_rfl) (by kernel_rfl) (by kernel_rfl) (fun _ _ _ h => h) (Or.inl ⟨by rfl, ?_⟩) hHeld ?_
  rotate_left
  · intro w' hS; obtain ⟨hS0, hS1, hS2⟩ := hS; go_simp; all_goals (with_reducible rfl)
  (try simp only [Act.put, List.setIfInBounds_toArray, List.set_cons_zero, List.set_cons_succ])
  refine wpAnyH_take (i := 16) (oi := { dst := some 8, op := Op.assign (Operand.tmp 27), type := 22, pos := "read.go:44", after := #[{ on := 13, ground := Ground.data }, { on := 15, ground := Ground.chain }, { on := 0, ground := Ground.phase }, { on := 1, ground := Ground.phase }, { on := 2, ground := Ground.phase }, { on := 3, ground := Ground.phase }, { on := 4, ground := Ground.phase }, { on := 5, ground := Ground.phase }, { on := 6, ground := Ground.phase }, { on := 7, ground := Ground.phase }, { on := 8, ground := Ground.phase }, { on := 9, ground := Ground.phase }, { on := 10, ground := Ground.phase }, { on := 11, ground := Ground.phase }, { on := 12, ground := Ground.phase }, { on := 13, ground := Ground.phase }, { on := 14, ground := Ground.phase }, { on := 15, ground := Ground.phase }], guard := none }) (v := ?_) rfl (by kernel_rfl) (by kernel_rfl) (by kernel_rfl) (fun _ _ _ h => h) (Or.inl ⟨by rfl, ?_⟩) hHeld ?_
  rotate_left
  · intro w' hS; obtain ⟨hS0, hS1, hS2⟩ := hS; go_simp; all_goals (with_reducible rfl)
  (try simp only [Act.put, List.setIfInBounds_toArray, List.set_cons_zero, List.set_cons_succ])
  refine wpAnyH_done (by kernel_rfl) ?_ _
  (try simp only [Act.put, List.setIfInBounds_toArray, List.set_cons_zero, List.set_cons_succ])
  clear HF cm
  generalize (if c = m then A else Option.map (fun x => x.add m) A) = Am at *
  by_cases he : er = 0
  rotate_left
  · have HP := Aside0.mk (show pList xs most (pLevel xs most) m = Res.fail er ((m : Int) + (dn : Int)) from by
      unfold pList pU took
      rw [HQ.out, if_neg he]
      rfl)
    have HE := Aside0.mk he
    clear he
    go_wp2_with fail
    go_at_call 116
    refine (took_fail (HK.out.below HB1.out) (dn : Int) er (by have := HPL.out; have := HK.out.big; omega) HE.out).mono ?_
    rintro e w2 ⟨rfl, rfl⟩
    refine ⟨rfl, HB1.out.mono HK.out.size, Kept.of_below HB1.out _, ?_⟩
    rw [HP.out]
    rfl
  subst he
  go_wp2_with fail
  go_at_call 116
  refine (took_ok (HK.out.below HB1.out) dn HPL.out).mono ?_
  rintro e w2 ⟨rfl, hk, hb, hkp⟩
  have K2 := Aside0.mk hk
  have B2 := Aside0.mk ((HB1.out.mono HK.out.size).trans hb)
  have P2 := Aside0.mk ((Kept.of_below HB1.out (fun j => j = g)).then_ hkp (fun _ h => .inl h))
  have X2 := Aside0.mk (show Rt 101 gb [ptr g] w2 from (hkp.2 gb (Nat.lt_of_lt_of_le HBX.out.lt HB1.out.size) HNE.out).trans (HBX.out.below HB1.out))
  have hm2 := hk.row.cell 2 _ rfl
  have hw64 : IntKind.u64.wrap (most : Int) = (most : Int) := by have := HK.out.mb; rw [IntKind.wrap_u64]; omega
  clear hk hb hkp
  by_cases hu : most < u
  · have HP := Aside0.mk (show pList xs most (pLevel xs most) m = Res.fail 91 (m : Int) from by
      unfold pList pU took
      rw [HQ.out, if_pos rfl]
      simp only [Res.bind]
      rw [if_pos (by omega)])
    have d1 : decide ((most : Int) < (u : Int)) = true := decide_eq_true (by omega)
    have d2 : decide (most < u) = true := decide_eq_true hu
    clear hu
    go_wp2_with fail
    refine ⟨rfl, B2.out, P2.out, ?_⟩
    rw [HP.out]
    rfl
  have HP := Aside0.mk (show pList xs most (pLevel xs most) m = pN (pLevel xs most) u [] (m + dn) from by
    unfold pList pU took
    rw [HQ.out, if_pos rfl]
    simp only [Res.bind]
    rw [if_neg (by omega), Int.toNat_natCast, Int.toNat_natCast])
  have HU := Aside0.mk (show u ≤ most by omega)
  have d1 : decide ((most : Int) < (u : Int)) = false := decide_eq_false (by omega)
  have d2 : decide (most < u) = false := decide_eq_false hu
  clear hu
  go_wp2_with fail
  clear hm2 hw64 d1 d2 c1 c2 c3
  obtain ⟨S0, hS0⟩ : ∃ S0, W.heap.size = S0 := ⟨_, rfl⟩
  have HS0 := Aside0.mk hS0
  have HLT := Aside0.mk (show g < S0 ∧ gb < S0 ∧ B ≤ S0 by have := HK.out.row.lt; have := HBX.out.lt; have := HK.out.size; omega)
  clear hS0
  go_loopw [9, 43] (fun v p wr => ∃ (i m' : Nat) (l : List S28), p = .int .u64 (i : Int) ∧ Aside0 (i ≤ u) ∧ Aside0 (l.length = i) ∧ Aside0 (pN (pLevel xs most) u [] (m + dn) = pN (pLevel xs most) (u - i) l m') ∧ Aside0 (k28.R 28 wr S0 (fun _ => True) v l) ∧ Aside0 (CrAt g B A n c xs m' most wr) ∧ Aside0 (Below B W wr) ∧ Aside0 (Kept W wr (fun j => j = g)) ∧ Aside0 (Rt 101 gb [ptr g] wr)) (fun _ p _ => u - (intOf p).toNat)
  · exact ⟨0, m + dn, [], rfl, ⟨Nat.zero_le _⟩, ⟨rfl⟩, ⟨rfl⟩, ⟨Kd.R_nil _ _ _ _ _⟩, K2, B2, P2, X2⟩
  · obtain ⟨i, m', l, rfl, HI, HLN, HPN, HR, HKr, HBr, HPr, HXr⟩ := hrel
    by_cases ci : i < u
    · have ci1 : decide ((i : Int) < (u : Int)) = true := decide_eq_true (by omega)
      have hw1 : IntKind.u64.wrap ((i : Int) + 1) = ((i + 1 : Nat) : Int) := by rw [IntKind.wrap_u64]; have := HUL.out; omega
      go_wp2_with fail
      go_at_call 119
      refine (r_level HKr.out HXr.out).mono ?_
      rintro e w5 ⟨hb, hp, ho⟩
      have hbt := HBr.out.trans hb
      have hpt := HPr.out.then_ hp (fun _ h => .inl h)
      have hpn : pN (pLevel xs most) (u - i) l m' = (pLevel xs most m').bind fun x mm => pN (pLevel xs most) (u - (i + 1)) (l ++ [x]) mm := by
        rw [show u - i = (u - (i + 1)) + 1 from by omega]
        rfl
      rcases hq : pLevel xs most m' with ⟨x, m2⟩ | ⟨er, p⟩
      rotate_left
      · rw [hq] at ho hpn
        have ho : e = gaveUp er p := ho
        subst ho
        refine ⟨rfl, hbt, hpt, ?_⟩
        rw [HP.out, HPN.out, hpn]
        rfl
      rw [hq] at ho hpn
      obtain ⟨he, hk⟩ : e = .returned (lev x) ∧ CrAt g B A n c xs m2 most w5 := ho
      subst he
      have K5 := Aside0.mk hk
      have B5 := Aside0.mk hbt
      have P5 := Aside0.mk hpt
      have X5 := Aside0.mk (show Rt 101 gb [ptr g] w5 from (hp.2 gb HXr.out.lt HNE.out).trans HXr.out)
      have R5 := Aside0.mk (show k28.R 28 w5 S0 (fun _ => True) _ l from Kd.R_mono (Kd.R_kept (Kd.R_bound HR.out) hp (fun j hj e => by have := hj.2.1; have := HLT.out; omega)) (fun _ _ => trivial))
      have HPN2 := Aside0.mk (HPN.out.trans hpn)
      have S5 := Aside0.mk (show S0 ≤ w5.heap.size by have := hpt.1; have := HS0.out; omega)
      have HSZ := Aside0.mk (show (l.length + 1) * 32 ≤ 140737488355328 by have := HLN.out; have := HI.out; have := HU.out; have := HK.out.mb; omega)
      clear hb hp hbt hpt hpn hq hk
      try clear ho
      go_wp2_with (first | (
        (with_reducible refine gate_builtin (b := .append) (xs := #[.tmp 45, .tmp 48]) rfl ?_)
        at_builtin
        refine Kd.R_append k28 (w0 := w5) S0 rfl (.tmp 45) (.tmp 48) 23 28 (.agg #[.string ⟨#[]⟩, .int .i64 0, .int .i64 0]) 32 rfl Try.underlying23 info28 rfl (by decide) (by decide) _ l x [.string x.f0, .int .i64 x.f1, .int .i64 x.f2] (fun _ => True) (fun _ => False) rfl rfl (k28_mkM _ _ _ x) (fun _ h => h.elim) (fun _ _ => trivial) R5.out (Below.refl _ _) S5.out HSZ.out ?_
        intro v1 w6 ho hb hg hat
        have HO6 := Aside0.mk ho
        have K6 := Aside0.mk (K5.out.aside (hb.mono HLT.out.2.2) (hb.block g HLT.out.1))
        have B6 := Aside0.mk (B5.out.trans (hb.mono HLT.out.2.2))
        have P6 := Aside0.mk (show Kept W w6 (fun j => j = g) from ⟨Nat.le_trans P5.out.1 hb.size, fun j hj hn => (hb.block j (by have := HS0.out; omega)).trans (P5.out.2 j hj hn)⟩)
        have X6 := Aside0.mk (show Rt 101 gb [ptr g] w6 from (hb.block gb HLT.out.2.1).trans X5.out)
        clear ho hb hg hat))
      refine ⟨⟨i + 1, m2, l ++ [x], congrArg (Value.int .u64) (by omega), ⟨ci⟩, ⟨by rw [List.length_append, HLN.out]; rfl⟩, HPN2, HO6, K6, B6, P6, X6⟩, ?_⟩
      simp only [intOf]
      omega
    · have ci1 : decide ((i : Int) < (u : Int)) = false := decide_eq_false (by omega)
      obtain rfl : i = u := by have := HI.out; omega
      go_wp2_with fail
      go_ret
      refine ⟨HBr.out, HPr.out, ?_⟩
      rw [HP.out, HPN.out, Nat.sub_self, HS0.out]
      exact ⟨_, rfl, HR.out, HKr.out⟩
end Go.Proofs.Ytafmoglaockepaa.Cd
end
