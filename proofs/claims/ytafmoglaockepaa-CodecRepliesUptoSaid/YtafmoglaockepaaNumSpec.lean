/- Numbers in groups of seven bits: what is written, what is read. No program in sight. -/
import Derived.Laws.BitsAllLaws
import Derived.Laws.Bits64
import Derived.Test.YtafmoglaockepaaWMore
namespace Go.Proofs.Ytafmoglaockepaa.Num
open Go Go.RowKit Go.Proofs.YtafmoglaockepaaW.PrintWords Go.Proofs.YtafmoglaockepaaW.PrintMore

theorem w64 {x : Int} (h0 : -9223372036854775808 ≤ x) (h1 : x ≤ 9223372036854775807) : wrap64 x = x := by unfold wrap64; omega
def IsBytes (l : List Int) : Prop := ∀ x ∈ l, 0 ≤ x ∧ x < 256
theorem u8_bd {a : Int} (h : (Lit.int .u8 a).wf = true) : 0 ≤ a ∧ a < 256 := by
  simp [Lit.wf, IntKind.min, IntKind.max, IntKind.bits, IntKind.signed] at h
  omega
theorem u64_bd {a : Int} (h : (Lit.int .u64 a).wf = true) : 0 ≤ a ∧ a < 18446744073709551616 := by
  simp [Lit.wf, IntKind.min, IntKind.max, IntKind.bits, IntKind.signed] at h
  omega
theorem i64_bd {a : Int} (h : (Lit.int .i64 a).wf = true) : -9223372036854775808 ≤ a ∧ a ≤ 9223372036854775807 := by
  simp [Lit.wf, IntKind.min, IntKind.max, IntKind.bits, IntKind.signed] at h
  omega
theorem bytes_of_wf {l : List Int} (h : ∀ x ∈ l, (Lit.int .u8 x).wf = true) : IsBytes l := fun x hx => u8_bd (h x hx)
theorem IsBytes.append {a b : List Int} (ha : IsBytes a) (hb : IsBytes b) : IsBytes (a ++ b) := fun x hx => by
  rcases List.mem_append.1 hx with h | h
  · exact ha x h
  · exact hb x h
theorem IsBytes.drop {a : List Int} (ha : IsBytes a) (n : Nat) : IsBytes (a.drop n) := fun x hx => ha x (List.mem_of_mem_drop hx)
theorem IsBytes.take {a : List Int} (ha : IsBytes a) (n : Nat) : IsBytes (a.take n) := fun x hx => ha x (List.mem_of_mem_take hx)

/-- A number, group by group (f: how many groups at most). -/
def enc : Nat → Nat → List Int
  | 0, _ => []
  | f + 1, n => if n < 128 then [(n : Int)] else ((n % 128 + 128 : Nat) : Int) :: enc f (n / 128)
theorem enc_len (f : Nat) : ∀ n, (enc f n).length ≤ f := by
  induction f with
  | zero => intro n; simp [enc]
  | succ f ih =>
    intro n
    unfold enc
    split
    · simp
    · simp only [List.length_cons]; have := ih (n / 128); omega
theorem enc_pos (f : Nat) (n : Nat) : 0 < (enc (f + 1) n).length := by
  unfold enc
  split <;> simp
theorem enc_bytes (f : Nat) : ∀ n, IsBytes (enc f n) := by
  induction f with
  | zero => intro n x hx; simp [enc] at hx
  | succ f ih =>
    intro n x hx
    unfold enc at hx
    split at hx
    · simp at hx; omega
    · rcases List.mem_cons.1 hx with h | h
      · omega
      · exact ih _ x h
theorem enc_more (f : Nat) : ∀ n, n < 128 ^ f → 0 < f → enc (f + 1) n = enc f n := by
  induction f with
  | zero => intro n _ h; omega
  | succ f ih =>
    intro n hn _
    rw [enc]
    conv => rhs; rw [enc]
    split
    · rfl
    · rename_i h
      have h2 : n / 128 < 128 ^ f := by
        rw [Nat.pow_succ] at hn
        omega
      have hf : 0 < f := by
        rcases Nat.eq_zero_or_pos f with h0 | h0
        · subst h0; simp at hn; omega
        · exact h0
      rw [ih _ h2 hf]

/-- What is read at the beginning of some bytes: i groups have been read, they are worth n. -/
def ug : Nat → Nat → List Int → Int × Int × Int
  | i, _, [] => (0, (i : Int), 3)
  | i, n, c :: t => if i = 9 ∧ c > 1 then (0, (i : Int), 11) else if 0 < i ∧ c = 0 then (0, (i : Int), 10) else if c < 128 then (((n + c.toNat % 128 * 128 ^ i : Nat) : Int), ((i + 1 : Nat) : Int), 0) else ug (i + 1) (n + c.toNat % 128 * 128 ^ i) t

theorem pow_128 (i : Nat) : (2 : Nat) ^ (7 * i) = 128 ^ i := by rw [Nat.pow_mul]
theorem pow_le8 {i : Nat} (h : i ≤ 8) : 128 ^ i ≤ 72057594037927936 := Nat.le_trans (Nat.pow_le_pow_right (by decide) h) (by decide)
theorem pow_le9 {i : Nat} (h : i ≤ 9) : 128 ^ i ≤ 9223372036854775808 := Nat.le_trans (Nat.pow_le_pow_right (by decide) h) (by decide)
/-- One group's worth stays within 64 bits. -/
theorem group_lt {i d : Nat} (hi : i ≤ 9) (hd : d < 128) (h9 : i = 9 → d ≤ 1) : d * 128 ^ i ≤ 9223372036854775808 := by
  rcases Nat.lt_or_ge i 9 with h | h
  · have h1 := pow_le8 (show i ≤ 8 by omega)
    have h2 : d * 128 ^ i ≤ 127 * 72057594037927936 := Nat.mul_le_mul (by omega) h1
    omega
  · obtain rfl : i = 9 := by omega
    have h2 : d * 128 ^ 9 ≤ 1 * 128 ^ 9 := Nat.mul_le_mul_right _ (h9 rfl)
    have h3 : (128 : Nat) ^ 9 = 9223372036854775808 := by decide
    omega
theorem or_add {i n d : Nat} (hn : n < 128 ^ i) : n ||| d * 128 ^ i = n + d * 128 ^ i := by
  rw [Nat.or_comm, nat_join (7 * i) (d * 128 ^ i) n, Nat.add_comm]
  · rw [pow_128, Nat.mul_mod_left]
  · rw [pow_128]; exact hn
theorem next_lt {i n d : Nat} (hn : n < 128 ^ i) (hd : d < 128) : n + d * 128 ^ i < 128 ^ (i + 1) := by
  rw [Nat.pow_succ]
  have h1 : d * 128 ^ i ≤ 127 * 128 ^ i := Nat.mul_le_mul_right _ (by omega)
  omega
/-- What has been read is below 2^64. -/
theorem ug_lt (l : List Int) : ∀ (i n : Nat), i ≤ 9 → n < 128 ^ i → IsBytes l → 0 ≤ (ug i n l).1 ∧ (ug i n l).1 < 18446744073709551616 := by
  induction l with
  | nil => intro i n _ _ _; simp [ug]
  | cons c t ih =>
    intro i n hi hn hb
    have hc := hb c (List.mem_cons_self ..)
    unfold ug
    by_cases h1 : i = 9 ∧ c > 1
    · rw [if_pos h1]; simp
    · rw [if_neg h1]
      by_cases h2 : 0 < i ∧ c = 0
      · rw [if_pos h2]; simp
      · rw [if_neg h2]
        have h9 := pow_le9 hi
        have hg := group_lt (i := i) (d := c.toNat % 128) hi (Nat.mod_lt _ (by decide)) (fun e => by omega)
        by_cases h3 : c < 128
        · rw [if_pos h3]
          simp only
          omega
        · rw [if_neg h3]
          exact ih (i + 1) _ (by omega) (next_lt hn (Nat.mod_lt _ (by decide))) (fun x hx => hb x (List.mem_cons_of_mem _ hx))
theorem rd_drop {l : List Int} {i : Nat} {c : Int} {t : List Int} (h : l.drop i = c :: t) : i < l.length ∧ rd l (i : Int) = c ∧ l.drop (i + 1) = t := by
  have hl : i < l.length := by
    rcases Nat.lt_or_ge i l.length with h2 | h2
    · exact h2
    · rw [List.drop_eq_nil_of_le h2] at h; cases h
  refine ⟨hl, ?_, ?_⟩
  · unfold rd
    rw [Int.toNat_natCast, List.getD_eq_getElem?_getD]
    have : (l.drop i)[0]? = some c := by rw [h]; rfl
    rw [List.getElem?_drop] at this
    simp only [Nat.add_zero] at this
    rw [this]; rfl
  · have := congrArg (List.drop 1) h
    rw [List.drop_drop] at this
    exact this
end Go.Proofs.Ytafmoglaockepaa.Num
