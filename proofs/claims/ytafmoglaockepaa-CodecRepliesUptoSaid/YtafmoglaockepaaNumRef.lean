/- What the document's numbers answer, and the program's ints and words: Num's own reading and writing. -/
import Derived.Test.YtafmoglaockepaaPGx3
import Derived.Test.YtafmoglaockepaaPGx4
import Derived.Test.YtafmoglaockepaaPGx5
import Derived.Test.YtafmoglaockepaaPGx6
import Derived.Test.YtafmoglaockepaaPGx7
import Derived.Test.YtafmoglaockepaaNumFrame
import Derived.Lib.Zigzag
namespace Go.Proofs.Ytafmoglaockepaa.Num
open Go Go.RowKit Go.Proofs.YtafmoglaockepaaW.PrintWords Go.Proofs.YtafmoglaockepaaW.PrintLast Go.Proofs.YtafmoglaockepaaW.PrintMore Go.Proofs.Ytafmoglaockepaa.PG
set_option linter.unusedVariables false

theorem joined_ok (a b : List Int) (h : a.length + b.length < 140737488355328) : larderref01_joined.f a b = some (a ++ b) := by
  unfold larderref01_joined.f
  rw [List.length_nil, if_pos (by omega)]
  simp only [Option.bind_some, List.nil_append]
  rw [if_pos h]
theorem groups_l0 (f : Nat) : ∀ (n k : Nat) (x : List Int), n < 128 ^ f → 0 < f → n < 18446744073709551616 → f < k → x.length + f < 140737488355328 → larderref01_groups.l0 k n x = some (x ++ enc f n) := by
  induction f with
  | zero => intro n k x _ h; omega
  | succ f ih =>
    intro n k x hn _ hb hk hx
    obtain ⟨k, rfl⟩ : ∃ m, k = m + 1 := ⟨k - 1, by omega⟩
    simp only [larderref01_groups.l0]
    rw [enc]
    by_cases h : n < 128
    · rw [if_neg (by omega), if_pos (by omega), if_pos h, show (n : Int) % 256 = n by omega]
    · rw [if_pos (by omega), if_pos (by omega), if_neg h]
      have h2 : n / 128 < 128 ^ f := by rw [Nat.pow_succ] at hn; omega
      have hf : 0 < f := by
        rcases Nat.eq_zero_or_pos f with h0 | h0
        · subst h0; simp at hn; omega
        · exact h0
      have e1 : IntKind.u64.wrap (Int.tdiv (n : Int) 128) = ((n / 128 : Nat) : Int) := by
        rw [Int.tdiv_eq_ediv_of_nonneg (by omega), IntKind.wrap_u64]; omega
      have e2 : IntKind.u64.wrap (Int.tmod (n : Int) 128 + 128) % 256 = ((n % 128 + 128 : Nat) : Int) := by
        rw [Int.tmod_eq_emod_of_nonneg (by omega), IntKind.wrap_u64]; omega
      rw [e1, e2, ih (n / 128) k _ h2 hf (by omega) (by omega) (by simp; omega), List.append_assoc]
      rfl
theorem groups_ok (k : Nat) (hk : 10 < k) (n : Nat) (hn : n < 18446744073709551616) : larderref01_groups.f k n = some (enc 10 n) := by
  have := groups_l0 10 n k [] (Nat.lt_of_lt_of_le hn pow10) (by decide) hn hk (by simp)
  simpa [larderref01_groups.f] using this
theorem refPutUint_ok (k : Nat) (hk : 10 < k) (l : List Int) (n : Nat) (hn : n < 18446744073709551616) (hl : l.length + 10 < 140737488355328) : larderref01_PutUint.f k l n = some (l ++ enc 10 n) := by
  unfold larderref01_PutUint.f
  rw [groups_ok k hk n hn]
  simp only [Option.bind_some]
  rw [joined_ok _ _ (by have := enc_len 10 n; omega)]
  rfl
theorem ref_uint_l0 (l : List Int) (hb : IsBytes l) (hl : l.length < 9223372036854775807) : ∀ (rest : List Int) (i n k : Nat), l.drop i = rest → i ≤ l.length → i ≤ 9 → n < 128 ^ i → 3 * rest.length + 1 < k →
    larderref01_Uint.l0 k l n ((128 ^ i : Nat) : Int) i = some (ug i n rest) := by
  intro rest
  induction rest with
  | nil =>
    intro i n k hd hil _ _ hk
    obtain ⟨k, rfl⟩ : ∃ m, k = m + 1 := ⟨k - 1, by omega⟩
    have : l.length ≤ i := by
      rcases Nat.lt_or_ge i l.length with h | h
      · have := congrArg List.length hd; simp at this; omega
      · exact h
    simp only [larderref01_Uint.l0]
    rw [if_neg (by omega), ug, show i = l.length by omega]
  | cons c t ih =>
    intro i n k hd _ hi hn hk
    simp only [List.length_cons] at hk
    obtain ⟨k, rfl⟩ : ∃ m, k = m + 3 := ⟨k - 3, by omega⟩
    obtain ⟨hlt, hrd, hd2⟩ := rd_drop hd
    have hc : 0 ≤ c ∧ c < 256 := (hb.drop i) c (by rw [hd]; exact List.mem_cons_self ..)
    have hw : wrap64 ((i : Int) + 1) = ((i + 1 : Nat) : Int) := by rw [w64 (by omega) (by omega)]; omega
    have hp9 := pow_le9 hi
    have e1 : ¬ (i = 9 ∧ c > 1) → IntKind.u64.wrap ((n : Int) + IntKind.u64.wrap (IntKind.u64.wrap (Int.tmod c 128) * ((128 ^ i : Nat) : Int))) = ((n + c.toNat % 128 * 128 ^ i : Nat) : Int) := by
      intro h1
      have hg := group_lt (i := i) (d := c.toNat % 128) hi (Nat.mod_lt _ (by decide)) (fun e => by omega)
      have h3 : IntKind.u64.wrap (Int.tmod c 128) = ((c.toNat % 128 : Nat) : Int) := by
        rw [Int.tmod_eq_emod_of_nonneg hc.1, IntKind.wrap_u64]; omega
      rw [h3, ← Int.natCast_mul, IntKind.wrap_u64, IntKind.wrap_u64]
      generalize c.toNat % 128 * 128 ^ i = q at hg
      omega
    have j2 : ∀ x : Bool, x = false → ¬ (i = 9 ∧ c > 1) → ¬ (0 < i ∧ c = 0) → larderref01_Uint.j2 (k + 1) l n ((128 ^ i : Nat) : Int) i x = some (ug i n (c :: t)) := by
      intro x hx h1 h2
      subst hx
      simp only [larderref01_Uint.j2]
      rw [if_neg (by decide), if_pos (by omega), if_pos (by omega), hrd, e1 h1, ug, if_neg h1, if_neg h2, hw]
      by_cases h3 : c < 128
      · rw [if_pos h3, if_pos h3]
      · rw [if_neg h3, if_neg h3]
        have hi9 : i ≤ 8 := by omega
        have e2 : IntKind.u64.wrap (((128 ^ i : Nat) : Int) * 128) = ((128 ^ (i + 1) : Nat) : Int) := by
          have := pow_le8 hi9
          rw [show ((128 ^ i : Nat) : Int) * 128 = ((128 ^ i * 128 : Nat) : Int) from (Int.natCast_mul _ _).symm, ← Nat.pow_succ, IntKind.wrap_u64]
          have h5 := pow_le9 (show i + 1 ≤ 9 by omega)
          exact Int.emod_eq_of_lt (by omega) (by omega)
        rw [e2]
        exact ih (i + 1) _ k hd2 (by omega) (by omega) (next_lt hn (Nat.mod_lt _ (by decide))) (by omega)
    have j2t : 0 < i → c = 0 → ¬ (i = 9 ∧ c > 1) → larderref01_Uint.j2 (k + 1) l n ((128 ^ i : Nat) : Int) i true = some (ug i n (c :: t)) := by
      intro h0 h2 h1
      simp only [larderref01_Uint.j2]
      rw [if_pos trivial, ug, if_neg h1, if_pos ⟨h0, h2⟩]
    have j1 : ∀ x : Bool, x = false → ¬ (i = 9 ∧ c > 1) → larderref01_Uint.j1 (k + 2) l n ((128 ^ i : Nat) : Int) i x = some (ug i n (c :: t)) := by
      intro x hx h1
      subst hx
      simp only [larderref01_Uint.j1]
      rw [if_neg (by decide)]
      by_cases h0 : 0 < i
      · rw [if_pos (by omega), if_pos (by omega), if_pos (by omega), hrd]
        by_cases h2 : c = 0
        · rw [show (c == 0) = true by rw [h2]; rfl]
          exact j2t h0 h2 h1
        · exact j2 _ (by simp [h2]) h1 (fun h => h2 h.2)
      · rw [if_neg (by omega)]
        exact j2 _ rfl h1 (fun h => h0 h.1)
    rw [larderref01_Uint.l0, if_pos (by omega)]
    by_cases h9 : i = 9
    · subst h9
      rw [if_pos (show ((9 : Nat) : Int) = 9 from rfl), if_pos (by decide), hrd]
      by_cases h1 : c > 1
      · rw [decide_eq_true h1]
        simp only [larderref01_Uint.j1]
        rw [if_pos trivial, ug, if_pos ⟨rfl, h1⟩]
      · exact j1 _ (decide_eq_false h1) (fun h => h1 h.2)
    · rw [if_neg (by omega)]
      exact j1 _ rfl (fun h => h9 h.1)
theorem ref_uint (l : List Int) (hb : IsBytes l) (hl : l.length < 9223372036854775807) (k : Nat) (hk : 3 * l.length + 1 < k) : larderref01_Uint.f k l = some (ug 0 0 l) := by
  unfold larderref01_Uint.f
  exact ref_uint_l0 l hb hl l 0 0 k rfl (by omega) (by omega) (by decide) hk

/-! ### ints -/
def zz (a : Int) : Nat := if 0 ≤ a then (2 * a).toNat else (-2 * a - 1).toNat
def unzz (u : Int) : Int := if u % 2 = 0 then u / 2 else -(u / 2) - 1
theorem zz_lt {a : Int} (h0 : -9223372036854775808 ≤ a) (h1 : a ≤ 9223372036854775807) : zz a < 18446744073709551616 := by
  unfold zz; split <;> omega
theorem unzz_zz (a : Int) : unzz (zz a) = a := by
  unfold zz unzz; split <;> (split <;> omega)
theorem zz_unzz (u : Int) (h : 0 ≤ u) : ((zz (unzz u) : Nat) : Int) = u := by
  unfold zz unzz; split <;> (split <;> omega)
theorem frame_fold {a : Int} (h0 : -9223372036854775808 ≤ a) (h1 : a ≤ 9223372036854775807) :
    Go.bits .xor .u64 (IntKind.u64.wrap (IntKind.u64.wrap a * 2)) (IntKind.u64.wrap (a / 9223372036854775808)) = ((zz a : Nat) : Int) := by
  by_cases h : 0 ≤ a
  · have e1 : IntKind.u64.wrap (IntKind.u64.wrap a * 2) = (((2 * a).toNat : Nat) : Int) := by
      rw [IntKind.wrap_u64, IntKind.wrap_u64]; omega
    have e2 : IntKind.u64.wrap (a / 9223372036854775808) = ((0 : Nat) : Int) := by
      rw [IntKind.wrap_u64]; omega
    rw [e1, e2, bits_xor_u64_nat _ _ (by omega) (by decide), Nat.xor_zero]
    unfold zz
    rw [if_pos h]
  · have e1 : IntKind.u64.wrap (IntKind.u64.wrap a * 2) = (((2 * a + 18446744073709551616).toNat : Nat) : Int) := by
      rw [IntKind.wrap_u64, IntKind.wrap_u64]; omega
    have e2 : IntKind.u64.wrap (a / 9223372036854775808) = ((2 ^ 64 - 1 : Nat) : Int) := by
      rw [IntKind.wrap_u64, show a / 9223372036854775808 = -1 by omega]; rfl
    rw [e1, e2, bits_xor_u64_nat _ _ (by omega) (by decide), Nat.xor_comm, Lib.xor_ones64 _ (by omega)]
    unfold zz
    rw [if_neg h]
    omega
theorem ref_fold {a : Int} (h0 : -9223372036854775808 ≤ a) (h1 : a ≤ 9223372036854775807) : larderref01_folded.f a = some ((zz a : Nat) : Int) := by
  unfold larderref01_folded.f zz
  by_cases h : 0 ≤ a
  · rw [if_neg (by omega), if_pos h]
    congr 1
    rw [IntKind.wrap_u64, IntKind.wrap_u64]; omega
  · rw [if_pos (by omega), if_neg h]
    congr 1
    rw [w64 (x := a + 1) (by omega) (by omega), w64 (by omega) (by omega)]
    rw [IntKind.wrap_u64, IntKind.wrap_u64, IntKind.wrap_u64]; omega
theorem putInt_ok (k : Nat) (hk : 10 < k) (l : List Int) (a : Int) (h0 : -9223372036854775808 ≤ a) (h1 : a ≤ 9223372036854775807) (hl : l.length + 10 < 140737488355328) : frame_PutInt.f k l a = some (l ++ enc 10 (zz a)) := by
  unfold frame_PutInt.f
  rw [frame_fold h0 h1, putUint_ok k hk l _ (zz_lt h0 h1) hl]
  rfl
theorem refPutInt_ok (k : Nat) (hk : 10 < k) (l : List Int) (a : Int) (h0 : -9223372036854775808 ≤ a) (h1 : a ≤ 9223372036854775807) (hl : l.length + 10 < 140737488355328) : larderref01_PutInt.f k l a = some (l ++ enc 10 (zz a)) := by
  unfold larderref01_PutInt.f
  rw [ref_fold h0 h1]
  simp only [Option.bind_some]
  rw [groups_ok k hk _ (zz_lt h0 h1)]
  simp only [Option.bind_some]
  rw [joined_ok _ _ (by have := enc_len 10 (zz a); omega)]
  rfl
theorem xor_comm_i64 (x y : Int) : Go.bits .xor .i64 x y = Go.bits .xor .i64 y x := by
  unfold Go.bits
  simp only
  rw [BitVec.xor_comm]
theorem xor_zero_i64 (x : Nat) (h : x < 9223372036854775808) : Go.bits .xor .i64 (x : Int) 0 = x := by
  show IntKind.i64.wrap ((BitVec.ofInt 64 (x : Int) ^^^ BitVec.ofInt 64 0).toNat : Int) = _
  rw [show BitVec.ofInt 64 0 = 0#64 from rfl, BitVec.xor_zero, BitVec.ofInt_natCast, BitVec.toNat_ofNat, Nat.mod_eq_of_lt (by omega), IntKind.wrap_i64]
  omega
theorem frame_unfold {u : Int} (h0 : 0 ≤ u) (h1 : u < 18446744073709551616) : Go.bits .xor .i64 (wrap64 (u / 2)) (wrap64 (-(wrap64 (Go.bits .and .u64 u 1)))) = unzz u := by
  rw [Lib.u64_and1 u h0 h1, w64 (x := u / 2) (by omega) (by omega), w64 (x := u % 2) (by omega) (by omega), w64 (by omega) (by omega)]
  unfold unzz
  have e : u / 2 = (((u / 2).toNat : Nat) : Int) := by omega
  by_cases h : u % 2 = 0
  · rw [if_pos h, h, e]
    exact xor_zero_i64 _ (by omega)
  · rw [if_neg h, show u % 2 = 1 by omega, xor_comm_i64, e]
    exact Lib.i64_not _ (by omega)
/-- What an int's reading answers. -/
def ig (r : Int × Int × Int) : Int × Int × Int := (unzz r.1, r.2.1, r.2.2)
theorem ug_err (l : List Int) : ∀ (i n : Nat), (ug i n l).2.2 = 0 ∨ ((ug i n l).1 = 0 ∧ (ug i n l).2.2 ≠ 0) := by
  induction l with
  | nil => intro i n; simp [ug]
  | cons c t ih =>
    intro i n
    unfold ug
    split
    · simp
    · split
      · simp
      · split
        · simp
        · exact ih _ _
theorem frame_int (l : List Int) (hb : IsBytes l) (hl : l.length < 9223372036854775807) (k : Nat) (hk : l.length + 1 < k) : frame_Int.f k l = some (ig (ug 0 0 l)) := by
  unfold frame_Int.f
  rw [frame_uint l hb hl k hk]
  simp only [Option.bind_some]
  have := ug_lt l 0 0 (by omega) (by decide) hb
  rw [frame_unfold this.1 this.2]
  rfl
theorem ref_int (l : List Int) (hb : IsBytes l) (hl : l.length < 9223372036854775807) (k : Nat) (hk : 3 * l.length + 1 < k) : larderref01_Int.f k l = some (ig (ug 0 0 l)) := by
  unfold larderref01_Int.f
  rw [ref_uint l hb hl k hk]
  simp only [Option.bind_some]
  have hu := ug_lt l 0 0 (by omega) (by decide) hb
  have he := ug_err l 0 0
  generalize ug 0 0 l = r at hu he
  obtain ⟨u, at_, e⟩ := r
  simp only at hu he
  unfold ig unzz
  simp only
  by_cases h : e = 0
  · subst h
    rw [if_pos rfl, Int.tmod_eq_emod_of_nonneg hu.1, Int.tdiv_eq_ediv_of_nonneg hu.1]
    have e1 : IntKind.u64.wrap (u / 2) = u / 2 := by rw [IntKind.wrap_u64]; omega
    rw [e1]
    by_cases h2 : u % 2 = 1
    · rw [if_pos h2, if_neg (by omega), w64 (x := u / 2) (by omega) (by omega), w64 (x := -(u / 2)) (by omega) (by omega), w64 (by omega) (by omega)]
    · rw [if_neg h2, if_pos (by omega), w64 (by omega) (by omega)]
  · rw [if_neg h]
    obtain ⟨h1, _⟩ : u = 0 ∧ e ≠ 0 := by rcases he with h1 | h1; exact absurd h1 h; exact h1
    subst h1
    rfl
end Go.Proofs.Ytafmoglaockepaa.Num
