/- Words: eight bytes, the lowest first, written and read, by the program and by the document. -/
import Derived.Test.YtlblleideihhmaaDoorPBx2
import Derived.Test.YtlblleideihhmaaDoorNumRef
namespace Go.Proofs.YtlblleideihhmaaDoor.Num
open Go Go.RowKit Go.Proofs.YtlblleideihhmaaDoorW.PrintWords Go.Proofs.YtlblleideihhmaaDoorW.PrintLast Go.Proofs.YtlblleideihhmaaDoorW.PrintMore Go.Proofs.YtlblleideihhmaaDoor.PB
set_option linter.unusedVariables false

/-- The lowest f bytes of a number. -/
def le : Nat → Nat → List Int
  | 0, _ => []
  | f + 1, n => ((n % 256 : Nat) : Int) :: le f (n / 256)
theorem le_len (f : Nat) : ∀ n, (le f n).length = f := by
  induction f with
  | zero => intro n; rfl
  | succ f ih => intro n; simp [le, ih]
theorem le_bytes (f : Nat) : ∀ n, IsBytes (le f n) := by
  induction f with
  | zero => intro n x hx; simp [le] at hx
  | succ f ih =>
    intro n x hx
    rcases List.mem_cons.1 hx with h | h
    · omega
    · exact ih _ x h
/-- The number that bytes are. -/
def leV : List Int → Nat
  | [] => 0
  | c :: t => c.toNat + 256 * leV t
theorem leV_lt (l : List Int) (hb : IsBytes l) : leV l < 256 ^ l.length := by
  induction l with
  | nil => simp [leV]
  | cons c t ih =>
    have hc := hb c (List.mem_cons_self ..)
    have := ih (fun x hx => hb x (List.mem_cons_of_mem _ hx))
    simp only [leV, List.length_cons, Nat.pow_succ]
    omega
theorem leV_le (f : Nat) : ∀ n, leV (le f n) = n % 256 ^ f := by
  induction f with
  | zero => intro n; simp [le, leV, Nat.mod_one]
  | succ f ih =>
    intro n
    simp only [le, leV, ih, Int.toNat_natCast]
    rw [Nat.pow_succ, Nat.mul_comm (256 ^ f), Nat.mod_mul]
theorem leV_append (a b : List Int) : leV (a ++ b) = leV a + 256 ^ a.length * leV b := by
  induction a with
  | nil => simp [leV]
  | cons c t ih =>
    simp only [List.cons_append, leV, ih, List.length_cons, Nat.pow_succ]
    rw [Nat.mul_add, Nat.add_assoc, Nat.mul_comm (256 ^ t.length) 256, Nat.mul_assoc]
theorem leV_inj : ∀ (a b : List Int), a.length = b.length → IsBytes a → IsBytes b → leV a = leV b → a = b := by
  intro a
  induction a with
  | nil => intro b h _ _ _; exact (List.length_eq_zero_iff.1 h.symm).symm
  | cons c t ih =>
    intro b h ha hb hv
    cases b with
    | nil => simp at h
    | cons d u =>
      have hc := ha c (List.mem_cons_self ..)
      have hd := hb d (List.mem_cons_self ..)
      simp only [leV] at hv
      have e1 : c = d := by omega
      have e2 : leV t = leV u := by omega
      rw [e1, ih u (by simpa using h) (fun x hx => ha x (List.mem_cons_of_mem _ hx)) (fun x hx => hb x (List.mem_cons_of_mem _ hx)) e2]
theorem le_mod (f n : Nat) : le f (n % 256 ^ f) = le f n := by
  apply leV_inj _ _ (by rw [le_len, le_len]) (le_bytes _ _) (le_bytes _ _)
  rw [leV_le, leV_le, Nat.mod_mod]

theorem pow_256 (i : Nat) : (2 : Nat) ^ (8 * i) = 256 ^ i := by rw [Nat.pow_mul]
theorem low_l0 (l : List Int) (hb : IsBytes l) (hl : l.length ≤ 8) : ∀ (rest : List Int) (i n k : Nat), l.drop i = rest → i ≤ l.length → n < 256 ^ i → rest.length + 1 < k + 1 →
    frame_low.l0 k n l (l.length : Int) i = some ((n + 256 ^ i * leV rest : Nat) : Int) := by
  intro rest
  induction rest with
  | nil =>
    intro i n k hd hil hn hk
    obtain ⟨k, rfl⟩ : ∃ m, k = m + 1 := ⟨k - 1, by simp at hk; omega⟩
    have : l.length ≤ i := by
      rcases Nat.lt_or_ge i l.length with h | h
      · have := congrArg List.length hd; simp at this; omega
      · exact h
    simp only [frame_low.l0]
    rw [if_neg (by omega)]
    simp [leV]
  | cons c t ih =>
    intro i n k hd hil hn hk
    simp only [List.length_cons] at hk
    obtain ⟨k, rfl⟩ : ∃ m, k = m + 1 := ⟨k - 1, by omega⟩
    obtain ⟨hlt, hrd, hd2⟩ := rd_drop hd
    have hc : 0 ≤ c ∧ c < 256 := (hb.drop i) c (by rw [hd]; exact List.mem_cons_self ..)
    simp only [frame_low.l0]
    rw [if_pos (by omega), if_pos (by omega), if_pos (by omega), w64 (x := 8 * (i : Int)) (by omega) (by omega), if_pos (by omega), hrd, w64 (by omega) (by omega)]
    have hp : (2 : Int) ^ (8 * i) = ((256 ^ i : Nat) : Int) := by rw [← pow_256]; exact_mod_cast rfl
    have h7 : 256 ^ i ≤ 72057594037927936 := Nat.le_trans (Nat.pow_le_pow_right (by decide) (show i ≤ 7 by omega)) (by decide)
    have hg : c.toNat * 256 ^ i ≤ 255 * 72057594037927936 := Nat.mul_le_mul (by omega) h7
    have e1 : Go.bits .or .u64 (n : Int) (shl .u64 (IntKind.u64.wrap c) (8 * (i : Int))) = ((n + c.toNat * 256 ^ i : Nat) : Int) := by
      have e2 : IntKind.u64.wrap c = ((c.toNat : Nat) : Int) := by rw [IntKind.wrap_u64]; omega
      rw [e2]
      unfold shl
      rw [show (8 * (i : Int)).toNat = 8 * i by omega, Nat.min_eq_left (show 8 * i ≤ IntKind.u64.bits by show 8 * i ≤ 64; omega), hp, ← Int.natCast_mul, IntKind.wrap_u64, Int.emod_eq_of_lt (by omega) (by omega), u64_or_nat n _ (by omega) (by omega), Nat.or_comm, nat_join (8 * i) (c.toNat * 256 ^ i) n, Nat.add_comm]
      · rw [pow_256, Nat.mul_mod_left]
      · rw [pow_256]; exact hn
    rw [e1, show (i : Int) + 1 = ((i + 1 : Nat) : Int) by omega, ih (i + 1) _ k hd2 (by omega) ?_ (by omega)]
    · simp only [leV, Nat.pow_succ, Option.some.injEq]
      rw [Nat.mul_add, Nat.mul_comm c.toNat, Nat.add_assoc, Nat.mul_assoc]
    · rw [Nat.pow_succ]
      have : c.toNat * 256 ^ i ≤ 255 * 256 ^ i := Nat.mul_le_mul_right _ (by omega)
      omega
theorem low_ok (k : Nat) (l : List Int) (hb : IsBytes l) (hl : l.length ≤ 8) (hk : l.length < k) : frame_low.f k l = some ((leV l : Nat) : Int) := by
  unfold frame_low.f
  have := low_l0 l hb hl l 0 0 k rfl (by omega) (by decide) (by omega)
  rw [Nat.zero_add, Nat.pow_zero, Nat.one_mul] at this
  exact this
/-- What a word's reading answers. -/
def wg (l : List Int) : Int × Int := if l.length < 8 then (0, 3) else (((leV (l.take 8) : Nat) : Int), 0)
end Go.Proofs.YtlblleideihhmaaDoor.Num
