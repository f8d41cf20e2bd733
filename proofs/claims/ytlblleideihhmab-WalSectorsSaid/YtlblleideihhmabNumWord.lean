/- Words: eight bytes, the lowest first, written and read, by the program and by the document. -/
import Derived.Test.YtlblleideihhmabPSx1
import Derived.Test.YtlblleideihhmabPSx2
import Derived.Test.YtlblleideihhmabNumRef
namespace Go.Proofs.Ytlblleideihhmab.Num
open Go Go.RowKit Go.Proofs.YtlblleideihhmabW.PrintWords Go.Proofs.YtlblleideihhmabW.PrintLast Go.Proofs.YtlblleideihhmabW.PrintMore Go.Proofs.Ytlblleideihhmab.PS
set_option linter.unusedVariables false

/-- The lowest f bytes of a number. -/
def le : Nat → Nat → List Int
  | 0, _ => []
  | f + 1, n => ((n % 256 : Nat) : Int) :: le f (n / 256)
theorem le_len (f : Nat) : ∀ n, (le f n).length = f := by
  induction f with
  | zero => intro n; rfl
  | succ f ih => intro n; simp [le, ih]
theorem le_bytes (f : Nat) : ∀ n, IsBytes (le f n) := by
  induction f with
  | zero => intro n x hx; simp [le] at hx
  | succ f ih =>
    intro n x hx
    rcases List.mem_cons.1 hx with h | h
    · omega
    · exact ih _ x h
/-- The number that bytes are. -/
def leV : List Int → Nat
  | [] => 0
  | c :: t => c.toNat + 256 * leV t
theorem leV_lt (l : List Int) (hb : IsBytes l) : leV l < 256 ^ l.length := by
  induction l with
  | nil => simp [leV]
  | cons c t ih =>
    have hc := hb c (List.mem_cons_self ..)
    have := ih (fun x hx => hb x (List.mem_cons_of_mem _ hx))
    simp only [leV, List.length_cons, Nat.pow_succ]
    omega
theorem leV_le (f : Nat) : ∀ n, leV (le f n) = n % 256 ^ f := by
  induction f with
  | zero => intro n; simp [le, leV, Nat.mod_one]
  | succ f ih =>
    intro n
    simp only [le, leV, ih, Int.toNat_natCast]
    rw [Nat.pow_succ, Nat.mul_comm (256 ^ f), Nat.mod_mul]
theorem leV_append (a b : List Int) : leV (a ++ b) = leV a + 256 ^ a.length * leV b := by
  induction a with
  | nil => simp [leV]
  | cons c t ih =>
    simp only [List.cons_append, leV, ih, List.length_cons, Nat.pow_succ]
    rw [Nat.mul_add, Nat.add_assoc, Nat.mul_comm (256 ^ t.length) 256, Nat.mul_assoc]
theorem leV_inj : ∀ (a b : List Int), a.length = b.length → IsBytes a → IsBytes b → leV a = leV b → a = b := by
  intro a
  induction a with
  | nil => intro b h _ _ _; exact (List.length_eq_zero_iff.1 h.symm).symm
  | cons c t ih =>
    intro b h ha hb hv
    cases b with
    | nil => simp at h
    | cons d u =>
      have hc := ha c (List.mem_cons_self ..)
      have hd := hb d (List.mem_cons_self ..)
      simp only [leV] at hv
      have e1 : c = d := by omega
      have e2 : leV t = leV u := by omega
      rw [e1, ih u (by simpa using h) (fun x hx => ha x (List.mem_cons_of_mem _ hx)) (fun x hx => hb x (List.mem_cons_of_mem _ hx)) e2]
theorem le_mod (f n : Nat) : le f (n % 256 ^ f) = le f n := by
  apply leV_inj _ _ (by rw [le_len, le_len]) (le_bytes _ _) (le_bytes _ _)
  rw [leV_le, leV_le, Nat.mod_mod]

theorem putLow_l0 (f : Nat) : ∀ (n k i s : Nat) (x : List Int), i + f = s → s ≤ 100 → f < k → x.length + f < 140737488355328 → frame_putLow.l0 k x n s i = some (x ++ le f n) := by
  induction f with
  | zero =>
    intro n k i s x hi hs hk hx
    obtain ⟨k, rfl⟩ : ∃ m, k = m + 1 := ⟨k - 1, by omega⟩
    simp only [frame_putLow.l0]
    rw [if_neg (by omega)]
    simp [le]
  | succ f ih =>
    intro n k i s x hi hs hk hx
    obtain ⟨k, rfl⟩ : ∃ m, k = m + 1 := ⟨k - 1, by omega⟩
    simp only [frame_putLow.l0]
    rw [if_pos (by omega), if_pos (by omega), w64 (by omega) (by omega), show (n : Int) / 256 = ((n / 256 : Nat) : Int) by omega, show (i : Int) + 1 = ((i + 1 : Nat) : Int) by omega, ih (n / 256) k (i + 1) s _ (by omega) hs (by omega) (by simp; omega), List.append_assoc, show (n : Int) % 256 = ((n % 256 : Nat) : Int) by omega]
    rfl
theorem putWord_ok (k : Nat) (hk : 8 < k) (l : List Int) (n : Nat) (hl : l.length + 8 < 140737488355328) : frame_PutWord.f k l n = some (l ++ le 8 n) := by
  unfold frame_PutWord.f
  rw [grown_ok l 8 (by decide) (by decide) (by omega)]
  simp only [Option.bind_some]
  unfold frame_putLow.f
  have := putLow_l0 8 n k 0 8 l rfl (by decide) hk hl
  rw [show ((0 : Nat) : Int) = 0 from rfl, show ((8 : Nat) : Int) = 8 from rfl] at this
  rw [this]
  rfl
theorem refPutWord_l0 (f : Nat) : ∀ (n k i : Nat) (x : List Int), i + f = 8 → f < k → n < 18446744073709551616 → x.length + f < 140737488355328 → larderref01_PutWord.l0 k n x i = some (x ++ le f n) := by
  induction f with
  | zero =>
    intro n k i x hi hk hn hx
    obtain ⟨k, rfl⟩ : ∃ m, k = m + 1 := ⟨k - 1, by omega⟩
    simp only [larderref01_PutWord.l0]
    rw [if_neg (by omega)]
    simp [le]
  | succ f ih =>
    intro n k i x hi hk hn hx
    obtain ⟨k, rfl⟩ : ∃ m, k = m + 1 := ⟨k - 1, by omega⟩
    simp only [larderref01_PutWord.l0]
    have e1 : IntKind.u64.wrap (Int.tdiv (n : Int) 256) = ((n / 256 : Nat) : Int) := by
      rw [Int.tdiv_eq_ediv_of_nonneg (by omega), IntKind.wrap_u64]; omega
    rw [if_pos (by omega), if_pos (by omega), w64 (by omega) (by omega), e1, show (i : Int) + 1 = ((i + 1 : Nat) : Int) by omega, ih (n / 256) k (i + 1) _ (by omega) (by omega) (by omega) (by simp; omega), List.append_assoc, Int.tmod_eq_emod_of_nonneg (by omega), show (n : Int) % 256 % 256 = ((n % 256 : Nat) : Int) by omega]
    rfl
theorem refPutWord_ok (k : Nat) (hk : 8 < k) (l : List Int) (n : Nat) (hn : n < 18446744073709551616) (hl : l.length + 8 < 140737488355328) : larderref01_PutWord.f k l n = some (l ++ le 8 n) := by
  unfold larderref01_PutWord.f
  rw [joined_ok _ _ (by simp; omega)]
  simp only [Option.bind_some, List.append_nil]
  exact refPutWord_l0 8 n k 0 l rfl hk hn hl

theorem pow_256 (i : Nat) : (2 : Nat) ^ (8 * i) = 256 ^ i := by rw [Nat.pow_mul]
/-- What a word's reading answers. -/
def wg (l : List Int) : Int × Int := if l.length < 8 then (0, 3) else (((leV (l.take 8) : Nat) : Int), 0)
end Go.Proofs.Ytlblleideihhmab.Num
