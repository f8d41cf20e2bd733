/- What the document's numbers answer, and the program's ints and words: Num's own reading and writing. -/
import Derived.Test.YtlblleideihhmaaDoorPBx5
import Derived.Test.YtlblleideihhmaaDoorNumFrame
import Derived.Lib.Zigzag
namespace Go.Proofs.YtlblleideihhmaaDoor.Num
open Go Go.RowKit Go.Proofs.YtlblleideihhmaaDoorW.PrintWords Go.Proofs.YtlblleideihhmaaDoorW.PrintLast Go.Proofs.YtlblleideihhmaaDoorW.PrintMore Go.Proofs.YtlblleideihhmaaDoor.PB
set_option linter.unusedVariables false

/-! ### ints -/
def zz (a : Int) : Nat := if 0 ≤ a then (2 * a).toNat else (-2 * a - 1).toNat
def unzz (u : Int) : Int := if u % 2 = 0 then u / 2 else -(u / 2) - 1
theorem zz_lt {a : Int} (h0 : -9223372036854775808 ≤ a) (h1 : a ≤ 9223372036854775807) : zz a < 18446744073709551616 := by
  unfold zz; split <;> omega
theorem unzz_zz (a : Int) : unzz (zz a) = a := by
  unfold zz unzz; split <;> (split <;> omega)
theorem zz_unzz (u : Int) (h : 0 ≤ u) : ((zz (unzz u) : Nat) : Int) = u := by
  unfold zz unzz; split <;> (split <;> omega)
theorem frame_fold {a : Int} (h0 : -9223372036854775808 ≤ a) (h1 : a ≤ 9223372036854775807) :
    Go.bits .xor .u64 (IntKind.u64.wrap (IntKind.u64.wrap a * 2)) (IntKind.u64.wrap (a / 9223372036854775808)) = ((zz a : Nat) : Int) := by
  by_cases h : 0 ≤ a
  · have e1 : IntKind.u64.wrap (IntKind.u64.wrap a * 2) = (((2 * a).toNat : Nat) : Int) := by
      rw [IntKind.wrap_u64, IntKind.wrap_u64]; omega
    have e2 : IntKind.u64.wrap (a / 9223372036854775808) = ((0 : Nat) : Int) := by
      rw [IntKind.wrap_u64]; omega
    rw [e1, e2, bits_xor_u64_nat _ _ (by omega) (by decide), Nat.xor_zero]
    unfold zz
    rw [if_pos h]
  · have e1 : IntKind.u64.wrap (IntKind.u64.wrap a * 2) = (((2 * a + 18446744073709551616).toNat : Nat) : Int) := by
      rw [IntKind.wrap_u64, IntKind.wrap_u64]; omega
    have e2 : IntKind.u64.wrap (a / 9223372036854775808) = ((2 ^ 64 - 1 : Nat) : Int) := by
      rw [IntKind.wrap_u64, show a / 9223372036854775808 = -1 by omega]; rfl
    rw [e1, e2, bits_xor_u64_nat _ _ (by omega) (by decide), Nat.xor_comm, Lib.xor_ones64 _ (by omega)]
    unfold zz
    rw [if_neg h]
    omega
theorem putInt_ok (k : Nat) (hk : 10 < k) (l : List Int) (a : Int) (h0 : -9223372036854775808 ≤ a) (h1 : a ≤ 9223372036854775807) (hl : l.length + 10 < 140737488355328) : frame_PutInt.f k l a = some (l ++ enc 10 (zz a)) := by
  unfold frame_PutInt.f
  rw [frame_fold h0 h1, putUint_ok k hk l _ (zz_lt h0 h1) hl]
  rfl
theorem xor_comm_i64 (x y : Int) : Go.bits .xor .i64 x y = Go.bits .xor .i64 y x := by
  unfold Go.bits
  simp only
  rw [BitVec.xor_comm]
theorem xor_zero_i64 (x : Nat) (h : x < 9223372036854775808) : Go.bits .xor .i64 (x : Int) 0 = x := by
  show IntKind.i64.wrap ((BitVec.ofInt 64 (x : Int) ^^^ BitVec.ofInt 64 0).toNat : Int) = _
  rw [show BitVec.ofInt 64 0 = 0#64 from rfl, BitVec.xor_zero, BitVec.ofInt_natCast, BitVec.toNat_ofNat, Nat.mod_eq_of_lt (by omega), IntKind.wrap_i64]
  omega
theorem frame_unfold {u : Int} (h0 : 0 ≤ u) (h1 : u < 18446744073709551616) : Go.bits .xor .i64 (wrap64 (u / 2)) (wrap64 (-(wrap64 (Go.bits .and .u64 u 1)))) = unzz u := by
  rw [Lib.u64_and1 u h0 h1, w64 (x := u / 2) (by omega) (by omega), w64 (x := u % 2) (by omega) (by omega), w64 (by omega) (by omega)]
  unfold unzz
  have e : u / 2 = (((u / 2).toNat : Nat) : Int) := by omega
  by_cases h : u % 2 = 0
  · rw [if_pos h, h, e]
    exact xor_zero_i64 _ (by omega)
  · rw [if_neg h, show u % 2 = 1 by omega, xor_comm_i64, e]
    exact Lib.i64_not _ (by omega)
/-- What an int's reading answers. -/
def ig (r : Int × Int × Int) : Int × Int × Int := (unzz r.1, r.2.1, r.2.2)
theorem ug_err (l : List Int) : ∀ (i n : Nat), (ug i n l).2.2 = 0 ∨ ((ug i n l).1 = 0 ∧ (ug i n l).2.2 ≠ 0) := by
  induction l with
  | nil => intro i n; simp [ug]
  | cons c t ih =>
    intro i n
    unfold ug
    split
    · simp
    · split
      · simp
      · split
        · simp
        · exact ih _ _
theorem frame_int (l : List Int) (hb : IsBytes l) (hl : l.length < 9223372036854775807) (k : Nat) (hk : l.length + 1 < k) : frame_Int.f k l = some (ig (ug 0 0 l)) := by
  unfold frame_Int.f
  rw [frame_uint l hb hl k hk]
  simp only [Option.bind_some]
  have := ug_lt l 0 0 (by omega) (by decide) hb
  rw [frame_unfold this.1 this.2]
  rfl
end Go.Proofs.YtlblleideihhmaaDoor.Num
