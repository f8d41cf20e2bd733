/- How many bits of some bytes are set; what that tells of their register. -/
import Derived.Test.YtlblleideihhmaaDoorErrLaw
namespace Go.Proofs.YtlblleideihhmaaDoor.FewLaw
open Go Go.RowKit Go.Proofs.YtlblleideihhmaaDoor.Crc Go.Proofs.YtlblleideihhmaaDoor.CrcLaw Go.Proofs.YtlblleideihhmaaDoor.SealLaw Go.Proofs.YtlblleideihhmaaDoor.FrMore Go.Proofs.YtlblleideihhmaaDoor.UnLaw Go.Proofs.YtlblleideihhmaaDoor.ErrLaw Go.Proofs.YtlblleideihhmaaDoor.Num
set_option linter.unusedVariables false

def pcf : Nat → Nat → Nat
  | 0, _ => 0
  | f + 1, n => n % 2 + pcf f (n / 2)
/-- How many bits of a byte are set. -/
def pc (n : Nat) : Nat := pcf 8 n
def cnt : List Int → Nat
  | [] => 0
  | x :: t => pc x.toNat + cnt t
theorem pc_step : ∀ d : Nat, d < 256 → d ≠ 0 → Go.bits .and .u8 (d : Int) (((d : Int) - 1) % 256) = ((d &&& (d - 1) : Nat) : Int) ∧ (d &&& (d - 1)) < 256 ∧ pc (d &&& (d - 1)) + 1 = pc d := by decide +kernel
theorem pc_le : ∀ d : Nat, d < 256 → pc d ≤ 8 := by decide +kernel
theorem pc_zero : ∀ d : Nat, d < 256 → pc d = 0 → d = 0 := by decide +kernel
theorem pc_one : ∀ d : Nat, d < 256 → pc d = 1 → ∃ i : Fin 8, BitVec.ofNat 32 d = 1#32 <<< i.val := by decide +kernel
theorem pc_two : ∀ d : Nat, d < 256 → pc d = 2 → ∃ i : Fin 8, ∃ j : Fin 8, i < j ∧ BitVec.ofNat 32 d = (1#32 <<< i.val) ^^^ (1#32 <<< j.val) := by decide +kernel
theorem toNat_lt {x : Int} (h : 0 ≤ x ∧ x < 256) : x.toNat < 256 := by omega
theorem cnt_le (e : List Int) (h : IsBytes e) : cnt e ≤ 8 * e.length := by
  induction e with
  | nil => simp [cnt]
  | cons x t ih =>
    have := ih (fun y hy => h y (List.mem_cons_of_mem _ hy))
    have := pc_le x.toNat (toNat_lt (h x (List.mem_cons_self ..)))
    simp only [cnt, List.length_cons]
    omega
theorem cnt_zero (e : List Int) (h : IsBytes e) (h0 : cnt e = 0) : ∀ i, e.getD i 0 = 0 := by
  induction e with
  | nil => intro i; simp
  | cons x t ih =>
    intro i
    simp only [cnt] at h0
    cases i with
    | zero =>
      have hx := h x (List.mem_cons_self ..)
      have := pc_zero x.toNat (toNat_lt hx) (by omega)
      simp only [List.getD_cons_zero]
      omega
    | succ i =>
      simp only [List.getD_cons_succ]
      exact ih (fun y hy => h y (List.mem_cons_of_mem _ hy)) (by omega) i
theorem on_zero_cons (x : Int) (t : List Int) : on 0#32 (x :: t) = on 0#32 t ^^^ it (8 * t.length + 8) (B x) := by
  rw [on_cons, BitVec.zero_xor, ← BitVec.zero_xor (x := it 8 (B x)), on_lin, ← it_add]
theorem cnt_none (e : List Int) (h : IsBytes e) (h0 : cnt e = 0) : on 0#32 e = 0#32 := by
  induction e with
  | nil => rfl
  | cons x t ih =>
    simp only [cnt] at h0
    have hx := pc_zero x.toNat (toNat_lt (h x (List.mem_cons_self ..))) (by omega)
    rw [on_zero_cons, ih (fun y hy => h y (List.mem_cons_of_mem _ hy)) (by omega), show B x = 0#32 by unfold B; rw [hx], it_zero, BitVec.xor_zero]
theorem it_down (n i : Nat) (hi : i < 8) : it (n + 8) (1#32 <<< i) = it (n + 8 - i) 1#32 := by
  rw [show n + 8 = (n + 8 - i) + i by omega, it_add, it_bit i (by omega), show n + 8 - i + i - i = n + 8 - i by omega]
theorem cnt_one (e : List Int) (h : IsBytes e) (h0 : cnt e = 1) : ∃ a, a ≤ 8 * e.length ∧ on 0#32 e = it a 1#32 := by
  induction e with
  | nil => simp [cnt] at h0
  | cons x t ih =>
    simp only [cnt] at h0
    have ht : IsBytes t := fun y hy => h y (List.mem_cons_of_mem _ hy)
    have hx := toNat_lt (h x (List.mem_cons_self ..))
    rcases Nat.eq_zero_or_pos (pc x.toNat) with h1 | h1
    · obtain ⟨a, ha, he⟩ := ih ht (by omega)
      refine ⟨a, by simp only [List.length_cons]; omega, ?_⟩
      have hx0 := pc_zero _ hx h1
      rw [on_zero_cons, he, show B x = 0#32 by unfold B; rw [hx0], it_zero, BitVec.xor_zero]
    · obtain ⟨i, hi⟩ := pc_one _ hx (by omega)
      refine ⟨8 * t.length + 8 - i.val, by simp only [List.length_cons]; omega, ?_⟩
      rw [on_zero_cons, cnt_none t ht (by omega), BitVec.zero_xor, show B x = 1#32 <<< i.val from hi, it_down _ _ i.isLt]
theorem cnt_two (e : List Int) (h : IsBytes e) (h0 : cnt e = 2) : ∃ a b, a < b ∧ b ≤ 8 * e.length ∧ on 0#32 e = it a 1#32 ^^^ it b 1#32 := by
  induction e with
  | nil => simp [cnt] at h0
  | cons x t ih =>
    simp only [cnt] at h0
    have ht : IsBytes t := fun y hy => h y (List.mem_cons_of_mem _ hy)
    have hx := toNat_lt (h x (List.mem_cons_self ..))
    have h3 : pc x.toNat = 0 ∨ pc x.toNat = 1 ∨ pc x.toNat = 2 := by omega
    rcases h3 with h1 | h1 | h1
    · obtain ⟨a, b, hab, hb, he⟩ := ih ht (by omega)
      refine ⟨a, b, hab, by simp only [List.length_cons]; omega, ?_⟩
      have hx0 := pc_zero _ hx h1
      rw [on_zero_cons, he, show B x = 0#32 by unfold B; rw [hx0], it_zero, BitVec.xor_zero]
    · obtain ⟨a, ha, he⟩ := cnt_one t ht (by omega)
      obtain ⟨i, hi⟩ := pc_one _ hx h1
      refine ⟨a, 8 * t.length + 8 - i.val, by omega, by simp only [List.length_cons]; omega, ?_⟩
      rw [on_zero_cons, he, show B x = 1#32 <<< i.val from hi, it_down _ _ i.isLt]
    · obtain ⟨i, j, hij, hi⟩ := pc_two _ hx h1
      have hij2 : i.val < j.val := hij
      refine ⟨8 * t.length + 8 - j.val, 8 * t.length + 8 - i.val, by omega, by simp only [List.length_cons]; omega, ?_⟩
      rw [on_zero_cons, cnt_none t ht (by omega), BitVec.zero_xor, show B x = (1#32 <<< i.val) ^^^ (1#32 <<< j.val) from hi, it_xor, it_down _ _ i.isLt, it_down _ _ j.isLt, BitVec.xor_comm]
/-! ### an odd count -/
def pr : Nat → R → R
  | 0, _ => 0#32
  | n + 1, a => (a &&& 1#32) ^^^ pr n (a >>> 1)
theorem pr_xor (n : Nat) : ∀ a b : R, pr n (a ^^^ b) = pr n a ^^^ pr n b := by
  induction n with
  | zero => intro a b; simp [pr]
  | succ n ih =>
    intro a b
    have hand : (a ^^^ b) &&& 1#32 = (a &&& 1#32) ^^^ (b &&& 1#32) := by
      apply BitVec.eq_of_getLsbD_eq
      intro i hi
      simp only [BitVec.getLsbD_and, BitVec.getLsbD_xor]
      cases a.getLsbD i <;> cases b.getLsbD i <;> cases (1#32).getLsbD i <;> rfl
    simp only [pr]
    rw [BitVec.ushiftRight_xor_distrib, ih, hand]
    ac_rfl
theorem pr_half (a : R) : pr 32 (half a) = pr 32 a :=
  lin_ext (f := fun a => pr 32 (half a)) (g := pr 32) (fun a b => by rw [half_xor, pr_xor]) (pr_xor 32) (by decide +kernel) a
theorem pr_it (n : Nat) : ∀ a, pr 32 (it n a) = pr 32 a := by
  induction n with
  | zero => intro a; rfl
  | succ n ih =>
    intro a
    show pr 32 (it n (half a)) = _
    rw [ih, pr_half]
theorem pr_byte : ∀ d : Nat, d < 256 → pr 32 (BitVec.ofNat 32 d) = BitVec.ofNat 32 (pc d % 2) := by decide +kernel
theorem mod2_xor (a b : Nat) : BitVec.ofNat 32 (a % 2) ^^^ BitVec.ofNat 32 (b % 2) = BitVec.ofNat 32 ((a + b) % 2) := by
  have h1 : a % 2 = 0 ∨ a % 2 = 1 := by omega
  have h2 : b % 2 = 0 ∨ b % 2 = 1 := by omega
  rw [Nat.add_mod]
  rcases h1 with h1 | h1 <;> rcases h2 with h2 | h2 <;> rw [h1, h2] <;> decide
theorem pr_on (e : List Int) (h : IsBytes e) : ∀ r : R, pr 32 (on r e) = pr 32 r ^^^ BitVec.ofNat 32 (cnt e % 2) := by
  induction e with
  | nil => intro r; simp [on, cnt]
  | cons x t ih =>
    intro r
    have hx := toNat_lt (h x (List.mem_cons_self ..))
    rw [on_cons, ih (fun y hy => h y (List.mem_cons_of_mem _ hy)), pr_it, pr_xor, show pr 32 (B x) = BitVec.ofNat 32 (pc x.toNat % 2) from pr_byte _ hx, BitVec.xor_assoc, mod2_xor]
    rfl
/-- Some bits, but not too many, or an odd number of them, are seen. -/
theorem noticed (e : List Int) (h : IsBytes e) (hl : 8 * e.length < 2147483647) (hc : cnt e % 2 = 1 ∨ cnt e = 2) : on 0#32 e ≠ 0#32 := by
  rcases hc with hc | hc
  · intro h0
    have := pr_on e h 0#32
    rw [h0, hc] at this
    exact absurd this (by decide +kernel)
  · obtain ⟨a, b, hab, hb, he⟩ := cnt_two e h hc
    rw [he]
    exact two_apart hab (by omega)
end Go.Proofs.YtlblleideihhmaaDoor.FewLaw
