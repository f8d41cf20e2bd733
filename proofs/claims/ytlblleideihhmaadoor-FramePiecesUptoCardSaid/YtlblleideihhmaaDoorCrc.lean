/- Plain facts on the sum's register: halving steps, products, tables. No program in sight. -/
import Derived.Laws.BitsAllLaws
import Derived.Laws.BitsLemmas
namespace Go.Proofs.YtlblleideihhmaaDoor.Crc
open Go

abbrev R := BitVec 32
def poly : R := 0x82f63b78#32
/-- One bit on. -/
def half (r : R) : R := (r >>> 1) ^^^ (bif r.getLsbD 0 then poly else 0#32)

theorem half_xor (a b : R) : half (a ^^^ b) = half a ^^^ half b := by
  unfold half
  rw [BitVec.getLsbD_xor, BitVec.ushiftRight_xor_distrib]
  cases a.getLsbD 0 <;> cases b.getLsbD 0 <;> simp
  · ac_rfl
  · ac_rfl
  · rw [show a >>> 1 ^^^ poly ^^^ (b >>> 1 ^^^ poly) = (a >>> 1 ^^^ b >>> 1) ^^^ (poly ^^^ poly) from by ac_rfl, BitVec.xor_self, BitVec.xor_zero]
theorem half_zero : half 0#32 = 0#32 := by decide

def it : Nat → R → R
  | 0, r => r
  | n + 1, r => it n (half r)
theorem it_xor (n : Nat) : ∀ a b : R, it n (a ^^^ b) = it n a ^^^ it n b := by
  induction n with
  | zero => intro a b; rfl
  | succ n ih => intro a b; simp only [it, half_xor, ih]
theorem it_zero (n : Nat) : it n 0#32 = 0#32 := by
  induction n with
  | zero => rfl
  | succ n ih => simp only [it, half_zero, ih]
theorem it_half (n : Nat) : ∀ r, it n (half r) = half (it n r) := by
  induction n with
  | zero => intro r; rfl
  | succ n ih => intro r; simp only [it, ih]
theorem it_add (m n : Nat) : ∀ r, it (m + n) r = it m (it n r) := by
  induction n with
  | zero => intro r; rfl
  | succ n ih => intro r; rw [show m + (n + 1) = (m + n) + 1 from rfl]; simp only [it, ih]

/-- What the first n rounds of the product add. -/
def T : Nat → R → R → R
  | 0, _, _ => 0#32
  | n + 1, a, b => (bif a.msb then b else 0#32) ^^^ T n (a <<< 1) (half b)
def tm (a b : R) : R := T 32 a b

theorem T_succ (n : Nat) (a b : R) : T (n + 1) a b = (bif a.msb then b else 0#32) ^^^ T n (a <<< 1) (half b) := rfl
theorem T_zero_left (n : Nat) : ∀ b, T n 0#32 b = 0#32 := by
  induction n with
  | zero => intro b; rfl
  | succ n ih => intro b; simp [T, ih]
theorem T_xor_left (n : Nat) : ∀ a a' b, T n (a ^^^ a') b = T n a b ^^^ T n a' b := by
  induction n with
  | zero => intro a a' b; simp [T]
  | succ n ih =>
    intro a a' b
    simp only [T]
    rw [BitVec.msb_xor, BitVec.shiftLeft_xor_distrib, ih]
    cases a.msb <;> cases a'.msb <;> simp
    · ac_rfl
    · ac_rfl
    · rw [show b ^^^ T n (a <<< 1) (half b) ^^^ (b ^^^ T n (a' <<< 1) (half b)) = (b ^^^ b) ^^^ (T n (a <<< 1) (half b) ^^^ T n (a' <<< 1) (half b)) from by ac_rfl, BitVec.xor_self, BitVec.zero_xor]
theorem T_xor_right (n : Nat) : ∀ a b b', T n a (b ^^^ b') = T n a b ^^^ T n a b' := by
  induction n with
  | zero => intro a b b'; simp [T]
  | succ n ih =>
    intro a b b'
    simp only [T]
    rw [half_xor, ih]
    cases a.msb <;> simp
    ac_rfl
theorem T_half (n : Nat) : ∀ a b, T n a (half b) = half (T n a b) := by
  induction n with
  | zero => intro a b; simp [T, half_zero]
  | succ n ih =>
    intro a b
    simp only [T]
    rw [half_xor, ih]
    cases a.msb <;> simp [half_zero]
theorem tm_xor_left (a a' b : R) : tm (a ^^^ a') b = tm a b ^^^ tm a' b := T_xor_left 32 a a' b
theorem tm_xor_right (a b b' : R) : tm a (b ^^^ b') = tm a b ^^^ tm a b' := T_xor_right 32 a b b'
theorem tm_half_right (a b : R) : tm a (half b) = half (tm a b) := T_half 32 a b

/-! ### what is the same on the 32 single bits is the same -/
def low (n : Nat) (a : R) : R := BitVec.ofNat 32 (a.toNat % 2 ^ n)
theorem low_get (n : Nat) (a : R) (i : Nat) (hi : i < 32) : (low n a).getLsbD i = (decide (i < n) && a.getLsbD i) := by
  unfold low
  rw [BitVec.getLsbD_ofNat, Nat.testBit_mod_two_pow]
  simp [hi, BitVec.getLsbD]
theorem low_succ (n : Nat) (hn : n < 32) (a : R) : low (n + 1) a = low n a ^^^ (bif a.getLsbD n then 1#32 <<< n else 0#32) := by
  apply BitVec.eq_of_getLsbD_eq
  intro i hi
  rw [BitVec.getLsbD_xor, low_get _ _ _ hi, low_get _ _ _ hi]
  by_cases e : i = n
  · subst e
    cases h : a.getLsbD i <;> simp [hi]
  · have h2 : (bif a.getLsbD n then 1#32 <<< n else 0#32).getLsbD i = false := by
      cases a.getLsbD n
      · simp
      · simp only [cond_true, BitVec.getLsbD_shiftLeft, BitVec.getLsbD_one]
        by_cases h3 : i < n
        · simp [h3]
        · have : i - n ≠ 0 := by omega
          simp [this]
    rw [h2]
    have : decide (i < n + 1) = decide (i < n) := by simp; omega
    rw [this]
    simp
theorem low_all (a : R) : low 32 a = a := by
  unfold low
  rw [Nat.mod_eq_of_lt a.isLt]
  simp
theorem lin_zero {f : R → R} (hf : ∀ a b, f (a ^^^ b) = f a ^^^ f b) : f 0#32 = 0#32 := by
  have h := hf 0#32 0#32
  rw [BitVec.xor_self] at h
  have h2 : f 0#32 ^^^ f 0#32 = 0#32 := BitVec.xor_self
  rw [h2] at h
  exact h
theorem lin_ext {f g : R → R} (hf : ∀ a b, f (a ^^^ b) = f a ^^^ f b) (hg : ∀ a b, g (a ^^^ b) = g a ^^^ g b) (h : ∀ i, i < 32 → f (1#32 <<< i) = g (1#32 <<< i)) (a : R) : f a = g a := by
  have key : ∀ n, n ≤ 32 → f (low n a) = g (low n a) := by
    intro n
    induction n with
    | zero =>
      intro _
      have : low 0 a = 0#32 := by unfold low; simp [Nat.mod_one]
      rw [this, lin_zero hf, lin_zero hg]
    | succ n ih =>
      intro hn
      rw [low_succ n (by omega), hf, hg, ih (by omega)]
      cases a.getLsbD n
      · simp [lin_zero hf, lin_zero hg]
      · simp [h n (by omega)]
  have := key 32 (Nat.le_refl _)
  rwa [low_all] at this

theorem halfs_basis : ∀ i, i < 32 → ∀ j, j < 32 → tm (half (1#32 <<< i)) (1#32 <<< j) = half (tm (1#32 <<< i) (1#32 <<< j)) := by decide +kernel
theorem tm_half_left (q a : R) : tm (half q) a = half (tm q a) := by
  refine lin_ext (f := fun q => tm (half q) a) (g := fun q => half (tm q a)) (fun x y => by simp only [half_xor, tm_xor_left]) (fun x y => by simp only [half_xor, tm_xor_left]) (fun i hi => ?_) q
  refine lin_ext (f := fun a => tm (half (1#32 <<< i)) a) (g := fun a => half (tm (1#32 <<< i) a)) (fun x y => by simp only [tm_xor_right]) (fun x y => by simp only [half_xor, tm_xor_right]) (fun j hj => halfs_basis i hi j hj) a
theorem T_tm (n : Nat) : ∀ p q a, tm (T n p q) a = T n p (tm q a) := by
  induction n with
  | zero => intro p q a; simp only [T]; exact T_zero_left 32 a
  | succ n ih =>
    intro p q a
    simp only [T]
    rw [tm_xor_left, ih, tm_half_left]
    cases p.msb
    · simp only [cond_false]; rw [show tm 0#32 a = 0#32 from T_zero_left 32 a]
    · simp only [cond_true]
theorem tm_tm (p q a : R) : tm (tm p q) a = tm p (tm q a) := T_tm 32 p q a
theorem tm_X0 (b : R) : tm 0x80000000#32 b = b := by
  show T (31 + 1) 0x80000000#32 b = b
  rw [T_succ]
  rw [show (0x80000000#32).msb = true from by decide, show 0x80000000#32 <<< 1 = 0#32 from by decide, T_zero_left]
  simp
theorem tm_X1 (b : R) : tm 0x40000000#32 b = half b := by
  show T (30 + 1 + 1) 0x40000000#32 b = half b
  rw [T_succ, T_succ, show (0x40000000#32).msb = false from by decide, show 0x40000000#32 <<< 1 = 0x80000000#32 from by decide, show (0x80000000#32).msb = true from by decide, show 0x80000000#32 <<< 1 = 0#32 from by decide, T_zero_left]
  simp
/-- p stands for n steps. -/
def Rounds (p : R) (n : Nat) : Prop := ∀ a, tm p a = it n a
theorem Rounds.zero : Rounds 0x80000000#32 0 := tm_X0
theorem Rounds.one : Rounds 0x40000000#32 1 := tm_X1
theorem Rounds.mul {p q : R} {m n : Nat} (hp : Rounds p m) (hq : Rounds q n) : Rounds (tm p q) (m + n) := fun a => by rw [tm_tm, hq, hp, it_add]

/-! ### numbers -/
def I (a : R) : Int := (a.toNat : Int)
theorem I_mk {a : Int} (h0 : 0 ≤ a) (h1 : a < 4294967296) : ∃ A : R, a = I A := by
  refine ⟨BitVec.ofNat 32 a.toNat, ?_⟩
  unfold I
  rw [BitVec.toNat_ofNat, Nat.mod_eq_of_lt (by omega)]
  omega
theorem I_bd (A : R) : 0 ≤ I A ∧ I A < 4294967296 := by
  have := A.isLt
  unfold I
  omega
theorem I_inj {A B : R} (h : I A = I B) : A = B := by
  unfold I at h
  exact BitVec.eq_of_toNat_eq (by omega)
theorem I_eq {A B : R} : I A = I B ↔ A = B := ⟨I_inj, fun h => by rw [h]⟩
theorem ofInt_I (A : R) : BitVec.ofInt 32 (I A) = A := by
  unfold I
  rw [BitVec.ofInt_natCast]
  simp
theorem wrap_I (A : R) : IntKind.u32.wrap ((A.toNat : Nat) : Int) = I A := by
  rw [IntKind.wrap_u32']
  have := I_bd A
  unfold I at *
  omega
theorem I_xor (A B : R) : Go.bits .xor .u32 (I A) (I B) = I (A ^^^ B) := by
  unfold Go.bits
  show IntKind.u32.wrap (((BitVec.ofInt 32 (I A) ^^^ BitVec.ofInt 32 (I B)).toNat : Nat) : Int) = _
  rw [ofInt_I, ofInt_I, wrap_I]
theorem I_and (A B : R) : Go.bits .and .u32 (I A) (I B) = I (A &&& B) := by
  unfold Go.bits
  show IntKind.u32.wrap (((BitVec.ofInt 32 (I A) &&& BitVec.ofInt 32 (I B)).toNat : Nat) : Int) = _
  rw [ofInt_I, ofInt_I, wrap_I]
theorem I_lit (n : Nat) (h : n < 4294967296) : I (BitVec.ofNat 32 n) = (n : Int) := by
  unfold I
  rw [BitVec.toNat_ofNat, Nat.mod_eq_of_lt (by omega)]
theorem I_shl (A : R) : (I A * (2 : Int)) % (4294967296 : Int) = I (A <<< 1) := by
  unfold I
  rw [BitVec.toNat_shiftLeft, Nat.shiftLeft_eq]
  omega
theorem I_shr (A : R) : I A / (2 : Int) = I (A >>> 1) := by
  unfold I
  rw [BitVec.toNat_ushiftRight, Nat.shiftRight_eq_div_pow]
  omega
theorem I_shrn (A : R) (n : Nat) : I A / (2 : Int) ^ n = I (A >>> n) := by
  unfold I
  rw [BitVec.toNat_ushiftRight, Nat.shiftRight_eq_div_pow]
  simp
theorem and1 (A : R) : A &&& 1#32 = (bif A.getLsbD 0 then 1#32 else 0#32) := by
  apply BitVec.eq_of_getLsbD_eq
  intro i hi
  rw [BitVec.getLsbD_and, BitVec.getLsbD_one]
  by_cases e : i = 0
  · subst e; cases h : A.getLsbD 0 <;> simp
  · have : decide (i = 0) = false := by simp [e]
    cases h : A.getLsbD 0 <;> simp [e, BitVec.getLsbD_one]
theorem lsb_if (A : R) : (Go.bits .and .u32 (I A) 1 = 0) = (A.getLsbD 0 = false) := by
  rw [show (1 : Int) = I 1#32 from rfl, I_and, show (0 : Int) = I 0#32 from rfl, I_eq, and1]
  cases A.getLsbD 0 <;> simp
theorem half_if (A : R) : I (half A) = if Go.bits .and .u32 (I A) 1 = 0 then I A / (2 : Int) else Go.bits .xor .u32 (I A / (2 : Int)) 2197175160 := by
  rw [I_shr, show (2197175160 : Int) = I poly from rfl, I_xor]
  cases h : A.getLsbD 0
  · rw [if_pos (by rw [lsb_if]; exact h)]
    unfold half
    rw [h]
    simp
  · rw [if_neg (by rw [lsb_if, h]; decide)]
    unfold half
    rw [h]
    simp
theorem msb_if (A : R) : (Go.bits .and .u32 (I A) 2147483648 = 0) = (A.msb = false) := by
  rw [show (2147483648 : Int) = I 0x80000000#32 from rfl, I_and, show (0 : Int) = I 0#32 from rfl, I_eq]
  have : A &&& 0x80000000#32 = (bif A.msb then 0x80000000#32 else 0#32) := by
    apply BitVec.eq_of_getLsbD_eq
    intro i hi
    rw [BitVec.getLsbD_and, BitVec.msb_eq_getLsbD_last, show (0x80000000#32) = 1#32 <<< 31 from by decide, BitVec.getLsbD_shiftLeft, BitVec.getLsbD_one]
    by_cases e : i = 31
    · subst e; cases h : A.getLsbD 31 <;> simp
    · have h1 : i < 31 := by omega
      have h2 : (1#32 <<< 31).getLsbD i = false := by rw [BitVec.getLsbD_shiftLeft]; simp [h1]
      cases h : A.getLsbD (32 - 1)
      · simp [h1]
      · simp only [cond_true, h2]
        simp [h1]
  rw [this]
  cases A.msb <;> simp

theorem i64_and1 (n : Nat) (h : n < 9223372036854775808) : Go.bits .and .i64 (n : Int) 1 = ((n % 2 : Nat) : Int) := by
  unfold Go.bits
  show IntKind.i64.wrap (((BitVec.ofInt 64 (n : Int) &&& BitVec.ofInt 64 1).toNat : Nat) : Int) = _
  rw [BitVec.toNat_and, BitVec.ofInt_natCast, BitVec.toNat_ofNat, show (BitVec.ofInt 64 1).toNat = 1 from rfl, Nat.mod_eq_of_lt (by omega), Nat.and_one_is_mod, IntKind.wrap_i64]
  omega
end Go.Proofs.YtlblleideihhmaaDoor.Crc
