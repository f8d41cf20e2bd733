/- Frames with turned bits: what Unseal makes of them. -/
import Derived.Test.YtlblleideihhmaaDoorPBx2
import Derived.Test.YtlblleideihhmaaDoorPBx4
import Derived.Test.YtlblleideihhmaaDoorUnLaw
namespace Go.Proofs.YtlblleideihhmaaDoor.ErrLaw
open Go Go.RowKit Go.Proofs.YtlblleideihhmaaDoor.Crc Go.Proofs.YtlblleideihhmaaDoor.CrcLaw Go.Proofs.YtlblleideihhmaaDoor.SealLaw Go.Proofs.YtlblleideihhmaaDoor.FrMore Go.Proofs.YtlblleideihhmaaDoor.UnLaw Go.Proofs.YtlblleideihhmaaDoor.Num Go.Proofs.YtlblleideihhmaaDoorW.PrintWords Go.Proofs.YtlblleideihhmaaDoorW.PrintLast Go.Proofs.YtlblleideihhmaaDoor.PB
set_option linter.unusedVariables false

/-! ### a step back -/
def unhalf (s : R) : R := ((s ^^^ (bif s.getLsbD 31 then poly else 0#32)) <<< 1) ^^^ (bif s.getLsbD 31 then 1#32 else 0#32)
theorem bif_xor (p q : Bool) (x : R) : (bif (p ^^ q) then x else 0#32) = (bif p then x else 0#32) ^^^ (bif q then x else 0#32) := by
  cases p <;> cases q <;> simp
theorem unhalf_xor (a b : R) : unhalf (a ^^^ b) = unhalf a ^^^ unhalf b := by
  unfold unhalf
  rw [BitVec.getLsbD_xor, bif_xor, bif_xor, show a ^^^ b ^^^ ((bif a.getLsbD 31 then poly else 0#32) ^^^ (bif b.getLsbD 31 then poly else 0#32)) = (a ^^^ (bif a.getLsbD 31 then poly else 0#32)) ^^^ (b ^^^ (bif b.getLsbD 31 then poly else 0#32)) by ac_rfl, BitVec.shiftLeft_xor_distrib]
  ac_rfl
theorem unhalf_half (r : R) : unhalf (half r) = r :=
  lin_ext (f := fun r => unhalf (half r)) (g := fun r => r) (fun a b => by rw [half_xor, unhalf_xor]) (fun _ _ => rfl) (by decide +kernel) r
theorem half_inj {a b : R} (h : half a = half b) : a = b := by rw [← unhalf_half a, h, unhalf_half]
theorem it_inj (n : Nat) : ∀ {a b : R}, it n a = it n b → a = b := by
  induction n with
  | zero => intro a b h; exact h
  | succ n ih =>
    intro a b h
    exact half_inj (ih h)
theorem it_eq_zero {n : Nat} {a : R} (h : it n a = 0#32) : a = 0#32 := it_inj n (h.trans (it_zero n).symm)

/-! ### the order of a step -/
def sq : Nat → R
  | 0 => 0x40000000#32
  | n + 1 => tm (sq n) (sq n)
theorem sq_rounds : ∀ n, Rounds (sq n) (2 ^ n)
  | 0 => Rounds.one
  | n + 1 => by
    have := (sq_rounds n).mul (sq_rounds n)
    rw [show 2 ^ (n + 1) = 2 ^ n + 2 ^ n by rw [Nat.pow_succ]; omega]
    exact this
theorem sq31 : sq 31 = 0x40000000#32 := by decide +kernel
theorem it_order (a : R) : it 2147483647 a = a := by
  have h1 := sq_rounds 31 a
  rw [sq31] at h1
  have h2 : half a = it (2 ^ 31) a := (tm_X1 a).symm.trans h1
  rw [show (2 : Nat) ^ 31 = 1 + 2147483647 by decide, it_add] at h2
  exact (half_inj h2).symm
def noDiv : Nat → Nat → Bool
  | 0, _ => true
  | f + 1, d => (2147483647 % d != 0) && noDiv f (d + 1)
def noDivs : Nat → Nat → Bool
  | 0, _ => true
  | f + 1, d => noDiv 216 d && noDivs f (d + 216)
theorem noDiv_sound (f : Nat) : ∀ d, noDiv f d = true → ∀ x, d ≤ x → x < d + f → 2147483647 % x ≠ 0 := by
  induction f with
  | zero => intro d _ x h1 h2; omega
  | succ f ih =>
    intro d h x h1 h2
    simp only [noDiv, Bool.and_eq_true] at h
    rcases Nat.lt_or_ge d x with h3 | h3
    · exact ih (d + 1) h.2 x h3 (by omega)
    · obtain rfl : x = d := by omega
      simpa using h.1
theorem noDivs_sound (f : Nat) : ∀ d, noDivs f d = true → ∀ x, d ≤ x → x < d + 216 * f → 2147483647 % x ≠ 0 := by
  induction f with
  | zero => intro d _ x h1 h2; omega
  | succ f ih =>
    intro d h x h1 h2
    simp only [noDivs, Bool.and_eq_true] at h
    rcases Nat.lt_or_ge x (d + 216) with h3 | h3
    · exact noDiv_sound 216 d h.1 x h1 h3
    · exact ih (d + 216) h.2 x h3 (by omega)
theorem checked : noDivs 215 2 = true := by decide +kernel
theorem prime {n : Nat} (h1 : 1 < n) (h2 : n < 2147483647) : 2147483647 % n ≠ 0 := by
  intro h
  have hs := noDivs_sound 215 2 checked
  rcases Nat.lt_or_ge n 46342 with h3 | h3
  · exact hs n (by omega) (by omega) h
  · have hq : 2147483647 = n * (2147483647 / n) := by
      have := Nat.div_add_mod 2147483647 n
      omega
    have hl : 2147483647 / n < 46342 := Nat.div_lt_of_lt_mul (Nat.lt_of_lt_of_le (by decide : 2147483647 < 46342 * 46342) (Nat.mul_le_mul_right _ h3))
    generalize 2147483647 / n = q at hq hl
    have hq2 : 2 ≤ q := by
      rcases Nat.lt_or_ge q 2 with h4 | h4
      · have : q = 0 ∨ q = 1 := by omega
        rcases this with rfl | rfl <;> omega
      · exact h4
    refine hs q hq2 (by omega) ?_
    rw [hq, Nat.mul_mod_left]
theorem it_mul {n : Nat} {v : R} (h : it n v = v) : ∀ q, it (n * q) v = v
  | 0 => rfl
  | q + 1 => by rw [Nat.mul_succ, it_add, h, it_mul h q]
theorem no_period (n : Nat) : 0 < n → n < 2147483647 → it n 1#32 ≠ 1#32 := by
  induction n using Nat.strongRecOn with
  | _ n ih =>
    intro h0 h1 h
    rcases Nat.lt_or_ge 1 n with h2 | h2
    · have hp := prime h2 h1
      have hr : it (2147483647 % n) 1#32 = 1#32 := by
        have h3 := it_order 1#32
        have h4 : 2147483647 = 2147483647 % n + n * (2147483647 / n) := (Nat.mod_add_div _ _).symm
        rw [h4, it_add, it_mul h] at h3
        exact h3
      exact ih _ (Nat.mod_lt _ (by omega)) (by omega) (Nat.lt_trans (Nat.mod_lt _ (by omega)) h1) hr
    · obtain rfl : n = 1 := by omega
      exact absurd h (by decide)
theorem two_apart {a b : Nat} (h : a < b) (hb : b < 2147483647) : it a 1#32 ^^^ it b 1#32 ≠ 0#32 := by
  intro h1
  have h2 : it a 1#32 = it b 1#32 := BitVec.xor_eq_zero_iff.1 h1
  rw [show b = a + (b - a) by omega, it_add] at h2
  exact no_period (b - a) (by omega) (by omega) (it_inj a h2).symm

/-! ### a frame's end -/
theorem B_shift (c : R) (n : Nat) : B ((c.toNat / 2 ^ n % 256 : Nat) : Int) = (c >>> n) &&& 255#32 := by
  unfold B
  rw [Int.toNat_natCast]
  apply BitVec.eq_of_toNat_eq
  rw [BitVec.toNat_and, BitVec.toNat_ushiftRight, BitVec.toNat_ofNat, Nat.shiftRight_eq_div_pow, show (255#32).toNat = 2 ^ 8 - 1 from rfl, Nat.and_two_pow_sub_one_eq_mod]
  omega
theorem on_le (r c : R) : on r (le 4 c.toNat) = it 32 (r ^^^ c) := by
  have h0 := B_shift c 0
  have h1 := B_shift c 8
  have h2 := B_shift c 16
  have h3 := B_shift c 24
  simp only [Nat.pow_zero, Nat.div_one] at h0
  have e : on r (le 4 c.toNat) = it 8 (it 8 (it 8 (it 8 (r ^^^ ((c >>> 0) &&& 255#32)) ^^^ ((c >>> 8) &&& 255#32)) ^^^ ((c >>> 16) &&& 255#32)) ^^^ ((c >>> 24) &&& 255#32)) := by
    rw [← h0, ← h1, ← h2, ← h3]
    simp only [le, on, List.foldl_cons, List.foldl_nil, Nat.div_div_eq_div_mul]
  rw [e, it_xor 8, it_xor 8, it_xor 8, it_xor 8, it_xor 8, it_xor 8, it_xor 8, it_xor 8, it_xor 8, it_xor 8, it_xor 32]
  have hr : it 32 r = it 8 (it 8 (it 8 (it 8 r))) := by
    rw [← it_add, ← it_add, ← it_add]
  have hc : it 32 c = it 8 (it 8 (it 8 (it 8 ((c >>> 0) &&& 255#32)))) ^^^ it 8 (it 8 (it 8 ((c >>> 8) &&& 255#32))) ^^^ it 8 (it 8 ((c >>> 16) &&& 255#32)) ^^^ it 8 ((c >>> 24) &&& 255#32) := by
    have hand : ∀ (a b m : R), (a ^^^ b) &&& m = (a &&& m) ^^^ (b &&& m) := fun a b m => by
      apply BitVec.eq_of_getLsbD_eq
      intro i hi
      simp only [BitVec.getLsbD_and, BitVec.getLsbD_xor]
      cases a.getLsbD i <;> cases b.getLsbD i <;> cases m.getLsbD i <;> rfl
    refine lin_ext (f := it 32) (g := fun c => it 8 (it 8 (it 8 (it 8 ((c >>> 0) &&& 255#32)))) ^^^ it 8 (it 8 (it 8 ((c >>> 8) &&& 255#32))) ^^^ it 8 (it 8 ((c >>> 16) &&& 255#32)) ^^^ it 8 ((c >>> 24) &&& 255#32)) (it_xor 32) (fun a b => ?_) (by decide +kernel) c
    simp only [BitVec.ushiftRight_xor_distrib, hand, it_xor]
    ac_rfl
  rw [hr, hc]
  ac_rfl
/-- The register behind a frame that is whole. -/
def sound : R := it 32 0xffffffff#32
theorem tail_iff {x y : List Int} (hy : IsBytes y) (hl : y.length = 4) : (((leV y : Nat) : Int) = I (crc x)) = (on 0xffffffff#32 (x ++ y) = sound) := by
  have hlt := leV_lt y hy
  rw [hl] at hlt
  have hc : (BitVec.ofNat 32 (leV y)).toNat = leV y := by rw [BitVec.toNat_ofNat]; omega
  have hy2 : y = le 4 (BitVec.ofNat 32 (leV y)).toNat := by
    refine leV_inj _ _ (by rw [le_len, hl]) hy (le_bytes 4 _) ?_
    rw [leV_le, hc]; omega
  have hI : ((leV y : Nat) : Int) = I (BitVec.ofNat 32 (leV y)) := by unfold I; rw [hc]
  rw [hI, I_eq]
  generalize BitVec.ofNat 32 (leV y) = c at hy2
  subst hy2
  rw [on_append, on_le]
  have hcrc : crc x = 0xffffffff#32 ^^^ on 0xffffffff#32 x := by unfold crc crcOn; rw [BitVec.xor_zero]
  rw [hcrc]
  apply propext
  unfold sound
  constructor
  · rintro rfl
    rw [show on 0xffffffff#32 x ^^^ (0xffffffff#32 ^^^ on 0xffffffff#32 x) = 0xffffffff#32 ^^^ (on 0xffffffff#32 x ^^^ on 0xffffffff#32 x) by ac_rfl, BitVec.xor_self, BitVec.xor_zero]
  · intro h
    have h1 := it_inj 32 h
    have h2 : c = (on 0xffffffff#32 x ^^^ c) ^^^ on 0xffffffff#32 x := by
      rw [show on 0xffffffff#32 x ^^^ c ^^^ on 0xffffffff#32 x = c ^^^ (on 0xffffffff#32 x ^^^ on 0xffffffff#32 x) by ac_rfl, BitVec.xor_self, BitVec.xor_zero]
    rw [h1] at h2
    exact h2
theorem fr_sound (p : List Int) : on 0xffffffff#32 (fr p) = sound := by
  unfold fr
  rw [on_append, on_le]
  unfold crc crcOn sound
  rw [BitVec.xor_zero, show on 0xffffffff#32 (body p) ^^^ (0xffffffff#32 ^^^ on 0xffffffff#32 (body p)) = 0xffffffff#32 ^^^ (on 0xffffffff#32 (body p) ^^^ on 0xffffffff#32 (body p)) by ac_rfl, BitVec.xor_self, BitVec.xor_zero]
/-- How many bytes stand ahead of a load. -/
def hd (p : List Int) : Nat := 1 + (enc 10 p.length).length
theorem fr_length (p : List Int) : (fr p).length = hd p + p.length + 4 := by
  rw [fr_len]
  simp only [body, hd, List.length_cons, List.length_append]
  omega
theorem fr_hd (p : List Int) : fr p = (167 :: enc 10 p.length) ++ (p ++ le 4 (crc (body p)).toNat) := by rw [fr_eq]; rfl
/-- Unseal over bytes that begin as a frame and are as long. -/
theorem un_near (p own : List Int) (hp : p.length ≤ 65536) (ho : IsBytes own) (hl : own.length = (fr p).length) (ht : own.take (hd p) = (fr p).take (hd p)) :
    (on 0xffffffff#32 own = sound → un own = ((own.drop (hd p)).take p.length, (own.length : Int), 0, 0)) ∧ (on 0xffffffff#32 own ≠ sound → un own = ([], 0, 13, (own.length : Int) - 4)) := by
  have hL := fr_length p
  have hhd : (fr p).take (hd p) = 167 :: enc 10 p.length := by
    rw [fr_hd, List.take_append_of_le_length (by simp [hd]; omega), List.take_of_length_le (by simp [hd]; omega)]
  rw [hhd] at ht
  have hown : own = 167 :: (enc 10 p.length ++ own.drop (hd p)) := by
    conv => lhs; rw [← List.take_append_drop (hd p) own, ht]
    rfl
  have hug : ug 0 0 (own.drop 1) = ((p.length : Int), ((enc 10 p.length).length : Int), 0) := by
    have : own.drop 1 = enc 10 p.length ++ own.drop (hd p) := by
      conv => lhs; rw [hown]
      rfl
    rw [this, ug_enc0 _ (by omega)]
  have hg : own.getD 0 0 = 167 := by rw [hown]; rfl
  have hh : hd p = 1 + (enc 10 p.length).length := rfl
  have e1 : (1 + ((enc 10 p.length).length : Int) + (p.length : Int)) = ((own.length - 4 : Nat) : Int) := by omega
  have e2 : (1 + ((enc 10 p.length).length : Int) + (p.length : Int) + 4) = (own.length : Int) := by omega
  have hti := tail_iff (x := own.take (own.length - 4)) (y := own.drop (own.length - 4)) (ho.drop _) (by rw [List.length_drop]; omega)
  rw [List.take_append_drop] at hti
  unfold un
  rw [if_neg (by omega), if_pos hg, hug]
  simp only
  rw [if_pos trivial, if_neg (by omega), e2, e1, if_neg (by omega)]
  simp only [Int.toNat_natCast]
  rw [List.take_of_length_le (Nat.le_refl own.length)]
  constructor
  · intro h
    rw [if_pos (hti.mpr h), show (1 + ((enc 10 p.length).length : Int)).toNat = hd p by omega, List.drop_take, show own.length - 4 - hd p = p.length by omega]
  · intro h
    rw [if_neg (fun h2 => h (hti.mp h2))]
    congr 3
    omega
/-- Own bytes against a frame's: what is unlike. -/
theorem on_two : ∀ (x y a : List Int) (r s : R), x.length = y.length → y.length = a.length → (∀ i, i < x.length → B (x.getD i 0) ^^^ B (y.getD i 0) = B (a.getD i 0)) → on r x ^^^ on s y = on (r ^^^ s) a := by
  intro x
  induction x with
  | nil =>
    intro y a r s h1 h2 _
    obtain rfl : y = [] := List.eq_nil_of_length_eq_zero h1.symm
    obtain rfl : a = [] := List.eq_nil_of_length_eq_zero h2.symm
    rfl
  | cons u x ih =>
    intro y a r s h1 h2 h
    cases y with
    | nil => simp at h1
    | cons v y =>
      cases a with
      | nil => simp at h2
      | cons b a =>
        have h0 := h 0 (by simp)
        simp only [List.getD_cons_zero] at h0
        rw [on_cons, on_cons, on_cons, ih y a _ _ (by simpa using h1) (by simpa using h2) (fun i hi => by simpa using h (i + 1) (by simpa using hi)), ← it_xor, ← h0]
        congr 2
        ac_rfl
/-- A turned bit. -/
theorem bit_k (t : Nat) (h : t < 8) : B ((2 ^ t : Nat) : Int) = 1#32 <<< t := by
  revert h; revert t; decide +kernel
theorem it_bit (t : Nat) (h : t < 32) : it t (1#32 <<< t) = 1#32 := by
  revert h; revert t; decide +kernel
theorem set_on : ∀ (x : List Int) (j : Nat) (v d : Int) (r : R), j < x.length → B v = B (x.getD j 0) ^^^ B d → on r (x.set j v) = on r x ^^^ it (8 * (x.length - j)) (B d) := by
  intro x
  induction x with
  | nil => intro j v d r h; simp at h
  | cons u x ih =>
    intro j v d r h hv
    cases j with
    | zero =>
      simp only [List.set_cons_zero, List.getD_cons_zero] at hv ⊢
      rw [on_cons, on_cons, hv, ← BitVec.xor_assoc, it_xor, on_lin, ← it_add, List.length_cons]
      rfl
    | succ j =>
      simp only [List.set_cons_succ, List.getD_cons_succ] at hv ⊢
      rw [on_cons, on_cons, ih j v d _ (by simpa using h) hv, List.length_cons, Nat.add_sub_add_right]
theorem xor8 {a b : Int} (ha : 0 ≤ a ∧ a < 256) (hb : 0 ≤ b ∧ b < 256) : (0 ≤ Go.bits .xor .u8 a b ∧ Go.bits .xor .u8 a b < 256) ∧ B (Go.bits .xor .u8 a b) = B a ^^^ B b := by
  obtain ⟨n, rfl⟩ : ∃ n : Nat, a = n := ⟨a.toNat, by omega⟩
  obtain ⟨m, rfl⟩ : ∃ m : Nat, b = m := ⟨b.toNat, by omega⟩
  have hn : n < 256 := by omega
  have hm : m < 256 := by omega
  have hx : n ^^^ m < 256 := Nat.xor_lt_two_pow (n := 8) hn hm
  have e : Go.bits .xor .u8 (n : Int) (m : Int) = ((n ^^^ m : Nat) : Int) := by
    show IntKind.u8.wrap (((BitVec.ofInt 8 (n : Int) ^^^ BitVec.ofInt 8 (m : Int)).toNat : Nat) : Int) = _
    rw [BitVec.ofInt_natCast, BitVec.ofInt_natCast, BitVec.toNat_xor, BitVec.toNat_ofNat, BitVec.toNat_ofNat, Nat.mod_eq_of_lt (by omega), Nat.mod_eq_of_lt (by omega), IntKind.wrap_u8']
    omega
  rw [e]
  refine ⟨by omega, ?_⟩
  unfold B
  apply BitVec.eq_of_toNat_eq
  rw [BitVec.toNat_xor, BitVec.toNat_ofNat, BitVec.toNat_ofNat, BitVec.toNat_ofNat, Int.toNat_natCast, Int.toNat_natCast, Int.toNat_natCast, Nat.mod_eq_of_lt (by omega), Nat.mod_eq_of_lt (by omega), Nat.mod_eq_of_lt (by omega)]
theorem rd_bytes {l : List Int} (hb : IsBytes l) (i : Nat) (h : i < l.length) : rd l (i : Int) = l.getD i 0 ∧ 0 ≤ l.getD i 0 ∧ l.getD i 0 < 256 := by
  refine ⟨rfl, ?_⟩
  rw [List.getD_eq_getElem?_getD, List.getElem?_eq_getElem h, Option.getD_some]
  exact hb _ (List.getElem_mem h)
theorem within_ok (a : Int) (M : Nat) (h0 : -9223372036854775808 ≤ a) (h1 : a ≤ 9223372036854775807) (hM : 0 < M) (hM2 : M < 4611686018427387904) : ∃ t : Nat, t < M ∧ larderlaw01_within.f a (M : Int) = some (t : Int) := by
  unfold larderlaw01_within.f
  rw [if_neg (by omega)]
  by_cases h : 0 ≤ a
  · have e := Int.tmod_eq_emod_of_nonneg (b := (M : Int)) h
    have p1 := Int.emod_nonneg a (show (M : Int) ≠ 0 by omega)
    have p2 := Int.emod_lt_of_pos a (show (0 : Int) < M by omega)
    rw [e, if_neg (by omega)]
    exact ⟨(a % (M : Int)).toNat, by omega, by rw [Int.toNat_of_nonneg p1]⟩
  · have e : Int.tmod a (M : Int) = -((-a) % (M : Int)) := by
      rw [← Int.tmod_eq_emod_of_nonneg (show 0 ≤ -a by omega), Int.neg_tmod, Int.neg_neg]
    have p1 := Int.emod_nonneg (-a) (show (M : Int) ≠ 0 by omega)
    have p2 := Int.emod_lt_of_pos (-a) (show (0 : Int) < M by omega)
    rw [e]
    generalize (-a) % (M : Int) = q at p1 p2
    by_cases hq : -q < 0
    · rw [if_pos hq, w64 (by omega) (by omega)]
      exact ⟨(-q + (M : Int)).toNat, by omega, by rw [Int.toNat_of_nonneg (by omega)]⟩
    · rw [if_neg hq]
      exact ⟨0, hM, by congr 1; omega⟩
theorem law_joined (a b : List Int) (h : a.length + b.length < 140737488355328) : larderlaw01_joined.f a b = some (a ++ b) := by
  unfold larderlaw01_joined.f
  rw [List.length_nil, if_pos (by omega)]
  simp only [Option.bind_some, List.nil_append]
  rw [if_pos h]
theorem shl8 (t : Nat) (h : t < 8) : shl .u8 1 (t : Int) = ((2 ^ t : Nat) : Int) := by
  revert h; revert t; decide +kernel
theorem pow8 (t : Nat) (h : t < 8) : (0 : Int) ≤ ((2 ^ t : Nat) : Int) ∧ ((2 ^ t : Nat) : Int) < 256 := by
  revert h; revert t; decide +kernel
/-- A turned bit, at its place. -/
theorem turn {x : List Int} (hx : IsBytes x) (pos : Nat) (h : pos / 8 < x.length) (r : R) :
    IsBytes (x.set (pos / 8) (Go.bits .xor .u8 (x.getD (pos / 8) 0) ((2 ^ (pos % 8) : Nat) : Int))) ∧
      on r (x.set (pos / 8) (Go.bits .xor .u8 (x.getD (pos / 8) 0) ((2 ^ (pos % 8) : Nat) : Int))) = on r x ^^^ it (8 * x.length - pos) 1#32 := by
  have hb := (rd_bytes hx (pos / 8) h).2
  have hv := xor8 hb (pow8 (pos % 8) (Nat.mod_lt _ (by decide)))
  constructor
  · intro y hy
    rcases List.mem_or_eq_of_mem_set hy with h1 | h1
    · exact hx y h1
    · rw [h1]; exact hv.1
  · rw [set_on x (pos / 8) _ _ r h hv.2, bit_k _ (Nat.mod_lt _ (by decide)), show 8 * (x.length - pos / 8) = (8 * x.length - pos) + pos % 8 by omega, it_add, it_bit _ (by omega)]
end Go.Proofs.YtlblleideihhmaaDoor.ErrLaw
