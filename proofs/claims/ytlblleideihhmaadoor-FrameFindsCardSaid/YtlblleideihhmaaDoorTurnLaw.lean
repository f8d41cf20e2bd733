/- The one bit that must be turned: what the program and the document tell of it. -/
import Derived.Test.YtlblleideihhmaaDoorPBx2
import Derived.Test.YtlblleideihhmaaDoorErrLaw
namespace Go.Proofs.YtlblleideihhmaaDoor.TurnLaw
open Go Go.RowKit Go.Proofs.YtlblleideihhmaaDoor.Mine Go.Proofs.YtlblleideihhmaaDoor.Crc Go.Proofs.YtlblleideihhmaaDoor.CrcLaw Go.Proofs.YtlblleideihhmaaDoor.SealLaw Go.Proofs.YtlblleideihhmaaDoor.FrMore Go.Proofs.YtlblleideihhmaaDoor.UnLaw Go.Proofs.YtlblleideihhmaaDoor.ErrLaw Go.Proofs.YtlblleideihhmaaDoor.Num Go.Proofs.YtlblleideihhmaaDoorW.PrintWords Go.Proofs.YtlblleideihhmaaDoorW.PrintLast Go.Proofs.YtlblleideihhmaaDoor.PB
set_option linter.unusedVariables false

/-- The answer is the one bit of n whose turn makes the difference, or none. -/
def Told (n : Nat) (want : R) (r : Int × Bool) : Prop :=
  (∀ pos, pos < n → it (n - pos) 1#32 = want → r = ((pos : Int), true)) ∧ ((∀ pos, pos < n → it (n - pos) 1#32 ≠ want) → r = (-1, false))
theorem Told.eq {n : Nat} {want : R} {r r' : Int × Bool} (h : Told n want r) (h' : Told n want r') : r = r' := by
  by_cases he : ∃ pos, pos < n ∧ it (n - pos) 1#32 = want
  · obtain ⟨pos, h1, h2⟩ := he
    rw [h.1 pos h1 h2, h'.1 pos h1 h2]
  · have hn : ∀ pos, pos < n → it (n - pos) 1#32 ≠ want := fun pos h1 h2 => he ⟨pos, h1, h2⟩
    rw [h.2 hn, h'.2 hn]
theorem one_place {n a b : Nat} {want : R} (hn : n < 2147483647) (ha : a < n) (hb : b < n) (h1 : it (n - a) 1#32 = want) (h2 : it (n - b) 1#32 = want) : a = b := by
  rcases Nat.lt_trichotomy a b with h | h | h
  · exact absurd (show it (n - b) 1#32 ^^^ it (n - a) 1#32 = 0#32 by rw [h1, h2, BitVec.xor_self]) (two_apart (by omega) (by omega))
  · exact h
  · exact absurd (show it (n - a) 1#32 ^^^ it (n - b) 1#32 = 0#32 by rw [h1, h2, BitVec.xor_self]) (two_apart (by omega) (by omega))
/-! ### the program's way -/
theorem mv_I (r : R) : mv (I r) = I (it 8 r) := by unfold mv; rw [nib_I, nib_I, ← it_add]
def row (m : Nat) : List Int := (List.range 8).map fun k => I (it (m + 8 - k) 1#32)
theorem row_at (m k : Nat) (hk : k < 8) : (row m).getD k 0 = I (it (m + 8 - k) 1#32) := by
  unfold row
  rw [List.getD_eq_getElem?_getD, List.getElem?_map, List.getElem?_range hk]
  rfl
theorem row_length (m : Nat) : (row m).length = 8 := by unfold row; simp
theorem bits0_row : bits0 = row 0 := by
  have h : ∀ k : Nat, k < 8 → (2 : Int) ^ k % (4294967296 : Int) = I (1#32 <<< k) := by decide +kernel
  unfold bits0 row
  refine List.map_congr_left (fun k hk => ?_)
  have hk8 : k < 8 := List.mem_range.1 hk
  rw [h k hk8, mv_I, show (8 : Nat) = (0 + 8 - k) + k by omega, it_add, it_bit k (by omega), show 0 + (0 + 8 - k + k) - k = 0 + 8 - k by omega]
theorem row_map (m : Nat) : (row m).map mv = row (m + 8) := by
  unfold row
  rw [List.map_map]
  refine List.map_congr_left (fun k hk => ?_)
  have hk8 : k < 8 := List.mem_range.1 hk
  show mv (I _) = _
  rw [mv_I, ← it_add, show 8 + (m + 8 - k) = m + 8 + 8 - k by omega]
theorem findk_some (w : Int) : ∀ (xs : List Int) (k0 k : Nat), findk w xs k0 = some k → k0 ≤ k ∧ k < k0 + xs.length ∧ xs.getD (k - k0) 0 = w := by
  intro xs
  induction xs with
  | nil => intro k0 k h; simp [findk] at h
  | cons x t ih =>
    intro k0 k h
    rw [findk] at h
    by_cases hx : x = w
    · rw [if_pos hx] at h
      obtain rfl := Option.some.inj h
      exact ⟨Nat.le_refl _, by simp, by rw [Nat.sub_self, List.getD_cons_zero, hx]⟩
    · rw [if_neg hx] at h
      obtain ⟨h1, h2, h3⟩ := ih (k0 + 1) k h
      refine ⟨by omega, by simp only [List.length_cons]; omega, ?_⟩
      rw [show k - k0 = (k - (k0 + 1)) + 1 by omega, List.getD_cons_succ]
      exact h3
theorem findk_none (w : Int) : ∀ (xs : List Int) (k0 : Nat), findk w xs k0 = none → ∀ j, j < xs.length → xs.getD j 0 ≠ w := by
  intro xs
  induction xs with
  | nil => intro k0 _ j hj; simp at hj
  | cons x t ih =>
    intro k0 h j hj
    rw [findk] at h
    by_cases hx : x = w
    · rw [if_pos hx] at h; cases h
    · rw [if_neg hx] at h
      cases j with
      | zero => rw [List.getD_cons_zero]; exact hx
      | succ j => rw [List.getD_cons_succ]; exact ih (k0 + 1) h j (by simpa using hj)
theorem trn_told (L : Nat) (hL : L ≤ 65536) (want : R) : ∀ n, n ≤ L →
    (∀ pos, pos < 8 * n → it (8 * L - pos) 1#32 = want → trn (I want) n (row (8 * (L - n))) = ((pos : Int), true)) ∧ ((∀ pos, pos < 8 * n → it (8 * L - pos) 1#32 ≠ want) → trn (I want) n (row (8 * (L - n))) = (-1, false)) := by
  intro n
  induction n with
  | zero => intro _; exact ⟨fun pos h => by omega, fun _ => rfl⟩
  | succ n ih =>
    intro hn
    obtain ⟨i1, i2⟩ := ih (by omega)
    have hplace : ∀ k, k < 8 → (row (8 * (L - (n + 1)))).getD k 0 = I (it (8 * L - (8 * n + k)) 1#32) := fun k hk => by
      rw [row_at _ _ hk, show 8 * (L - (n + 1)) + 8 - k = 8 * L - (8 * n + k) by omega]
    have hnext : (row (8 * (L - (n + 1)))).map mv = row (8 * (L - n)) := by
      rw [row_map, show 8 * (L - (n + 1)) + 8 = 8 * (L - n) by omega]
    simp only [trn]
    cases hf : findk (I want) (row (8 * (L - (n + 1)))) 0 with
    | some k =>
      obtain ⟨_, hk2, hk3⟩ := findk_some _ _ _ _ hf
      rw [row_length] at hk2
      rw [Nat.sub_zero, hplace k (by omega), I_eq] at hk3
      refine ⟨fun pos hpos hw => ?_, fun hno => absurd hk3 (hno _ (by omega))⟩
      have := one_place (n := 8 * L) (by omega) (by omega) (by omega) hw hk3
      simp only [Prod.mk.injEq, and_true]
      omega
    | none =>
      have hne := findk_none _ _ _ hf
      rw [row_length] at hne
      simp only
      rw [hnext]
      refine ⟨fun pos hpos hw => ?_, fun hno => i2 (fun pos hp => hno pos (by omega))⟩
      rcases Nat.lt_or_ge pos (8 * n) with h | h
      · exact i1 pos h hw
      · refine absurd ?_ (hne (pos - 8 * n) (by omega))
        rw [hplace _ (by omega), show 8 * n + (pos - 8 * n) = pos by omega, hw]
theorem turned_ok (k : Nat) (p : List Int) (hb : IsBytes p) (hl : p.length < 9223372036854775807) (hk : p.length < k) (hs : p.length ≤ 65536) (c : R) :
    ∃ r, frame_Turned.f k p (I c) = some r ∧ Told (8 * p.length) (crc p ^^^ c) r := by
  refine ⟨trn (I (crc p ^^^ c)) p.length (row 0), ?_, ?_⟩
  · unfold frame_Turned.f
    rw [if_neg (by omega), crc_ok k p hb hl hk, Option.bind_some, I_xor, bits0_row]
  · have h := trn_told p.length hs (crc p ^^^ c) p.length (Nat.le_refl _)
    rw [Nat.sub_self, Nat.mul_zero] at h
    exact h
theorem turned_long (k : Nat) (p : List Int) (c : Int) (hs : 65536 < p.length) : frame_Turned.f k p c = some (-1, false) := by
  unfold frame_Turned.f
  rw [if_pos (by omega)]
/-! ### the document's way -/
theorem refTurned_l0 (n : Nat) (hn : n < 2147483647) (want : R) : ∀ (m k : Nat), m ≤ n → m < k → ∃ r, larderref01_Turned.l0 k (I want) (I (it (n - m + 1) 1#32)) ((m : Int) - 1) = some r ∧
    (∀ pos, pos < m → it (n - pos) 1#32 = want → r = ((pos : Int), true)) ∧ ((∀ pos, pos < m → it (n - pos) 1#32 ≠ want) → r = (-1, false)) := by
  intro m
  induction m with
  | zero =>
    intro k _ hk
    obtain ⟨k, rfl⟩ : ∃ j, k = j + 1 := ⟨k - 1, by omega⟩
    refine ⟨(-1, false), ?_, fun pos h => by omega, fun _ => rfl⟩
    simp only [larderref01_Turned.l0]
    rw [if_neg (by omega)]
  | succ m ih =>
    intro k hm hk
    obtain ⟨k, rfl⟩ : ∃ j, k = j + 1 := ⟨k - 1, by omega⟩
    have e1 : n - (m + 1) + 1 = n - m := by omega
    simp only [larderref01_Turned.l0]
    rw [if_pos (by omega), e1, show (((m + 1 : Nat) : Int) - 1) = (m : Int) by omega]
    by_cases hw : it (n - m) 1#32 = want
    · rw [if_pos (by rw [hw])]
      refine ⟨_, rfl, fun pos hp h => ?_, fun hno => absurd hw (hno m (by omega))⟩
      have := one_place hn (by omega) (by omega) h hw
      rw [this]
    · obtain ⟨r, hr, h1, h2⟩ := ih k (by omega) (by omega)
      have hs : I (it (n - m + 1) 1#32) = if Go.bits .and .u32 (I (it (n - m) 1#32)) 1 = 1 then Go.bits .xor .u32 (I (it (n - m) 1#32) / (2 : Int)) 2197175160 else I (it (n - m) 1#32) / (2 : Int) := by
        rw [← half_if1, ← it_half]
        rfl
      rw [if_neg (fun h => hw (I_inj h)), w64 (by omega) (by omega)]
      refine ⟨r, ?_, fun pos hp h => ?_, fun hno => h2 (fun pos hp => hno pos (by omega))⟩
      · rw [← hr, hs]
        split <;> rfl
      · rcases Nat.lt_or_ge pos m with h3 | h3
        · exact h1 pos h3 h
        · obtain rfl : pos = m := by omega
          exact absurd h hw
theorem refTurned_ok (k : Nat) (p : List Int) (hb : IsBytes p) (hk : 10 * p.length + 5 < k) (hs : p.length ≤ 65536) (c : R) :
    ∃ r, larderref01_Turned.f k p (I c) = some r ∧ Told (8 * p.length) (crc p ^^^ c) r := by
  obtain ⟨r, hr, h1, h2⟩ := refTurned_l0 (8 * p.length) (by omega) (crc p ^^^ c) (8 * p.length) k (Nat.le_refl _) (by omega)
  refine ⟨r, ?_, h1, h2⟩
  unfold larderref01_Turned.f
  rw [if_neg (by omega), refCrc_ok k p hb (by omega) (by omega), Option.bind_some, I_xor, w64 (x := 8 * (p.length : Int)) (by omega) (by omega), w64 (by omega) (by omega), ← hr]
  rw [Nat.sub_self, show (2197175160 : Int) = I (it (0 + 1) 1#32) by decide +kernel, show 8 * (p.length : Int) - 1 = ((8 * p.length : Nat) : Int) - 1 by omega]
theorem refTurned_long (k : Nat) (p : List Int) (c : Int) (hs : 65536 < p.length) : larderref01_Turned.f k p c = some (-1, false) := by
  unfold larderref01_Turned.f
  rw [if_pos (by omega)]
/-- The two agree. -/
theorem both (k : Nat) (p : List Int) (hb : IsBytes p) (hl : p.length < 9223372036854775807) (hk : 10 * p.length + 5 < k) (c : R) : ∃ r, frame_Turned.f k p (I c) = some r ∧ larderref01_Turned.f k p (I c) = some r := by
  by_cases hs : p.length ≤ 65536
  · obtain ⟨r, h1, t1⟩ := turned_ok k p hb hl (by omega) hs c
    obtain ⟨r', h2, t2⟩ := refTurned_ok k p hb hk hs c
    exact ⟨r, h1, by rw [h2, t1.eq t2]⟩
  · exact ⟨_, turned_long k p _ (by omega), refTurned_long k p _ (by omega)⟩
/-- A right sum wants no bit turned. -/
theorem none_wanted (k : Nat) (p : List Int) (hb : IsBytes p) (hl : p.length < 9223372036854775807) (hk : p.length < k) : frame_Turned.f k p (I (crc p)) = some (-1, false) := by
  by_cases hs : p.length ≤ 65536
  · obtain ⟨r, h1, t1⟩ := turned_ok k p hb hl hk hs (crc p)
    rw [h1, t1.2]
    intro pos _ h
    rw [BitVec.xor_self] at h
    exact absurd (it_eq_zero h) (by decide)
  · exact turned_long k p _ (by omega)
theorem crc_set {x : List Int} (hx : IsBytes x) (pos : Nat) (h : pos / 8 < x.length) :
    crc (x.set (pos / 8) (Go.bits .xor .u8 (x.getD (pos / 8) 0) ((2 ^ (pos % 8) : Nat) : Int))) = crc x ^^^ it (8 * x.length - pos) 1#32 := by
  have h1 := (turn hx pos h 0xffffffff#32).2
  unfold crc crcOn
  rw [BitVec.xor_zero, h1]
  ac_rfl
/-- One bit turned is found. -/
theorem found (k : Nat) (x : List Int) (hx : IsBytes x) (hl : x.length < 9223372036854775807) (hk : x.length < k) (hs : x.length ≤ 65536) (pos : Nat) (h : pos / 8 < x.length) :
    frame_Turned.f k (x.set (pos / 8) (Go.bits .xor .u8 (x.getD (pos / 8) 0) ((2 ^ (pos % 8) : Nat) : Int))) (I (crc x)) = some ((pos : Int), true) := by
  have h1 := turn hx pos h 0#32
  obtain ⟨r, hr, ht⟩ := turned_ok k (x.set (pos / 8) (Go.bits .xor .u8 (x.getD (pos / 8) 0) ((2 ^ (pos % 8) : Nat) : Int))) h1.1 (by rw [List.length_set]; exact hl) (by rw [List.length_set]; exact hk) (by rw [List.length_set]; exact hs) (crc x)
  rw [hr, ht.1 pos (by rw [List.length_set]; omega) (by
    rw [crc_set hx pos h, List.length_set, show crc x ^^^ it (8 * x.length - pos) 1#32 ^^^ crc x = it (8 * x.length - pos) 1#32 ^^^ (crc x ^^^ crc x) by ac_rfl, BitVec.xor_self, BitVec.xor_zero])]
theorem e2_ (pos : Nat) (h : pos < 9223372036854775807) : wrap64 (Int.tdiv (pos : Int) 8) = ((pos / 8 : Nat) : Int) := by
  rw [Int.tdiv_eq_ediv_of_nonneg (by omega), w64 (by omega) (by omega)]; omega
theorem e3_ (pos : Nat) : IntKind.u64.wrap (Int.tmod (pos : Int) 8) = ((pos % 8 : Nat) : Int) := by
  rw [Int.tmod_eq_emod_of_nonneg (by omega), IntKind.wrap_u64]; omega
end Go.Proofs.YtlblleideihhmaaDoor.TurnLaw
