/- WalUsed: any life, any number, any bytes; and the bytes of a right sector, one of them turned: the used bytes. -/
import Derived.Test.YtlblleideihhmaaNumWord
import Derived.Lib.Bytes
import Derived.Test.YtlblleideihhmaaPUx1
import Derived.Test.YtlblleideihhmaaPUx2
import Derived.Test.YtlblleideihhmaaPUx3
import Derived.Test.YtlblleideihhmaaPUx4
import Derived.Test.YtlblleideihhmaaPUx5
namespace Go.Proofs.Ytlblleideihhmaa.Pure
open Go Go.RowKit Go.Proofs.Ytlblleideihhmaa.Num Go.Proofs.YtlblleideihhmaaW.PrintWords Go.Proofs.YtlblleideihhmaaW.PrintLast Go.Proofs.Ytlblleideihhmaa.PU
set_option linter.unusedVariables false

theorem str_iff {a b : List Int} (ha : IsBytes a) (hb : IsBytes b) : (strOfNums a).toList = (strOfNums b).toList ↔ a = b := by
  rw [Lib.strOfNums_toList, Lib.strOfNums_toList]
  unfold Lib.bytesOf
  constructor
  · intro h
    have hl : a.length = b.length := by have := congrArg List.length h; simpa using this
    refine List.ext_getElem hl (fun i h1 h2 => ?_)
    have he := congrArg (fun l => l[i]?) h
    simp only [List.getElem?_map, List.getElem?_eq_getElem h1, List.getElem?_eq_getElem h2, Option.map_some, Option.some.injEq] at he
    have e := congrArg UInt8.toNat he
    have b1 := ha _ (List.getElem_mem h1)
    have b2 := hb _ (List.getElem_mem h2)
    simp only [UInt8.toNat_ofNat'] at e
    omega
  · rintro rfl
    rfl
/-- A sector's used bytes. -/
def us (x : Nat) (l : List Int) : List Int × Bool :=
  if x = 0 then ([], false) else if l.length ≠ 128 then ([], false) else if l.getD 8 0 > 111 then ([], false) else if l.take 8 = le 8 x ∧ l.drop 120 = le 8 x then ((l.drop 9).take (l.getD 8 0).toNat, true) else ([], false)
theorem stamp_ok (a b : Int) : ∃ x : Nat, x < 18446744073709551616 ∧ wal_Stamp.f a b = some (x : Int) ∧ larderref10_Stamp.f a b = some (x : Int) := by
  unfold wal_Stamp.f larderref10_Stamp.f
  split
  · exact ⟨0, by decide, rfl, rfl⟩
  · split
    · exact ⟨0, by decide, rfl, rfl⟩
    · split
      · exact ⟨0, by decide, rfl, rfl⟩
      · split
        · exact ⟨0, by decide, rfl, rfl⟩
        · have h : ∀ y : Int, 0 ≤ IntKind.u64.wrap y ∧ IntKind.u64.wrap y < 18446744073709551616 := fun y => by rw [IntKind.wrap_u64]; omega
          obtain ⟨n, hn⟩ := Int.eq_ofNat_of_zero_le (h (IntKind.u64.wrap (IntKind.u64.wrap a * 4096) + IntKind.u64.wrap b)).1
          have := (h (IntKind.u64.wrap (IntKind.u64.wrap a * 4096) + IntKind.u64.wrap b)).2
          rw [hn] at this ⊢
          exact ⟨n, by omega, rfl, rfl⟩
theorem rd8 {l : List Int} (hb : IsBytes l) (h : l.length = 128) : rd l 8 = l.getD 8 0 ∧ 0 ≤ l.getD 8 0 ∧ l.getD 8 0 < 256 := by
  refine ⟨rfl, ?_⟩
  rw [List.getD_eq_getElem?_getD, List.getElem?_eq_getElem (by omega), Option.getD_some]
  exact hb _ (List.getElem_mem _)
theorem used_ok (k : Nat) (hk : 20 < k) (a b : Int) (x : Nat) (hs : wal_Stamp.f a b = some (x : Int)) (l : List Int) (hb : IsBytes l) : wal_Used.f k a b l = some (us x l) := by
  unfold wal_Used.f us
  rw [hs, Option.bind_some]
  by_cases h0 : x = 0
  · rw [if_pos (by omega), if_pos h0]
  · rw [if_neg (by omega), if_neg h0]
    by_cases h1 : l.length = 128
    · obtain ⟨e8, p8, q8⟩ := rd8 hb h1
      rw [if_pos (show (l.length : Int) = 128 by omega), e8, if_neg (show ¬ (l.length ≠ 128) by omega)]
      by_cases h2 : l.getD 8 0 > 111
      · rw [if_pos h2, if_pos h2]
      · rw [if_neg h2, if_neg h2, putWord_ok k (by omega) [] x (by simp), Option.bind_some, List.nil_append]
        simp only [str_iff (hb.take 8) (le_bytes 8 x), str_iff (hb.drop 120) (le_bytes 8 x)]
        by_cases h3 : l.take 8 = le 8 x
        · rw [if_pos h3]
          by_cases h4 : l.drop 120 = le 8 x
          · rw [if_pos h4, if_pos p8, if_pos ⟨h3, h4⟩]
          · rw [if_neg h4, if_neg (fun h => h4 h.2)]
        · rw [if_neg h3, if_neg (fun h => h3 h.1)]
    · rw [if_neg (by omega), if_pos h1]
theorem word_is {l : List Int} (hb : IsBytes l) (hl : l.length = 8) (x : Nat) (hx : x < 18446744073709551616) : (((leV l : Nat) : Int) = (x : Int)) ↔ l = le 8 x := by
  constructor
  · intro h
    refine leV_inj _ _ (by rw [hl, le_len]) hb (le_bytes 8 x) ?_
    rw [leV_le, Nat.mod_eq_of_lt (by simpa using hx)]
    omega
  · rintro rfl
    rw [leV_le, Nat.mod_eq_of_lt (by simpa using hx)]
theorem refUsed_ok (k : Nat) (hk : 20 < k) (a b : Int) (x : Nat) (hx : x < 18446744073709551616) (hs : larderref10_Stamp.f a b = some (x : Int)) (l : List Int) (hb : IsBytes l) : larderref10_Used.f k a b l = some (us x l) := by
  obtain ⟨k, rfl⟩ : ∃ m, k = m + 1 := ⟨k - 1, by omega⟩
  unfold larderref10_Used.f us
  rw [hs, Option.bind_some]
  by_cases h0 : x = 0
  · rw [if_pos (by omega), if_pos h0]
    simp only [larderref10_Used.j0]
    rw [if_pos trivial]
  · rw [if_neg (by omega), if_neg h0]
    by_cases h1 : l.length = 128
    · obtain ⟨e8, p8, q8⟩ := rd8 hb h1
      rw [if_neg (show ¬ (l.length ≠ 128) by omega), show (((l.length : Int) != 128) : Bool) = false by rw [h1]; rfl]
      simp only [larderref10_Used.j0]
      have w1 : wg l = (((leV (l.take 8) : Nat) : Int), 0) := by unfold wg; rw [if_neg (by omega)]
      have w2 : wg (l.drop 120) = (((leV (l.drop 120) : Nat) : Int), 0) := by
        unfold wg
        rw [if_neg (by rw [List.length_drop]; omega), List.take_of_length_le (by rw [List.length_drop]; omega)]
      have i1 := word_is (hb.take 8) (by rw [List.length_take]; omega) x hx
      have i2 := word_is (hb.drop 120) (by rw [List.length_drop]; omega) x hx
      rw [if_neg (by decide), refWord_ok k (by omega) l hb, Option.bind_some, if_pos (by omega), refWord_ok k (by omega) _ (hb.drop 120), Option.bind_some, if_pos (by omega), w1, w2, e8, w64 (x := l.getD 8 0) (by omega) (by omega)]
      simp only
      by_cases h2 : l.getD 8 0 > 111
      · rw [if_pos h2, if_pos h2]
        split
        · split <;> rfl
        · rfl
      · rw [if_neg h2, if_neg h2]
        by_cases h3 : l.take 8 = le 8 x
        · rw [if_pos (i1.mpr h3)]
          by_cases h4 : l.drop 120 = le 8 x
          · rw [if_pos (i2.mpr h4), w64 (x := 9 + l.getD 8 0) (by omega) (by omega), if_pos (by omega), if_pos (by omega), if_pos (by simp only [List.length_nil, List.length_drop, List.length_take]; omega), if_pos ⟨h3, h4⟩, List.nil_append, List.drop_take, show (9 + l.getD 8 0).toNat - 9 = (l.getD 8 0).toNat by omega]
          · rw [if_neg (fun h => h4 (i2.mp h)), if_neg (fun h => h4 h.2)]
        · rw [if_neg (fun h => h3 (i1.mp h)), if_neg (fun h => h3 h.1)]
    · rw [if_pos h1, show (((l.length : Int) != 128) : Bool) = true by simp; omega]
      simp only [larderref10_Used.j0]
      rw [if_pos trivial]
theorem sector_l0 (x : Nat) (hx : x < 18446744073709551616) : ∀ (d k : Nat) (y : List Int), y.length + d = 120 → IsBytes y → d + 20 < k → ∃ t, larderref10_Sector.l0 k x y = some (t, 0) ∧ t.length = 128 ∧ IsBytes t := by
  intro d
  induction d with
  | zero =>
    intro k y hy hb hk
    obtain ⟨k, rfl⟩ : ∃ m, k = m + 1 := ⟨k - 1, by omega⟩
    refine ⟨y ++ le 8 x, ?_, by rw [List.length_append, le_len]; omega, hb.append (le_bytes 8 x)⟩
    simp only [larderref10_Sector.l0]
    rw [if_neg (by omega), refPutWord_ok k (by omega) y x hx (by omega), Option.bind_some]
  | succ d ih =>
    intro k y hy hb hk
    obtain ⟨k, rfl⟩ : ∃ m, k = m + 1 := ⟨k - 1, by omega⟩
    simp only [larderref10_Sector.l0]
    rw [if_pos (by omega), if_pos (by omega)]
    exact ih k (y ++ [0]) (by simp; omega) (hb.append (fun z hz => by simp at hz; omega)) (by omega)
theorem sector_some (k : Nat) (hk : 200 < k) (a b : Int) (x : Nat) (hx : x < 18446744073709551616) (hs : larderref10_Stamp.f a b = some (x : Int)) (l : List Int) (hb : IsBytes l) (hl : l.length < 140737488355328) :
    (∃ t, larderref10_Sector.f k a b l = some (t, 0) ∧ t.length = 128 ∧ IsBytes t) ∨ ∃ e, e ≠ 0 ∧ larderref10_Sector.f k a b l = some ([], e) := by
  unfold larderref10_Sector.f
  rw [hs, Option.bind_some]
  by_cases h0 : (x : Int) = 0
  · rw [if_pos h0]; exact .inr ⟨2, by decide, rfl⟩
  · rw [if_neg h0]
    by_cases h1 : (l.length : Int) > 111
    · rw [if_pos h1]; exact .inr ⟨102, by decide, rfl⟩
    · rw [if_neg h1, refPutWord_ok k (by omega) [] x hx (by simp), Option.bind_some, List.nil_append, if_pos (by rw [le_len]; decide), Option.bind_some, if_pos (by simp only [List.length_append, le_len, List.length_cons, List.length_nil]; omega)]
      refine .inl (sector_l0 x hx (120 - (le 8 x ++ [(l.length : Int) % 256] ++ l).length) k _ ?_ ?_ (by omega))
      · simp only [List.length_append, le_len, List.length_cons, List.length_nil]
        omega
      · exact ((le_bytes 8 x).append (fun z hz => by simp at hz; omega)).append hb
theorem set_bytes {l : List Int} (h : IsBytes l) (i : Nat) {v : Int} (hv : 0 ≤ v ∧ v < 256) : IsBytes (l.set i v) := by
  intro y hy
  rcases List.mem_or_eq_of_mem_set hy with h1 | h1
  · exact h y h1
  · rw [h1]; exact hv
theorem xor8_bd (a b : Int) : 0 ≤ Go.bits .xor .u8 a b ∧ Go.bits .xor .u8 a b < 256 := by
  unfold Go.bits
  show 0 ≤ IntKind.u8.wrap _ ∧ IntKind.u8.wrap _ < _
  rw [IntKind.wrap_u8']
  omega
theorem same_used (k : Nat) (hk : 20 < k) (a b : Int) (x : Nat) (hx : x < 18446744073709551616) (h1 : wal_Stamp.f a b = some (x : Int)) (h2 : larderref10_Stamp.f a b = some (x : Int)) (l : List Int) (hb : IsBytes l) :
    ((some l).bind fun y => ((wal_Used.f k a b y).bind fun p => ((larderref10_Used.f k a b y).bind fun q => (if (strOfNums p.1).toList = (strOfNums q.1).toList then (some (p.2 == q.2)) else (some false))))) = some true := by
  rw [Option.bind_some, used_ok k hk a b x h1 l hb, Option.bind_some, refUsed_ok k hk a b x hx h2 l hb, Option.bind_some, if_pos rfl, beq_self_eq_true]
theorem WalUsed : larderlaw10_WalUsed.Pure := by
  intro a b l p at_ tn _ _ _ hll hl _ hlp hp hat htn
  have hl := bytes_of_wf hl
  have hp := bytes_of_wf hp
  have hat := i64_bd hat
  obtain ⟨x, hx, h1, h2⟩ := stamp_ok a b
  refine ⟨301 + 1, ?_⟩
  unfold larderlaw10_WalUsed.f
  have eL : larderref01_Lent.f l = some l := by unfold larderref01_Lent.f; rw [if_pos (by omega)]
  have eK : larderref01_Kept.f l l = some true := by unfold larderref01_Kept.f; rw [if_pos rfl]
  rw [eL, Option.bind_some, used_ok _ (by decide) a b x h1 l hl, Option.bind_some, refUsed_ok _ (by decide) a b x hx h2 l hl, Option.bind_some, if_pos rfl, if_neg (by simp), eK, Option.bind_some]
  simp only [larderlaw10_WalUsed.j0]
  rw [if_neg (by decide)]
  rcases sector_some 301 (by decide) a b x hx h2 p hp (by omega) with ⟨t, ht, htl, htb⟩ | ⟨e, he, ht⟩
  · rw [ht, Option.bind_some]
    simp only
    rw [if_pos trivial, if_neg (by omega), htl]
    have hm : Int.tmod at_ ((128 : Nat) : Int) > -128 ∧ Int.tmod at_ ((128 : Nat) : Int) < 128 := by
      have := Int.tmod_lt_of_pos at_ (show (0 : Int) < ((128 : Nat) : Int) by decide)
      have := Int.neg_tmod at_ ((128 : Nat) : Int)
      have := Int.tmod_lt_of_pos (-at_) (show (0 : Int) < ((128 : Nat) : Int) by decide)
      omega
    generalize Int.tmod at_ ((128 : Nat) : Int) = m at hm
    by_cases hm0 : m < 0
    · rw [if_pos hm0, w64 (by omega) (by omega), if_pos (by omega), if_pos (by omega)]
      exact same_used 301 (by decide) a b x hx h1 h2 _ (set_bytes htb _ (xor8_bd _ _))
    · rw [if_neg hm0, if_pos (by omega), if_pos (by omega)]
      exact same_used 301 (by decide) a b x hx h1 h2 _ (set_bytes htb _ (xor8_bd _ _))
  · rw [ht, Option.bind_some]
    simp only
    rw [if_neg he]
end Go.Proofs.Ytlblleideihhmaa.Pure
