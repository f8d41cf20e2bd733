/- FrameEven: three parts of one length: their sums joined with or, unlike, are the sum of the parts so joined. -/
import Derived.Test.YtlblleideihhmaaDoorSealLaw
namespace Go.Proofs.YtlblleideihhmaaDoor.Pure
open Go Go.RowKit Go.Proofs.YtlblleideihhmaaDoor.Crc Go.Proofs.YtlblleideihhmaaDoor.CrcLaw Go.Proofs.YtlblleideihhmaaDoor.SealLaw Go.Proofs.YtlblleideihhmaaDoor.Num Go.Proofs.YtlblleideihhmaaDoorW.PrintWords Go.Proofs.YtlblleideihhmaaDoorW.PrintLast Go.Proofs.YtlblleideihhmaaDoor.PB

theorem xor8 {a b : Int} (ha : 0 ≤ a ∧ a < 256) (hb : 0 ≤ b ∧ b < 256) : (0 ≤ Go.bits .xor .u8 a b ∧ Go.bits .xor .u8 a b < 256) ∧ B (Go.bits .xor .u8 a b) = B a ^^^ B b := by
  obtain ⟨n, rfl⟩ : ∃ n : Nat, a = n := ⟨a.toNat, by omega⟩
  obtain ⟨m, rfl⟩ : ∃ m : Nat, b = m := ⟨b.toNat, by omega⟩
  have hn : n < 256 := by omega
  have hm : m < 256 := by omega
  have hx : n ^^^ m < 256 := Nat.xor_lt_two_pow (n := 8) hn hm
  have e : Go.bits .xor .u8 (n : Int) (m : Int) = ((n ^^^ m : Nat) : Int) := by
    show IntKind.u8.wrap (((BitVec.ofInt 8 (n : Int) ^^^ BitVec.ofInt 8 (m : Int)).toNat : Nat) : Int) = _
    rw [BitVec.ofInt_natCast, BitVec.ofInt_natCast, BitVec.toNat_xor, BitVec.toNat_ofNat, BitVec.toNat_ofNat, Nat.mod_eq_of_lt (by omega), Nat.mod_eq_of_lt (by omega), IntKind.wrap_u8']
    omega
  rw [e]
  refine ⟨by omega, ?_⟩
  unfold B
  apply BitVec.eq_of_toNat_eq
  rw [BitVec.toNat_xor, BitVec.toNat_ofNat, BitVec.toNat_ofNat, BitVec.toNat_ofNat, Int.toNat_natCast, Int.toNat_natCast, Int.toNat_natCast, Nat.mod_eq_of_lt (by omega), Nat.mod_eq_of_lt (by omega), Nat.mod_eq_of_lt (by omega)]
theorem rd_bytes {l : List Int} (hb : IsBytes l) (i : Nat) (h : i < l.length) : rd l (i : Int) = l.getD i 0 ∧ 0 ≤ l.getD i 0 ∧ l.getD i 0 < 256 := by
  refine ⟨rfl, ?_⟩
  rw [List.getD_eq_getElem?_getD, List.getElem?_eq_getElem h, Option.getD_some]
  exact hb _ (List.getElem_mem h)
theorem even_l0 (x y z : List Int) (hx : IsBytes x) (hy : IsBytes y) (hz : IsBytes z) (n : Nat) (h1 : n ≤ x.length) (h2 : n ≤ y.length) (h3 : n ≤ z.length) (hn : n < 140737488355328) :
    ∀ (d k : Nat) (a : List Int), a.length + d = n → n + d + 2 < k → IsBytes a → (∀ i, i < a.length → B (x.getD i 0) ^^^ B (y.getD i 0) ^^^ B (z.getD i 0) = B (a.getD i 0)) →
    larderlaw01_FrameEven.l0 k x y z (n : Int) a (a.length : Int) = some true := by
  intro d
  induction d with
  | zero =>
    intro k a ha hk hb h
    obtain ⟨k, rfl⟩ : ∃ m, k = m + 1 := ⟨k - 1, by omega⟩
    simp only [larderlaw01_FrameEven.l0]
    have tl : ∀ l : List Int, n ≤ l.length → (l.take n).length = n := fun l hl => by rw [List.length_take]; omega
    have l1 := tl x h1
    have l2 := tl y h2
    have l3 := tl z h3
    have tg : ∀ (l : List Int) (i : Nat), i < n → (l.take n).getD i 0 = l.getD i 0 := fun l i hi => by
      rw [List.getD_eq_getElem?_getD, List.getD_eq_getElem?_getD, List.getElem?_take_of_lt hi]
    rw [if_neg (by omega), if_pos (by omega), if_pos (by omega), show ((n : Nat) : Int).toNat = n from rfl, crc_ok k _ (hx.take n) (by omega) (by omega), Option.bind_some,
      if_pos (by omega), crc_ok k _ (hy.take n) (by omega) (by omega), Option.bind_some, if_pos (by omega), crc_ok k _ (hz.take n) (by omega) (by omega), Option.bind_some,
      crc_ok k _ hb (by omega) (by omega), Option.bind_some, I_xor, I_xor]
    have e : crc (x.take n) ^^^ crc (y.take n) ^^^ crc (z.take n) = crc a := by
      unfold crc crcOn
      rw [BitVec.xor_zero]
      have := on_even (x.take n) (y.take n) (z.take n) a 0xffffffff#32 0xffffffff#32 0xffffffff#32 (by omega) (by omega) (by omega) (fun i hi => by
        rw [tg x i (by omega), tg y i (by omega), tg z i (by omega)]; exact h i (by omega))
      rw [show (0xffffffff#32 ^^^ 0xffffffff#32 ^^^ 0xffffffff#32 : R) = 0xffffffff#32 by decide] at this
      rw [← this]
      have g : ∀ (u p q r : R), u ^^^ p ^^^ (u ^^^ q) ^^^ (u ^^^ r) = u ^^^ (p ^^^ q ^^^ r) := fun u p q r => by
        rw [show u ^^^ p ^^^ (u ^^^ q) ^^^ (u ^^^ r) = (u ^^^ u) ^^^ (u ^^^ (p ^^^ q ^^^ r)) by ac_rfl, BitVec.xor_self, BitVec.zero_xor]
      exact g _ _ _ _
    rw [e]
    simp
  | succ d ih =>
    intro k a ha hk hb h
    obtain ⟨k, rfl⟩ : ∃ m, k = m + 1 := ⟨k - 1, by omega⟩
    obtain ⟨r1, b1⟩ := rd_bytes hx a.length (by omega)
    obtain ⟨r2, b2⟩ := rd_bytes hy a.length (by omega)
    obtain ⟨r3, b3⟩ := rd_bytes hz a.length (by omega)
    have c1 := xor8 b1 b2
    have c2 := xor8 c1.1 b3
    simp only [larderlaw01_FrameEven.l0]
    rw [if_pos (by omega), if_pos (by omega), if_pos (by omega), if_pos (by omega), if_pos (by omega), if_pos (by omega), w64 (by omega) (by omega), r1, r2, r3]
    generalize Go.bits .xor .u8 (Go.bits .xor .u8 (x.getD a.length 0) (y.getD a.length 0)) (z.getD a.length 0) = v at c2
    have := ih k (a ++ [v]) (by simp; omega) (by omega) (hb.append (by intro w hw; rw [List.mem_singleton.1 hw]; exact c2.1)) (fun i hi => by
      rw [List.length_append, List.length_singleton] at hi
      rcases Nat.lt_or_ge i a.length with hi1 | hi1
      · rw [h i hi1, List.getD_eq_getElem?_getD, List.getD_eq_getElem?_getD, List.getElem?_append_left hi1]
      · obtain rfl : i = a.length := by omega
        rw [List.getD_eq_getElem?_getD (l := a ++ [v]), List.getElem?_append_right (Nat.le_refl _), Nat.sub_self, List.getElem?_cons_zero, Option.getD_some, c2.2, c1.2])
    rw [List.length_append, List.length_singleton] at this
    simpa using this
theorem FrameEven : larderlaw01_FrameEven.Pure := by
  intro x y z _ hlx hx _ hly hy _ hlz hz
  have hx := bytes_of_wf hx
  have hy := bytes_of_wf hy
  have hz := bytes_of_wf hz
  refine ⟨2 * x.length + 2 * y.length + 2 * z.length + 300, ?_⟩
  unfold larderlaw01_FrameEven.f
  rw [lives_ok _ (by omega), Option.bind_some, if_pos rfl]
  have g := fun n h1 h2 h3 h4 h5 => even_l0 x y z hx hy hz n h1 h2 h3 h4 n (2 * x.length + 2 * y.length + 2 * z.length + 300) [] (by simp) h5 (by intro _ h; cases h) (by intro i h; cases h)
  by_cases h1 : (y.length : Int) < (x.length : Int)
  · rw [if_pos h1]
    by_cases h2 : (z.length : Int) < (y.length : Int)
    · rw [if_pos h2]
      exact g _ (by omega) (by omega) (by omega) (by omega) (by omega)
    · rw [if_neg h2]
      exact g _ (by omega) (by omega) (by omega) (by omega) (by omega)
  · rw [if_neg h1]
    by_cases h2 : (z.length : Int) < (x.length : Int)
    · rw [if_pos h2]
      exact g _ (by omega) (by omega) (by omega) (by omega) (by omega)
    · rw [if_neg h2]
      exact g _ (by omega) (by omega) (by omega) (by omega) (by omega)
end Go.Proofs.YtlblleideihhmaaDoor.Pure
