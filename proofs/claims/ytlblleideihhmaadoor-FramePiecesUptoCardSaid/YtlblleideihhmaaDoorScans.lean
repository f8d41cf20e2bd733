import Derived.Test.YtlblleideihhmaaDoorEach
import Derived.Test.YtlblleideihhmaaDoorPBx
namespace Go.Proofs.YtlblleideihhmaaDoor.Each
open Go Go.RowKit Go.Proofs.YtlblleideihhmaaDoor.UnLaw Go.Proofs.YtlblleideihhmaaDoor.Num Go.Proofs.YtlblleideihhmaaDoor.FrMore Go.Proofs.YtlblleideihhmaaDoor.Crc Go.Proofs.YtlblleideihhmaaDoor.CrcLaw Go.Proofs.YtlblleideihhmaaDoor.SealLaw Go.Proofs.YtlblleideihhmaaDoor.PB Go.Proofs.YtlblleideihhmaaDoorW.PrintWords
set_option linter.unusedVariables false
set_option maxHeartbeats 1000000
set_option maxRecDepth 100000
/-- What ends the frames: the first fault and its place. -/
def ends : Nat → List Int → Int → Int × Int
  | 0, _, _ => (0, 0)
  | k + 1, l, i => if i < (l.length : Int) then (if (un (l.drop i.toNat)).2.2.1 = 0 then ends k l (i + (un (l.drop i.toNat)).2.1) else ((un (l.drop i.toNat)).2.2.1, i + (un (l.drop i.toNat)).2.2.2)) else (0, 0)
theorem wr_id {x : Int} (h0 : 0 ≤ x) (h1 : x < 9223372036854775808) : wrap64 x = x := by
  simp only [wrap64]
  omega
theorem un_place (b : List Int) (hb : IsBytes b) : 0 ≤ (un b).2.2.2 ∧ (un b).2.2.2 ≤ 66000 + b.length := by
  have hg := ug_at (b.drop 1) 0 0
  have h2 := ug_nn (b.drop 1) 0 0
  have h3 : (b.drop 1).length ≤ b.length := by simp
  unfold un
  repeat' split
  all_goals simp only []
  all_goals omega
theorem scan_l0 (l : List Int) (hb : IsBytes l) (hl : l.length < 4398046511104) : ∀ (m k : Nat) (acc : List (List Int)) (i : Int), 0 ≤ i → i ≤ l.length → (acc.length : Int) ≤ i → ((l.length : Int) - i).toNat ≤ m → m + l.length + 21 < k →
    frame_Scan.l0 k l acc i = some (acc ++ (frames m l i).map (·.2), (ends m l i).1, (ends m l i).2)
  | 0, k + 1, acc, i, h0, h1, h2, h3, h4 => by
    have : ¬ i < (l.length : Int) := by omega
    simp [frame_Scan.l0, frames, ends, this]
  | m + 1, k + 1, acc, i, h0, h1, h2, h3, h4 => by
    unfold frame_Scan.l0 frames ends
    by_cases c1 : i < (l.length : Int)
    · have hd : (l.drop i.toNat).length = l.length - i.toNat := List.length_drop
      have hbd := IsBytes.drop hb i.toNat
      rw [if_pos c1, if_pos h0, if_pos (Int.le_of_lt c1), if_pos c1, if_pos c1, unseal_ok k (l.drop i.toNat) hbd (by omega) (by omega), Option.bind_some]
      have hs := un_step (l.drop i.toNat)
      have hp := un_place (l.drop i.toNat) hbd
      generalize un (l.drop i.toNat) = u at *
      by_cases c2 : u.2.2.1 = 0
      · have := hs c2
        rw [if_pos c2, if_pos (by omega), if_pos c2, if_pos c2, wr_id (by omega) (by omega), scan_l0 l hb hl m k (acc ++ [u.1]) (i + u.2.1) (by omega) (by omega) (by simp; omega) (by omega) (by omega)]
        simp
      · rw [if_neg c2, if_neg c2, if_neg c2, wr_id (by omega) (by omega)]
        simp
    · rw [if_neg c1, if_neg c1, if_neg c1]
      simp
theorem row_l0 (l : List Int) (hb : IsBytes l) (hl : l.length < 4398046511104) : ∀ (m k : Nat) (acc : List S66) (i : Int), 0 ≤ i → i ≤ l.length → (acc.length : Int) ≤ i → ((l.length : Int) - i).toNat ≤ m → m + 10 * l.length + 51 < k →
    larderref01_Row.l0 k l acc i = some (acc ++ (frames m l i).map (fun x => (⟨x.1, x.2⟩ : S66)), (ends m l i).1, (ends m l i).2)
  | 0, k + 1, acc, i, h0, h1, h2, h3, h4 => by
    have : ¬ i < (l.length : Int) := by omega
    simp [larderref01_Row.l0, frames, ends, this]
  | m + 1, k + 1, acc, i, h0, h1, h2, h3, h4 => by
    unfold larderref01_Row.l0 frames ends
    by_cases c1 : i < (l.length : Int)
    · have hd : (l.drop i.toNat).length = l.length - i.toNat := List.length_drop
      have hbd := IsBytes.drop hb i.toNat
      rw [if_pos c1, if_pos h0, if_pos (Int.le_of_lt c1), if_pos c1, if_pos c1, refUnseal_ok k (l.drop i.toNat) hbd (by omega) (by omega), Option.bind_some]
      have hs := un_step (l.drop i.toNat)
      have hp := un_place (l.drop i.toNat) hbd
      generalize un (l.drop i.toNat) = u at *
      by_cases c2 : u.2.2.1 = 0
      · have := hs c2
        rw [if_pos c2, if_pos (by omega), if_pos c2, if_pos c2, wr_id (by omega) (by omega), row_l0 l hb hl m k (acc ++ [(⟨i, u.1⟩ : S66)]) (i + u.2.1) (by omega) (by omega) (by simp; omega) (by omega) (by omega)]
        simp
      · rw [if_neg c2, if_neg c2, if_neg c2, wr_id (by omega) (by omega)]
        simp
    · rw [if_neg c1, if_neg c1, if_neg c1]
      simp
theorem frames_len (l : List Int) : ∀ (m : Nat) (i : Int), 0 ≤ i → i ≤ l.length → ((frames m l i).length : Int) ≤ l.length - i
  | 0, i, h0, h1 => by simp [frames]; omega
  | m + 1, i, h0, h1 => by
    have hs := un_step (l.drop i.toNat)
    have hd : (l.drop i.toNat).length = l.length - i.toNat := List.length_drop
    unfold frames
    split
    · split
      · rename_i hz
        have h2 := hs hz
        have h3 := frames_len l m (i + (un (l.drop i.toNat)).2.1) (by omega) (by omega)
        simp only [List.length_cons]
        omega
      · simp; omega
    · simp; omega
theorem same_step (xs : List (List Int)) (k : Nat) (i : Int) (h0 : 0 ≤ i) (c1 : i < (xs.length : Int)) (h : xs.length < 4398046511104) : larderlaw01_same.l0 (k + 1) xs xs i = larderlaw01_same.l0 k xs xs (i + 1) := by
  have hw : wrap64 (i + 1) = i + 1 := wr_id (by omega) (by omega)
  simp only [larderlaw01_same.l0, hw, if_pos c1, if_pos h0, ↓reduceIte]
theorem same_l0 (xs : List (List Int)) (h : xs.length < 4398046511104) (m : Nat) : ∀ (k : Nat) (i : Int), 0 ≤ i → ((xs.length : Int) - i).toNat ≤ m → m < k → larderlaw01_same.l0 k xs xs i = some true := by
  induction m with
  | zero =>
    intro k i h0 h1 h3
    obtain ⟨q, rfl⟩ : ∃ q, k = q + 1 := ⟨k - 1, by omega⟩
    have : ¬ i < (xs.length : Int) := by omega
    simp only [larderlaw01_same.l0, if_neg this]
  | succ m ih =>
    intro k i h0 h1 h3
    obtain ⟨q, rfl⟩ : ∃ q, k = q + 1 := ⟨k - 1, by omega⟩
    by_cases c1 : i < (xs.length : Int)
    · rw [same_step xs q i h0 c1 h]
      exact ih q (i + 1) (by omega) (by omega) (by omega)
    · simp only [larderlaw01_same.l0, if_neg c1]
theorem refScan_l0 (xs : List S66) (e p : Int) : ∀ (m k : Nat) (acc : List (List Int)) (j : Nat), j ≤ xs.length → acc = (xs.take j).map (·.f1) → xs.length - j ≤ m → xs.length < 4398046511104 → m < k →
    larderref01_Scan.l0 k xs e p acc (j : Int) = some (xs.map (·.f1), e, p)
  | 0, k + 1, acc, j, h0, h1, h2, h3, h4 => by
    have h5 : j = xs.length := by omega
    subst h5
    simp [larderref01_Scan.l0, h1]
  | m + 1, k + 1, acc, j, h0, h1, h2, h3, h4 => by
    unfold larderref01_Scan.l0
    by_cases c1 : (j : Int) < (xs.length : Int)
    · have hj : j < xs.length := by omega
      have hla : acc.length = j := by rw [h1]; simp; omega
      rw [if_pos c1, if_pos (by omega), if_pos (by omega), wr_id (by omega) (by omega)]
      exact refScan_l0 xs e p m k _ (j + 1) (by omega) (by rw [h1, List.take_succ_eq_append_getElem hj, List.map_append]; simp only [rd_T66, List.getD_eq_getElem?_getD, Int.toNat_natCast, List.getElem?_eq_getElem hj, Option.getD_some, List.map_cons, List.map_nil]) (by omega) h3 (by omega)
    · have h5 : j = xs.length := by omega
      subst h5
      rw [if_neg c1]
      simp [h1]
/-- What the three readers of rows of frames answer. -/
theorem scans (l : List Int) (hb : IsBytes l) (hl : l.length < 4398046511104) (k : Nat) (hk : 11 * l.length + 60 < k) :
    frame_Scan.f k l = some ((frames l.length l 0).map (·.2), (ends l.length l 0).1, (ends l.length l 0).2) ∧
    larderref01_Row.f k l = some ((frames l.length l 0).map (fun x => (⟨x.1, x.2⟩ : S66)), (ends l.length l 0).1, (ends l.length l 0).2) ∧
    larderref01_Scan.f k l = some ((frames l.length l 0).map (·.2), (ends l.length l 0).1, (ends l.length l 0).2) ∧
    larderlaw01_same.f k ((frames l.length l 0).map (·.2)) ((frames l.length l 0).map (·.2)) = some true := by
  have hf := frames_len l l.length 0 (by omega) (by omega)
  have hr : larderref01_Row.f k l = some ((frames l.length l 0).map (fun x => (⟨x.1, x.2⟩ : S66)), (ends l.length l 0).1, (ends l.length l 0).2) := by
    have := row_l0 l hb hl l.length k [] 0 (by omega) (by omega) (by simp) (by omega) (by omega)
    simpa [larderref01_Row.f] using this
  refine ⟨?_, hr, ?_, ?_⟩
  · have := scan_l0 l hb hl l.length k [] 0 (by omega) (by omega) (by simp) (by omega) (by omega)
    simpa [frame_Scan.f] using this
  · unfold larderref01_Scan.f
    rw [hr, Option.bind_some]
    have := refScan_l0 ((frames l.length l 0).map (fun x => (⟨x.1, x.2⟩ : S66))) (ends l.length l 0).1 (ends l.length l 0).2 l.length k [] 0 (by omega) (by simp) (by simp; omega) (by simp; omega) (by omega)
    rw [show ((0 : Nat) : Int) = 0 from rfl] at this
    rw [this]
    simp [Function.comp_def]
  · unfold larderlaw01_same.f
    rw [if_pos rfl]
    exact same_l0 _ (by simp; omega) l.length k 0 (by omega) (by simp; omega) (by omega)
end Go.Proofs.YtlblleideihhmaaDoor.Each
