/- What At tells when all is kept, when none is, behind a flush, of a moment gone by. Plain facts. -/
import Derived.Test.YtpaonoaedjkekaaDoorDkBack
namespace Go.Proofs.YtpaonoaedjkekaaDoor.Dk
open Go Go.RowKit Go.Proofs.YtpaonoaedjkekaaDoor.PD Go.Proofs.YtpaonoaedjkekaaDoorW.PrintWords Go.Proofs.YtpaonoaedjkekaaDoorW.PrintLast Go.Proofs.YtpaonoaedjkekaaDoorW.PrintMore
set_option linter.unusedVariables false
set_option linter.unusedSimpArgs false
def rangeI (n : Nat) : List Int := (List.range n).map fun (i : Nat) => (i : Int)
theorem rangeI_len (n : Nat) : (rangeI n).length = n := by simp [rangeI]
theorem rangeI_mem {n j : Nat} (h : j < n) : (j : Int) ∈ rangeI n := List.mem_map.2 ⟨j, List.mem_range.2 h, rfl⟩
theorem rangeI_snoc (n : Nat) : rangeI (n + 1) = rangeI n ++ [(n : Int)] := by simp [rangeI, List.range_succ]
theorem crashL_all (keep : List Int) (t : Int) (y : Nat) : ∀ (l : List (Int × List Int)) (im : List Int) (k : Nat), (∀ j, k ≤ j → j < k + l.length → (j : Int) ∈ keep) → (∀ op ∈ l, op ≠ flushOp) → crashL keep t y im k l = behindL im l
  | [], _, _, _, _ => rfl
  | op :: l, im, k, h1, h2 => by
    have e : layC keep t y im k op = layOp im op := by
      unfold layC layOp
      rw [if_pos (h1 k (Nat.le_refl _) (by simp)), if_neg (h2 op List.mem_cons_self)]
    have ih := crashL_all keep t y l (layOp im op) (k + 1) (fun j hj1 hj2 => h1 j (by omega) (by simp only [List.length_cons]; omega)) (fun o ho => h2 o (List.mem_cons_of_mem _ ho))
    show crashL keep t y (layC keep t y im k op) (k + 1) l = _
    rw [e, ih]
    rfl
theorem crashL_none (y : Nat) : ∀ (l : List (Int × List Int)) (im : List Int) (k : Nat), crashL [] (-1) y im k l = im
  | [], _, _ => rfl
  | op :: l, im, k => by
    have e : layC [] (-1) y im k op = im := by
      unfold layC
      rw [if_neg (by simp), if_neg (by omega)]
    show crashL [] (-1) y (layC [] (-1) y im k op) (k + 1) l = _
    rw [e]
    exact crashL_none y l im (k + 1)
theorem loose_ne {ops : List (Int × List Int)} {n m : Nat} : ∀ op ∈ ((ops.drop (looseN ops n)).take (n - looseN ops n)), op ≠ flushOp := fun op ho => by
  obtain ⟨i, hi⟩ := List.getElem?_of_mem ho
  rw [List.getElem?_take] at hi
  split at hi
  · rw [List.getElem?_drop] at hi
    intro e
    exact loose_none ops n _ (Nat.le_add_right _ i) (by omega) (by rw [hi, e])
  · cases hi
theorem at_every (fs : List Int) (ops : List (Int × List Int)) (n : Nat) (hn : n ≤ ops.length) : atL fs ops n (rangeI (n - looseN ops n)) (-1) 0 = behindL fs (ops.take n) := by
  unfold atL
  rw [crashL_all _ _ _ _ _ _ (fun j _ hj => rangeI_mem (by rw [List.length_take, List.length_drop] at hj; omega)) (loose_ne (m := 0))]
  have := looseN_le ops n
  unfold behindL
  rw [← List.foldl_append, ← List.take_add, show looseN ops n + (n - looseN ops n) = n by omega]
theorem at_nonel (fs : List Int) (ops : List (Int × List Int)) (n : Nat) (y : Nat) : atL fs ops n [] (-1) y = behindL fs (ops.take (looseN ops n)) := by
  unfold atL; rw [crashL_none]
theorem loose_prefix (ops more : List (Int × List Int)) : ∀ n, n ≤ ops.length → looseN (ops ++ more) n = looseN ops n
  | 0, _ => rfl
  | n + 1, h => by
    unfold looseN
    rw [List.getElem?_append_left (by omega), loose_prefix ops more n (by omega)]
theorem at_prefix (fs : List Int) (ops more : List (Int × List Int)) (n : Nat) (hn : n ≤ ops.length) (keep : List Int) (t : Int) (y : Nat) : atL fs (ops ++ more) n keep t y = atL fs ops n keep t y := by
  have h := looseN_le ops n
  unfold atL
  rw [loose_prefix ops more n hn, List.take_append_of_le_length (by omega), List.drop_append_of_le_length (by omega), List.take_append_of_le_length (by rw [List.length_drop]; omega)]
theorem loose_flush (ops : List (Int × List Int)) : looseN (ops ++ [flushOp]) (ops.length + 1) = ops.length + 1 := by
  unfold looseN
  rw [if_pos (by simp)]
theorem behind_flush (fs : List Int) (ops : List (Int × List Int)) : behindL fs (ops ++ [flushOp]) = behindL fs ops := by
  simp [behindL, List.foldl_append, layOp]
theorem at_flush (fs : List Int) (ops : List (Int × List Int)) (keep : List Int) (t : Int) (y : Nat) : atL fs (ops ++ [flushOp]) (ops.length + 1) keep t y = behindL fs ops := by
  unfold atL
  rw [loose_flush, Nat.sub_self, List.take_zero, List.take_of_length_le (by simp)]
  exact behind_flush fs ops
theorem behind_put (fs : List Int) (ops : List (Int × List Int)) (s : Nat) (q : List Int) : behindL fs (ops ++ [((s : Int), q)]) = (behindL fs ops).take (128 * s) ++ q ++ (behindL fs ops).drop (128 * s + 128) := by
  simp only [behindL, List.foldl_append, List.foldl_cons, List.foldl_nil]
  rw [layOp, if_neg (by intro e; have := congrArg Prod.fst e; simp only [flushOp] at this; omega)]
  simp
theorem not_own {h : Hd} {A1 A2 : Option Addr} {n1 n2 c1 c2 g s : Nat} (hn : ¬ Own h (.slice A1 n1 c1) g) (hat : ∀ j, (Value.slice A2 n2 c2).ownBlock = some j → (Value.slice A1 n1 c1).ownBlock = some j ∨ s ≤ j) (hg : g < s) : ¬ Own h (.slice A2 n2 c2) g := by
  rintro (e | e | e)
  · exact hn (.inl e)
  · exact hn (.inr (.inl e))
  · rcases hat g e.symm with e | e
    · exact hn (.inr (.inr e.symm))
    · omega
theorem opsOf_append (a b : List S37) : opsOf (a ++ b) = opsOf a ++ opsOf b := by simp [opsOf]
end Go.Proofs.YtpaonoaedjkekaaDoor.Dk
