/- Bytes of one's own in memory: a row of bytes, whatever stands behind it in its block; copied into, cut, read. -/
import Derived.Test.YtpaonoaedjkekaaDoorProg
import Derived.Test.YtpaonoaedjkekaaDoorWMore
import Derived.Laws.CopyRow
import Derived.Laws.IdiomCopy
import Derived.WalkKit
namespace Go.Proofs.YtpaonoaedjkekaaDoor.Dk
open Go Go.RowKit Go.Proofs.YtpaonoaedjkekaaDoorW.PrintWords Go.Proofs.YtpaonoaedjkekaaDoorW.PrintMore
set_option linter.unusedVariables false
set_option linter.unusedSimpArgs false
def cellsB (xs : List Int) : List Value := xs.map (Value.int .u8)
theorem cellsB_len (xs : List Int) : (cellsB xs).length = xs.length := by simp [cellsB]
/-- Bytes at the beginning of the block g. -/
def Mem (W : World) (g : Nat) (xs : List Int) : Prop := ∃ cur : Array Value, W.heap[g]? = some (.cells cur 5 (0, 0)) ∧ cur.toList.take xs.length = cellsB xs
theorem Mem.lt {W : World} {g : Nat} {xs : List Int} (h : Mem W g xs) : g < W.heap.size := by
  obtain ⟨_, h, _⟩ := h
  exact (Array.getElem?_eq_some_iff.1 h).1
theorem Mem.move {W W' : World} {g : Nat} {xs : List Int} (h : Mem W g xs) (e : W'.heap[g]? = W.heap[g]?) : Mem W' g xs := by
  obtain ⟨cur, h1, h2⟩ := h
  exact ⟨cur, e.trans h1, h2⟩
theorem Mem.below {W W' : World} {g : Nat} {xs : List Int} (h : Mem W g xs) (hb : Below W.heap.size W W') : Mem W' g xs := h.move (hb.block g h.lt)
theorem Mem.size {W : World} {g : Nat} {xs : List Int} {cur : Array Value} (h1 : W.heap[g]? = some (.cells cur 5 (0, 0))) (h2 : cur.toList.take xs.length = cellsB xs) : xs.length ≤ cur.size := by
  have h3 := congrArg List.length h2
  have h4 : cur.toList.length = cur.size := Array.length_toList
  rw [List.length_take, cellsB_len] at h3
  omega
theorem Mem.cell {W : World} {g : Nat} {xs : List Int} (h : Mem W g xs) (j : Nat) (hj : j < xs.length) : W.cell? ⟨g, j, none⟩ = some (.int .u8 (xs.getD j 0)) := by
  obtain ⟨cur, h1, h2⟩ := h
  rw [cell_of_row W g j cur 5 (0, 0) h1, ← Array.getElem?_toList]
  have := congrArg (fun l => l[j]?) h2
  simp only [List.getElem?_take, if_pos hj] at this
  rw [this]
  simp [cellsB, List.getElem?_eq_getElem hj, List.getD_eq_getElem?_getD]
theorem add_off (g o j : Nat) : (⟨g, o, none⟩ : Addr).add j = ⟨g, o + j, none⟩ := by
  unfold Addr.add
  split
  · rename_i h; simp [h]
  · rfl
/-- A cut of it is read. -/
theorem Mem.sub {W : World} {g : Nat} {xs : List Int} (h : Mem W g xs) (o n : Nat) (hf : o + n ≤ xs.length) (hn : n ≤ 9223372036854775807) : Kd.C (Kd.int .u8) W (some ⟨g, o, none⟩) n ((xs.drop o).take n) := by
  have hl : ((xs.drop o).take n).length = n := by rw [List.length_take, List.length_drop]; omega
  refine Kd.C_of_reads (d := (0 : Int)) (h1 := fun _ => rfl) ⟨hl, hn, fun _ => ⟨_, rfl, fun j hj => ?_⟩⟩
  have := h.cell (o + j) (by omega)
  rw [add_off, this]
  congr 2
  rw [List.getD_eq_getElem?_getD, List.getD_eq_getElem?_getD, List.getElem?_take, if_pos hj, List.getElem?_drop]
theorem Mem.all {W : World} {g : Nat} {xs : List Int} (h : Mem W g xs) (hn : xs.length ≤ 9223372036854775807) : Kd.C (Kd.int .u8) W (some ⟨g, 0, none⟩) xs.length xs := by
  have := h.sub 0 xs.length (by omega) hn
  rwa [List.drop_zero, List.take_length] at this
/-- n bytes copied in at o. -/
theorem Mem.copy {P : Program} {dT sT ty : TypeId} (hu : P.underlying dT = some (.slice 5)) (hs : (P.info? 5).map (·.size) = some 1) {W : World} {g : Nat} {xs ys : List Int} (h : Mem W g xs) (o n dLen dCap c : Nat) (A : Option Addr) (hC : Kd.C (Kd.int .u8) W A n ys) (hd : n ≤ dLen) (hf : o + n ≤ xs.length) :
    ∃ cs : Array Value, (Builtin.copy_ #[dT, sT] ty #[.slice (some ⟨g, o, none⟩) dLen dCap, .slice A n c]).run P W = .ok (goInt n) (W.setRow g cs) ∧ Mem (W.setRow g cs) g (xs.take o ++ ys ++ xs.drop (o + n)) := by
  obtain ⟨cur, h1, h2⟩ := h
  have hsz := Mem.size h1 h2
  have hyl : ys.length = n := Kd.C_len hC
  rcases Nat.eq_zero_or_pos n with h0 | h0
  · subst h0
    obtain rfl : ys = [] := List.eq_nil_of_length_eq_zero hyl
    have hr := run_copy_none (P := P) W dT sT ty 5 (some ⟨g, o, none⟩) A dLen dCap 0 c hu hs (Nat.min_eq_left (Nat.zero_le _))
    refine ⟨cur, ?_, ?_⟩
    · rw [setRow_self W g cur _ (0, 0) h1]; exact hr
    · rw [setRow_self W g cur _ (0, 0) h1, List.append_nil, Nat.add_zero, List.take_append_drop]
      exact ⟨cur, h1, h2⟩
  obtain ⟨ad, rfl, hcell⟩ := (Kd.reads_of_C (d := (0 : Int)) (h1 := fun _ => rfl) hC).2.2 h0
  have hr := run_copy_row (P := P) W dT sT ty 5 g o dLen dCap ad n c cur 5 (cellsB ys) hu hs h1 (by rw [cellsB_len, hyl]; exact (Nat.min_eq_left hd).symm) (fun j v hv => by
    obtain ⟨hj, rfl⟩ := List.getElem?_eq_some_iff.1 hv
    have hj2 : j < ys.length := by rw [cellsB_len] at hj; exact hj
    rw [hcell j (by omega)]
    simp [cellsB, List.getD_eq_getElem?_getD, List.getElem?_eq_getElem hj2]) (by rw [cellsB_len]; omega) (fun v hv => by
    obtain ⟨x, _, rfl⟩ := List.mem_map.1 hv
    rfl)
  rw [cellsB_len, hyl] at hr
  refine ⟨_, hr, ?_⟩
  have e1 : cur.toList.take o = cellsB (xs.take o) := by
    have := congrArg (List.take o) h2
    rw [List.take_take, Nat.min_eq_left (by omega)] at this
    rw [this]
    simp [cellsB, List.map_take]
  refine ⟨_, setRow_heap W g cur _ 5 (0, 0) h1, ?_⟩
  have hl : (xs.take o ++ ys ++ xs.drop (o + n)).length = xs.length := by
    rw [List.length_append, List.length_append, List.length_take, List.length_drop, hyl]; omega
  rw [hl]
  have e2 : (cur.toList.drop (o + n)).take (xs.length - (o + n)) = cellsB (xs.drop (o + n)) := by
    have := congrArg (List.drop (o + n)) h2
    rw [List.drop_take] at this
    rw [this]
    simp [cellsB, List.map_drop]
  have l1 : (cur.toList.take o ++ cellsB ys).length = o + n := by rw [List.length_append, List.length_take, cellsB_len, hyl, Array.length_toList]; omega
  show List.take xs.length (cur.toList.take o ++ cellsB ys ++ cur.toList.drop (o + n)) = _
  rw [List.take_append, l1, List.take_of_length_le (by rw [l1]; exact hf), e2, e1]
  simp [cellsB]
theorem Mem.R_out {W : World} {g c B : Nat} {xs : List Int} {ok : Nat → Prop} {cur : Array Value} (h1 : W.heap[g]? = some (.cells cur 5 (0, 0))) (h2 : cur.toList.take xs.length = cellsB xs) (hc : cur.size = c) (hc2 : c ≤ 9223372036854775807) (hB : B ≤ g) (hok : ok g) : (Kd.int .u8).R 5 W B ok (.slice (some ⟨g, 0, none⟩) xs.length c) xs := by
  refine Kd.R_of_own ?_ (fun k hk => by
    have : g = k := by simpa [Value.ownBlock] using hk
    exact this ▸ hok)
  have hsz := Mem.size h1 h2
  refine ⟨by rw [encs_length, Nat.mul_one], .inr ⟨g, c, cur, rfl, hB, h1, by omega, by simp [maxLen]; omega, by omega, by rw [Nat.mul_one, h2]; rfl⟩⟩
theorem Mem.of_R {W : World} {B : Nat} {ok : Nat → Prop} {v : Value} {xs : List Int} (h : (Kd.int .u8).R 5 W B ok v xs) (hp : 0 < xs.length) : ∃ g c, v = .slice (some ⟨g, 0, none⟩) xs.length c ∧ Mem W g xs ∧ B ≤ g ∧ ok g ∧ xs.length ≤ c := by
  have ho := Kd.own_of_R h
  rcases ho.2 with ⟨_, h0⟩ | ⟨g, cap, cur, rfl, hB, hh, hc, _, _, ht⟩
  · omega
  · rw [Nat.mul_one] at ht
    exact ⟨g, cap, rfl, ⟨cur, hh, by rw [ht]; rfl⟩, hB, h.1 g rfl, hc⟩
theorem Mem.made (W : World) (n : Nat) (cur : Array Value) (hc : cur.toList = cellsB (List.replicate n 0)) : Mem (W.alloc (.cells cur 5)) W.heap.size (List.replicate n 0) :=
  ⟨cur, heap_alloc_new W _, by rw [hc, List.take_of_length_le (by rw [cellsB_len]; omega)]⟩
end Go.Proofs.YtpaonoaedjkekaaDoor.Dk
