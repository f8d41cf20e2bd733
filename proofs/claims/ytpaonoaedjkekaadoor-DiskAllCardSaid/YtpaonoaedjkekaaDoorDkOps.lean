/- The disk's operations in memory, read: an element, the flush, their comparison. -/
import Derived.Test.YtpaonoaedjkekaaDoorDkW
import Derived.Laws.StructEq
import Derived.Deep.QuietTactic
import Derived.Test.YtpaonoaedjkekaaDoorWEqStruct
namespace Go.Proofs.YtpaonoaedjkekaaDoor.Dk
open Go Go.RowKit Go.Proofs.YtpaonoaedjkekaaDoor.PD Go.Proofs.YtpaonoaedjkekaaDoorW.PrintWords Go.Proofs.YtpaonoaedjkekaaDoorW.PrintLast Go.Proofs.YtpaonoaedjkekaaDoorW.PrintMore
set_option linter.unusedVariables false
set_option linter.unusedSimpArgs false
set_option maxHeartbeats 4000000
set_option maxRecDepth 100000
def flushOp : Int × List Int := (-1, List.replicate 128 0)
/-- The listed variable: the flush. -/
abbrev Fl (W : World) : Prop := ∀ j v, (newOp (-1))[j]? = some v → W.cell? ⟨0, 0 + j, none⟩ = some v
/-- An operation's cells, where they lie. -/
theorem ops_at {h : Hd} {B : Nat} {fs ss : List Int} {A : Option Addr} {c : Nat} {ops : List (Int × List Int)} {W : World} (k : DkAt h B fs ss (.slice A ops.length c) ops W) (i : Nat) (op : Int × List Int) (hi : ops[i]? = some op) :
    op.2.length = 128 ∧ ∃ g, A = some ⟨g, 0, none⟩ ∧ ops.length ≤ c ∧ ∀ j v, (opCells op.1 op.2)[j]? = some v → W.cell? ⟨g, i * 129 + j, none⟩ = some v := by
  obtain ⟨hok, inner, ho, hr⟩ := k.o
  have hlt : i < ops.length := (List.getElem?_eq_some_iff.1 hi).1
  have hsz : kop.sz = 129 := rfl
  have hm := hr.2 i op hi
  have hm := kop.K_of_M hm
  obtain ⟨c0, c1, hcs, h0, h1⟩ := hm
  have h0 : c0 = [Value.int .i64 op.1] := h0
  obtain ⟨hl, h1⟩ := Kd.arr_cells h1
  have hcs : (inner.drop (i * 129)).take 129 = opCells op.1 op.2 := by rw [← hsz, hcs, h0, h1]; rfl
  refine ⟨hl, ?_⟩
  rcases ho.2 with ⟨_, hz⟩ | ⟨g, cap, cur, e, hB, hh, hc, _, _, ht⟩
  · omega
  · injection e with e1 e2 e3
    refine ⟨g, e1, by omega, fun j v hj => ?_⟩
    rw [cell_of_row W g _ cur 83 (0, 0) hh, ← Array.getElem?_toList]
    rw [← hcs, List.getElem?_take, List.getElem?_drop] at hj
    by_cases hj2 : j < 129
    · rw [if_pos hj2] at hj
      have := (List.getElem?_eq_some_iff.1 hj).1
      rw [← ht, List.getElem?_take] at hj
      split at hj
      · exact hj
      · cases hj
    · rw [if_neg hj2] at hj; cases hj
theorem run_load83 {W : World} {ad : Addr} {vs : List Value} (hl : vs.length = 129) (hc : ∀ j v, vs[j]? = some v → W.cell? (ad.add j) = some v) : (loadVar 83 ad).run Tryd.prog W = .ok (.agg vs.toArray) W := by
  have h1 := run_loadCells_list (P := Tryd.prog) W ad vs hc
  obtain ⟨i, hi, _, hs, _⟩ := infoParts info83
  have hagg : (isAgg 83).run Tryd.prog W = .ok true W := by
    unfold isAgg
    rw [Sem.run_bind, run_underlying Tryd.underlying83 W]
    rfl
  rw [hl] at h1
  simp [loadVar, Sem.run_bind, hagg, sizeOf, typeInfo, hi, hs, h1]
theorem add_at (g o j : Nat) : (⟨g, o, none⟩ : Addr).add j = ⟨g, o + j, none⟩ := add_off g o j
theorem exec_load83 {a : Act} {o : Oper} {W : World} {x : Operand} (ho : o.op = .load 83 x) {g off : Nat} {vs : List Value} (hx : a.eval x = .pointer (some ⟨g, off, none⟩)) (hl : vs.length = 129) (hc : ∀ j v, vs[j]? = some v → W.cell? ⟨g, off + j, none⟩ = some v) :
    (execOp a.eval o).run Tryd.prog W = .ok (.value (.agg vs.toArray)) W := by
  have h1 := run_load83 (W := W) (ad := ⟨g, off, none⟩) hl (fun j v hj => by rw [add_at]; exact hc j v hj)
  simp only [execOp, ho, hx, Instr.loadAt, Instr.sureAddr, Sem.run_bind, Sem.run_pure, Result.andThen_ok, h1]
theorem all_range_int : ∀ (xs ys : List Int), xs.length = ys.length → ((List.range xs.length).all fun i => xs.getD i 0 == ys.getD i 0) = (xs == ys)
  | [], [], _ => rfl
  | x :: xs, y :: ys, h => by
    have ih := all_range_int xs ys (by simpa using h)
    rw [List.length_cons, List.range_succ_eq_map, List.all_cons, List.all_map]
    simp only [List.getD_cons_zero, Function.comp_def, List.getD_cons_succ, ih]
    simp [List.cons_beq_cons]
  | [], _ :: _, h => by simp at h
  | _ :: _, [], h => by simp at h
theorem run_equalIn_cells (W : World) (d : Nat) (xs ys : List Int) (hx : xs.length = 128) (hy : ys.length = 128) :
    (Op.equalIn (d + 2) 81 (.agg (cellsB xs).toArray) (.agg (cellsB ys).toArray)).run Tryd.prog W = .ok (xs == ys) W := by
  have hsz : ∀ W : World, (sizeOf 5).run Tryd.prog W = .ok 1 W := fun W => by
    obtain ⟨i, hi, _, hs, _⟩ := infoParts info5'
    simp [sizeOf, typeInfo, hi, hs]
  rw [← all_range_int xs ys (hx.trans hy.symm), hx, List.range_eq_range', Op.equalIn]
  simp only [Sem.run_bind, run_underlying Tryd.underlying81, Result.andThen_ok, hsz, Std.Legacy.Range.forIn_eq_forIn_range', Std.Legacy.Range.size, Nat.sub_zero, Nat.add_sub_cancel, Nat.div_one]
  have hl : ∀ i ∈ List.range' 0 128 1, i < 128 := fun i hi => by have := (List.mem_range'_1.1 hi).2; omega
  generalize List.range' 0 128 1 = l at hl ⊢
  induction l with
  | nil => simp
  | cons i l ih =>
    have hi : i < 128 := hl i (by simp)
    have px : (part 5 (cellsB xs).toArray (i * 1)).run Tryd.prog W = .ok (.int .u8 (xs.getD i 0)) W := by
      simp [part, isAgg, run_underlying Tryd.underlying5, cellsB, List.getD, List.getElem?_eq_getElem (show i < xs.length by omega)]
    have py : (part 5 (cellsB ys).toArray (i * 1)).run Tryd.prog W = .ok (.int .u8 (ys.getD i 0)) W := by
      simp [part, isAgg, run_underlying Tryd.underlying5, cellsB, List.getD, List.getElem?_eq_getElem (show i < ys.length by omega)]
    have pe : (Op.equalIn (d + 1) 5 (.int .u8 (xs.getD i 0)) (.int .u8 (ys.getD i 0))).run Tryd.prog W = .ok (xs.getD i 0 == ys.getD i 0) W := run_equalIn_int W d 5 .u8 .u8 _ _ Tryd.underlying5
    simp only [List.forIn_cons, Sem.run_bind, px, py, pe, Result.andThen_ok, List.all_cons]
    cases hb : (xs.getD i 0 == ys.getD i 0)
    · simp
    · simp only [Bool.not_true, Bool.false_eq_true, if_false, Sem.run_pure, Result.andThen_ok, Bool.true_and]
      exact ih fun j hj => hl j (by simp [hj])
theorem run_neq_op (W : World) (n m : Int) (p q : List Int) (hp : p.length = 128) (hq : q.length = 128) :
    (binOp .neq 83 (.agg (opCells n p).toArray) (.agg (opCells m q).toArray)).run Tryd.prog W = .ok (.bool (!(n == m && p == q))) W := by
  have hsz : (sizeOf 81).run Tryd.prog W = .ok 128 W := by
    obtain ⟨i, hi, h2⟩ := Option.map_eq_some_iff.1 (show (Tryd.prog.info? 81).map (·.size) = some 128 by kernel_rfl)
    simp [sizeOf, typeInfo, hi, h2]
  have hagg : (isAgg 81).run Tryd.prog W = .ok true W := by
    unfold isAgg
    rw [Sem.run_bind, run_underlying Tryd.underlying81 W]
    rfl
  have hpart : ∀ (n : Int) (p : List Int), p.length = 128 → (part 81 (opCells n p).toArray 1).run Tryd.prog W = .ok (.agg (cellsB p).toArray) W := fun n p hp => by
    have he : (opCells n p).toArray.extract 1 (1 + 128) = (cellsB p).toArray := by
      rw [List.extract_toArray, List.extract_eq_take_drop]
      show (((opCells n p).drop 1).take 128).toArray = _
      rw [show (opCells n p).drop 1 = cellsB p from rfl, List.take_of_length_le (by rw [cellsB_len, hp]; exact Nat.le_refl _)]
    simp only [part, Sem.run_bind, hagg, Result.andThen_ok, hsz, if_true, Sem.run_pure, he]
  have hint : ∀ (n : Int) (p : List Int), (part 3 (opCells n p).toArray 0).run Tryd.prog W = .ok (.int .i64 n) W := fun n p => by
    simp [part, isAgg, run_underlying Tryd.underlying3, opCells]
  obtain ⟨fs, hfs⟩ : ∃ fs, fs = Tryd.prog.fieldsOf 83 := ⟨_, rfl⟩
  have he : (Op.equalIn 10000 83 (.agg (opCells n p).toArray) (.agg (opCells m q).toArray)).run Tryd.prog W = .ok (n == m && p == q) W := by
    refine eqA_of Tryd.underlying83 (by kernel_rfl) ?_
    refine eqf_cons rfl (hint n p) (hint m q) (run_equalIn_int W 9998 3 .i64 .i64 n m Tryd.underlying3) ?_
    exact eqf_last rfl (hpart n p hp) (hpart m q hq) (run_equalIn_cells W 9997 p q hp hq)
  rw [run_neq_struct, he]
  rfl
theorem exec_neq83 {a : Act} {o : Oper} {W : World} {x y : Operand} {t : TypeId} (ho : o.op = .binOp .neq 83 x y t) {n m : Int} {p q : List Int} (hx : a.eval x = .agg (opCells n p).toArray) (hy : a.eval y = .agg (opCells m q).toArray) (hp : p.length = 128) (hq : q.length = 128) :
    (execOp a.eval o).run Tryd.prog W = .ok (.value (.bool (!(n == m && p == q)))) W := by
  simp only [execOp, ho, hx, hy, Sem.run_bind, run_eqGuard_agg (P := Tryd.prog) W .neq 83 x y _ _ (by kernel_rfl), Result.andThen_ok, run_neq_op W n m p q hp hq, Sem.run_pure]
theorem wpQuiet_val {P : Program} {ops : Array Oper} {C : World → Prop} {Q : Act → Prop} {a : Act} {o : Oper} {rest : List Oper} (v : Value) (hw : Region.wanted o (yielded ops a.tmps) = true)
    (hv : ∀ w, C w → (execOp a.eval o).run P w = .ok (.value v) w) (h : wpQuiet P ops C Q rest (a.put o.dst v)) : wpQuiet P ops C Q (o :: rest) a := by
  unfold wpQuiet
  rw [if_pos hw]
  refine ⟨v, fun w hw => ?_, h⟩
  unfold Oper.quietAt
  rw [hv w hw]
  exact ⟨rfl, rfl⟩
end Go.Proofs.YtpaonoaedjkekaaDoor.Dk
