/- A codec's read, with its recover, walked. A codec's read of a reply, walked. A codec's Reply, walked. -/
import Derived.Test.YtafmoglaockepaaRe2
import Derived.Defers
import Derived.Recover
import Derived.Deep.RegionHeld3
import Derived.Deep.RegionLaw
namespace Go.Proofs.Ytafmoglaockepaa.Cd
open Go Go.RowKit Go.Proofs.Ytafmoglaockepaa.Num Go.Proofs.Ytafmoglaockepaa.PG Go.Proofs.YtafmoglaockepaaW.PrintWords Go.Proofs.YtafmoglaockepaaW.PrintLast Go.Proofs.YtafmoglaockepaaW.PrintMore
set_option linter.unusedVariables false
set_option linter.unusedSimpArgs false
set_option maxHeartbeats 4000000
set_option maxRecDepth 100000
section
variable {P : Program} {ops : Array Oper} {Q : Exit → Act → List Frame → World → Prop} {cs : List Frame}
theorem wpOpsS_of (hl : ¬ LetsOut (fun e a w => Q e a cs w)) : ∀ (l : List Nat) (a : Act) (w : World), wpOps P ops (fun e a' w' => Q e a' cs w') l a w → wpOpsS P ops Q l a cs w
  | [], a, w, h => h
  | i :: rest, a, w, h => by
    simp only [wpOps] at h
    simp only [wpOpsS]
    cases ho : ops[i]? with
    | none =>
      simp only [ho] at h
      exact wpOpsS_of hl rest a w h
    | some o =>
      simp only [ho] at h
      by_cases hw : Region.wanted o (yielded ops a.tmps) = true
      · simp only [hw, if_true] at h ⊢
        rcases h with h | ⟨_, h⟩
        · have h := Oper.wp_mono (fun a w hh => wpOpsS_of hl rest a w hh) h
          unfold Oper.wp at h
          generalize (execOp a.eval o).run P w = r at h ⊢
          split
          · exact h.elim
          · exact h
        · exact absurd h hl
      · simp only [hw] at h ⊢
        exact wpOpsS_of hl rest _ w h
/-- A region that begins with a recover which hands a value back. -/
theorem wpS_recovers {id : Nat} {o : Oper} {l : List Oper} {a : Act} {w : World} {v : Value} {cs' : List Frame} (hw : Region.wanted o (yielded (o :: l).toArray a.tmps) = true) (hr : (execOp a.eval o).run P w = .ok .recover w)
    (hrec : recoverD cs = some (v, cs')) (hl : ¬ LetsOut (fun e a w => Q e a cs' w)) (h : wpList P (o :: l).toArray (fun e a' w' => Q e a' cs' w') l (a.put o.dst v) w) : (Code.region id (o :: l).toArray false).wpS P Q a cs w := by
  refine wpS_region ?_
  rw [List.size_toArray, List.length_cons, List.range_eq_range', List.range'_succ]
  simp only [wpOpsS]
  have h0 : (o :: l).toArray[0]? = some o := by simp
  simp only [h0, hw, if_true, hr, hrec]
  refine wpOpsS_of hl _ _ _ ?_
  rw [wpOps_eq_wpList l 1 (by intro j; simp [Nat.add_comm])]
  exact h
theorem wpS_recovers_none {id : Nat} {o : Oper} {l : List Oper} {a : Act} {w : World} (hw : Region.wanted o (yielded (o :: l).toArray a.tmps) = true) (hr : (execOp a.eval o).run P w = .ok .recover w)
    (hrec : recoverD cs = none) (hl : ¬ LetsOut (fun e a w => Q e a cs w)) (h : wpList P (o :: l).toArray (fun e a' w' => Q e a' cs w') l (a.put o.dst .nilIface) w) : (Code.region id (o :: l).toArray false).wpS P Q a cs w := by
  refine wpS_region ?_
  rw [List.size_toArray, List.length_cons, List.range_eq_range', List.range'_succ]
  simp only [wpOpsS]
  have h0 : (o :: l).toArray[0]? = some o := by simp
  simp only [h0, hw, if_true, hr, hrec]
  refine wpOpsS_of hl _ _ _ ?_
  rw [wpOps_eq_wpList l 1 (by intro j; simp [Nat.add_comm])]
  exact h
end
abbrev zeroRep : List Value := [.string ⟨#[]⟩, .int .i64 0, .int .i64 0, .slice none 0 0, .int .i64 0]
theorem catch_fault {bo be ba : Nat} {ve va : Value} (er p : Int) (older : List PanicEntry) (w : World) (ho : Rt 25 bo zeroRep w) (he : Rt 22 be [ve] w) (ha : Rt 3 ba [va] w) (h1 : bo ≠ be) (h2 : bo ≠ ba) (h3 : be ≠ ba) :
    CallsD Try.prog 114 #[ptr bo, ptr be, ptr ba] (.panicking ({ v := fault er p, recovered := false } :: older)) w fun e u' w' =>
      e = .returned (.tuple #[]) ∧ u' = .panicking ({ v := fault er p, recovered := true } :: older) ∧ Rt 25 bo zeroRep w' ∧ Rt 22 be [.int .i64 er] w' ∧ Rt 3 ba [.int .i64 p] w' ∧ Kept w w' (fun j => j = bo ∨ j = be ∨ j = ba) ∧ ∀ B, B ≤ be → B ≤ ba → B ≤ w.heap.size → Below B w w' := by
  have HO := Aside0.mk ho
  have HE := Aside0.mk he
  have HA := Aside0.mk ha
  have hu155 := Try.underlying155
  clear ho he ha
  refine callsD_of_wpS Try.func114 rfl fun c₀ cs hu => ?_
  simp only [Try.ntmps114, List.size_toArray, List.length_cons, List.length_nil, Nat.reduceAdd, Nat.reduceSub, Array.replicate_succ, Array.replicate_zero, List.push_toArray, List.append_toArray, List.nil_append, List.cons_append]
  apply wpS_seq
  refine wpS_recovers (v := fault er p) (cs' := { c₀ with mode := .panicking ({ v := fault er p, recovered := true } :: older) } :: cs) (by rfl) (by simp [go_sem]) (by simp [recoverD, hu]) ?_ ?_
  · rintro ⟨a, w, u', h, _⟩
    cases h
  simp only [Act.put, List.setIfInBounds_toArray, List.set_cons_zero, List.set_cons_succ]
  unfold fault
  have hTA : ∀ v w, (Instr.typeAssert (.iface 155 v) 20 155 true).run Try.prog w = .ok (.tuple #[v, .bool true]) w := fun v w => by
    simp [Instr.typeAssert, run_underlying hu155]
  go_wp2_with fail
  simp only [Exit.thenS]
  refine wpS_of_wp ?_
  have hb1 : Below w.heap.size w (w.alloc (.cells #[.int .i64 er, .int .i64 p] 155)) := below_alloc (Below.refl _ _) _
  have hr3 : Rt 155 w.heap.size [.int .i64 er, .int .i64 p] (w.alloc (.cells #[.int .i64 er, .int .i64 p] 155)) := heap_alloc_new w _
  obtain ⟨b3, hb3⟩ : ∃ b3, w.heap.size = b3 := ⟨_, rfl⟩
  have HB3E := Aside0.mk hb3
  have O1 := Aside0.mk (HO.out.below hb1)
  have E1 := Aside0.mk (HE.out.below hb1)
  have A1 := Aside0.mk (HA.out.below hb1)
  have P1 := Aside0.mk (Kept.of_below hb1 (fun j => j = bo ∨ j = be ∨ j = ba))
  have W1 := Aside0.mk (show Below w.heap.size w (w.alloc (.cells #[.int .i64 er, .int .i64 p] 155)) from hb1)
  rw [hb3] at hr3 ⊢
  have R1 := Aside0.mk hr3
  clear hb1 hr3 hb3 hTA hu155 hu
  generalize w.alloc (.cells #[.int .i64 er, .int .i64 p] 155) = w1 at *
  go_upto_region 3 with fail
  have hb1 : Below w1.heap.size w1 (w1.alloc (.cells #[.string ⟨#[]⟩, .int .i64 0, .int .i64 0, .slice none 0 0, .int .i64 0] 25)) := below_alloc (Below.refl _ _) _
  have hr5 : Rt 25 w1.heap.size zeroRep (w1.alloc (.cells #[.string ⟨#[]⟩, .int .i64 0, .int .i64 0, .slice none 0 0, .int .i64 0] 25)) := heap_alloc_new w1 _
  obtain ⟨b5, hb5⟩ : ∃ b5, w1.heap.size = b5 := ⟨_, rfl⟩
  have O2 := Aside0.mk (O1.out.below hb1)
  have E2 := Aside0.mk (E1.out.below hb1)
  have A2 := Aside0.mk (A1.out.below hb1)
  have R2 := Aside0.mk (R1.out.below hb1)
  have P2 := Aside0.mk (P1.out.below hb1)
  have W2 := Aside0.mk (W1.out.trans (hb1.mono W1.out.size))
  rw [hb5] at hr5 ⊢
  have Z2 := Aside0.mk hr5
  clear hb1 hr5 hb5 O1 E1 A1 R1 P1 W1
  generalize w1.alloc (.cells #[.string ⟨#[]⟩, .int .i64 0, .int .i64 0, .slice none 0 0, .int .i64 0] 25) = w2 at *
  have MKS := Aside0.mk (show ∀ w' : World, (∀ j t (u : Array Value), w2.heap[j]? = some (Obj.cells u t (0, 0)) → t ≠ 22 → t ≠ 3 → w'.heap[j]? = w2.heap[j]?) → (fun w' : World => (w'.cell? ⟨b5, 0, none⟩ = some (.string ⟨#[]⟩) ∧ w'.cell? ⟨b5, 1, none⟩ = some (.int .i64 0) ∧ w'.cell? ⟨b5, 2, none⟩ = some (.int .i64 0) ∧ w'.cell? ⟨b5, 3, none⟩ = some (.slice none 0 0) ∧ w'.cell? ⟨b5, 4, none⟩ = some (.int .i64 0)) ∧ w'.cell? ⟨b3, 0, none⟩ = some (.int .i64 er) ∧ w'.cell? ⟨b3, 1, none⟩ = some (.int .i64 p)) w' from fun w' hw => by
    have z : Rt 25 b5 zeroRep w' := (hw b5 25 _ Z2.out (by decide) (by decide)).trans Z2.out
    have r : Rt 155 b3 [.int .i64 er, .int .i64 p] w' := (hw b3 155 _ R2.out (by decide) (by decide)).trans R2.out
    exact ⟨⟨z.cell 0 _ rfl, z.cell 1 _ rfl, z.cell 2 _ rfl, z.cell 3 _ rfl, z.cell 4 _ rfl⟩, r.cell 0 _ rfl, r.cell 1 _ rfl⟩)
  refine wp_region_held_drew (S := fun w' : World => (w'.cell? ⟨b5, 0, none⟩ = some (.string ⟨#[]⟩) ∧ w'.cell? ⟨b5, 1, none⟩ = some (.int .i64 0) ∧ w'.cell? ⟨b5, 2, none⟩ = some (.int .i64 0) ∧ w'.cell? ⟨b5, 3, none⟩ = some (.slice none 0 0) ∧ w'.cell? ⟨b5, 4, none⟩ = some (.int .i64 0)) ∧ w'.cell? ⟨b3, 0, none⟩ = some (.int .i64 er) ∧ w'.cell? ⟨b3, 1, none⟩ = some (.int .i64 p)) (by kernel_rfl) (MKS.out _ (fun _ _ _ _ _ _ => rfl)) (fun hHeld => ?_)
  refine wpAnyH_take (i := 0) (oi := { dst := some 12, op := Op.load 25 (Operand.tmp 5), type := 25, pos := "read.go:88", after := #[], guard := none }) (v := ?_) rfl (by kernel_rfl) (by kernel_rfl) (by kernel_rfl) (fun _ _ _ h => h) (Or.inl ⟨by rfl, ?_⟩) hHeld ?_
  rotate_left
  · intro w' hS; obtain ⟨⟨hS0, hS1, hS2, hS3, hS4⟩, hS5, hS6⟩ := hS; go_simp; all_goals (with_reducible rfl)
  (try simp only [Act.put, List.setIfInBounds_toArray, List.set_cons_zero, List.set_cons_succ])
  refine wpAnyH_take (i := 1) (oi := { dst := some 13, op := Op.fieldAddr 155 (Operand.tmp 3) 0, type := 0, pos := "read.go:88", after := #[{ on := 5, ground := Ground.gcOnly Departure.lateStores }], guard := none }) (v := ?_) rfl (by kernel_rfl) (by kernel_rfl) (by kernel_rfl) (fun _ _ _ h => h) (Or.inl ⟨by rfl, ?_⟩) hHeld ?_
  rotate_left
  · intro w' hS; obtain ⟨⟨hS0, hS1, hS2, hS3, hS4⟩, hS5, hS6⟩ := hS; go_simp; all_goals (with_reducible rfl)
  (try simp only [Act.put, List.setIfInBounds_toArray, List.set_cons_zero, List.set_cons_succ])
  refine wpAnyH_take (i := 2) (oi := { dst := some 14, op := Op.load 22 (Operand.tmp 13), type := 22, pos := "read.go:88", after := #[{ on := 1, ground := Ground.data }, { on := 5, ground := Ground.gcOnly Departure.lateStores }], guard := none }) (v := ?_) rfl (by kernel_rfl) (by kernel_rfl) (by kernel_rfl) (fun _ _ _ h => h) (Or.inl ⟨by rfl, ?_⟩) hHeld ?_
  rotate_left
  · intro w' hS; obtain ⟨⟨hS0, hS1, hS2, hS3, hS4⟩, hS5, hS6⟩ := hS; go_simp; all_goals (with_reducible rfl)
  (try simp only [Act.put, List.setIfInBounds_toArray, List.set_cons_zero, List.set_cons_succ])
  refine wpAnyH_take (i := 3) (oi := { dst := some 15, op := Op.fieldAddr 155 (Operand.tmp 3) 1, type := 0, pos := "read.go:88", after := #[{ on := 6, ground := Ground.gcOnly Departure.lateStores }], guard := none }) (v := ?_) rfl (by kernel_rfl) (by kernel_rfl) (by kernel_rfl) (fun _ _ _ h => h) (Or.inl ⟨by rfl, ?_⟩) hHeld ?_
  rotate_left
  · intro w' hS; obtain ⟨⟨hS0, hS1, hS2, hS3, hS4⟩, hS5, hS6⟩ := hS; go_simp; all_goals (with_reducible rfl)
  (try simp only [Act.put, List.setIfInBounds_toArray, List.set_cons_zero, List.set_cons_succ])
  refine wpAnyH_take (i := 4) (oi := { dst := some 16, op := Op.load 3 (Operand.tmp 15), type := 3, pos := "read.go:88", after := #[{ on := 3, ground := Ground.data }, { on := 6, ground := Ground.gcOnly Departure.lateStores }], guard := none }) (v := ?_) rfl (by kernel_rfl) (by kernel_rfl) (by kernel_rfl) (fun _ _ _ h => h) (Or.inl ⟨by rfl, ?_⟩) hHeld ?_
  rotate_left
  · intro w' hS; obtain ⟨⟨hS0, hS1, hS2, hS3, hS4⟩, hS5, hS6⟩ := hS; go_simp; all_goals (with_reducible rfl)
  (try simp only [Act.put, List.setIfInBounds_toArray, List.set_cons_zero, List.set_cons_succ])
  refine wpAnyH_ready (rs := [5]) (by kernel_rfl) (by simp) ?_
  refine AllReadyH.cons (o := { dst := none, op := Op.store 25 (Operand.tmp 0) (Operand.tmp 12), type := 0, pos := "read.go:88", after := #[{ on := 0, ground := Ground.data }, { on := 0, ground := Ground.phase }, { on := 1, ground := Ground.textOnly Departure.lateStores }, { on := 2, ground := Ground.textOnly Departure.lateStores }, { on := 3, ground := Ground.textOnly Departure.lateStores }, { on := 4, ground := Ground.textOnly Departure.lateStores }], guard := none }) rfl (fun K hK => ?_) AllReadyH.nil
  have d0 := O2.out.cell 0 _ rfl
  have d1 := O2.out.cell 1 _ rfl
  have d2 := O2.out.cell 2 _ rfl
  have d3 := O2.out.cell 3 _ rfl
  have d4 := O2.out.cell 4 _ rfl
  have f0 := O2.out.free 0
  have f1 := O2.out.free 1
  have f2 := O2.out.free 2
  have f3 := O2.out.free 3
  have f4 := O2.out.free 4
  go_simp
  rw [O2.out.same 0 _ rfl, O2.out.same 1 _ rfl, O2.out.same 2 _ rfl, O2.out.same 3 _ rfl, O2.out.same 4 _ rfl]
  clear d0 d1 d2 d3 d4 f0 f1 f2 f3 f4
  refine hK.out _ _ (MKS.out _ (fun _ _ _ _ _ _ => rfl)) (fun hHeld => ?_)
  clear hK K
  (try simp only [Act.put, List.setIfInBounds_toArray, List.set_cons_zero, List.set_cons_succ])
  refine wpAnyH_ready (rs := [6]) (by kernel_rfl) (by simp) ?_
  refine AllReadyH.cons (o := { dst := none, op := Op.store 22 (Operand.tmp 1) (Operand.tmp 14), type := 0, pos := "read.go:88", after := #[{ on := 2, ground := Ground.data }, { on := 5, ground := Ground.chain }, { on := 0, ground := Ground.phase }, { on := 1, ground := Ground.phase }, { on := 2, ground := Ground.phase }, { on := 3, ground := Ground.textOnly Departure.lateStores }, { on := 4, ground := Ground.textOnly Departure.lateStores }, { on := 5, ground := Ground.phase }], guard := none }) rfl (fun K hK => ?_) AllReadyH.nil
  have d0 := E2.out.cell 0 _ rfl
  have f0 := E2.out.free 0
  go_simp
  rw [E2.out.set 0 (.int .i64 er), show [ve].set 0 (.int .i64 er) = [Value.int .i64 er] from rfl]
  have E6 := Aside0.mk (show Rt 22 be [.int .i64 er] (w2.setRow be [Value.int .i64 er].toArray) from E2.out.row _)
  have A6 := Aside0.mk (show Rt 3 ba [va] (w2.setRow be [Value.int .i64 er].toArray) from (setRow_other _ _ _ _ (Ne.symm h3)).trans A2.out)
  clear d0 f0
  refine hK.out _ _ (MKS.out _ (fun j t u hj h22 h3' => setRow_other _ _ _ _ (fun e => h22 (by rw [e] at hj; exact blk_types hj E2.out)))) (fun hHeld => ?_)
  clear hK K
  (try simp only [Act.put, List.setIfInBounds_toArray, List.set_cons_zero, List.set_cons_succ])
  refine wpAnyH_ready (rs := [7]) (by kernel_rfl) (by simp) ?_
  refine AllReadyH.cons (o := { dst := none, op := Op.store 3 (Operand.tmp 2) (Operand.tmp 16), type := 0, pos := "read.go:88", after := #[{ on := 4, ground := Ground.data }, { on := 6, ground := Ground.chain }, { on := 0, ground := Ground.phase }, { on := 1, ground := Ground.phase }, { on := 2, ground := Ground.phase }, { on := 3, ground := Ground.phase }, { on := 4, ground := Ground.phase }, { on := 5, ground := Ground.phase }, { on := 6, ground := Ground.phase }], guard := none }) rfl (fun K hK => ?_) AllReadyH.nil
  have d0 := A6.out.cell 0 _ rfl
  have f0 := A6.out.free 0
  go_simp
  rw [A6.out.set 0 (.int .i64 p), show [va].set 0 (.int .i64 p) = [Value.int .i64 p] from rfl]
  have A7 := Aside0.mk (show Rt 3 ba [.int .i64 p] ((w2.setRow be [Value.int .i64 er].toArray).setRow ba [Value.int .i64 p].toArray) from A6.out.row _)
  have E7 := Aside0.mk (show Rt 22 be [.int .i64 er] ((w2.setRow be [Value.int .i64 er].toArray).setRow ba [Value.int .i64 p].toArray) from (setRow_other _ _ _ _ h3).trans E6.out)
  have O7 := Aside0.mk (show Rt 25 bo zeroRep ((w2.setRow be [Value.int .i64 er].toArray).setRow ba [Value.int .i64 p].toArray) from (setRow_other _ _ _ _ h2).trans ((setRow_other _ _ _ _ h1).trans O2.out))
  have P7 := Aside0.mk (show Kept w ((w2.setRow be [Value.int .i64 er].toArray).setRow ba [Value.int .i64 p].toArray) (fun j => j = bo ∨ j = be ∨ j = ba) from ⟨by rw [setRow_size, setRow_size]; exact P2.out.1, fun j hj hn => (setRow_other _ _ _ _ (fun e => hn (.inr (.inr e)))).trans ((setRow_other _ _ _ _ (fun e => hn (.inr (.inl e)))).trans (P2.out.2 j hj hn))⟩)
  clear d0 f0
  refine hK.out _ _ (MKS.out _ (fun j t u hj h22 h3' => (setRow_other _ _ _ _ (fun e => h3' (by rw [e] at hj; exact blk_types hj A2.out))).trans (setRow_other _ _ _ _ (fun e => h22 (by rw [e] at hj; exact blk_types hj E2.out))))) (fun hHeld => ?_)
  clear hK K
  (try simp only [Act.put, List.setIfInBounds_toArray, List.set_cons_zero, List.set_cons_succ])
  refine wpAnyH_done (by kernel_rfl) ?_ _
  (try simp only [Act.put, List.setIfInBounds_toArray, List.set_cons_zero, List.set_cons_succ])
  try simp only [Exit.then]
  refine ⟨rfl, _, rfl, ?_⟩
  refine ⟨.tuple #[], by simp [results, Try.f114, Try.results114], rfl, rfl, O7.out, E7.out, A7.out, P7.out, fun B h1 h2 h3 => ?_⟩
  exact below_drew (below_setRow' (below_setRow' (W2.out.mono (by have := HB3E.out; omega)) h1 _) h2 _)
theorem catch_idle {bo be ba : Nat} (w : World) :
    CallsD Try.prog 114 #[ptr bo, ptr be, ptr ba] .returning w fun e u' w' => e = .returned (.tuple #[]) ∧ u' = .returning ∧ Below w.heap.size w w' := by
  have hu155 := Try.underlying155
  refine callsD_of_wpS Try.func114 rfl fun c₀ cs hu => ?_
  simp only [Try.ntmps114, List.size_toArray, List.length_cons, List.length_nil, Nat.reduceAdd, Nat.reduceSub, Array.replicate_succ, Array.replicate_zero, List.push_toArray, List.append_toArray, List.nil_append, List.cons_append]
  apply wpS_seq
  refine wpS_recovers_none (by rfl) (by simp [go_sem]) (by simp [recoverD, hu]) ?_ ?_
  · rintro ⟨a, w, u', h, _⟩
    cases h
  simp only [Act.put, List.setIfInBounds_toArray, List.set_cons_zero, List.set_cons_succ]
  obtain ⟨i, hi, hz, _, _⟩ : ∃ i, Try.prog.info? 155 = some i ∧ i.zero = some (.agg #[.int .i64 0, .int .i64 0]) ∧ i.size = 2 ∧ True := by
    have h : (Try.prog.info? 155).map (fun i => (i.zero, i.size)) = some (some (.agg #[.int .i64 0, .int .i64 0]), 2) := by kernel_rfl
    obtain ⟨i, hi, he⟩ := Option.map_eq_some_iff.1 h
    simp only [Prod.mk.injEq] at he
    exact ⟨i, hi, he.1, he.2, trivial⟩
  have hTA : ∀ w, (Instr.typeAssert .nilIface 20 155 true).run Try.prog w = .ok (.tuple #[.agg #[.int .i64 0, .int .i64 0], .bool false]) w := fun w => by
    simp [Instr.typeAssert, run_underlying hu155, zeroValue, typeInfo, hi, hz]
  have hb1 : Below w.heap.size w (w.alloc (.cells #[.int .i64 0, .int .i64 0] 155)) := below_alloc (Below.refl _ _) _
  have HB := Aside0.mk hb1
  clear hb1
  go_wp2_with fail
  simp only [Exit.thenS]
  refine wpS_of_wp ?_
  go_wp2_with fail
  refine ⟨rfl, .returning, ?_, .tuple #[], by simp [results, Try.f114, Try.results114], rfl, rfl, HB.out⟩
  rw [← hu]
end Go.Proofs.Ytafmoglaockepaa.Cd
namespace Go.Proofs.Ytafmoglaockepaa.Cd
open Go Go.RowKit Go.Proofs.Ytafmoglaockepaa.Num Go.Proofs.Ytafmoglaockepaa.PG Go.Proofs.YtafmoglaockepaaW.PrintWords Go.Proofs.YtafmoglaockepaaW.PrintLast Go.Proofs.YtafmoglaockepaaW.PrintMore
set_option linter.unusedVariables false
set_option linter.unusedSimpArgs false
set_option maxHeartbeats 4000000
set_option maxRecDepth 100000
def endOf {α : Type} : Res α → Int × Int
  | .ok _ _ => (0, 0)
  | .fail e p => (e, p)
def repOut (S0 : Nat) (r : Res RepD) (v : Value) (w : World) : Prop :=
  match r with
  | .ok x _ => encRep S0 x v w
  | .fail _ _ => v = .agg zeroRep.toArray
theorem read_reply (A : Option Addr) (n c : Nat) (xs : List Int) (W : World) (hC : Kd.C (Kd.int .u8) W A n xs) (hnc : n ≤ c) (hb : IsBytes xs) (hbig : n < 1000000000) :
    Calls Try.prog 59 #[.slice A n c, .int .u8 82, .int .i64 4096, .func (.func 60) #[] #[]] W fun e w' => Below W.heap.size W w' ∧ ∃ v, e = .returned (.tuple #[v, .int .i64 (endOf (whole 82 4096 xs (pReply xs 4096))).1, .int .i64 (endOf (whole 82 4096 xs (pReply xs 4096))).2]) ∧ repOut W.heap.size (whole 82 4096 xs (pReply xs 4096)) v w' := by
  have HC := Aside0.mk hC
  have HNC := Aside0.mk hnc
  have HBY := Aside0.mk hb
  have HBIG := Aside0.mk hbig
  have HLEN := Aside0.mk (show xs.length = n from Kd.C_len hC)
  have hmf : ∀ (fn : Fn) (first cap : Array Value) (w : World), (Instr.makeFunc fn first cap).run Try.prog w = .ok (.func fn first cap) w := fun _ _ _ _ => rfl
  clear hC hnc hb hbig
  obtain ⟨bo, hbo⟩ : ∃ bo, W.heap.size = bo := ⟨_, rfl⟩
  have HBO := Aside0.mk hbo
  clear hbo
  go_enter_defers Try.func59, Try.ntmps59
  go_upto_region 3 with fail
  have hb1 : Below W.heap.size W (W.alloc (.cells #[.string ⟨#[]⟩, .int .i64 0, .int .i64 0, .slice none 0 0, .int .i64 0] 25)) := below_alloc (Below.refl _ _) _
  have o1 : Rt 25 W.heap.size zeroRep (W.alloc (.cells #[.string ⟨#[]⟩, .int .i64 0, .int .i64 0, .slice none 0 0, .int .i64 0] 25)) := heap_alloc_new W _
  have s1 : (W.alloc (.cells #[.string ⟨#[]⟩, .int .i64 0, .int .i64 0, .slice none 0 0, .int .i64 0] 25)).heap.size = W.heap.size + 1 := by simp
  generalize W.alloc (.cells #[.string ⟨#[]⟩, .int .i64 0, .int .i64 0, .slice none 0 0, .int .i64 0] 25) = wa at *
  have hb2 : Below wa.heap.size wa (wa.alloc (.cells #[.int .i64 0] 22)) := below_alloc (Below.refl _ _) _
  have e2 : Rt 22 wa.heap.size [.int .i64 0] (wa.alloc (.cells #[.int .i64 0] 22)) := heap_alloc_new wa _
  have o2 := o1.below hb2
  have s2 : (wa.alloc (.cells #[.int .i64 0] 22)).heap.size = wa.heap.size + 1 := by simp
  have hc2 := hb1.trans (hb2.mono hb1.size)
  generalize wa.alloc (.cells #[.int .i64 0] 22) = wb at *
  have hb3 : Below wb.heap.size wb (wb.alloc (.cells #[.int .i64 0] 3)) := below_alloc (Below.refl _ _) _
  have a3 : Rt 3 wb.heap.size [.int .i64 0] (wb.alloc (.cells #[.int .i64 0] 3)) := heap_alloc_new wb _
  have o3 := o2.below hb3
  have e3 := e2.below hb3
  have s3 : (wb.alloc (.cells #[.int .i64 0] 3)).heap.size = wb.heap.size + 1 := by simp
  have hc3 := hc2.trans (hb3.mono hc2.size)
  generalize wb.alloc (.cells #[.int .i64 0] 3) = wc at *
  have hb4 : Below wc.heap.size wc (wc.alloc (.cells #[.slice A n c, .int .i64 0, .int .i64 4096] 158)) := below_alloc (Below.refl _ _) _
  have g4 : Rt 158 wc.heap.size [.slice A n c, .int .i64 0, .int .i64 4096] (wc.alloc (.cells #[.slice A n c, .int .i64 0, .int .i64 4096] 158)) := heap_alloc_new wc _
  have o4 := o3.below hb4
  have e4 := e3.below hb4
  have a4 := a3.below hb4
  have hc4 := hc3.trans (hb4.mono hc3.size)
  have s4 : (wc.alloc (.cells #[.slice A n c, .int .i64 0, .int .i64 4096] 158)).heap.size = wc.heap.size + 1 := by simp
  generalize wc.alloc (.cells #[.slice A n c, .int .i64 0, .int .i64 4096] 158) = w4 at *
  rw [s3, s2, s1] at g4 s4
  rw [s2, s1] at a4
  rw [s1] at e4
  obtain ⟨be, hbe⟩ : ∃ be, W.heap.size + 1 = be := ⟨_, rfl⟩
  rw [hbe] at e4 a4 g4 s4 ⊢
  obtain ⟨ba, hba⟩ : ∃ ba, be + 1 = ba := ⟨_, rfl⟩
  rw [hba] at a4 g4 s4 ⊢
  obtain ⟨g, hg⟩ : ∃ g, ba + 1 = g := ⟨_, rfl⟩
  rw [hg] at g4 s4 ⊢
  rw [HBO.out] at o4 hbe ⊢
  have O4 := Aside0.mk o4
  have E4 := Aside0.mk e4
  have A4 := Aside0.mk a4
  have G4 := Aside0.mk g4
  have B4 := Aside0.mk (show Below bo W w4 by rw [← HBO.out]; exact hc4)
  have HORD := Aside0.mk (show be = bo + 1 ∧ ba = bo + 2 ∧ g = bo + 3 ∧ w4.heap.size = bo + 4 by omega)
  clear hb1 o1 s1 hb2 e2 o2 s2 hc2 hb3 a3 o3 e3 s3 hc3 hb4 o4 e4 a4 hc4 s4 hbe hba hg g4 hmf
  have HFAULT := Aside0.mk (show ∀ (er p : Int) (w : World), Rt 25 bo zeroRep w → Rt 22 be [.int .i64 0] w → Rt 3 ba [.int .i64 0] w → Below bo W w → CallsD Try.prog 114 #[ptr bo, ptr be, ptr ba] (.panicking [{ v := fault er p, recovered := false }]) w fun e u' w' =>
      e = .returned (.tuple #[]) ∧ u' = .panicking [{ v := fault er p, recovered := true }] ∧ Rt 25 bo zeroRep w' ∧ Rt 22 be [.int .i64 er] w' ∧ Rt 3 ba [.int .i64 p] w' ∧ Below bo W w' from fun er p w ho he ha hb => by
    have := HORD.out
    refine (catch_fault er p [] w ho he ha (by omega) (by omega) (by omega)).mono ?_
    rintro e u' w' ⟨h1, h2, h3, h4, h5, _, h6⟩
    exact ⟨h1, h2, h3, h4, h5, hb.trans (h6 bo (by omega) (by omega) (by have := hb.size; have := HBO.out; omega))⟩)
  by_cases hl : 4096 < n
  · have d1 : decide ((4096 : Int) < (n : Int)) = true := decide_eq_true (by omega)
    have d2 : decide (4096 < n) = true := decide_eq_true hl
    have HR := Aside0.mk (show whole 82 4096 xs (pReply xs 4096) = Res.fail 1 0 by
      unfold whole
      rw [HLEN.out, if_pos hl])
    clear hl
    go_wp2_with fail
    refine leaves_cons (f := 114) (args := #[ptr bo, ptr be, ptr ba]) (by simp) (by simp [go_sem]) ?_
    refine (HFAULT.out 1 0 w4 O4.out E4.out A4.out B4.out).mono ?_
    rintro e u' w' ⟨rfl, rfl, ho, he, ha, hb⟩
    have x0 := ho.cell 0 _ rfl
    have x1 := ho.cell 1 _ rfl
    have x2 := ho.cell 2 _ rfl
    have x3 := ho.cell 3 _ rfl
    have x4 := ho.cell 4 _ rfl
    have y0 := he.cell 0 _ rfl
    have z0 := ha.cell 0 _ rfl
    rw [HR.out]
    simp [Leaves, settle, results, Try.results59, go_sem, x0, x1, x2, x3, x4, y0, z0]
    exact ⟨by rw [HBO.out]; exact hb, _, ⟨rfl, rfl, rfl⟩, rfl⟩
  have d1 : decide ((4096 : Int) < (n : Int)) = false := decide_eq_false (by omega)
  have d2 : decide (4096 < n) = false := decide_eq_false hl
  have HL := Aside0.mk hl
  clear hl
  rcases Nat.eq_zero_or_pos n with hz | hz
  · have HR := Aside0.mk (show whole 82 4096 xs (pReply xs 4096) = Res.fail 3 0 by
      unfold whole
      rw [HLEN.out, if_neg HL.out, if_pos hz])
    have d3 : ((n : Int) == 0) = true := by simpa using hz
    have d4 : decide (n = 0) = true := decide_eq_true hz
    have d5 : (n : Int) = 0 := by omega
    go_wp2_with fail
    refine leaves_cons (f := 114) (args := #[ptr bo, ptr be, ptr ba]) (by simp) (by simp [go_sem]) ?_
    refine (HFAULT.out 3 0 w4 O4.out E4.out A4.out B4.out).mono ?_
    rintro e u' w' ⟨rfl, rfl, ho, he, ha, hb⟩
    have x0 := ho.cell 0 _ rfl
    have x1 := ho.cell 1 _ rfl
    have x2 := ho.cell 2 _ rfl
    have x3 := ho.cell 3 _ rfl
    have x4 := ho.cell 4 _ rfl
    have y0 := he.cell 0 _ rfl
    have z0 := ha.cell 0 _ rfl
    rw [HR.out]
    simp [Leaves, settle, results, Try.results59, go_sem, x0, x1, x2, x3, x4, y0, z0]
    exact ⟨by rw [HBO.out]; exact hb, _, ⟨rfl, rfl, rfl⟩, rfl⟩
  have d3 : ((n : Int) == 0) = false := by simp; omega
  have d4 : decide (n = 0) = false := decide_eq_false (by omega)
  have HZ := Aside0.mk hz
  have i0 : (0 : Int) < (n : Int) := by omega
  have hCx := Kd.C_below HC.out (show Below W.heap.size W w4 by rw [HBO.out]; exact B4.out)
  obtain ⟨ad, rfl, hcell⟩ := (Kd.reads_of_C (d := (0 : Int)) (h1 := fun _ => rfl) hCx).2.2 hz
  have k0 := hcell 0 hz
  obtain ⟨x, hx⟩ : ∃ x, xs.getD 0 0 = x := ⟨_, rfl⟩
  rw [hx] at k0
  have HX := Aside0.mk (show xs.headD 0 = x by rw [← hx]; cases xs <;> rfl)
  have k1 : w4.cell? ad = some (.int .u8 x) := by
    have e : ad.add 0 = ad := by simp [Addr.add]
    rwa [e] at k0
  clear hz hCx hcell hx
  by_cases hk : x = 82
  rotate_left
  · have HR := Aside0.mk (show whole 82 4096 xs (pReply xs 4096) = Res.fail 90 0 by
      unfold whole
      rw [HLEN.out, if_neg HL.out, if_neg (by have := HZ.out; omega), HX.out, if_pos hk])
    have d5 : (x != 82) = true := by simpa using hk
    have d6 : (x == 82) = false := by simpa using hk
    have d7 : decide (x = 82) = false := decide_eq_false hk
    clear hk
    go_wp2_with fail
    refine leaves_cons (f := 114) (args := #[ptr bo, ptr be, ptr ba]) (by simp) (by simp [go_sem]) ?_
    refine (HFAULT.out 90 0 w4 O4.out E4.out A4.out B4.out).mono ?_
    rintro e u' w' ⟨rfl, rfl, ho, he, ha, hb⟩
    have x0 := ho.cell 0 _ rfl
    have x1 := ho.cell 1 _ rfl
    have x2 := ho.cell 2 _ rfl
    have x3 := ho.cell 3 _ rfl
    have x4 := ho.cell 4 _ rfl
    have y0 := he.cell 0 _ rfl
    have z0 := ha.cell 0 _ rfl
    rw [HR.out]
    simp [Leaves, settle, results, Try.results59, go_sem, x0, x1, x2, x3, x4, y0, z0]
    exact ⟨by rw [HBO.out]; exact hb, _, ⟨rfl, rfl, rfl⟩, rfl⟩
  subst hk
  have hg1 := G4.out.cell 1 _ rfl
  have fg1 := G4.out.free 1
  go_upto_region 10 with fail
  rw [G4.out.set 1 (.int .i64 1)]
  have hl1 : [Value.slice (some ad) n c, .int .i64 0, .int .i64 4096].set 1 (.int .i64 1) = [Value.slice (some ad) n c, .int .i64 1, .int .i64 4096] := rfl
  rw [hl1]
  have K4 : CrAt g bo (some ad) n c xs 0 4096 w4 := ⟨G4.out, fun W' hb => Kd.C_below HC.out (by rw [HBO.out]; exact B4.out.trans hb), by have := HORD.out; omega, HNC.out, Nat.zero_le _, HBIG.out, by decide, HBY.out⟩
  have hmv := K4.moved (m' := 1) HZ.out
  have e1 : (((1 : Nat) : Int)) = 1 := rfl
  have e2 : (((4096 : Nat) : Int)) = 4096 := rfl
  rw [e1, e2] at hmv
  have K5 := Aside0.mk hmv.1
  have B5 := Aside0.mk (B4.out.trans hmv.2.1)
  have O5 := Aside0.mk (show Rt 25 bo zeroRep (w4.setRow g [Value.slice (some ad) n c, .int .i64 1, .int .i64 4096].toArray) from (setRow_other _ _ _ _ (by have := HORD.out; omega)).trans O4.out)
  have E5 := Aside0.mk (show Rt 22 be [.int .i64 0] (w4.setRow g [Value.slice (some ad) n c, .int .i64 1, .int .i64 4096].toArray) from (setRow_other _ _ _ _ (by have := HORD.out; omega)).trans E4.out)
  have A5 := Aside0.mk (show Rt 3 ba [.int .i64 0] (w4.setRow g [Value.slice (some ad) n c, .int .i64 1, .int .i64 4096].toArray) from (setRow_other _ _ _ _ (by have := HORD.out; omega)).trans A4.out)
  have S5 := Aside0.mk (show bo + 4 ≤ (w4.setRow g [Value.slice (some ad) n c, .int .i64 1, .int .i64 4096].toArray).heap.size by rw [setRow_size]; have := HORD.out; omega)
  clear hmv K4 hl1 e1 e2 hg1 fg1 k0 k1 d1 d2 d3 d4 i0
  generalize w4.setRow g [Value.slice (some ad) n c, .int .i64 1, .int .i64 4096].toArray = w5 at *
  have HW := Aside0.mk (show whole 82 4096 xs (pReply xs 4096) = (pReply xs 4096 1).bind fun x n => if n < xs.length then .fail 4 (n : Int) else .ok x n by
    unfold whole
    rw [HLEN.out, if_neg HL.out, if_neg (by have := HZ.out; omega), HX.out, if_neg (by decide)])
  go_wp2_with fail
  go_at_call 60
  refine (r_replyF K5.out).mono ?_
  rintro e w6 ⟨hb, hp, ho⟩
  have O6 := Aside0.mk (show Rt 25 bo zeroRep w6 from (hp.2 bo O5.out.lt (by have := HORD.out; show bo ≠ g; omega)).trans O5.out)
  have E6 := Aside0.mk (show Rt 22 be [.int .i64 0] w6 from (hp.2 be E5.out.lt (by have := HORD.out; show be ≠ g; omega)).trans E5.out)
  have A6 := Aside0.mk (show Rt 3 ba [.int .i64 0] w6 from (hp.2 ba A5.out.lt (by have := HORD.out; show ba ≠ g; omega)).trans A5.out)
  have B6 := Aside0.mk (B5.out.trans hb)
  rcases hq : pReply xs 4096 1 with ⟨x, m2⟩ | ⟨er, p⟩
  rotate_left
  · rw [hq] at ho
    have ho : e = gaveUp er p := ho
    subst ho
    have HR := Aside0.mk (show whole 82 4096 xs (pReply xs 4096) = Res.fail er p by rw [HW.out, hq]; rfl)
    clear hb hp hq
    simp only [gaveUp]
    refine leaves_cons (f := 114) (args := #[ptr bo, ptr be, ptr ba]) (by simp) (by simp [go_sem]) ?_
    refine (HFAULT.out er p w6 O6.out E6.out A6.out B6.out).mono ?_
    rintro e u' w' ⟨rfl, rfl, ho, he, ha, hb⟩
    have x0 := ho.cell 0 _ rfl
    have x1 := ho.cell 1 _ rfl
    have x2 := ho.cell 2 _ rfl
    have x3 := ho.cell 3 _ rfl
    have x4 := ho.cell 4 _ rfl
    have y0 := he.cell 0 _ rfl
    have z0 := ha.cell 0 _ rfl
    rw [HR.out]
    simp [Leaves, settle, results, Try.results59, go_sem, x0, x1, x2, x3, x4, y0, z0]
    exact ⟨by rw [HBO.out]; exact hb, _, ⟨rfl, rfl, rfl⟩, rfl⟩
  rw [hq] at ho
  obtain ⟨v, he, ⟨A', n', c', hv, hR⟩, hk⟩ : ∃ v, e = .returned v ∧ encRep w5.heap.size x v w6 ∧ CrAt g bo (some ad) n c xs m2 4096 w6 := ho
  subst he hv
  have K6 := Aside0.mk hk
  have L6 := Aside0.mk (show k28.R 28 w6 (bo + 4) (fun _ => True) (.slice A' n' c') x.levs from Kd.R_lower hR S5.out)
  have HQ := Aside0.mk hq
  clear hb hp hq hR hk
  try clear ho
  go_upto_region 11 with fail
  have hb7 : Below w6.heap.size w6 (w6.alloc (.cells #[.string x.id, .int .i64 x.er, .int .i64 x.line, .slice A' n' c', .int .i64 x.now] 25)) := below_alloc (Below.refl _ _) _
  have r7 : Rt 25 w6.heap.size [.string x.id, .int .i64 x.er, .int .i64 x.line, .slice A' n' c', .int .i64 x.now] (w6.alloc (.cells #[.string x.id, .int .i64 x.er, .int .i64 x.line, .slice A' n' c', .int .i64 x.now] 25)) := heap_alloc_new w6 _
  obtain ⟨bx, hbx⟩ : ∃ bx, w6.heap.size = bx := ⟨_, rfl⟩
  have O7 := Aside0.mk (O6.out.below hb7)
  have E7 := Aside0.mk (E6.out.below hb7)
  have A7 := Aside0.mk (A6.out.below hb7)
  have K7 := Aside0.mk (K6.out.below hb7)
  have L7 := Aside0.mk (Kd.R_below L6.out hb7)
  have B7 := Aside0.mk (B6.out.trans (hb7.mono (by have := B6.out.size; have := HBO.out; omega)))
  have B7' := B7.out
  rw [hbx] at r7 ⊢
  have R7 := Aside0.mk r7
  clear hb7 r7 hbx B7'
  generalize w6.alloc (.cells #[.string x.id, .int .i64 x.er, .int .i64 x.line, .slice A' n' c', .int .i64 x.now] 25) = w7 at *
  have hm7 := K7.out.row.cell 1 _ rfl
  by_cases ht : m2 < n
  · have d1 : decide ((m2 : Int) < (n : Int)) = true := decide_eq_true (by omega)
    have d2 : decide (m2 < n) = true := decide_eq_true ht
    have HR := Aside0.mk (show whole 82 4096 xs (pReply xs 4096) = Res.fail 4 (m2 : Int) by
      rw [HW.out, HQ.out]
      show (if m2 < xs.length then Res.fail 4 (m2 : Int) else Res.ok x m2) = _
      rw [HLEN.out, if_pos ht])
    clear ht
    go_wp2_with fail
    refine leaves_cons (f := 114) (args := #[ptr bo, ptr be, ptr ba]) (by simp) (by simp [go_sem]) ?_
    refine (HFAULT.out 4 (m2 : Int) w7 O7.out E7.out A7.out B7.out).mono ?_
    rintro e u' w' ⟨rfl, rfl, ho, he, ha, hb⟩
    have x0 := ho.cell 0 _ rfl
    have x1 := ho.cell 1 _ rfl
    have x2 := ho.cell 2 _ rfl
    have x3 := ho.cell 3 _ rfl
    have x4 := ho.cell 4 _ rfl
    have y0 := he.cell 0 _ rfl
    have z0 := ha.cell 0 _ rfl
    rw [HR.out]
    simp [Leaves, settle, results, Try.results59, go_sem, x0, x1, x2, x3, x4, y0, z0]
    exact ⟨by rw [HBO.out]; exact hb, _, ⟨rfl, rfl, rfl⟩, rfl⟩
  have d1 : decide ((m2 : Int) < (n : Int)) = false := decide_eq_false (by omega)
  have d2 : decide (m2 < n) = false := decide_eq_false ht
  have HR := Aside0.mk (show whole 82 4096 xs (pReply xs 4096) = Res.ok x m2 by
    rw [HW.out, HQ.out]
    show (if m2 < xs.length then Res.fail 4 (m2 : Int) else Res.ok x m2) = _
    rw [HLEN.out, if_neg ht])
  clear ht
  have c0 := R7.out.cell 0 _ rfl
  have c1 := R7.out.cell 1 _ rfl
  have c2 := R7.out.cell 2 _ rfl
  have c3 := R7.out.cell 3 _ rfl
  have c4 := R7.out.cell 4 _ rfl
  have z0 := O7.out.cell 0 _ rfl
  have z1 := O7.out.cell 1 _ rfl
  have z2 := O7.out.cell 2 _ rfl
  have z3 := O7.out.cell 3 _ rfl
  have z4 := O7.out.cell 4 _ rfl
  have f0 := O7.out.free 0
  have f1 := O7.out.free 1
  have f2 := O7.out.free 2
  have f3 := O7.out.free 3
  have f4 := O7.out.free 4
  have y0 := E7.out.cell 0 _ rfl
  have y1 := E7.out.free 0
  have a0 := A7.out.cell 0 _ rfl
  have a1 := A7.out.free 0
  have hne1 : be ≠ bo := by have := HORD.out; omega
  have hne2 : ba ≠ bo := by have := HORD.out; omega
  have hne3 : ba ≠ be := by have := HORD.out; omega
  go_wp2_with fail
  clear c0 c1 c2 c3 c4 z0 z1 z2 z3 z4 f0 f1 f2 f3 f4 y0 y1 a0 a1 d1 d2 hm7
  have q := O7.out.set 0 (.string x.id)
  rw [show ([Value.string ⟨#[]⟩, .int .i64 0, .int .i64 0, .slice none 0 0, .int .i64 0]).set 0 (.string x.id) = [Value.string x.id, .int .i64 0, .int .i64 0, .slice none 0 0, .int .i64 0] from rfl] at q
  rw [q]
  have O8 := Aside0.mk (show Rt 25 bo [Value.string x.id, .int .i64 0, .int .i64 0, .slice none 0 0, .int .i64 0] (w7.setRow bo ([Value.string x.id, .int .i64 0, .int .i64 0, .slice none 0 0, .int .i64 0]).toArray) from O7.out.row _)
  have E8 := Aside0.mk (show Rt 22 be [.int .i64 0] (w7.setRow bo ([Value.string x.id, .int .i64 0, .int .i64 0, .slice none 0 0, .int .i64 0]).toArray) from (setRow_other _ _ _ _ hne1).trans E7.out)
  have A8 := Aside0.mk (show Rt 3 ba [.int .i64 0] (w7.setRow bo ([Value.string x.id, .int .i64 0, .int .i64 0, .slice none 0 0, .int .i64 0]).toArray) from (setRow_other _ _ _ _ hne2).trans A7.out)
  have L8 := Aside0.mk (show k28.R 28 (w7.setRow bo ([Value.string x.id, .int .i64 0, .int .i64 0, .slice none 0 0, .int .i64 0]).toArray) (bo + 4) (fun _ => True) (.slice A' n' c') x.levs from Kd.R_mono (Kd.R_step (Kd.R_bound L7.out) (fun j hj _ => setRow_other _ _ _ _ (by have := hj.2.1; omega))) (fun _ _ => trivial))
  have B8 := Aside0.mk (show Below bo W (w7.setRow bo ([Value.string x.id, .int .i64 0, .int .i64 0, .slice none 0 0, .int .i64 0]).toArray) from below_setRow' B7.out (Nat.le_refl _) _)
  clear q
  generalize w7.setRow bo ([Value.string x.id, .int .i64 0, .int .i64 0, .slice none 0 0, .int .i64 0]).toArray = w8 at *
  have q := O8.out.set 1 (.int .i64 x.er)
  rw [show ([Value.string x.id, .int .i64 0, .int .i64 0, .slice none 0 0, .int .i64 0]).set 1 (.int .i64 x.er) = [Value.string x.id, .int .i64 x.er, .int .i64 0, .slice none 0 0, .int .i64 0] from rfl] at q
  rw [q]
  have O9 := Aside0.mk (show Rt 25 bo [Value.string x.id, .int .i64 x.er, .int .i64 0, .slice none 0 0, .int .i64 0] (w8.setRow bo ([Value.string x.id, .int .i64 x.er, .int .i64 0, .slice none 0 0, .int .i64 0]).toArray) from O8.out.row _)
  have E9 := Aside0.mk (show Rt 22 be [.int .i64 0] (w8.setRow bo ([Value.string x.id, .int .i64 x.er, .int .i64 0, .slice none 0 0, .int .i64 0]).toArray) from (setRow_other _ _ _ _ hne1).trans E8.out)
  have A9 := Aside0.mk (show Rt 3 ba [.int .i64 0] (w8.setRow bo ([Value.string x.id, .int .i64 x.er, .int .i64 0, .slice none 0 0, .int .i64 0]).toArray) from (setRow_other _ _ _ _ hne2).trans A8.out)
  have L9 := Aside0.mk (show k28.R 28 (w8.setRow bo ([Value.string x.id, .int .i64 x.er, .int .i64 0, .slice none 0 0, .int .i64 0]).toArray) (bo + 4) (fun _ => True) (.slice A' n' c') x.levs from Kd.R_mono (Kd.R_step (Kd.R_bound L8.out) (fun j hj _ => setRow_other _ _ _ _ (by have := hj.2.1; omega))) (fun _ _ => trivial))
  have B9 := Aside0.mk (show Below bo W (w8.setRow bo ([Value.string x.id, .int .i64 x.er, .int .i64 0, .slice none 0 0, .int .i64 0]).toArray) from below_setRow' B8.out (Nat.le_refl _) _)
  clear q
  generalize w8.setRow bo ([Value.string x.id, .int .i64 x.er, .int .i64 0, .slice none 0 0, .int .i64 0]).toArray = w9 at *
  have q := O9.out.set 2 (.int .i64 x.line)
  rw [show ([Value.string x.id, .int .i64 x.er, .int .i64 0, .slice none 0 0, .int .i64 0]).set 2 (.int .i64 x.line) = [Value.string x.id, .int .i64 x.er, .int .i64 x.line, .slice none 0 0, .int .i64 0] from rfl] at q
  rw [q]
  have O10 := Aside0.mk (show Rt 25 bo [Value.string x.id, .int .i64 x.er, .int .i64 x.line, .slice none 0 0, .int .i64 0] (w9.setRow bo ([Value.string x.id, .int .i64 x.er, .int .i64 x.line, .slice none 0 0, .int .i64 0]).toArray) from O9.out.row _)
  have E10 := Aside0.mk (show Rt 22 be [.int .i64 0] (w9.setRow bo ([Value.string x.id, .int .i64 x.er, .int .i64 x.line, .slice none 0 0, .int .i64 0]).toArray) from (setRow_other _ _ _ _ hne1).trans E9.out)
  have A10 := Aside0.mk (show Rt 3 ba [.int .i64 0] (w9.setRow bo ([Value.string x.id, .int .i64 x.er, .int .i64 x.line, .slice none 0 0, .int .i64 0]).toArray) from (setRow_other _ _ _ _ hne2).trans A9.out)
  have L10 := Aside0.mk (show k28.R 28 (w9.setRow bo ([Value.string x.id, .int .i64 x.er, .int .i64 x.line, .slice none 0 0, .int .i64 0]).toArray) (bo + 4) (fun _ => True) (.slice A' n' c') x.levs from Kd.R_mono (Kd.R_step (Kd.R_bound L9.out) (fun j hj _ => setRow_other _ _ _ _ (by have := hj.2.1; omega))) (fun _ _ => trivial))
  have B10 := Aside0.mk (show Below bo W (w9.setRow bo ([Value.string x.id, .int .i64 x.er, .int .i64 x.line, .slice none 0 0, .int .i64 0]).toArray) from below_setRow' B9.out (Nat.le_refl _) _)
  clear q
  generalize w9.setRow bo ([Value.string x.id, .int .i64 x.er, .int .i64 x.line, .slice none 0 0, .int .i64 0]).toArray = w10 at *
  have q := O10.out.set 3 (.slice A' n' c')
  rw [show ([Value.string x.id, .int .i64 x.er, .int .i64 x.line, .slice none 0 0, .int .i64 0]).set 3 (.slice A' n' c') = [Value.string x.id, .int .i64 x.er, .int .i64 x.line, .slice A' n' c', .int .i64 0] from rfl] at q
  rw [q]
  have O11 := Aside0.mk (show Rt 25 bo [Value.string x.id, .int .i64 x.er, .int .i64 x.line, .slice A' n' c', .int .i64 0] (w10.setRow bo ([Value.string x.id, .int .i64 x.er, .int .i64 x.line, .slice A' n' c', .int .i64 0]).toArray) from O10.out.row _)
  have E11 := Aside0.mk (show Rt 22 be [.int .i64 0] (w10.setRow bo ([Value.string x.id, .int .i64 x.er, .int .i64 x.line, .slice A' n' c', .int .i64 0]).toArray) from (setRow_other _ _ _ _ hne1).trans E10.out)
  have A11 := Aside0.mk (show Rt 3 ba [.int .i64 0] (w10.setRow bo ([Value.string x.id, .int .i64 x.er, .int .i64 x.line, .slice A' n' c', .int .i64 0]).toArray) from (setRow_other _ _ _ _ hne2).trans A10.out)
  have L11 := Aside0.mk (show k28.R 28 (w10.setRow bo ([Value.string x.id, .int .i64 x.er, .int .i64 x.line, .slice A' n' c', .int .i64 0]).toArray) (bo + 4) (fun _ => True) (.slice A' n' c') x.levs from Kd.R_mono (Kd.R_step (Kd.R_bound L10.out) (fun j hj _ => setRow_other _ _ _ _ (by have := hj.2.1; omega))) (fun _ _ => trivial))
  have B11 := Aside0.mk (show Below bo W (w10.setRow bo ([Value.string x.id, .int .i64 x.er, .int .i64 x.line, .slice A' n' c', .int .i64 0]).toArray) from below_setRow' B10.out (Nat.le_refl _) _)
  clear q
  generalize w10.setRow bo ([Value.string x.id, .int .i64 x.er, .int .i64 x.line, .slice A' n' c', .int .i64 0]).toArray = w11 at *
  have q := O11.out.set 4 (.int .i64 x.now)
  rw [show ([Value.string x.id, .int .i64 x.er, .int .i64 x.line, .slice A' n' c', .int .i64 0]).set 4 (.int .i64 x.now) = [Value.string x.id, .int .i64 x.er, .int .i64 x.line, .slice A' n' c', .int .i64 x.now] from rfl] at q
  rw [q]
  have O12 := Aside0.mk (show Rt 25 bo [Value.string x.id, .int .i64 x.er, .int .i64 x.line, .slice A' n' c', .int .i64 x.now] (w11.setRow bo ([Value.string x.id, .int .i64 x.er, .int .i64 x.line, .slice A' n' c', .int .i64 x.now]).toArray) from O11.out.row _)
  have E12 := Aside0.mk (show Rt 22 be [.int .i64 0] (w11.setRow bo ([Value.string x.id, .int .i64 x.er, .int .i64 x.line, .slice A' n' c', .int .i64 x.now]).toArray) from (setRow_other _ _ _ _ hne1).trans E11.out)
  have A12 := Aside0.mk (show Rt 3 ba [.int .i64 0] (w11.setRow bo ([Value.string x.id, .int .i64 x.er, .int .i64 x.line, .slice A' n' c', .int .i64 x.now]).toArray) from (setRow_other _ _ _ _ hne2).trans A11.out)
  have L12 := Aside0.mk (show k28.R 28 (w11.setRow bo ([Value.string x.id, .int .i64 x.er, .int .i64 x.line, .slice A' n' c', .int .i64 x.now]).toArray) (bo + 4) (fun _ => True) (.slice A' n' c') x.levs from Kd.R_mono (Kd.R_step (Kd.R_bound L11.out) (fun j hj _ => setRow_other _ _ _ _ (by have := hj.2.1; omega))) (fun _ _ => trivial))
  have B12 := Aside0.mk (show Below bo W (w11.setRow bo ([Value.string x.id, .int .i64 x.er, .int .i64 x.line, .slice A' n' c', .int .i64 x.now]).toArray) from below_setRow' B11.out (Nat.le_refl _) _)
  clear q
  generalize w11.setRow bo ([Value.string x.id, .int .i64 x.er, .int .i64 x.line, .slice A' n' c', .int .i64 x.now]).toArray = w12 at *
  rw [E12.out.same 0 _ rfl, A12.out.same 0 _ rfl]
  refine leaves_cons (f := 114) (args := #[ptr bo, ptr be, ptr ba]) (by simp) (by simp [go_sem]) ?_
  refine (catch_idle (bo := bo) (be := be) (ba := ba) w12).mono ?_
  rintro e u' w' ⟨rfl, rfl, hb⟩
  have ho := O12.out.below hb
  have he := E12.out.below hb
  have ha := A12.out.below hb
  have hR := Kd.R_below L12.out hb
  have x0 := ho.cell 0 _ rfl
  have x1 := ho.cell 1 _ rfl
  have x2 := ho.cell 2 _ rfl
  have x3 := ho.cell 3 _ rfl
  have x4 := ho.cell 4 _ rfl
  have y0 := he.cell 0 _ rfl
  have z0 := ha.cell 0 _ rfl
  rw [HR.out]
  simp [Leaves, settle, results, Try.results59, go_sem, x0, x1, x2, x3, x4, y0, z0]
  refine ⟨by rw [HBO.out]; exact B12.out.trans (hb.mono (by have := B12.out.size; have := HBO.out; omega)), _, ⟨rfl, rfl, rfl⟩, A', n', c', rfl, Kd.R_lower hR (by have := HBO.out; omega)⟩
end Go.Proofs.Ytafmoglaockepaa.Cd
namespace Go.Proofs.Ytafmoglaockepaa.Cd
open Go Go.RowKit Go.Proofs.Ytafmoglaockepaa.Num Go.Proofs.Ytafmoglaockepaa.PG Go.Proofs.YtafmoglaockepaaW.PrintWords Go.Proofs.YtafmoglaockepaaW.PrintLast Go.Proofs.YtafmoglaockepaaW.PrintMore
set_option linter.unusedVariables false
set_option linter.unusedSimpArgs false
set_option maxHeartbeats 4000000
set_option maxRecDepth 100000
def zeroD : RepD := ⟨⟨#[]⟩, 0, 0, [], 0⟩
/-- What a reading gives: the thing, or nothing. -/
def outD (r : Res RepD) : RepD :=
  match r with
  | .ok x _ => x
  | .fail _ _ => zeroD
theorem enc_of_out {S0 : Nat} {r : Res RepD} {v : Value} {w : World} (h : repOut S0 r v w) : encRep S0 (outD r) v w := by
  cases r with
  | ok x n => exact h
  | fail e p =>
    have h : v = .agg zeroRep.toArray := h
    subst h
    exact ⟨none, 0, 0, rfl, Kd.R_nil _ _ _ _ _⟩
theorem setRow_again (W : World) (g : Nat) (xs ys : Array Value) : (W.setRow g xs).setRow g ys = W.setRow g ys := by
  obtain ⟨heap, tape, drawn, os, output⟩ := W
  simp only [World.setRow, World.mk.injEq, and_true]
  apply Array.ext
  · simp
  · intro i h1 h2
    have hi : i < heap.size := by simpa using h1
    by_cases e : g = i
    · subst e
      rcases ho : heap[g] with _ | _ <;> simp [Array.getElem_modify, ho]
    · simp [Array.getElem_modify, e]
theorem Rt.fill5 {t b : Nat} {z0 z1 z2 z3 z4 : Value} {W : World} (h : Rt t b [z0, z1, z2, z3, z4] W) (a0 a1 a2 a3 a4 : Value) :
    ((((W.setCell ⟨b, 0, none⟩ a0).setCell ⟨b, 1, none⟩ a1).setCell ⟨b, 2, none⟩ a2).setCell ⟨b, 3, none⟩ a3).setCell ⟨b, 4, none⟩ a4 = W.setRow b [a0, a1, a2, a3, a4].toArray := by
  rw [h.set 0 a0]
  have h0 : Rt t b [a0, z1, z2, z3, z4] (W.setRow b ([z0, z1, z2, z3, z4].set 0 a0).toArray) := h.row _
  rw [h0.set 1 a1, setRow_again]
  have h1 : Rt t b [a0, a1, z2, z3, z4] (W.setRow b ([a0, z1, z2, z3, z4].set 1 a1).toArray) := h.row _
  rw [h1.set 2 a2, setRow_again]
  have h2 : Rt t b [a0, a1, a2, z3, z4] (W.setRow b ([a0, a1, z2, z3, z4].set 2 a2).toArray) := h.row _
  rw [h2.set 3 a3, setRow_again]
  have h3 : Rt t b [a0, a1, a2, a3, z4] (W.setRow b ([a0, a1, a2, z3, z4].set 3 a3).toArray) := h.row _
  rw [h3.set 4 a4, setRow_again]
  rfl
theorem Reply_at (A : Option Addr) (n c : Nat) (xs : List Int) (W : World) (hC : Kd.C (Kd.int .u8) W A n xs) (hnc : n ≤ c) (hb : IsBytes xs) (hbig : n < 1000000000) :
    Calls Try.prog 15 #[.slice A n c] W fun e w' => Below W.heap.size W w' ∧ ∃ v, e = .returned (.tuple #[v, .int .i64 (endOf (whole 82 4096 xs (pReply xs 4096))).1, .int .i64 (endOf (whole 82 4096 xs (pReply xs 4096))).2]) ∧ encRep W.heap.size (outD (whole 82 4096 xs (pReply xs 4096))) v w' := by
  have hb1 : Below W.heap.size W (W.alloc (.cells #[.string ⟨#[]⟩, .int .i64 0, .int .i64 0, .slice none 0 0, .int .i64 0] 25)) := below_alloc (Below.refl _ _) _
  have r1 : Rt 25 W.heap.size zeroRep (W.alloc (.cells #[.string ⟨#[]⟩, .int .i64 0, .int .i64 0, .slice none 0 0, .int .i64 0] 25)) := heap_alloc_new W _
  have hC1 := Kd.C_below hC hb1
  have HRD := Aside0.mk (read_reply A n c xs (W.alloc (.cells #[.string ⟨#[]⟩, .int .i64 0, .int .i64 0, .slice none 0 0, .int .i64 0] 25)) hC1 hnc hb hbig)
  generalize whole 82 4096 xs (pReply xs 4096) = rr at *
  have B1 := Aside0.mk hb1
  clear hC hC1 hnc hb hbig
  go_enter Try.func15, Try.ntmps15
  go_upto_region 1 with fail
  obtain ⟨b, hbe⟩ : ∃ b, W.heap.size = b := ⟨_, rfl⟩
  have HBE := Aside0.mk hbe
  rw [hbe] at r1 ⊢
  have R1 := Aside0.mk r1
  clear hb1 r1 hbe
  generalize W.alloc (.cells #[.string ⟨#[]⟩, .int .i64 0, .int .i64 0, .slice none 0 0, .int .i64 0] 25) = w1 at *
  go_wp2_with fail
  go_at_call 59
  refine HRD.out.mono ?_
  rintro e w2 ⟨hb, v, rfl, ho⟩
  obtain ⟨A', n', c', hv, hR⟩ := enc_of_out ho
  subst hv
  obtain ⟨x, hx⟩ : ∃ x, outD rr = x := ⟨_, rfl⟩
  obtain ⟨ec, hec⟩ : ∃ ec, (endOf rr).1 = ec := ⟨_, rfl⟩
  obtain ⟨ep, hep⟩ : ∃ ep, (endOf rr).2 = ep := ⟨_, rfl⟩
  rw [hx] at hR ⊢
  rw [hec, hep]
  have HX := Aside0.mk (And.intro hx (And.intro hec hep))
  have R2 := Aside0.mk (R1.out.below hb)
  have L2 := Aside0.mk (show k28.R 28 w2 (b + 1) (fun _ => True) (.slice A' n' c') x.levs from Kd.R_lower hR R1.out.lt)
  have B2 := Aside0.mk (show Below W.heap.size W w2 from B1.out.trans (hb.mono B1.out.size))
  clear hb ho hR HRD hx hec hep
  have z0 := R2.out.cell 0 _ rfl
  have z1 := R2.out.cell 1 _ rfl
  have z2 := R2.out.cell 2 _ rfl
  have z3 := R2.out.cell 3 _ rfl
  have z4 := R2.out.cell 4 _ rfl
  have f0 := R2.out.free 0
  have f1 := R2.out.free 1
  have f2 := R2.out.free 2
  have f3 := R2.out.free 3
  have f4 := R2.out.free 4
  go_wp2_with fail
  rw [R2.out.fill5]
  have R3 : Rt 25 b [.string x.id, .int .i64 x.er, .int .i64 x.line, .slice A' n' c', .int .i64 x.now] (w2.setRow b [Value.string x.id, .int .i64 x.er, .int .i64 x.line, .slice A' n' c', .int .i64 x.now].toArray) := R2.out.row _
  have L3 : k28.R 28 (w2.setRow b [Value.string x.id, .int .i64 x.er, .int .i64 x.line, .slice A' n' c', .int .i64 x.now].toArray) (b + 1) (fun _ => True) (.slice A' n' c') x.levs := Kd.R_mono (Kd.R_step (Kd.R_bound L2.out) (fun j hj _ => setRow_other _ _ _ _ (by have := hj.2.1; omega))) (fun _ _ => trivial)
  have B3 : Below W.heap.size W (w2.setRow b [Value.string x.id, .int .i64 x.er, .int .i64 x.line, .slice A' n' c', .int .i64 x.now].toArray) := below_setRow' B2.out (Nat.le_of_eq HBE.out) _
  clear z0 z1 z2 z3 z4 f0 f1 f2 f3 f4
  generalize w2.setRow b [Value.string x.id, .int .i64 x.er, .int .i64 x.line, .slice A' n' c', .int .i64 x.now].toArray = w3 at *
  have x0 := R3.cell 0 _ rfl
  have x1 := R3.cell 1 _ rfl
  have x2 := R3.cell 2 _ rfl
  have x3 := R3.cell 3 _ rfl
  have x4 := R3.cell 4 _ rfl
  refine ⟨rfl, ?_⟩
  simp [results, Try.results15, go_sem, x0, x1, x2, x3, x4]
  refine ⟨B3, _, ⟨rfl, HX.out.2.1.symm, HX.out.2.2.symm⟩, ?_⟩
  rw [HX.out.1]
  exact ⟨A', n', c', rfl, Kd.R_lower L3 (by have := HBE.out; omega)⟩
end Go.Proofs.Ytafmoglaockepaa.Cd
