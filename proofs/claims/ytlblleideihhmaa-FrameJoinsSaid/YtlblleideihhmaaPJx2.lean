-- Written by a program of this session (wip/pp), out of the translation.
import Derived.Test.YtlblleideihhmaaPJx0
import Derived.Test.YtlblleideihhmaaPJx1
namespace Go.Proofs.Ytlblleideihhmaa.PJ
open Go.RowKit Go.Proofs.Ytlblleideihhmaa.Mine Go.Proofs.YtlblleideihhmaaW.PrintWords Go.Proofs.YtlblleideihhmaaW.PrintLast Go.Proofs.YtlblleideihhmaaW.PrintMore
attribute [local go_sem] max2_int min2_int max_two min_two max_three min_three max_four min_four   -- for this text's walks alone
set_option linter.unusedVariables false
set_option linter.unusedSimpArgs false

/-! ### larderref01_CrcJoin: function 10 (given) -/
def Arr32 (w : World) (B : Nat) (xs : List Int) : Prop := xs.length = 32 ∧ w.heap[B]? = some (.cells (nums .u32 xs).toArray 55 (0, 0))
theorem arr_at {w : World} {B j : Nat} {xs : List Int} (h : Arr32 w B xs) (hj : j < 32) : w.cell? ⟨B, j, none⟩ = some (.int .u32 (xs.getD j 0)) ∧ w.frozen? ⟨B, j, none⟩ = false := by
  obtain ⟨hl, hb⟩ := h
  refine ⟨?_, by simp [World.frozen?, hb]⟩
  rw [cell_of_row _ _ _ _ _ _ hb]
  simp [nums, List.getD_eq_getElem?_getD, List.getElem?_eq_getElem (show j < xs.length by omega)]
/-- A register that goes a way. -/
def goneF (xs : List Int) (c : Int) : Nat → Nat → Int → Int
  | 0, _, out => out
  | n + 1, j, out => goneF xs c n (j + 1) (if Go.bits .and .u32 (c / 2 ^ j) 1 = 1 then Go.bits .xor .u32 out (xs.getD j 0) else out)
theorem gone_yes {xs : List Int} {c out r x : Int} {j : Nat} (hj : j < 32) (h : goneF xs c (32 - j) j out = r) (hx : xs.getD j 0 = x) (hb : (Go.bits .and .u32 (c / 2 ^ j) 1 == 1) = true) : goneF xs c (32 - (j + 1)) (j + 1) (Go.bits .xor .u32 out x) = r := by
  rw [show 32 - j = (32 - (j + 1)) + 1 by omega, goneF, if_pos (beq_iff_eq.1 hb), hx] at h
  exact h
theorem gone_no {xs : List Int} {c out r : Int} {j : Nat} (hj : j < 32) (h : goneF xs c (32 - j) j out = r) (hb : (Go.bits .and .u32 (c / 2 ^ j) 1 == 1) = false) : goneF xs c (32 - (j + 1)) (j + 1) out = r := by
  rw [show 32 - j = (32 - (j + 1)) + 1 by omega, goneF, if_neg (by simpa using hb)] at h
  exact h
set_option maxHeartbeats 8000000 in
set_option maxRecDepth 100000 in
theorem larderref01_gone.calls (xs : List Int) (c : Int) (w : World) (hl : xs.length = 32) (hc : 0 ≤ c ∧ c < 4294967296) :
    Calls Try.prog 34 #[.agg (nums .u32 xs).toArray, .int .u32 c] w fun e w' => e = .returned (.int .u32 (goneF xs c 32 0 0)) ∧ Below w.heap.size w w' := by
  obtain ⟨r, hr⟩ : ∃ r, goneF xs c 32 0 0 = r := ⟨_, rfl⟩
  rw [hr]
  have HR := Aside0.mk hr
  clear hr
  go_enter Try.func34, Try.ntmps34
  go_wp2_with fail
  have hb0 : Below w.heap.size w (w.alloc (Obj.cells (nums IntKind.u32 xs).toArray 55)) := below_alloc (Below.refl _ _) _
  have ha0 : Arr32 (w.alloc (Obj.cells (nums IntKind.u32 xs).toArray 55)) w.heap.size xs := ⟨hl, heap_alloc_new _ _⟩
  generalize w.alloc (Obj.cells (nums IntKind.u32 xs).toArray 55) = w1 at *
  have HB := Aside0.mk hb0
  have HA := Aside0.mk ha0
  have HL := Aside0.mk hl
  clear hb0 ha0 hl
  go_loop [5, 6] (fun o i => ∃ (j : Nat) (out : Int), j ≤ 32 ∧ i = .int .i64 (j : Int) ∧ o = .int .u32 out ∧ Aside0 (goneF xs c (32 - j) j out = r)) (fun _ i => 32 - (intOf i).toNat)
  case atStart => exact ⟨0, 0, by omega, rfl, rfl, HR⟩
  case round =>
    obtain ⟨j, out, hj, rfl, rfl, HX⟩ := hrel
    by_cases hlt : j < 32
    · obtain ⟨hcell, hfr⟩ := arr_at HA.out hlt
      obtain ⟨x, hx⟩ : ∃ x, xs.getD j 0 = x := ⟨_, rfl⟩
      rw [hx] at hcell
      have HXX := Aside0.mk hx
      clear hx
      go_wp2_with fail
      · go_round
        case rel => exact ⟨j + 1, _, by omega, by go_num, rfl, ⟨gone_yes hlt HX.out HXX.out (by assumption)⟩⟩
        case measure => simp [intOf]; omega
      · go_round
        case rel => exact ⟨j + 1, _, by omega, by go_num, rfl, ⟨gone_no hlt HX.out (by assumption)⟩⟩
        case measure => simp [intOf]; omega
    · have hout : goneF xs c 0 j out = r := by have := HX.out; rwa [show 32 - j = 0 by omega] at this
      simp only [goneF] at hout
      subst hout
      go_wp2_with fail
      go_ret
      exact ⟨rfl, HB.out⟩

theorem goneF_bd (xs : List Int) (c : Int) : ∀ (n j : Nat) (out : Int), 0 ≤ out ∧ out < 4294967296 → 0 ≤ goneF xs c n j out ∧ goneF xs c n j out < 4294967296 := by
  intro n
  induction n with
  | zero => intro j out h; exact h
  | succ n ih =>
    intro j out h
    rw [goneF]
    refine ih _ _ ?_
    split
    · unfold Go.bits
      show 0 ≤ IntKind.u32.wrap _ ∧ IntKind.u32.wrap _ < _
      rw [IntKind.wrap_u32]
      omega
    · exact h
def twiceF (xs : List Int) : List Int := (List.range 32).map fun i => goneF xs (xs.getD i 0) 32 0 0
theorem twiceF_length (xs : List Int) : (twiceF xs).length = 32 := by simp [twiceF]
theorem twiceF_at (xs : List Int) (j : Nat) (hj : j < 32) : (twiceF xs)[j]? = some (goneF xs (xs.getD j 0) 32 0 0) := by simp [twiceF, hj]
theorem size55 : (Try.prog.info? 55).map (·.size) = some 32 := by kernel_rfl
theorem arr_range {w : World} {B : Nat} {xs : List Int} (h : Arr32 w B xs) : w.rangeAt B 0 (nums .u32 xs) := by
  intro j v hv
  rw [Nat.zero_add, cell_of_row _ _ _ _ _ _ h.2]
  simpa using hv
theorem arr_below {w w1 : World} {B : Nat} {xs : List Int} (h : Arr32 w B xs) (hb : Below w.heap.size w w1) : Arr32 w1 B xs := ⟨h.1, (hb.block B (blk_lt h.2)).trans h.2⟩
theorem arr_drew {w : World} {B : Nat} {xs : List Int} (h : Arr32 w B xs) : Arr32 w.drew B xs := h
theorem keepS {w w1 : World} {B j : Nat} {xs : List Int} {v : Value} (h : Arr32 w B xs) (hc : w.cell? ⟨B, j, none⟩ = some v) (hb : Below w.drew.heap.size w.drew w1) : w1.rangeAt B 0 (nums .u32 xs) ∧ w1.cell? ⟨B, j, none⟩ = some v :=
  ⟨arr_range (arr_below (arr_drew h) hb), pw_cell_below (w := w.drew) hb hc⟩
theorem arr_set {w : World} {B j : Nat} {xs : List Int} (h : Arr32 w B xs) (x : Int) : Arr32 (w.setCell ⟨B, j, none⟩ (.int .u32 x)) B (xs.set j x) := by
  obtain ⟨hl, hb⟩ := h
  refine ⟨by simp [hl], ?_⟩
  rw [blk_set hb]
  simp [nums, List.map_set]
theorem arr_far {w : World} {B : Nat} {xs : List Int} {p : Addr} (h : Arr32 w B xs) (hp : B ≠ p.block) (u : Value) : Arr32 (w.setCell p u) B xs := ⟨h.1, blk_far h.2 hp u⟩
theorem take_set {xs ys : List Int} {j : Nat} {x : Int} (h : xs.take j = ys.take j) (hj : j < xs.length) (hy : ys[j]? = some x) : (xs.set j x).take (j + 1) = ys.take (j + 1) := by
  rw [List.take_add_one, List.take_add_one, hy, List.take_set_of_le (Nat.le_refl _), h]
  simp [hj]
theorem nums_one (xs : List Int) : (nums .u32 xs).toArray.all (·.oneCell') = true := by
  simp [nums, Value.oneCell']
theorem below_setRow {B : Nat} {w w1 : World} {g : Nat} (h : Below B w w1) (hg : B ≤ g) (cs : Array Value) : Below B w (w1.setRow g cs) :=
  ⟨h.os, h.tape, h.output, by rw [size_setRow]; exact h.size, fun k hk => (setRow_other w1 g k cs (by omega)).trans (h.block k hk)⟩
def z32 : List Int := List.replicate 32 0
set_option maxHeartbeats 8000000 in
set_option maxRecDepth 100000 in
theorem larderref01_twice.calls (xs : List Int) (w : World) (hl : xs.length = 32) (hw : ∀ x ∈ xs, 0 ≤ x ∧ x < 4294967296) :
    Calls Try.prog 35 #[.agg (nums .u32 xs).toArray] w fun e w' => e = .returned (.agg (nums .u32 (twiceF xs)).toArray) ∧ Below w.heap.size w w' := by
  have HL := Aside0.mk hl
  have HWF := Aside0.mk hw
  clear hl hw
  go_enter Try.func35, Try.ntmps35
  go_wp2_with fail
  rw [show (#[Value.int IntKind.u32 0, Value.int IntKind.u32 0, Value.int IntKind.u32 0, Value.int IntKind.u32 0, Value.int IntKind.u32 0, Value.int IntKind.u32 0, Value.int IntKind.u32 0, Value.int IntKind.u32 0, Value.int IntKind.u32 0, Value.int IntKind.u32 0, Value.int IntKind.u32 0, Value.int IntKind.u32 0, Value.int IntKind.u32 0, Value.int IntKind.u32 0, Value.int IntKind.u32 0, Value.int IntKind.u32 0, Value.int IntKind.u32 0, Value.int IntKind.u32 0, Value.int IntKind.u32 0, Value.int IntKind.u32 0, Value.int IntKind.u32 0, Value.int IntKind.u32 0, Value.int IntKind.u32 0, Value.int IntKind.u32 0, Value.int IntKind.u32 0, Value.int IntKind.u32 0, Value.int IntKind.u32 0, Value.int IntKind.u32 0, Value.int IntKind.u32 0, Value.int IntKind.u32 0, Value.int IntKind.u32 0, Value.int IntKind.u32 0] : Array Value) = (nums .u32 z32).toArray from rfl]
  have hb0 : Below w.heap.size w (((w.alloc (Obj.cells (nums IntKind.u32 xs).toArray 55)).alloc (Obj.cells (nums .u32 z32).toArray 55)).alloc (Obj.cells (nums .u32 z32).toArray 55)) := below_alloc (below_alloc (below_alloc (Below.refl _ _) _) _) _
  have h1 : Arr32 (((w.alloc (Obj.cells (nums IntKind.u32 xs).toArray 55)).alloc (Obj.cells (nums .u32 z32).toArray 55)).alloc (Obj.cells (nums .u32 z32).toArray 55)) w.heap.size xs := ⟨HL.out, (Go.heap_alloc_old _ _ (by simp; omega)).trans (Go.heap_alloc2_old _ _ _)⟩
  have h2 : Arr32 (((w.alloc (Obj.cells (nums IntKind.u32 xs).toArray 55)).alloc (Obj.cells (nums .u32 z32).toArray 55)).alloc (Obj.cells (nums .u32 z32).toArray 55)) (w.heap.size + 1) z32 := ⟨rfl, by have := heap_alloc2_old (w.alloc (Obj.cells (nums IntKind.u32 xs).toArray 55)) (Obj.cells (nums .u32 z32).toArray 55) (Obj.cells (nums .u32 z32).toArray 55); simpa using this⟩
  have h3 : Arr32 (((w.alloc (Obj.cells (nums IntKind.u32 xs).toArray 55)).alloc (Obj.cells (nums .u32 z32).toArray 55)).alloc (Obj.cells (nums .u32 z32).toArray 55)) (w.heap.size + 1 + 1) z32 := ⟨rfl, by have := heap_alloc2_new (w.alloc (Obj.cells (nums IntKind.u32 xs).toArray 55)) (Obj.cells (nums .u32 z32).toArray 55) (Obj.cells (nums .u32 z32).toArray 55); simpa using this⟩
  generalize ((w.alloc (Obj.cells (nums IntKind.u32 xs).toArray 55)).alloc (Obj.cells (nums .u32 z32).toArray 55)).alloc (Obj.cells (nums .u32 z32).toArray 55) = w1 at *
  have HB := Aside0.mk hb0
  have H1 := Aside0.mk h1
  have H2 := Aside0.mk h2
  have H3 := Aside0.mk h3
  clear hb0 h1 h2 h3
  go_loopw [4] (fun i wr => ∃ (j : Nat) (ys : List Int), j ≤ 32 ∧ i = .int .i64 (j : Int) ∧ Aside0 (Arr32 wr w.heap.size xs) ∧ Aside0 (Arr32 wr (w.heap.size + 1) z32) ∧ Aside0 (Arr32 wr (w.heap.size + 1 + 1) ys ∧ ys.take j = (twiceF xs).take j) ∧ Aside0 (Below w.heap.size w wr)) (fun i _ => 32 - (intOf i).toNat)
  case atStart => exact ⟨0, z32, by omega, rfl, H1, H2, ⟨H3.out, by simp⟩, HB⟩
  case round =>
    clear HB H1 H2 H3
    obtain ⟨j, ys, hj, rfl, H1, H2, H3, HB⟩ := hrel
    by_cases hlt : j < 32
    · obtain ⟨hc1, _⟩ := arr_at H1.out hlt
      obtain ⟨x, hx⟩ : ∃ x, xs.getD j 0 = x := ⟨_, rfl⟩
      have hxw : 0 ≤ x ∧ x < 4294967296 := HWF.out x (by rw [← hx, List.getD_eq_getElem?_getD, List.getElem?_eq_getElem (show j < xs.length by rw [HL.out]; exact hlt)]; exact List.getElem_mem _)
      rw [hx] at hc1
      have HXX := Aside0.mk hx
      have HXW := Aside0.mk hxw
      clear hx hxw
      have hj0 : (0 : Int) ≤ (j : Int) := by omega
      have hj1 : (j : Int) < 32 := by omega
      go_wp2_with fail
      refine wp_region_noPanic ?_
      refine wp_region_held_drew (S := fun w' => Arr32 w' w.heap.size xs ∧ w'.cell? ⟨w.heap.size, j, none⟩ = some (.int .u32 x)) (by kernel_rfl) ⟨arr_drew H1.out, hc1⟩ (fun hHeld => ?_)
      refine wpAnyH_take (i := 0) (oi := { dst := some 9, op := Op.move (Operand.tmp 4), type := 3, pos := "ref.go:49", after := #[], guard := none }) (v := ?_) rfl (by kernel_rfl) (by kernel_rfl) (by kernel_rfl) (fun _ _ _ h => h) (Or.inl ⟨by rfl, ?_⟩) hHeld ?_
      rotate_left
      · intro w' hS; obtain ⟨hS1, hS2⟩ := hS; go_simp; all_goals (with_reducible rfl)
      simp only [Act.put, List.setIfInBounds_toArray, List.set_cons_zero, List.set_cons_succ]
      refine wpAnyH_take (i := 2) (oi := { dst := some 11, op := Op.move (Operand.tmp 4), type := 3, pos := "ref.go:49", after := #[], guard := none }) (v := ?_) rfl (by kernel_rfl) (by kernel_rfl) (by kernel_rfl) (fun _ _ _ h => h) (Or.inl ⟨by rfl, ?_⟩) hHeld ?_
      rotate_left
      · intro w' hS; obtain ⟨hS1, hS2⟩ := hS; go_simp; all_goals (with_reducible rfl)
      simp only [Act.put, List.setIfInBounds_toArray, List.set_cons_zero, List.set_cons_succ]
      refine wpAnyH_take (i := 3) (oi := { dst := some 12, op := Op.fieldAddr 55 (Operand.tmp 1) 0, type := 0, pos := "ref.go:49", after := #[], guard := none }) (v := ?_) rfl (by kernel_rfl) (by kernel_rfl) (by kernel_rfl) (fun _ _ _ h => h) (Or.inl ⟨by rfl, ?_⟩) hHeld ?_
      rotate_left
      · intro w' hS; obtain ⟨hS1, hS2⟩ := hS; go_simp; all_goals (with_reducible rfl)
      simp only [Act.put, List.setIfInBounds_toArray, List.set_cons_zero, List.set_cons_succ]
      refine wpAnyH_take (i := 4) (oi := { dst := some 13, op := Op.indexAddr 53 (Operand.tmp 12) (Operand.tmp 11), type := 0, pos := "ref.go:49", after := #[{ on := 3, ground := Ground.data }, { on := 2, ground := Ground.data }], guard := none }) (v := ?_) rfl (by kernel_rfl) (by kernel_rfl) (by kernel_rfl) (fun _ _ _ h => h) (Or.inl ⟨by rfl, ?_⟩) hHeld ?_
      rotate_left
      · intro w' hS; obtain ⟨hS1, hS2⟩ := hS; go_simp; all_goals (with_reducible rfl)
      simp only [Act.put, List.setIfInBounds_toArray, List.set_cons_zero, List.set_cons_succ]
      refine wpAnyH_take (i := 5) (oi := { dst := some 14, op := Op.load 22 (Operand.tmp 13), type := 22, pos := "ref.go:49", after := #[{ on := 4, ground := Ground.data }], guard := none }) (v := ?_) rfl (by kernel_rfl) (by kernel_rfl) (by kernel_rfl) (fun _ _ _ h => h) (Or.inl ⟨by rfl, ?_⟩) hHeld ?_
      rotate_left
      · intro w' hS; obtain ⟨hS1, hS2⟩ := hS; go_simp; all_goals (with_reducible rfl)
      simp only [Act.put, List.setIfInBounds_toArray, List.set_cons_zero, List.set_cons_succ]
      refine wpAnyH_take (i := 7) (oi := { dst := some 16, op := Op.fieldAddr 55 (Operand.tmp 3) 0, type := 0, pos := "ref.go:49", after := #[], guard := none }) (v := ?_) rfl (by kernel_rfl) (by kernel_rfl) (by kernel_rfl) (fun _ _ _ h => h) (Or.inl ⟨by rfl, ?_⟩) hHeld ?_
      rotate_left
      · intro w' hS; obtain ⟨hS1, hS2⟩ := hS; go_simp; all_goals (with_reducible rfl)
      simp only [Act.put, List.setIfInBounds_toArray, List.set_cons_zero, List.set_cons_succ]
      refine wpAnyH_take (i := 1) (oi := { dst := some 10, op := Op.load 55 (Operand.tmp 1), type := 55, pos := "ref.go:49", after := #[], guard := none }) (v := .agg (nums .u32 xs).toArray) rfl (by kernel_rfl) (by kernel_rfl) (by kernel_rfl) (fun _ _ _ h => h) (yieldsIf_load_mid (by rfl) 55 (.tmp 1) rfl w.heap.size 0 (by rfl) (nums .u32 xs) _ (fun w' hS => arr_range hS.1) Try.underlying55 rfl (by rw [size55, nums_length, HL.out])) hHeld ?_
      simp only [Act.put, List.setIfInBounds_toArray, List.set_cons_zero, List.set_cons_succ]
      refine wpAnyH_ready (rs := [6]) (by kernel_rfl) (by simp) ?_
      refine AllReadyH.cons (o := { dst := some 15, op := Op.call { callee := Callee.value (Operand.func 34), args := #[Operand.tmp 10, Operand.tmp 14], argTypes := #[55, 22] }, type := 22, pos := "ref.go:49", after := #[{ on := 1, ground := Ground.data }, { on := 5, ground := Ground.data }], guard := none }) rfl (fun K hK => ?_) AllReadyH.nil
      go_simp
      go_at_call 34; refine (larderref01_gone.calls xs x _ HL.out HXW.out).mono ?_; rintro e w' ⟨rfl, hb⟩
      try go_wp2_with fail
      have hB1 : Below w.heap.size w w' := below_then (below_drew HB.out) HB.out.size hb
      have hA1 := arr_below (arr_drew H1.out) hb
      have hA2 := arr_below (arr_drew H2.out) hb
      have hA3 := arr_below (arr_drew H3.out.1) hb
      obtain ⟨hc3, hf3⟩ := arr_at hA3 hlt
      refine hK.out _ _ ⟨hA1, pw_cell_below (w := wr.drew) hb hc1⟩ (fun hHeld => ?_)
      clear hK K hb
      (try simp only [Act.put, List.setIfInBounds_toArray, List.set_cons_zero, List.set_cons_succ])
      refine wpAnyH_take (i := 8) (oi := { dst := some 17, op := Op.indexAddr 53 (Operand.tmp 16) (Operand.tmp 9), type := 0, pos := "ref.go:49", after := #[{ on := 7, ground := Ground.data }, { on := 0, ground := Ground.data }, { on := 0, ground := Ground.phase }, { on := 1, ground := Ground.phase }, { on := 2, ground := Ground.phase }, { on := 3, ground := Ground.phase }, { on := 4, ground := Ground.phase }, { on := 5, ground := Ground.phase }, { on := 6, ground := Ground.phase }], guard := none }) (v := ?_) rfl (by kernel_rfl) (by kernel_rfl) (by kernel_rfl) (fun _ _ _ h => h) (Or.inl ⟨by rfl, ?_⟩) hHeld ?_
      rotate_left
      · intro w' hS; obtain ⟨hS1, hS2⟩ := hS; go_simp; all_goals (with_reducible rfl)
      simp only [Act.put, List.setIfInBounds_toArray, List.set_cons_zero, List.set_cons_succ]
      refine wpAnyH_ready (rs := [9]) (by kernel_rfl) (by simp) ?_
      refine AllReadyH.cons (o := { dst := none, op := Op.store 22 (Operand.tmp 17) (Operand.tmp 15), type := 0, pos := "ref.go:49", after := #[{ on := 8, ground := Ground.data }, { on := 6, ground := Ground.data }, { on := 6, ground := Ground.chain }, { on := 0, ground := Ground.phase }, { on := 1, ground := Ground.phase }, { on := 2, ground := Ground.phase }, { on := 3, ground := Ground.phase }, { on := 4, ground := Ground.phase }, { on := 5, ground := Ground.phase }, { on := 6, ground := Ground.phase }], guard := none }) rfl (fun K hK => ?_) AllReadyH.nil
      go_simp
      refine hK.out _ _ ⟨arr_far hA1 (by simp; omega) _, by rw [World.cell?_setCell_other _ _ _ _ (by simp)]; exact hHeld.2⟩ (fun hHeld => ?_)
      clear hK K
      refine wpAnyH_done (by kernel_rfl) ?_ _
      (try simp only [Act.put, List.setIfInBounds_toArray, List.set_cons_zero, List.set_cons_succ])
      refine NoPanic.normal ?_
      go_wp2_with fail
      go_roundw
      case rel => exact ⟨j + 1, ys.set j (goneF xs x 32 0 0), by omega, by go_num, ⟨arr_far hA1 (by first | (simp; done) | (simp; omega)) _⟩, ⟨arr_far hA2 (by first | (simp; done) | (simp; omega)) _⟩, ⟨arr_set hA3 _, take_set H3.out.2 (by rw [H3.out.1.1]; exact hlt) (by rw [twiceF_at xs j hlt, HXX.out])⟩, ⟨hB1.setCell (by first | (simp; done) | (simp; omega)) _⟩⟩
      case measure => simp [intOf]; omega
    · have hys : ys = twiceF xs := by
        have := H3.out.2
        rw [show j = 32 by omega] at this
        rwa [List.take_of_length_le (by rw [H3.out.1.1]; exact Nat.le_refl _), List.take_of_length_le (by rw [twiceF_length]; exact Nat.le_refl _)] at this
      have H3' := Aside0.mk (hys ▸ H3.out.1)
      clear hys H3
      have hsz : (nums .u32 (twiceF xs)).toArray.size = 32 := by simp [nums, twiceF_length]
      have HSZ := Aside0.mk hsz
      clear hsz
      go_wp2_with (first
        | (refine wpList_load_row rfl 55 (.tmp 3) rfl (w.heap.size + 1 + 1) rfl 55 (nums .u32 (twiceF xs)).toArray (0, 0) _ H3'.out.2 Try.underlying55 rfl (by rw [size55, HSZ.out]) ?_)
        | (refine wpList_store_row rfl 55 (.tmp 2) (.tmp 18) rfl (w.heap.size + 1) (nums .u32 (twiceF xs)).toArray rfl rfl 55 (nums .u32 z32).toArray H2.out.2 (by rw [size55, HSZ.out]) (by rw [HSZ.out]; rfl) (nums_one _) ?_))
      refine bodyPost_ret (v := .agg (nums .u32 (twiceF xs)).toArray) (results_cell_row (p := 2) (ty := 55) rfl _ _ (w.heap.size + 1) 55 (nums .u32 (twiceF xs)).toArray (0, 0) _ rfl (setRow_heap _ _ _ _ _ _ H2.out.2) Try.underlying55 rfl (by rw [size55, HSZ.out])) rfl ?_
      exact ⟨rfl, below_setRow HB.out (by omega) _⟩

theorem twiceF_bd (xs : List Int) : ∀ x ∈ twiceF xs, 0 ≤ x ∧ x < 4294967296 := by
  intro x hx
  obtain ⟨i, _, rfl⟩ := List.mem_map.1 hx
  exact goneF_bd _ _ _ _ _ (by decide)
/-- The way of one byte. -/
def way0 : List Int := (List.range 32).map fun i => (larderref01_on.f 40 ((2 : Int) ^ i % 4294967296) [0]).getD 0
theorem way0_some : ∀ i : Nat, i < 32 → (larderref01_on.f 40 ((2 : Int) ^ i % (4294967296 : Int)) [0]).isSome = true := by decide +kernel
theorem way0_length : way0.length = 32 := by simp [way0]
theorem way0_at (i : Nat) (hi : i < 32) : ∃ r, larderref01_on.f 40 ((2 : Int) ^ i % 4294967296) [0] = some r ∧ way0[i]? = some r := by
  obtain ⟨r, hr⟩ := Option.isSome_iff_exists.1 (way0_some i hi)
  exact ⟨r, hr, by simp [way0, hi, hr]⟩
theorem way0_bd : ∀ x ∈ way0, 0 ≤ x ∧ x < 4294967296 := by decide +kernel
def joinL : Nat → List Int → Int → Int → Int
  | 0, _, a, _ => a
  | m + 1, ws, a, n => if n > 0 then joinL m (twiceF ws) (if n % 2 = 1 then goneF ws a 32 0 0 else a) (n / 2) else a
theorem joinL_odd {m : Nat} {ws : List Int} {a n r : Int} (h : joinL (m + 1) ws a n = r) (hn : 0 < n) (h1 : (n % 2 == 1) = true) : joinL m (twiceF ws) (goneF ws a 32 0 0) (n / 2) = r := by
  rw [joinL, if_pos hn, if_pos (beq_iff_eq.1 h1)] at h
  exact h
theorem joinL_even {m : Nat} {ws : List Int} {a n r : Int} (h : joinL (m + 1) ws a n = r) (hn : 0 < n) (h1 : (n % 2 == 1) = false) : joinL m (twiceF ws) a (n / 2) = r := by
  rw [joinL, if_pos hn, if_neg (by simpa using h1)] at h
  exact h
theorem joinL_end {m : Nat} {ws : List Int} {a n r : Int} (h : joinL m ws a n = r) (hn : ¬ 0 < n) : a = r := by
  cases m with
  | zero => exact h
  | succ m => rw [joinL, if_neg hn] at h; exact h
theorem half_lt {n : Int} {m : Nat} (h0 : 0 ≤ n) (h : n < 2 ^ (m + 1)) : n / 2 < 2 ^ m := by
  rw [Int.pow_succ] at h
  omega
theorem on0_calls (x r : Int) (W : World) (h : larderref01_on.f 40 x [0] = some r) : Calls Try.prog 33 #[.int .u32 x, .slice (some ⟨W.heap.size, 0, none⟩) 1 1] (W.alloc (Obj.cells #[Value.int IntKind.u8 0] 5)) fun e w' => e = .returned (.int .u32 r) ∧ Below W.heap.size W w' := by
  refine (larderref01_on.calls 40 x (some ⟨W.heap.size, 0, none⟩) 1 [0] r _ (reads_lit W 5 [0] (0, 0) (by decide)) (by decide) h).mono ?_
  rintro e w' ⟨rfl, ⟨nd, rfl⟩⟩
  exact ⟨rfl, pw_below_drewN (below_alloc (Below.refl _ _) _) _⟩
def larderref01_CrcJoin.f (a b n : Int) : Option (Int × Int) := if 0 ≤ a ∧ a < 4294967296 then (if n < 0 ∨ n > 1099511627776 then some (0, 2) else some (Go.bits .xor .u32 (joinL 41 way0 a n) b, 0)) else none
set_option maxHeartbeats 8000000 in
set_option maxRecDepth 100000 in
theorem larderref01_CrcJoin.calls (a0 : Int) (a1 : Int) (a2 : Int) (r1 : Int) (r2 : Int) (w : World) (h : larderref01_CrcJoin.f a0 a1 a2 = some (r1, r2)) :
    Calls Try.prog 10 #[.int .u32 a0, .int .u32 a1, .int .i64 a2] w fun e w' => e = .returned (.tuple #[.int .u32 r1, .int .i64 r2]) ∧ Below w.heap.size w w' := by
  unfold larderref01_CrcJoin.f at h
  have ha0 : 0 ≤ a0 ∧ a0 < 4294967296 := by
    by_cases hq : 0 ≤ a0 ∧ a0 < 4294967296
    · exact hq
    · rw [if_neg hq] at h; cases h
  rw [if_pos ha0] at h
  by_cases hL : a2 < 0 ∨ a2 > 1099511627776
  · rw [if_pos hL] at h
    simp only [Option.some.injEq, Prod.mk.injEq] at h
    obtain ⟨rfl, rfl⟩ := h
    rcases hL with hL | hL
    · go_enter Try.func10, Try.ntmps10
      go_wp2
      go_ret2
      exact ⟨rfl, Below.refl _ _⟩
    · have h2 : ¬ a2 < 0 := by omega
      go_enter Try.func10, Try.ntmps10
      go_wp2
      go_ret2
      exact ⟨rfl, Below.refl _ _⟩
  · rw [if_neg hL] at h
    simp only [Option.some.injEq, Prod.mk.injEq] at h
    obtain ⟨hh1, hh2⟩ := h
    subst hh2
    have hn0 : ¬ a2 < 0 := by omega
    have hn1 : ¬ 1099511627776 < a2 := by omega
    obtain ⟨r, hr⟩ : ∃ r, joinL 41 way0 a0 a2 = r := ⟨_, rfl⟩
    rw [hr] at hh1
    have HR := Aside0.mk hr
    have HE := Aside0.mk hh1
    have HA0 := Aside0.mk ha0
    clear hr hh1 hL ha0
    go_enter Try.func10, Try.ntmps10
    go_wp2_with fail
    rw [show (#[Value.int IntKind.u32 0, Value.int IntKind.u32 0, Value.int IntKind.u32 0, Value.int IntKind.u32 0, Value.int IntKind.u32 0, Value.int IntKind.u32 0, Value.int IntKind.u32 0, Value.int IntKind.u32 0, Value.int IntKind.u32 0, Value.int IntKind.u32 0, Value.int IntKind.u32 0, Value.int IntKind.u32 0, Value.int IntKind.u32 0, Value.int IntKind.u32 0, Value.int IntKind.u32 0, Value.int IntKind.u32 0, Value.int IntKind.u32 0, Value.int IntKind.u32 0, Value.int IntKind.u32 0, Value.int IntKind.u32 0, Value.int IntKind.u32 0, Value.int IntKind.u32 0, Value.int IntKind.u32 0, Value.int IntKind.u32 0, Value.int IntKind.u32 0, Value.int IntKind.u32 0, Value.int IntKind.u32 0, Value.int IntKind.u32 0, Value.int IntKind.u32 0, Value.int IntKind.u32 0, Value.int IntKind.u32 0, Value.int IntKind.u32 0] : Array Value) = (nums .u32 z32).toArray from rfl]
    have hb0 : Below w.heap.size w (w.alloc (Obj.cells (nums .u32 z32).toArray 55)) := below_alloc (Below.refl _ _) _
    have h1 : Arr32 (w.alloc (Obj.cells (nums .u32 z32).toArray 55)) w.heap.size z32 := ⟨rfl, heap_alloc_new _ _⟩
    generalize w.alloc (Obj.cells (nums .u32 z32).toArray 55) = w1 at *
    have HB := Aside0.mk hb0
    have H1 := Aside0.mk h1
    clear hb0 h1
    go_loopw [9] (fun i wr => ∃ (j : Nat) (ys : List Int), j ≤ 32 ∧ i = .int .i64 (j : Int) ∧ Aside0 (Arr32 wr w.heap.size ys ∧ ys.take j = way0.take j) ∧ Aside0 (Below w.heap.size w wr)) (fun i _ => 32 - (intOf i).toNat)
    case atStart => exact ⟨0, z32, by omega, rfl, ⟨H1.out, by simp⟩, HB⟩
    case round =>
      clear HB H1
      obtain ⟨j, ys, hj, rfl, H1, HB⟩ := hrel
      by_cases hlt : j < 32
      · obtain ⟨v, hv1, hv2⟩ := way0_at j hlt
        have HV1 := Aside0.mk hv1
        have HV2 := Aside0.mk hv2
        clear hv1 hv2
        obtain ⟨hc1, hf1⟩ := arr_at H1.out.1 hlt
        have hj0 : (0 : Int) ≤ (j : Int) := by omega
        have hj1 : (j : Int) < 32 := by omega
        go_wp2_with fail
        go_at_call 33; refine (on0_calls _ v _ HV1.out).mono ?_; rintro e w' ⟨rfl, hb⟩
        have hA := arr_below H1.out.1 hb
        obtain ⟨hc2, hf2⟩ := arr_at hA hlt
        have HB2 := Aside0.mk (below_then HB.out HB.out.size hb)
        clear hc1 hf1 hb
        go_wp2_with fail
        go_roundw
        case rel => exact ⟨j + 1, ys.set j v, by omega, by go_num, ⟨arr_set hA _, take_set H1.out.2 (by rw [H1.out.1.1]; exact hlt) HV2.out⟩, ⟨HB2.out.setCell (by simp) _⟩⟩
        case measure => simp [intOf]; omega
      · have hys : ys = way0 := by
          have := H1.out.2
          rw [show j = 32 by omega] at this
          rwa [List.take_of_length_le (by rw [H1.out.1.1]; exact Nat.le_refl _), List.take_of_length_le (by rw [way0_length]; exact Nat.le_refl _)] at this
        have H1' := Aside0.mk (hys ▸ H1.out.1)
        clear hys H1
        go_wp2_with fail
        go_loopw [0, 2] (fun a n wr => ∃ (m : Nat) (ws : List Int) (x y : Int), a = .int .u32 x ∧ n = .int .i64 y ∧ 0 ≤ y ∧ y ≤ 1099511627776 ∧ Aside0 (y < 2 ^ m ∧ joinL m ws x y = r) ∧ Aside0 (0 ≤ x ∧ x < 4294967296) ∧ Aside0 (Arr32 wr w.heap.size ws ∧ ∀ q ∈ ws, 0 ≤ q ∧ q < 4294967296) ∧ Aside0 (Below w.heap.size w wr)) (fun _ n _ => (intOf n).toNat)
        case atStart => exact ⟨41, way0, a0, a2, rfl, rfl, by omega, by omega, ⟨by omega, HR.out⟩, HA0, ⟨H1'.out, way0_bd⟩, HB⟩
        case round =>
          clear HB H1'
          obtain ⟨m, ws, x, y, rfl, rfl, hy0, hy1, HX, HXB, HA, HB⟩ := hrel
          by_cases hy : 0 < y
          · obtain ⟨m, rfl⟩ : ∃ q, m = q + 1 := by
              cases m with
              | zero => have := HX.out.1; simp at this; omega
              | succ q => exact ⟨q, rfl⟩
            have ha0 : 0 ≤ y / 2 := by omega
            have ha1 : y / 2 ≤ 1099511627776 := by omega
            have HM := Aside0.mk (half_lt hy0 HX.out.1)
            by_cases hodd : (y % 2 == 1) = true
            · go_wp2_with (refine wpList_load_row rfl 55 (.tmp 8) rfl w.heap.size rfl 55 (nums .u32 ws).toArray (0, 0) _ HA.out.1.2 Try.underlying55 rfl (by rw [size55]; simp [nums, HA.out.1.1]) ?_)
              go_at_call 34; refine (larderref01_gone.calls ws x _ HA.out.1.1 HXB.out).mono ?_; rintro e w' ⟨rfl, hb⟩
              have HA1 := Aside0.mk (arr_below HA.out.1 hb)
              have HB1 := Aside0.mk (below_then HB.out HB.out.size hb)
              clear hb
              go_wp2_with (refine wpList_load_row rfl 55 (.tmp 8) rfl w.heap.size rfl 55 (nums .u32 ws).toArray (0, 0) _ HA1.out.2 Try.underlying55 rfl (by rw [size55]; simp [nums, HA1.out.1]) ?_)
              go_at_call 35; refine (larderref01_twice.calls ws _ HA1.out.1 HA.out.2).mono ?_; rintro e w'' ⟨rfl, hb⟩
              have HA2 := Aside0.mk (arr_below HA1.out hb)
              have HB2 := Aside0.mk (below_then HB1.out HB1.out.size hb)
              clear hb
              go_wp2_with (refine wpList_store_row rfl 55 (.tmp 8) (.tmp 37) rfl w.heap.size (nums .u32 (twiceF ws)).toArray rfl rfl 55 (nums .u32 ws).toArray HA2.out.2 (by rw [size55]; simp [nums, twiceF_length]) (by simp [nums, twiceF_length, HA2.out.1]) (nums_one _) ?_)
              go_roundw
              case rel => exact ⟨m, twiceF ws, goneF ws x 32 0 0, y / 2, rfl, rfl, ha0, ha1, ⟨HM.out, joinL_odd HX.out.2 hy hodd⟩, ⟨goneF_bd _ _ _ _ _ (by decide)⟩, ⟨⟨twiceF_length _, setRow_heap _ _ _ _ _ _ HA2.out.2⟩, twiceF_bd _⟩, ⟨below_setRow HB2.out (Nat.le_refl _) _⟩⟩
              case measure => simp [intOf]; omega
            · have hev : (y % 2 == 1) = false := by simpa using hodd
              clear hodd
              go_wp2_with (refine wpList_load_row rfl 55 (.tmp 8) rfl w.heap.size rfl 55 (nums .u32 ws).toArray (0, 0) _ HA.out.1.2 Try.underlying55 rfl (by rw [size55]; simp [nums, HA.out.1.1]) ?_)
              go_at_call 35; refine (larderref01_twice.calls ws _ HA.out.1.1 HA.out.2).mono ?_; rintro e w'' ⟨rfl, hb⟩
              have HA2 := Aside0.mk (arr_below HA.out.1 hb)
              have HB2 := Aside0.mk (below_then HB.out HB.out.size hb)
              clear hb
              go_wp2_with (refine wpList_store_row rfl 55 (.tmp 8) (.tmp 37) rfl w.heap.size (nums .u32 (twiceF ws)).toArray rfl rfl 55 (nums .u32 ws).toArray HA2.out.2 (by rw [size55]; simp [nums, twiceF_length]) (by simp [nums, twiceF_length, HA2.out.1]) (nums_one _) ?_)
              go_roundw
              case rel => exact ⟨m, twiceF ws, x, y / 2, rfl, rfl, ha0, ha1, ⟨HM.out, joinL_even HX.out.2 hy hev⟩, HXB, ⟨⟨twiceF_length _, setRow_heap _ _ _ _ _ _ HA2.out.2⟩, twiceF_bd _⟩, ⟨below_setRow HB2.out (Nat.le_refl _) _⟩⟩
              case measure => simp [intOf]; omega
          · have he := Aside0.mk (joinL_end HX.out.2 hy)
            go_wp2_with fail
            go_ret2
            refine ⟨?_, HB.out⟩
            rw [← HE.out, ← he.out]
            rfl

/-! ### larderlaw01_FrameJoins: function 3 -/
def larderlaw01_FrameJoins.f (k : Nat) (a0 : Int) (a1 : Int) (a2 : Int) : Option (Bool) := (frame_CrcJoin.f k a0 a1 a2).bind fun bt109 => ((larderref01_CrcJoin.f a0 a1 a2).bind fun bt111 => (if bt109.1 = bt111.1 then (some (bt109.2 == bt111.2)) else (some false)))
theorem larderlaw01_FrameJoins.mono : ∀ a0 a1 a2 k, LeO (larderlaw01_FrameJoins.f k a0 a1 a2) (larderlaw01_FrameJoins.f (k + 1) a0 a1 a2) := by
  intro a0 a1 a2 k
  unfold larderlaw01_FrameJoins.f
  repeat' first
      | (with_reducible exact frame_CrcJoin.mono _ _ _ _)
      | (with_reducible exact LeO.refl _)
      | (with_reducible exact LeO.none _)
      | (with_reducible refine LeO.ite ?_ ?_)
      | (with_reducible refine LeO.bind ?_ (fun _ => ?_))
      | exact frame_CrcJoin.mono _ _ _ _
      | exact LeO.none _
      | refine LeO.ite ?_ ?_
      | refine LeO.bind ?_ (fun _ => ?_)
set_option maxHeartbeats 8000000 in
set_option maxRecDepth 100000 in
theorem larderlaw01_FrameJoins.calls (k : Nat) (a0 : Int) (a1 : Int) (a2 : Int) (r : Bool) (w : World) (h : larderlaw01_FrameJoins.f k a0 a1 a2 = some r) :
    Calls Try.prog 3 #[.int .u32 a0, .int .u32 a1, .int .i64 a2] w fun e w' => e = .returned (.bool r) ∧ Below w.heap.size w w' := by
  have HB := Aside0.mk (Below.refl w.heap.size w)
  have H : ((frame_CrcJoin.f k a0 a1 a2).bind fun bt109 => ((larderref01_CrcJoin.f a0 a1 a2).bind fun bt111 => (if bt109.1 = bt111.1 then (some (bt109.2 == bt111.2)) else (some false)))) = some r := h
  clear h
  replace H := Option.bind_eq_some_iff.mp H
  obtain ⟨⟨t109, t110⟩, A40, H⟩ := H
  replace H : ((larderref01_CrcJoin.f a0 a1 a2).bind fun bt111 => (if t109 = bt111.1 then (some (t110 == bt111.2)) else (some false))) = some r := H
  have A4 := Aside0.mk A40
  clear A40
  replace H := Option.bind_eq_some_iff.mp H
  obtain ⟨⟨t111, t112⟩, A50, H⟩ := H
  replace H : (if t109 = t111 then (some (t110 == t112)) else (some false)) = some r := H
  have A5 := Aside0.mk A50
  clear A50
  by_cases c6 : t109 = t111
  · rw [if_pos c6] at H
    have c6b0 : (t109 == t111) = true := beq_iff_eq.mpr c6
    have c6b1 : (t109 != t111) = false := bne_eq_false_iff_eq.mpr c6
    clear c6
    obtain rfl := Option.some.inj H
    go_enter Try.func3, Try.ntmps3
    go_wp2_with (first | ((with_reducible refine gate_callee (f := 9) rfl ?_); refine goesL_ (some 15) rfl rfl Try.func9 (by kernel_rfl) rfl #[.int .u32 a0, .int .u32 a1, .int .i64 a2] rfl (by (try simp only [List.map_toArray, List.map_cons, List.map_nil]); first | done | rfl | (simp only [List.length_drop, List.length_take]; rfl)) ?_; (with_reducible refine (frame_CrcJoin.calls k a0 a1 a2 t109 t110 _ A4.out).mono ?_); rintro e w' ⟨rfl, ⟨nd, rfl⟩⟩; refine ⟨_, rfl, ?_⟩) | ((with_reducible refine gate_callee (f := 10) rfl ?_); refine goesL_ (some 22) rfl rfl Try.func10 (by kernel_rfl) rfl #[.int .u32 a0, .int .u32 a1, .int .i64 a2] rfl (by (try simp only [List.map_toArray, List.map_cons, List.map_nil]); first | done | rfl | (simp only [List.length_drop, List.length_take]; rfl)) ?_; (with_reducible refine (larderref01_CrcJoin.calls a0 a1 a2 t111 t112 _ A5.out).mono ?_); rintro e w7 ⟨rfl, hb⟩; refine ⟨_, rfl, ?_⟩; have n0_ := Aside0.mk (below_step (by repeat (first | (with_reducible first | exact HB.out | apply below_alloc | apply pw_below_drewN | apply below_drew1) | exact HB.out)) hb); clear HB; have HB := n0_; clear n0_; (try clear hb); (try clear hb2); (try clear hk); (try clear hi)))
    go_ret
    exact ⟨by first | rfl | (simp [errW_none, errW_some] <;> rfl) | (simp [*, errW_none, errW_some] <;> rfl), by repeat (first | (with_reducible first | exact HB.out | apply below_alloc | apply pw_below_drewN | apply below_drew1) | exact HB.out)⟩
  · rw [if_neg c6] at H
    have c6b0 : (t109 == t111) = false := beq_eq_false_iff_ne.mpr c6
    have c6b1 : (t109 != t111) = true := bne_iff_ne.mpr c6
    obtain rfl := Option.some.inj H
    go_enter Try.func3, Try.ntmps3
    go_wp2_with (first | ((with_reducible refine gate_callee (f := 9) rfl ?_); refine goesL_ (some 15) rfl rfl Try.func9 (by kernel_rfl) rfl #[.int .u32 a0, .int .u32 a1, .int .i64 a2] rfl (by (try simp only [List.map_toArray, List.map_cons, List.map_nil]); first | done | rfl | (simp only [List.length_drop, List.length_take]; rfl)) ?_; (with_reducible refine (frame_CrcJoin.calls k a0 a1 a2 t109 t110 _ A4.out).mono ?_); rintro e w' ⟨rfl, ⟨nd, rfl⟩⟩; refine ⟨_, rfl, ?_⟩) | ((with_reducible refine gate_callee (f := 10) rfl ?_); refine goesL_ (some 22) rfl rfl Try.func10 (by kernel_rfl) rfl #[.int .u32 a0, .int .u32 a1, .int .i64 a2] rfl (by (try simp only [List.map_toArray, List.map_cons, List.map_nil]); first | done | rfl | (simp only [List.length_drop, List.length_take]; rfl)) ?_; (with_reducible refine (larderref01_CrcJoin.calls a0 a1 a2 t111 t112 _ A5.out).mono ?_); rintro e w8 ⟨rfl, hb⟩; refine ⟨_, rfl, ?_⟩; have n0_ := Aside0.mk (below_step (by repeat (first | (with_reducible first | exact HB.out | apply below_alloc | apply pw_below_drewN | apply below_drew1) | exact HB.out)) hb); clear HB; have HB := n0_; clear n0_; (try clear hb); (try clear hb2); (try clear hk); (try clear hi)))
    go_ret
    exact ⟨by first | rfl | (simp [errW_none, errW_some] <;> rfl) | (simp [*, errW_none, errW_some] <;> rfl), by repeat (first | (with_reducible first | exact HB.out | apply below_alloc | apply pw_below_drewN | apply below_drew1) | exact HB.out)⟩

/-- THE ONE PURE STATEMENT of larderlaw01_FrameJoins: yours. -/
def larderlaw01_FrameJoins.Pure : Prop := ∀ (a0 : Int) (a1 : Int) (a2 : Int), (Lit.int .u32 a0).wf = true → (Lit.int .u32 a1).wf = true → (Lit.int .i64 a2).wf = true → ∃ k, larderlaw01_FrameJoins.f k a0 a1 a2 = some true
theorem larderlaw01_FrameJoins.walk (P : larderlaw01_FrameJoins.Pure) (a0 : Int) (a1 : Int) (a2 : Int) (w : World) (w0 : (Lit.int .u32 a0).wf = true) (w1 : (Lit.int .u32 a1).wf = true) (w2 : (Lit.int .i64 a2).wf = true) :
    Calls Try.prog 3 #[.int .u32 a0, .int .u32 a1, .int .i64 a2] w fun e w' => e = .returned (.bool true) ∧ Below w.heap.size w w' := by
  obtain ⟨k, h⟩ := P a0 a1 a2 w0 w1 w2
  refine (larderlaw01_FrameJoins.calls k a0 a1 a2 true w h).mono ?_
  rintro e w' ⟨rfl, hd⟩
  exact ⟨rfl, hd⟩

end Go.Proofs.Ytlblleideihhmaa.PJ
