/- Laws that the printer's words lack: make with a capacity of its own, a cut up to the capacity. -/
import Derived.Lib.SlBytesConst
import Derived.Lib.SliceRun
import Derived.Test.YtafmoglaockepaaWWords
import Derived.Test.YtafmoglaockepaaWLast
import Derived.Test.YtafmoglaockepaaWMore
namespace Go.Proofs.Ytafmoglaockepaa.Mine
set_option linter.unusedVariables false
open Go Go.RowKit Go.Proofs.YtafmoglaockepaaW.PrintWords Go.Proofs.YtafmoglaockepaaW.PrintLast Go.Proofs.YtafmoglaockepaaW.PrintMore
section
variable {P : Program} {ops : Array Oper} {rest : List Oper} {o : Oper} {a : Act} {Q : Exit → Act → World → Prop} {α : Type}
/-- make([]T, 0, n): no element, and room for n. -/
theorem R_makeCap (d : Kd α) {w0 W : World} (base e : Nat) (hgd : o.guard = none) {N : Tmp} (_hd : o.dst = some N) (t : TypeId) (x y : Operand) (ho : o.op = .makeSlice t x y) (n : Int) (hx : a.eval x = .int .i64 0) (hy : a.eval y = .int .i64 n)
    (ht : P.underlying t = some (.slice e)) (z : Value) (bytes : Nat) (hinfo : (P.info? e).map (fun i => (i.zero, i.size, i.bytes)) = some (some z, d.sz, bytes)) (hz : z.cells.size = d.sz) (hb0 : 0 < bytes)
    {ok : Nat → Prop} (hfresh : ok W.heap.size) (h0 : 0 ≤ n) (hl : n.toNat * bytes ≤ 281474976710656) (HB : Below base w0 W) (hbase : base ≤ W.heap.size)
    (h : ∀ v1 w1, d.R e w1 base ok v1 [] → Below base w0 w1 → W.grownBy w1 none → (∃ b, v1.ownBlock = some b ∧ W.heap.size ≤ b) → wpList P ops Q rest (a.put o.dst v1) w1) : wpList P ops Q (o :: rest) a W := by
  obtain ⟨m, rfl⟩ := Int.eq_ofNat_of_zero_le h0
  simp only [Int.toNat_natCast] at hl
  obtain ⟨i0, hi, hzz⟩ := Option.map_eq_some_iff.1 hinfo
  simp only [Prod.mk.injEq] at hzz
  obtain ⟨hz0, hz1, hz2⟩ := hzz
  have hm : m ≤ 281474976710656 := Nat.le_trans (Nat.le_mul_of_pos_right _ hb0) hl
  have hr := run_make (P := P) W t e i0 z ht hi hz0 .i64 .i64 0 (m : Int) (by omega) (by omega)
    (by
      have h3 : ((i0.bytes * m : Nat) : Int) ≤ 281474976710656 := by rw [hz2, Nat.mul_comm]; omega
      rwa [Int.natCast_mul] at h3) (by omega)
  simp only [Int.toNat_natCast] at hr
  rw [hz1] at hr
  have hrun : (execOp a.eval o).run P W = .ok (.value (.slice (some ⟨W.heap.size, 0, none⟩) 0 m)) (W.alloc (.cells (madeCells z.cells (m * d.sz)) e)) := by
    simp [execOp, ho, hx, hy, hr]
  refine Kd.event_run hgd hrun (h _ _ ⟨fun k hk => ?_, [], ?_, ?_⟩ (HB.alloc hbase _) (World.grownBy_alloc W _ none) ⟨W.heap.size, by simp [Value.ownBlock], Nat.le_refl _⟩)
  · have : W.heap.size = k := by simpa [Value.ownBlock] using hk
    subst this
    exact hfresh
  · refine ⟨by simp, .inr ⟨W.heap.size, m, madeCells z.cells (m * d.sz), rfl, hbase, heap_alloc_new W _, by simp, by simp only [maxLen]; omega, ?_, by simp⟩⟩
    simp [size_madeCells]
  · exact Reps.none _ _
/-- s[:j], up to the capacity. -/
theorem cut_cap (t e : TypeId) (kh : IntKind) {i : TypeInfo} (ht : P.underlying t = some (.slice e)) (hi : P.info? e = some i) (A : Option Addr) (n c : Nat) (j : Int) (h0 : 0 ≤ j) (hm : j ≤ c) :
    ∀ W : World, (Instr.slice t (.slice A n c) none (some (.int kh j)) none).run P W = .ok (.slice A j.toNat c) W := by
  intro W
  have hel : P.elem t = e := by simp [Program.elem, ht]
  have hu : P.underlying t = some (.slice (P.elem t)) := by rw [hel]; exact ht
  have ha : (A.map fun x => x.add 0) = A := by cases A <;> simp [Addr.add]
  rw [run_slice_h W t A n c hu kh j h0 hm, hel]
  simp [sizeOf, typeInfo, hi, sliced, Result.andThen, ha]
/-- A row of bytes that is only read. -/
def SeenRow (w : World) (v : Value) (xs : List Int) : Prop := ∃ (A : Option Addr) (c : Nat), v = .slice A xs.length c ∧ xs.length ≤ c ∧ Kd.C (Kd.int .u8) w A xs.length xs
theorem reads_lit (W : World) (e : TypeId) (xs : List Int) (fr : Nat × Nat) (hm : xs.length ≤ 9223372036854775807) :
    Kd.C (Kd.int .u8) (W.alloc (.cells (nums .u8 xs).toArray e fr)) (some ⟨W.heap.size, 0, none⟩) xs.length xs := by
  refine Kd.C_of_reads (d := (0 : Int)) (h1 := fun _ => rfl) ⟨rfl, hm, fun _ => ⟨_, rfl, fun j hj => ?_⟩⟩
  rw [add_plain]
  have h1 : (W.alloc (.cells (nums .u8 xs).toArray e fr)).heap[W.heap.size]? = some (.cells (nums .u8 xs).toArray e fr) := by
    show (W.heap.push _)[W.heap.size]? = _
    simp
  unfold World.cell?
  simp only [h1]
  simp [nums, List.getD_eq_getElem?_getD, List.getElem?_eq_getElem hj]
/-- A constant text's bytes: the row, and the conversion to its own type behind it. -/
theorem lit_const {W : World} (e : Nat) (hgd : o.guard = none) {N M : Tmp} (_hd : o.dst = some N) (T : TypeId) (hT : P.underlying T = some (.slice e)) (he : P.underlying e = some (.int .u8)) (xs : List Int)
    (hrun : (execOp a.eval o).run P W = .ok (.value (.slice (some ⟨W.heap.size, 0, none⟩) xs.length xs.length)) (W.alloc (.cells (nums .u8 xs).toArray e)))
    {o2 : Oper} (_hd2 : o2.dst = some M) (hgd2 : o2.guard = none) (ho2 : o2.op = .convert T T (.tmp N)) (hev : ∀ v, (a.put o.dst v).eval (.tmp N) = v) (hm : xs.length ≤ 9223372036854775807)
    (h : ∀ v1 w1, SeenRow w1 v1 xs → Below W.heap.size W w1 → wpList P ops Q rest ((a.put o.dst v1).put o2.dst v1) w1) : wpList P ops Q (o :: o2 :: rest) a W := by
  refine Kd.event_run hgd hrun (Kd.event_run hgd2 (w1 := W.alloc (.cells (nums .u8 xs).toArray e ((nums .u8 xs).toArray.size, (nums .u8 xs).toArray.size + 1))) (v := .slice (some ⟨W.heap.size, 0, none⟩) xs.length xs.length) ?_ (h _ _ ⟨_, _, rfl, Nat.le_refl _, reads_lit W e xs _ hm⟩ ((Below.refl _ _).alloc (Nat.le_refl _) _)))
  have := Lib.run_convert_bytes_const (P := P) W T e (nums .u8 xs).toArray xs.length xs.length hT he
  simp [execOp, ho2, hev, this]
/-- []byte(s). -/
theorem str_bytes {W : World} (e : Nat) (hgd : o.guard = none) {N : Tmp} (_hd : o.dst = some N) (src T : TypeId) (x : Operand) (ho : o.op = .convert src T x) (s : ByteArray) (hx : a.eval x = .string s)
    (hs : P.underlying src = some .string) (hT : P.underlying T = some (.slice e)) (he : P.underlying e = some (.int .u8)) (hm : s.size ≤ 9223372036854775807)
    (h : ∀ v1 w1, SeenRow w1 v1 (bytesOf s) → Below W.heap.size W w1 → wpList P ops Q rest (a.put o.dst v1) w1) : wpList P ops Q (o :: rest) a W := by
  have hr := Lib.run_convert_string_bytes (P := P) W src T e s hs hT he
  have hl := bytesOf_length s
  refine Kd.event_run hgd (v := .slice (some ⟨W.heap.size, 0, none⟩) (bytesOf s).length (grownCap W s.size 0 e)) (w1 := Lib.bytesWorld W e s) ?_ (h _ _ ⟨_, _, rfl, ?_, ?_⟩ (bytes_below (Below.refl _ _) (Nat.le_refl _) e s))
  · simp [execOp, ho, hx, hr, hl]
  · rw [hl]
    exact grownCap_ge W s.size 0 e
  · rw [hl]
    exact Kd.C_of_reads (d := (0 : Int)) (h1 := fun _ => rfl) (bytes_reads W e s hm)
end
/-- The marks behind what is lent. -/
def marks9 : List Int := [208, 209, 210, 211, 212, 213, 214, 215, 216]
theorem marks9_length : marks9.length = 9 := rfl
theorem marks9_rd (l : List Int) (x : Int) (h0 : 0 ≤ x) (h1 : x < 9) : rd (l ++ marks9) ((l.length : Int) + x) = (wrap64 (208 + x)) % 256 := by
  obtain ⟨j, rfl⟩ := Int.eq_ofNat_of_zero_le h0
  have hj : j < 9 := by omega
  have e : rd (l ++ marks9) ((l.length : Int) + (j : Int)) = marks9.getD j 0 := by
    unfold rd
    rw [show ((l.length : Int) + (j : Int)).toNat = l.length + j by omega, List.getD_eq_getElem?_getD, List.getElem?_append_right (by omega), Nat.add_sub_cancel_left, List.getD_eq_getElem?_getD]
  rw [e]
  have : ∀ j : Nat, j < 9 → marks9.getD j 0 = (wrap64 (208 + (j : Int))) % 256 := by decide +kernel
  exact this j hj
theorem marks9_grow {l x3 y : List Int} {x : Int} {kq : Nat} (h : 0 ≤ x ∧ x + ((kq + 1 : Nat) : Int) = 10 ∧ x ≤ 9 ∧ x3 = l ++ marks9.take x.toNat) (hx : x < 9) (hy : y = x3 ++ [(wrap64 (208 + x)) % 256]) :
    0 ≤ wrap64 (x + 1) ∧ wrap64 (x + 1) + (kq : Int) = 10 ∧ wrap64 (x + 1) ≤ 9 ∧ y = l ++ marks9.take (wrap64 (x + 1)).toNat := by
  obtain ⟨h0, h1, _, rfl⟩ := h
  obtain ⟨j, rfl⟩ := Int.eq_ofNat_of_zero_le h0
  have hw : wrap64 ((j : Int) + 1) = ((j + 1 : Nat) : Int) := by unfold wrap64; omega
  have hj : j < 9 := by omega
  rw [hw]
  refine ⟨by omega, by omega, by omega, ?_⟩
  rw [hy, Int.toNat_natCast, Int.toNat_natCast, List.append_assoc]
  congr 1
  have : ∀ j : Nat, j < 9 → marks9.take j ++ [(wrap64 (208 + (j : Int))) % 256] = marks9.take (j + 1) := by decide +kernel
  exact this j hj
/-- A slice's address and capacity. -/
def adOf : Value → Option Addr
  | .slice A _ _ => A
  | _ => none
def capOf : Value → Nat
  | .slice _ _ c => c
  | _ => 0
/-- What half a byte makes of a register that is 0. -/
def crcTab : List Int := [0, 274646895, 549293790, 820201905, 1098587580, 1361435347, 1640403810, 1905808397, 2197175160, 2460548119, 2722870694, 2987750089, 3280807620, 3553878443, 3811616794, 4084100981]
/-- Half a byte on, by the table. -/
def nib (r : Int) : Int := Go.bits .xor .u32 (rd crcTab (Go.bits .and .u32 r 15)) (r / 16)
theorem and15 (x : Int) : 0 ≤ Go.bits .and .u32 x 15 ∧ Go.bits .and .u32 x 15 < 16 := by
  have h1 : (BitVec.ofInt 32 x &&& BitVec.ofInt 32 15).toNat < 16 := by
    rw [BitVec.toNat_and, show (BitVec.ofInt 32 15).toNat = 15 from rfl]
    exact Nat.lt_of_le_of_lt Nat.and_le_right (by decide)
  have h2 : Go.bits .and .u32 x 15 = (((BitVec.ofInt 32 x &&& BitVec.ofInt 32 15).toNat : Nat) : Int) := by
    show IntKind.u32.wrap (((BitVec.ofInt 32 x &&& BitVec.ofInt 32 15).toNat : Nat) : Int) = _
    rw [IntKind.wrap_u32]
    omega
  rw [h2]
  omega
theorem crcTab_length : crcTab.length = 16 := rfl
/-- []byte(s), where the walk has come to its run. -/
theorem upon_bytes {P : Program} {o : Oper} {a : Act} {K : Act → World → Prop} {Q : Exit → Act → World → Prop} {W : World} (e src T : TypeId) (s : ByteArray)
    (hs : P.underlying src = some .string) (hT : P.underlying T = some (.slice e)) (he : P.underlying e = some (.int .u8)) (hm : s.size ≤ 9223372036854775807)
    (h : ∀ v1 w1, SeenRow w1 v1 (bytesOf s) → Below W.heap.size W w1 → Oper.upon P o a K Q (.ok (.value v1) w1)) :
    Oper.upon P o a K Q (((convert src T (.string s)).run P W).andThen fun a w' => .ok (.value a) w') := by
  have hr := Lib.run_convert_string_bytes (P := P) W src T e s hs hT he
  have hl := bytesOf_length s
  rw [hr, ← hl]
  refine h _ _ ⟨_, _, rfl, ?_, ?_⟩ (bytes_below (Below.refl _ _) (Nat.le_refl _) e s)
  · rw [hl]
    exact grownCap_ge W s.size 0 e
  · rw [hl]
    exact Kd.C_of_reads (d := (0 : Int)) (h1 := fun _ => rfl) (bytes_reads W e s hm)
/-- b[from:to:to], a cut with a capacity of its own. -/
theorem print_cap_of {α : Type} {P : Program} (enc : α → Value) (d : α) (t e : TypeId) (kl kh : IntKind) {i : TypeInfo} (ht : P.underlying t = some (.slice e)) (hi : P.info? e = some i) (hsz : i.size = 1) (A : Option Addr) (c : Nat) (xs : List α) (a b : Int) (h0 : 0 ≤ a) (h1 : a ≤ b) (hm : b ≤ xs.length) (hc : xs.length ≤ c) :
    ∃ A' : Option Addr, (∀ W : World, (Instr.slice t (.slice A xs.length c) (some (.int kl a)) (some (.int kh b)) (some (.int kh b))).run P W = .ok (.slice A' ((xs.take b.toNat).drop a.toNat).length (b.toNat - a.toNat)) W) ∧
      (∀ w : World, ReadsOf enc d w A xs.length xs → ReadsOf enc d w A' ((xs.take b.toNat).drop a.toNat).length ((xs.take b.toNat).drop a.toNat)) ∧ ((xs.take b.toNat).drop a.toNat).length ≤ b.toNat - a.toNat := by
  have hlt : (xs.take b.toNat).length = b.toNat := by rw [List.length_take]; omega
  have hl : ((xs.take b.toNat).drop a.toNat).length = b.toNat - a.toNat := by rw [List.length_drop, hlt]
  refine ⟨if b.toNat = a.toNat then A else A.map (·.add a.toNat), fun W => ?_, fun w h => ?_, by rw [hl]; exact Nat.le_refl _⟩
  · have hel : P.elem t = e := by simp [Program.elem, ht]
    have hu : P.underlying t = some (.slice (P.elem t)) := by rw [hel]; exact ht
    rw [run_slice_lhm W t A xs.length c hu kl kh kh a b b h0 h1 (Int.le_refl _) (by omega), hel, hl]
    simp [sizeOf, typeInfo, hi, hsz, sliced, Result.andThen]
  · have h2 := (h.take_ b.toNat (by omega)).drop_ (c := b.toNat) a.toNat (by omega) (by omega)
    rw [hl]
    exact h2
end Go.Proofs.Ytafmoglaockepaa.Mine
