/- What the codec writes and reads, as plain functions of lists. Rows of cells in memory. A codec's reader: took, int, text, walked. -/
import Derived.Test.YtafmoglaockepaaNumRef
import Derived.Test.YtafmoglaockepaaPGx0
import Derived.Test.YtafmoglaockepaaPGx5
import Derived.Test.YtafmoglaockepaaPGx7
import Derived.Test.YtafmoglaockepaaPGx9
import Derived.Test.YtafmoglaockepaaWKept
import Derived.Test.YtafmoglaockepaaWMore
import Derived.WalkKit
import Derived.Test.YtafmoglaockepaaPGx4
import Derived.WalkLawsBesides
import Derived.Deep.RegionHeld3
import Derived.Deep.RegionLaw
namespace Go.Proofs.Ytafmoglaockepaa.Cd
open Go Go.RowKit Go.Proofs.Ytafmoglaockepaa.Num Go.Proofs.Ytafmoglaockepaa.PG Go.Proofs.YtafmoglaockepaaW.PrintWords Go.Proofs.YtafmoglaockepaaW.PrintLast Go.Proofs.YtafmoglaockepaaW.PrintMore
set_option linter.unusedVariables false
/-- A place's answer: a value and the place behind it, or an error and its place. -/
inductive Res (α : Type) where
  | ok (x : α) (n : Nat)
  | fail (e p : Int)
def Res.bind {α β : Type} : Res α → (α → Nat → Res β) → Res β
  | .ok x n, f => f x n
  | .fail e p, _ => .fail e p
def Res.map {α β : Type} (f : α → β) : Res α → Res β
  | .ok x n => .ok (f x) n
  | .fail e p => .fail e p
/-- A text at the beginning of some bytes: it, how many bytes it takes, the error. -/
def tx (most : Int) (l : List Int) : ByteArray × Int × Int :=
  if (ug 0 0 l).2.2 = 0 then
    if (ug 0 0 l).1 > most then (⟨#[]⟩, 0, 12)
    else if (ug 0 0 l).1 > (l.length : Int) - (ug 0 0 l).2.1 then (⟨#[]⟩, (l.length : Int), 3)
    else (strOfNums ((l.take ((ug 0 0 l).2.1 + (ug 0 0 l).1).toNat).drop (ug 0 0 l).2.1.toNat), (ug 0 0 l).2.1 + (ug 0 0 l).1, 0)
  else (⟨#[]⟩, (ug 0 0 l).2.1, (ug 0 0 l).2.2)
/-- One field's answer, made a place's. -/
def took {α : Type} (n : Nat) (r : α × Int × Int) : Res α := if r.2.2 = 0 then .ok r.1 (n + r.2.1.toNat) else .fail r.2.2 ((n : Int) + r.2.1)
def pI (xs : List Int) (n : Nat) : Res Int := took n (ig (ug 0 0 (xs.drop n)))
def pT (xs : List Int) (most : Nat) (n : Nat) : Res ByteArray := took n (tx most (xs.drop n))
def pU (xs : List Int) (most : Nat) (n : Nat) : Res Nat := (took n (ug 0 0 (xs.drop n))).bind fun u m => if u > (most : Int) then .fail 91 (n : Int) else .ok u.toNat m
/-- So many elements, each behind the other. -/
def pN {α : Type} (one : Nat → Res α) : Nat → List α → Nat → Res (List α)
  | 0, l, n => .ok l n
  | k + 1, l, n => (one n).bind fun x m => pN one k (l ++ [x]) m
def pList {α : Type} (xs : List Int) (most : Nat) (one : Nat → Res α) (n : Nat) : Res (List α) := (pU xs most n).bind fun k m => pN one k [] m
def pLevel (xs : List Int) (most : Nat) (n : Nat) : Res S28 := (pT xs most n).bind fun c n => (pI xs n).bind fun a n => (pI xs n).bind fun b n => .ok ⟨c, a, b⟩ n
/-- The whole of some bytes. -/
def whole {α : Type} (key : Int) (most : Nat) (xs : List Int) (fields : Nat → Res α) : Res α :=
  if most < xs.length then .fail 1 0
  else if xs.length = 0 then .fail 3 0
  else if xs.headD 0 ≠ key then .fail 90 0
  else (fields 1).bind fun x n => if n < xs.length then .fail 4 (n : Int) else .ok x n
theorem ug_at (l : List Int) : ∀ (i n : Nat), (i : Int) ≤ (ug i n l).2.1 ∧ (ug i n l).2.1 ≤ (i : Int) + l.length := by
  induction l with
  | nil => intro i n; simp [ug]
  | cons c t ih =>
    intro i n
    unfold ug
    split
    · simp only [List.length_cons]; omega
    · split
      · simp only [List.length_cons]; omega
      · split
        · simp only [List.length_cons]; omega
        · have := ih (i + 1) (n + c.toNat % 128 * 128 ^ i)
          simp only [List.length_cons]
          omega
theorem sclone_ok (l : List Int) (h : l.length < 140737488355328) : slices_Clone_byte_byte.f l = some l := by
  unfold slices_Clone_byte_byte.f
  rw [if_pos h]
theorem text_ok (k : Nat) (l : List Int) (a : Nat) (hb : IsBytes l) (hl : l.length < 140737488355328) (hk : 3 * l.length + 20 < k) (ha : a ≤ 9223372036854775807) :
    frame_Text.f k l a = some (tx a l) ∧ larderref01_Text.f k l a = some (tx a l) := by
  unfold frame_Text.f larderref01_Text.f tx
  have h0 : ¬ ((a : Int) < 0) := by omega
  rw [if_neg h0, if_neg h0, frame_uint l hb (by omega) k (by omega), Option.bind_some, ref_uint l hb (by omega) k (by omega), Option.bind_some]
  have hu := ug_lt l 0 0 (by omega) (by decide) hb
  have hat := ug_at l 0 0
  generalize ug 0 0 l = g at *
  obtain ⟨u, t, e⟩ := g
  dsimp only at hu hat ⊢
  by_cases he : e = 0
  · rw [if_pos he, if_pos he, if_pos he, show IntKind.u64.wrap (a : Int) = a by rw [IntKind.wrap_u64]; omega]
    by_cases h1 : u > (a : Int)
    · rw [if_pos h1, if_pos h1, if_pos h1]
      exact ⟨rfl, rfl⟩
    · rw [if_neg h1, if_neg h1, if_neg h1, w64 (x := (l.length : Int) - t) (by omega) (by omega), show IntKind.u64.wrap ((l.length : Int) - t) = (l.length : Int) - t by rw [IntKind.wrap_u64]; omega]
      by_cases h2 : u > (l.length : Int) - t
      · rw [if_pos h2, if_pos h2, if_pos h2]
        exact ⟨rfl, rfl⟩
      · rw [if_neg h2, if_neg h2, if_neg h2, w64 (x := u) (by omega) (by omega), w64 (x := t + u) (by omega) (by omega), if_pos (by omega), if_pos (by omega), if_pos (by omega), sclone_ok _ (by rw [List.length_drop, List.length_take]; omega), Option.bind_some, if_pos (by omega), if_pos (by omega), if_pos (by omega)]
        exact ⟨rfl, rfl⟩
  · rw [if_neg he, if_neg he, if_neg he]
    exact ⟨rfl, rfl⟩
/-- A text's bytes. -/
def encT (s : ByteArray) : List Int := enc 10 s.size ++ bytesOf s
def encI (a : Int) : List Int := enc 10 (zz a)
def encU (n : Nat) : List Int := enc 10 n
theorem encT_len (s : ByteArray) : (encT s).length ≤ 10 + s.size := by
  unfold encT
  have := enc_len 10 s.size
  have h2 : (bytesOf s).length = s.size := bytesOf_length s
  rw [List.length_append]
  omega
theorem encI_len (a : Int) : (encI a).length ≤ 10 := enc_len 10 _
theorem encU_len (n : Nat) : (encU n).length ≤ 10 := enc_len 10 _
theorem putText_ok (k : Nat) (hk : 10 < k) (l : List Int) (s : ByteArray) (hl : l.length + s.size + 20 < 140737488355328) : frame_PutText.f k l s = some (l ++ encT s) := by
  have hlen : (bytesOf s).length = s.size := bytesOf_length s
  have e2 : IntKind.u64.wrap (s.size : Int) = ((s.size : Nat) : Int) := by rw [IntKind.wrap_u64]; omega
  have hel := enc_len 10 s.size
  unfold frame_PutText.f encT
  rw [w64 (by omega) (by omega), grown_ok l _ (by omega) (by omega) (by omega), Option.bind_some, e2, putUint_raw _ (by omega) l s.size (by omega) (by omega), Option.bind_some, if_pos (by rw [List.length_append]; omega), List.append_assoc]
theorem refPutText_ok (k : Nat) (hk : 10 < k) (l : List Int) (s : ByteArray) (hl : l.length + s.size + 20 < 140737488355328) : larderref01_PutText.f k l s = some (l ++ encT s) := by
  have hlen : (bytesOf s).length = s.size := bytesOf_length s
  have e2 : IntKind.u64.wrap (s.size : Int) = ((s.size : Nat) : Int) := by rw [IntKind.wrap_u64]; omega
  have hel := enc_len 10 s.size
  unfold larderref01_PutText.f encT
  rw [e2, refPutUint_ok _ (by omega) l s.size (by omega) (by omega), Option.bind_some, if_pos (by omega), joined_ok _ _ (by rw [List.length_append]; omega), Option.bind_some, List.append_assoc]
end Go.Proofs.Ytafmoglaockepaa.Cd
namespace Go.Proofs.Ytafmoglaockepaa.Cd
open Go Go.RowKit Go.Proofs.YtafmoglaockepaaW.PrintWords Go.Proofs.YtafmoglaockepaaW.PrintLast Go.Proofs.YtafmoglaockepaaW.PrintMore
set_option linter.unusedVariables false
abbrev ptr (g : Nat) : Value := .pointer (some ⟨g, 0, none⟩)
/-- A row of cells in a block of type t. -/
abbrev Rt (t g : Nat) (vs : List Value) (W : World) : Prop := W.heap[g]? = some (.cells vs.toArray t (0, 0))
theorem Rt.cell {t g : Nat} {vs : List Value} {W : World} (h : Rt t g vs W) (k : Nat) (v : Value) (hk : vs[k]? = some v) : W.cell? ⟨g, k, none⟩ = some v := by
  rw [cell_of_row W g k _ _ _ h]
  simpa using hk
theorem Rt.free {t g : Nat} {vs : List Value} {W : World} (h : Rt t g vs W) (k : Nat) : W.frozen? ⟨g, k, none⟩ = false := by simp [World.frozen?, h]
theorem Rt.set {t g : Nat} {vs : List Value} {W : World} (h : Rt t g vs W) (k : Nat) (v : Value) : W.setCell ⟨g, k, none⟩ v = W.setRow g (vs.set k v).toArray := by
  unfold World.setCell World.setRow
  congr 1
  apply Array.ext
  · simp
  · intro i h1 h2
    simp only [Array.getElem_modify]
    by_cases e : g = i
    · subst e
      have hlt : g < W.heap.size := by simpa using h1
      have hv : W.heap[g] = .cells vs.toArray t (0, 0) := (Array.getElem?_eq_some_iff.1 h).2
      simp [hv]
    · simp [e]
theorem Rt.row {t g : Nat} {vs : List Value} {W : World} (h : Rt t g vs W) (us : List Value) : Rt t g us (W.setRow g us.toArray) := setRow_heap W g _ _ _ _ h
theorem Rt.same {t g : Nat} {vs : List Value} {W : World} (h : Rt t g vs W) (k : Nat) (v : Value) (hk : vs[k]? = some v) : W.setCell ⟨g, k, none⟩ v = W := by
  have e : vs.set k v = vs := by
    obtain ⟨hlt, rfl⟩ := List.getElem?_eq_some_iff.1 hk
    exact List.set_getElem_self hlt
  rw [h.set, e]
  have h2 : W.heap[g]? = some (.cells vs.toArray t (0, 0)) := h
  clear h hk
  obtain ⟨heap, tape, drawn, os, output⟩ := W
  simp only [World.setRow, World.mk.injEq, and_true]
  simp only at h2
  apply Array.ext
  · simp
  · intro i h1 h3
    simp only [Array.getElem_modify]
    by_cases e : g = i
    · subst e
      have hv : heap[g] = .cells vs.toArray t (0, 0) := (Array.getElem?_eq_some_iff.1 h2).2
      simp [hv]
    · simp [e]
theorem Rt.lt {t g : Nat} {vs : List Value} {W : World} (h : Rt t g vs W) : g < W.heap.size := (Array.getElem?_eq_some_iff.1 h).1
theorem Rt.below {t g : Nat} {vs : List Value} {W W' : World} (h : Rt t g vs W) (hb : Below W.heap.size W W') : Rt t g vs W' := (hb.block _ h.lt).trans h
theorem below_setRow' {B g : Nat} {w0 w : World} (hb : Below B w0 w) (hBg : B ≤ g) (cs : Array Value) : Below B w0 (w.setRow g cs) :=
  ⟨hb.os, hb.tape, hb.output, by rw [setRow_size]; exact hb.size, fun k hk => (setRow_other w g k cs (by omega)).trans (hb.block k hk)⟩
theorem info5' : (Try.prog.info? 5).map (fun i => (i.zero, i.size, i.bytes)) = some (some (.int .u8 0), 1, 1) := by kernel_rfl
theorem blk_types {W : World} {g a b : Nat} {u v : Array Value} (h1 : W.heap[g]? = some (.cells u a (0, 0))) (h2 : W.heap[g]? = some (.cells v b (0, 0))) : a = b := by
  have := h1.symm.trans h2
  injection this with this
  injection this with _ e _
/-- Blocks of no writer and of no bytes are left alone. -/
def Others (W W' : World) : Prop := ∀ (j t : Nat) (u : Array Value), W.heap[j]? = some (.cells u t (0, 0)) → t ≠ 146 → t ≠ 5 → W'.heap[j]? = W.heap[j]?
theorem Others.refl (W : World) : Others W W := fun _ _ _ _ _ _ => rfl
theorem Others.trans {A B C : World} (h : Others A B) (k : Others B C) : Others A C := fun j t u hj h1 h2 => by
  have e := h j t u hj h1 h2
  exact (k j t u (e.trans hj) h1 h2).trans e
theorem Others.of_below {W W' : World} (h : Below W.heap.size W W') : Others W W' := fun j t u hj _ _ => h.block j (Array.getElem?_eq_some_iff.1 hj).1
theorem Others.row {W W' : World} (h : Others W W') {t g : Nat} {vs : List Value} (hr : Rt t g vs W) (h1 : t ≠ 146) (h2 : t ≠ 5) : Rt t g vs W' := (h g t _ hr h1 h2).trans hr
/-- A writer in memory. -/
structure WrAt (g B : Nat) (xs : List Int) (W : World) : Prop where
  ex : ∃ v, Rt 146 g [v] W ∧ (Kd.int .u8).R 5 W B (fun _ => True) v xs
  b : B ≤ g
theorem WrAt.size {g B : Nat} {xs : List Int} {W : World} (k : WrAt g B xs W) : B ≤ W.heap.size := by
  obtain ⟨v, hr, _⟩ := k.ex
  exact Nat.le_of_lt (Nat.lt_of_le_of_lt k.b hr.lt)
theorem WrAt.below {g B : Nat} {xs : List Int} {W W' : World} (k : WrAt g B xs W) (hb : Below W.heap.size W W') : WrAt g B xs W' := by
  obtain ⟨v, hr, hR⟩ := k.ex
  exact ⟨⟨v, hr.below hb, Kd.R_below hR hb⟩, k.b⟩
theorem WrAt.appended {g B : Nat} {xs ys : List Int} {v v1 : Value} {W w1 : World} (hr : Rt 146 g [v] W) (hR0 : (Kd.int .u8).R 5 W B (fun _ => True) v xs) (hB : B ≤ g) (hR : (Kd.int .u8).R 5 w1 B (fun _ => True) v1 ys) (hb : Below B W w1) (hg : W.grownBy w1 v.ownBlock) :
    Rt 146 g [v] w1 ∧ WrAt g B ys (w1.setRow g [v1].toArray) ∧ Below B W (w1.setRow g [v1].toArray) ∧ Others W (w1.setRow g [v1].toArray) := by
  have hr1 : Rt 146 g [v] w1 := (hg.block g hr.lt (Kd.R_ne hR0 hr (by decide))).trans hr
  refine ⟨hr1, ⟨⟨v1, hr1.row _, ?_⟩, hB⟩, below_setRow' hb hB _, fun j t u hj h1 h2 => ?_⟩
  rotate_left
  · have hjg : j ≠ g := by
      rintro rfl
      exact h1 (blk_types hj hr)
    exact (setRow_other _ _ _ _ hjg).trans (hg.block j (Array.getElem?_eq_some_iff.1 hj).1 (Kd.R_ne hR0 hj (Ne.symm h2)))
  exact Kd.R_mono (Kd.R_step (Kd.R_types hR hr1 (by intro q hq; simp [Kd.int, Kd.scalar] at hq; omega)) (fun j hj _ => setRow_other _ _ _ _ hj.2)) (fun _ _ => trivial)
end Go.Proofs.Ytafmoglaockepaa.Cd
namespace Go.Proofs.Ytafmoglaockepaa.Cd
open Go Go.RowKit Go.Proofs.Ytafmoglaockepaa.Num Go.Proofs.Ytafmoglaockepaa.PG Go.Proofs.YtafmoglaockepaaW.PrintWords Go.Proofs.YtafmoglaockepaaW.PrintLast Go.Proofs.YtafmoglaockepaaW.PrintMore
set_option linter.unusedVariables false
set_option linter.unusedSimpArgs false
set_option maxHeartbeats 4000000
set_option maxRecDepth 100000
/-- What a reader gives up with. -/
def fault (e p : Int) : Value := .iface 155 (.agg #[.int .i64 e, .int .i64 p])
def gaveUp (e p : Int) : Ending := .panicked [{ v := fault e p, recovered := false }]
/-- A codec's reader in memory. -/
structure CrAt (g B : Nat) (A : Option Addr) (n c : Nat) (xs : List Int) (m most : Nat) (W : World) : Prop where
  row : Rt 158 g [.slice A n c, .int .i64 (m : Int), .int .i64 (most : Int)] W
  foot : ∀ W', Below B W W' → Kd.C (Kd.int .u8) W' A n xs
  b : B ≤ g
  nc : n ≤ c
  le : m ≤ n
  big : n < 1000000000
  mb : most < 1000000000
  by_ : IsBytes xs
/-- How a reading ends: the value and the place behind it, or a panic. -/
def Out {α : Type} (g B : Nat) (A : Option Addr) (n c : Nat) (xs : List Int) (most : Nat) (enc : α → Value) (r : Res α) (e : Ending) (w' : World) : Prop :=
  match r with
  | .ok x m' => e = .returned (enc x) ∧ CrAt g B A n c xs m' most w'
  | .fail er p => e = gaveUp er p
theorem CrAt.len {g B : Nat} {A : Option Addr} {n c : Nat} {xs : List Int} {m most : Nat} {W : World} (k : CrAt g B A n c xs m most W) : xs.length = n := Kd.C_len (k.foot W (Below.refl _ _))
theorem CrAt.size {g B : Nat} {A : Option Addr} {n c : Nat} {xs : List Int} {m most : Nat} {W : World} (k : CrAt g B A n c xs m most W) : B ≤ W.heap.size := Nat.le_of_lt (Nat.lt_of_le_of_lt k.b k.row.lt)
theorem CrAt.below {g B : Nat} {A : Option Addr} {n c : Nat} {xs : List Int} {m most : Nat} {W W' : World} (k : CrAt g B A n c xs m most W) (hb : Below W.heap.size W W') : CrAt g B A n c xs m most W' :=
  { k with row := k.row.below hb, foot := fun W2 hb2 => k.foot W2 ((hb.mono k.size).trans hb2) }
theorem CrAt.moved {g B : Nat} {A : Option Addr} {n c : Nat} {xs : List Int} {m m' most : Nat} {W : World} (k : CrAt g B A n c xs m most W) (hm : m' ≤ n) :
    CrAt g B A n c xs m' most (W.setRow g [Value.slice A n c, .int .i64 (m' : Int), .int .i64 (most : Int)].toArray) ∧ Below B W (W.setRow g [Value.slice A n c, .int .i64 (m' : Int), .int .i64 (most : Int)].toArray) ∧ Kept W (W.setRow g [Value.slice A n c, .int .i64 (m' : Int), .int .i64 (most : Int)].toArray) (fun j => j = g) := by
  have hb : Below B W (W.setRow g [Value.slice A n c, .int .i64 (m' : Int), .int .i64 (most : Int)].toArray) := below_setRow' (Below.refl _ _) k.b _
  refine ⟨{ k with row := k.row.row _, foot := fun W2 hb2 => k.foot W2 (hb.trans hb2), le := hm }, hb, ?_⟩
  exact ⟨by rw [setRow_size]; exact Nat.le_refl _, fun j hj hn => setRow_other _ _ _ _ hn⟩
theorem took_ok {g B : Nat} {A : Option Addr} {n c : Nat} {xs : List Int} {m most : Nat} {W : World} (k : CrAt g B A n c xs m most W) (d : Nat) (hd : m + d ≤ n) :
    Calls Try.prog 116 #[ptr g, .int .i64 (d : Int), .int .i64 0] W fun e w' => e = .returned (.tuple #[]) ∧ CrAt g B A n c xs (m + d) most w' ∧ Below B W w' ∧ Kept W w' (fun j => j = g) := by
  have HK := Aside0.mk k
  have HM := Aside0.mk (k.moved (m' := m + d) hd)
  have c1 := k.row.cell 1 _ rfl
  have f1 := k.row.free 1
  have hw : wrap64 ((m : Int) + (d : Int)) = ((m + d : Nat) : Int) := by have := k.big; unfold wrap64; omega
  clear k hd
  go_enter Try.func116, Try.ntmps116
  go_wp2_with fail
  go_end0
  have e1 := HK.out.row.set 1 (.int .i64 ((m + d : Nat) : Int))
  rw [show [Value.slice A n c, .int .i64 (m : Int), .int .i64 (most : Int)].set 1 (.int .i64 ((m + d : Nat) : Int)) = [Value.slice A n c, .int .i64 ((m + d : Nat) : Int), .int .i64 (most : Int)] from rfl] at e1
  rw [show (m : Int) + (d : Int) = ((m + d : Nat) : Int) from by omega, e1]
  exact ⟨rfl, HM.out⟩
theorem took_fail {g B : Nat} {A : Option Addr} {n c : Nat} {xs : List Int} {m most : Nat} {W : World} (k : CrAt g B A n c xs m most W) (d e : Int) (hd : 0 ≤ d ∧ d ≤ 2000000000) (he : e ≠ 0) :
    Calls Try.prog 116 #[ptr g, .int .i64 d, .int .i64 e] W fun e' w' => e' = gaveUp e ((m : Int) + d) ∧ w' = W := by
  have c1 := k.row.cell 1 _ rfl
  have hw : wrap64 ((m : Int) + d) = (m : Int) + d := by have := k.big; have := k.le; unfold wrap64; omega
  have h0 : (e == 0) = false := by simpa using he
  have h1 : decide (e = 0) = false := decide_eq_false he
  clear k hd he
  go_enter Try.func116, Try.ntmps116
  go_wp2_with fail
  exact ⟨rfl, rfl, rfl⟩
theorem CrAt.rest {g B : Nat} {A : Option Addr} {n c : Nat} {xs : List Int} {m most : Nat} {W : World} (k : CrAt g B A n c xs m most W) {W' : World} (hb : Below B W W') : Kd.C (Kd.int .u8) W' (if c = m then A else A.map (·.add m)) (xs.drop m).length (xs.drop m) := by
  have hl := k.len
  have hC := k.foot W' hb
  rw [← hl] at hC
  have h1 := k.le
  have h2 := k.nc
  have := Kd.C_drop (m := m) (c := c) hC (by omega) (by omega)
  rwa [show m * (Kd.int .u8).sz = m from Nat.mul_one m] at this
theorem CrAt.dl {g B : Nat} {A : Option Addr} {n c : Nat} {xs : List Int} {m most : Nat} {W : World} (k : CrAt g B A n c xs m most W) : (xs.drop m).length = n - m := by rw [List.length_drop, k.len]
theorem ug_place (xs : List Int) (m n : Nat) (h : xs.length = n) (hm : m ≤ n) : 0 ≤ (ug 0 0 (xs.drop m)).2.1 ∧ (ug 0 0 (xs.drop m)).2.1 ≤ ((n - m : Nat) : Int) := by
  have := ug_at (xs.drop m) 0 0
  rw [List.length_drop, h] at this
  omega
theorem r_int {g B : Nat} {A : Option Addr} {n c : Nat} {xs : List Int} {m most : Nat} {W : World} (k : CrAt g B A n c xs m most W) :
    Calls Try.prog 62 #[ptr g] W fun e w' => Below B W w' ∧ Kept W w' (fun j => j = g) ∧ Out g B A n c xs most (Value.int .i64) (pI xs m) e w' := by
  have HK := Aside0.mk k
  have c1 : (m : Int) ≤ (n : Int) := by have := k.le; omega
  have c2 : (n : Int) ≤ (c : Int) := by have := k.nc; omega
  have c3 : (0 : Int) ≤ (m : Int) := by omega
  have MKS := Aside0.mk (show ∀ w', Below W.heap.size W w' → (fun w' => w'.cell? ⟨g, 0, none⟩ = some (.slice A n c) ∧ w'.cell? ⟨g, 1, none⟩ = some (.int .i64 (m : Int)) ∧ w'.cell? ⟨g, 2, none⟩ = some (.int .i64 (most : Int))) w' from fun w' hb => by
    have r := HK.out.row.below hb
    exact ⟨r.cell 0 _ rfl, r.cell 1 _ rfl, r.cell 2 _ rfl⟩)
  clear k
  have hdl := HK.out.dl
  obtain ⟨q, hq⟩ : ∃ q, ig (ug 0 0 (xs.drop m)) = q := ⟨_, rfl⟩
  have HQ := Aside0.mk hq
  have hpl := (show 0 ≤ (ig (ug 0 0 (xs.drop m))).2.1 ∧ (ig (ug 0 0 (xs.drop m))).2.1 ≤ ((n - m : Nat) : Int) from ug_place xs m n HK.out.len HK.out.le)
  have HF := Aside0.mk (show ∀ w', Below W.heap.size W w' → Calls Try.prog 117 #[.slice (if c = m then A else A.map (·.add m)) (n - m) (c - m)] w' fun e w2 => e = .returned (.tuple #[.int .i64 q.1, .int .i64 q.2.1, .int .i64 q.2.2]) ∧ Drawn0 w' w2 from fun w' hb => by
    have := frame_Int.calls ((xs.drop m).length + 2) (if c = m then A else A.map (·.add m)) (c - m) (xs.drop m) q.1 q.2.1 q.2.2 w' (HK.out.rest (hb.mono HK.out.size)) (by rw [hdl]; have := HK.out.nc; omega) (by rw [frame_int _ (HK.out.by_.drop m) (by rw [hdl]; have := HK.out.big; omega) _ (by omega), hq])
    rwa [hdl] at this)
  rw [hq] at hpl
  obtain ⟨v, d, er⟩ := q
  obtain ⟨dn, hdn⟩ : ∃ dn : Nat, d = (dn : Int) := ⟨d.toNat, by have h1 : 0 ≤ d := hpl.1; omega⟩
  subst hdn
  have HPL := Aside0.mk (show m + dn ≤ n by have h1 : (dn : Int) ≤ ((n - m : Nat) : Int) := hpl.2; have := HK.out.le; omega)
  clear hdl hq hpl
  go_enter Try.func62, Try.ntmps62
  go_upto_region 1 with fail
  refine wp_region_held_drew (S := fun w' => w'.cell? ⟨g, 0, none⟩ = some (.slice A n c) ∧ w'.cell? ⟨g, 1, none⟩ = some (.int .i64 (m : Int)) ∧ w'.cell? ⟨g, 2, none⟩ = some (.int .i64 (most : Int))) (by kernel_rfl) (MKS.out _ (below_drew (Below.refl _ _))) (fun hHeld => ?_)
  refine wpAnyH_take (i := 0) (oi := { dst := some 7, op := Op.move (Operand.tmp 0), type := 101, pos := "read.go:30", after := #[], guard := none }) (v := ?_) rfl (by kernel_rfl) (by kernel_rfl) (by kernel_rfl) (fun _ _ _ h => h) (Or.inl ⟨by rfl, ?_⟩) hHeld ?_
  rotate_left
  · intro w' hS; obtain ⟨hS0, hS1, hS2⟩ := hS; go_simp; all_goals (with_reducible rfl)
  (try simp only [Act.put, List.setIfInBounds_toArray, List.set_cons_zero, List.set_cons_succ])
  refine wpAnyH_take (i := 1) (oi := { dst := some 8, op := Op.nilCheck (Operand.tmp 7), type := 0, pos := "read.go:30", after := #[{ on := 0, ground := Ground.data }], guard := none }) (v := ?_) rfl (by kernel_rfl) (by kernel_rfl) (by kernel_rfl) (fun _ _ _ h => h) (Or.inl ⟨by rfl, ?_⟩) hHeld ?_
  rotate_left
  · intro w' hS; obtain ⟨hS0, hS1, hS2⟩ := hS; go_simp; all_goals (with_reducible rfl)
  (try simp only [Act.put, List.setIfInBounds_toArray, List.set_cons_zero, List.set_cons_succ])
  refine wpAnyH_take (i := 2) (oi := { dst := some 9, op := Op.fieldAddr 158 (Operand.tmp 8) 0, type := 0, pos := "read.go:30", after := #[{ on := 1, ground := Ground.data }], guard := none }) (v := ?_) rfl (by kernel_rfl) (by kernel_rfl) (by kernel_rfl) (fun _ _ _ h => h) (Or.inl ⟨by rfl, ?_⟩) hHeld ?_
  rotate_left
  · intro w' hS; obtain ⟨hS0, hS1, hS2⟩ := hS; go_simp; all_goals (with_reducible rfl)
  (try simp only [Act.put, List.setIfInBounds_toArray, List.set_cons_zero, List.set_cons_succ])
  refine wpAnyH_take (i := 3) (oi := { dst := some 10, op := Op.load 26 (Operand.tmp 9), type := 26, pos := "read.go:30", after := #[{ on := 2, ground := Ground.data }], guard := none }) (v := ?_) rfl (by kernel_rfl) (by kernel_rfl) (by kernel_rfl) (fun _ _ _ h => h) (Or.inl ⟨by rfl, ?_⟩) hHeld ?_
  rotate_left
  · intro w' hS; obtain ⟨hS0, hS1, hS2⟩ := hS; go_simp; all_goals (with_reducible rfl)
  (try simp only [Act.put, List.setIfInBounds_toArray, List.set_cons_zero, List.set_cons_succ])
  refine wpAnyH_take (i := 4) (oi := { dst := some 11, op := Op.move (Operand.tmp 0), type := 101, pos := "read.go:30", after := #[], guard := none }) (v := ?_) rfl (by kernel_rfl) (by kernel_rfl) (by kernel_rfl) (fun _ _ _ h => h) (Or.inl ⟨by rfl, ?_⟩) hHeld ?_
  rotate_left
  · intro w' hS; obtain ⟨hS0, hS1, hS2⟩ := hS; go_simp; all_goals (with_reducible rfl)
  (try simp only [Act.put, List.setIfInBounds_toArray, List.set_cons_zero, List.set_cons_succ])
  refine wpAnyH_take (i := 5) (oi := { dst := some 12, op := Op.nilCheck (Operand.tmp 11), type := 0, pos := "read.go:30", after := #[{ on := 4, ground := Ground.data }], guard := none }) (v := ?_) rfl (by kernel_rfl) (by kernel_rfl) (by kernel_rfl) (fun _ _ _ h => h) (Or.inl ⟨by rfl, ?_⟩) hHeld ?_
  rotate_left
  · intro w' hS; obtain ⟨hS0, hS1, hS2⟩ := hS; go_simp; all_goals (with_reducible rfl)
  (try simp only [Act.put, List.setIfInBounds_toArray, List.set_cons_zero, List.set_cons_succ])
  refine wpAnyH_take (i := 6) (oi := { dst := some 13, op := Op.fieldAddr 158 (Operand.tmp 12) 1, type := 0, pos := "read.go:30", after := #[{ on := 5, ground := Ground.data }], guard := none }) (v := ?_) rfl (by kernel_rfl) (by kernel_rfl) (by kernel_rfl) (fun _ _ _ h => h) (Or.inl ⟨by rfl, ?_⟩) hHeld ?_
  rotate_left
  · intro w' hS; obtain ⟨hS0, hS1, hS2⟩ := hS; go_simp; all_goals (with_reducible rfl)
  (try simp only [Act.put, List.setIfInBounds_toArray, List.set_cons_zero, List.set_cons_succ])
  refine wpAnyH_take (i := 7) (oi := { dst := some 14, op := Op.load 3 (Operand.tmp 13), type := 3, pos := "read.go:30", after := #[{ on := 6, ground := Ground.data }], guard := none }) (v := ?_) rfl (by kernel_rfl) (by kernel_rfl) (by kernel_rfl) (fun _ _ _ h => h) (Or.inl ⟨by rfl, ?_⟩) hHeld ?_
  rotate_left
  · intro w' hS; obtain ⟨hS0, hS1, hS2⟩ := hS; go_simp; all_goals (with_reducible rfl)
  (try simp only [Act.put, List.setIfInBounds_toArray, List.set_cons_zero, List.set_cons_succ])
  refine wpAnyH_take (i := 8) (oi := { dst := some 15, op := Op.slice 26 (Operand.tmp 10) (some (Operand.tmp 14)) none none, type := 26, pos := "read.go:30", after := #[{ on := 3, ground := Ground.data }, { on := 7, ground := Ground.data }], guard := none }) (v := ?_) rfl (by kernel_rfl) (by kernel_rfl) (by kernel_rfl) (fun _ _ _ h => h) (Or.inl ⟨by rfl, ?_⟩) hHeld ?_
  rotate_left
  · intro w' hS; obtain ⟨hS0, hS1, hS2⟩ := hS; go_simp; all_goals (with_reducible rfl)
  (try simp only [Act.put, List.setIfInBounds_toArray, List.set_cons_zero, List.set_cons_succ])
  refine wpAnyH_ready (rs := [9]) (by kernel_rfl) (by simp) ?_
  refine AllReadyH.cons (o := { dst := some 16, op := Op.call { callee := Callee.value (Operand.func 117), args := #[Operand.tmp 15], argTypes := #[26] }, type := 162, pos := "read.go:30", after := #[{ on := 8, ground := Ground.data }], guard := none }) rfl (fun K hK => ?_) AllReadyH.nil
  go_simp
  go_at_call 117
  refine (HF.out _ (below_drew (Below.refl _ _))).mono ?_
  rintro e wa ⟨rfl, hd⟩
  have HB1 := Aside0.mk (show Below W.heap.size W wa from by
    obtain ⟨md, rfl⟩ := hd
    exact pw_below_drewN (below_drew (Below.refl _ _)) md)
  clear hd
  refine hK.out _ _ (MKS.out _ HB1.out) (fun hHeld => ?_)
  clear hK K
  (try simp only [Act.put, List.setIfInBounds_toArray, List.set_cons_zero, List.set_cons_succ])
  refine wpAnyH_take (i := 10) (oi := { dst := some 6, op := Op.move (Operand.tmp 16), type := 162, pos := "read.go:30", after := #[{ on := 9, ground := Ground.data }], guard := none }) (v := ?_) rfl (by kernel_rfl) (by kernel_rfl) (by kernel_rfl) (fun _ _ _ h => h) (Or.inl ⟨by rfl, ?_⟩) hHeld ?_
  rotate_left
  · intro w' hS; obtain ⟨hS0, hS1, hS2⟩ := hS; go_simp; all_goals (with_reducible rfl)
  (try simp only [Act.put, List.setIfInBounds_toArray, List.set_cons_zero, List.set_cons_succ])
  refine wpAnyH_take (i := 11) (oi := { dst := some 17, op := Op.extract (Operand.tmp 6) 0, type := 3, pos := "read.go:30", after := #[{ on := 10, ground := Ground.data }], guard := none }) (v := ?_) rfl (by kernel_rfl) (by kernel_rfl) (by kernel_rfl) (fun _ _ _ h => h) (Or.inl ⟨by rfl, ?_⟩) hHeld ?_
  rotate_left
  · intro w' hS; obtain ⟨hS0, hS1, hS2⟩ := hS; go_simp; all_goals (with_reducible rfl)
  (try simp only [Act.put, List.setIfInBounds_toArray, List.set_cons_zero, List.set_cons_succ])
  refine wpAnyH_take (i := 12) (oi := { dst := some 18, op := Op.extract (Operand.tmp 6) 1, type := 3, pos := "read.go:30", after := #[{ on := 10, ground := Ground.data }, { on := 14, ground := Ground.gcOnly Departure.lateStores }], guard := none }) (v := ?_) rfl (by kernel_rfl) (by kernel_rfl) (by kernel_rfl) (fun _ _ _ h => h) (Or.inl ⟨by rfl, ?_⟩) hHeld ?_
  rotate_left
  · intro w' hS; obtain ⟨hS0, hS1, hS2⟩ := hS; go_simp; all_goals (with_reducible rfl)
  (try simp only [Act.put, List.setIfInBounds_toArray, List.set_cons_zero, List.set_cons_succ])
  refine wpAnyH_take (i := 13) (oi := { dst := some 19, op := Op.extract (Operand.tmp 6) 2, type := 22, pos := "read.go:30", after := #[{ on := 10, ground := Ground.data }, { on := 15, ground := Ground.gcOnly Departure.lateStores }], guard := none }) (v := ?_) rfl (by kernel_rfl) (by kernel_rfl) (by kernel_rfl) (fun _ _ _ h => h) (Or.inl ⟨by rfl, ?_⟩) hHeld ?_
  rotate_left
  · intro w' hS; obtain ⟨hS0, hS1, hS2⟩ := hS; go_simp; all_goals (with_reducible rfl)
  (try simp only [Act.put, List.setIfInBounds_toArray, List.set_cons_zero, List.set_cons_succ])
  refine wpAnyH_take (i := 14) (oi := { dst := some 3, op := Op.assign (Operand.tmp 17), type := 3, pos := "read.go:30", after := #[{ on := 11, ground := Ground.data }, { on := 9, ground := Ground.chain }, { on := 0, ground := Ground.phase }, { on := 1, ground := Ground.phase }, { on := 2, ground := Ground.phase }, { on := 3, ground := Ground.phase }, { on := 4, ground := Ground.phase }, { on := 5, ground := Ground.phase }, { on := 6, ground := Ground.phase }, { on := 7, ground := Ground.phase }, { on := 8, ground := Ground.phase }, { on := 9, ground := Ground.phase }, { on := 10, ground := Ground.phase }, { on := 11, ground := Ground.phase }, { on := 12, ground := Ground.textOnly Departure.lateStores }, { on := 13, ground := Ground.textOnly Departure.lateStores }], guard := none }) (v := ?_) rfl (by kernel_rfl) (by kernel_rfl) (by kernel_rfl) (fun _ _ _ h => h) (Or.inl ⟨by rfl, ?_⟩) hHeld ?_
  rotate_left
  · intro w' hS; obtain ⟨hS0, hS1, hS2⟩ := hS; go_simp; all_goals (with_reducible rfl)
  (try simp only [Act.put, List.setIfInBounds_toArray, List.set_cons_zero, List.set_cons_succ])
  refine wpAnyH_take (i := 15) (oi := { dst := some 4, op := Op.assign (Operand.tmp 18), type := 3, pos := "read.go:30", after := #[{ on := 12, ground := Ground.data }, { on := 14, ground := Ground.chain }, { on := 0, ground := Ground.phase }, { on := 1, ground := Ground.phase }, { on := 2, ground := Ground.phase }, { on := 3, ground := Ground.phase }, { on := 4, ground := Ground.phase }, { on := 5, ground := Ground.phase }, { on := 6, ground := Ground.phase }, { on := 7, ground := Ground.phase }, { on := 8, ground := Ground.phase }, { on := 9, ground := Ground.phase }, { on := 10, ground := Ground.phase }, { on := 11, ground := Ground.phase }, { on := 12, ground := Ground.phase }, { on := 13, ground := Ground.textOnly Departure.lateStores }, { on := 14, ground := Ground.phase }], guard := none }) (v := ?_) rfl (by kernel_rfl) (by kernel_rfl) (by kernel_rfl) (fun _ _ _ h => h) (Or.inl ⟨by rfl, ?_⟩) hHeld ?_
  rotate_left
  · intro w' hS; obtain ⟨hS0, hS1, hS2⟩ := hS; go_simp; all_goals (with_reducible rfl)
  (try simp only [Act.put, List.setIfInBounds_toArray, List.set_cons_zero, List.set_cons_succ])
  refine wpAnyH_take (i := 16) (oi := { dst := some 5, op := Op.assign (Operand.tmp 19), type := 22, pos := "read.go:30", after := #[{ on := 13, ground := Ground.data }, { on := 15, ground := Ground.chain }, { on := 0, ground := Ground.phase }, { on := 1, ground := Ground.phase }, { on := 2, ground := Ground.phase }, { on := 3, ground := Ground.phase }, { on := 4, ground := Ground.phase }, { on := 5, ground := Ground.phase }, { on := 6, ground := Ground.phase }, { on := 7, ground := Ground.phase }, { on := 8, ground := Ground.phase }, { on := 9, ground := Ground.phase }, { on := 10, ground := Ground.phase }, { on := 11, ground := Ground.phase }, { on := 12, ground := Ground.phase }, { on := 13, ground := Ground.phase }, { on := 14, ground := Ground.phase }, { on := 15, ground := Ground.phase }], guard := none }) (v := ?_) rfl (by kernel_rfl) (by kernel_rfl) (by kernel_rfl) (fun _ _ _ h => h) (Or.inl ⟨by rfl, ?_⟩) hHeld ?_
  rotate_left
  · intro w' hS; obtain ⟨hS0, hS1, hS2⟩ := hS; go_simp; all_goals (with_reducible rfl)
  (try simp only [Act.put, List.setIfInBounds_toArray, List.set_cons_zero, List.set_cons_succ])
  refine wpAnyH_done (by kernel_rfl) ?_ _
  (try simp only [Act.put, List.setIfInBounds_toArray, List.set_cons_zero, List.set_cons_succ])
  clear HF
  generalize (if c = m then A else Option.map (fun x => x.add m) A) = Am at *
  by_cases he : er = 0
  · subst he
    have HP := Aside0.mk (show pI xs m = Res.ok v (m + dn) from by unfold pI took; rw [HQ.out, if_pos rfl]; rfl)
    go_wp2_with fail
    go_at_call 116
    refine (took_ok (HK.out.below HB1.out) dn HPL.out).mono ?_
    rintro e w2 ⟨rfl, hk, hb, hkp⟩
    have K2 := Aside0.mk hk
    have B2 := Aside0.mk ((HB1.out.mono HK.out.size).trans hb)
    have P2 := Aside0.mk ((Kept.of_below HB1.out (fun j => j = g)).then_ hkp (fun _ h => .inl h))
    clear hk hb hkp
    go_wp2_with fail
    go_ret
    refine ⟨B2.out, P2.out, ?_⟩
    rw [HP.out]
    exact ⟨rfl, K2.out⟩
  · have HP := Aside0.mk (show pI xs m = Res.fail er ((m : Int) + (dn : Int)) from by unfold pI took; rw [HQ.out, if_neg he])
    have HE := Aside0.mk he
    clear he
    go_wp2_with fail
    go_at_call 116
    refine (took_fail (HK.out.below HB1.out) (dn : Int) er (by have := HPL.out; have := HK.out.big; omega) HE.out).mono ?_
    rintro e w2 ⟨rfl, rfl⟩
    refine ⟨rfl, HB1.out.mono HK.out.size, Kept.of_below HB1.out _, ?_⟩
    rw [HP.out]
    rfl
theorem tx_place (most : Int) (l : List Int) (hb : IsBytes l) : 0 ≤ (tx most l).2.1 ∧ (tx most l).2.1 ≤ (l.length : Int) := by
  have h1 := ug_at l 0 0
  have h2 := ug_lt l 0 0 (by omega) (by decide) hb
  unfold tx
  repeat' split
  all_goals simp only
  all_goals omega
theorem r_text {g B : Nat} {A : Option Addr} {n c : Nat} {xs : List Int} {m most : Nat} {W : World} (k : CrAt g B A n c xs m most W) :
    Calls Try.prog 61 #[ptr g] W fun e w' => Below B W w' ∧ Kept W w' (fun j => j = g) ∧ Out g B A n c xs most (Value.string) (pT xs most m) e w' := by
  have HK := Aside0.mk k
  have c1 : (m : Int) ≤ (n : Int) := by have := k.le; omega
  have c2 : (n : Int) ≤ (c : Int) := by have := k.nc; omega
  have c3 : (0 : Int) ≤ (m : Int) := by omega
  have MKS := Aside0.mk (show ∀ w', Below W.heap.size W w' → (fun w' => w'.cell? ⟨g, 0, none⟩ = some (.slice A n c) ∧ w'.cell? ⟨g, 1, none⟩ = some (.int .i64 (m : Int)) ∧ w'.cell? ⟨g, 2, none⟩ = some (.int .i64 (most : Int))) w' from fun w' hb => by
    have r := HK.out.row.below hb
    exact ⟨r.cell 0 _ rfl, r.cell 1 _ rfl, r.cell 2 _ rfl⟩)
  clear k
  have hdl := HK.out.dl
  obtain ⟨q, hq⟩ : ∃ q, tx (most : Int) (xs.drop m) = q := ⟨_, rfl⟩
  have HQ := Aside0.mk hq
  have hpl := (show 0 ≤ (tx (most : Int) (xs.drop m)).2.1 ∧ (tx (most : Int) (xs.drop m)).2.1 ≤ ((n - m : Nat) : Int) from by have := tx_place (most : Int) (xs.drop m) (HK.out.by_.drop m); rwa [hdl] at this)
  have HF := Aside0.mk (show ∀ w', Below W.heap.size W w' → Calls Try.prog 115 #[.slice (if c = m then A else A.map (·.add m)) (n - m) (c - m), .int .i64 (most : Int)] w' fun e w2 => e = .returned (.tuple #[.string q.1, .int .i64 q.2.1, .int .i64 q.2.2]) ∧ Below w'.heap.size w' w2 from fun w' hb => by
    have := frame_Text.calls (3 * (xs.drop m).length + 30) (if c = m then A else A.map (·.add m)) (c - m) (xs.drop m) (most : Int) q.1 q.2.1 q.2.2 w' (HK.out.rest (hb.mono HK.out.size)) (by rw [hdl]; have := HK.out.nc; omega) (by rw [(text_ok (3 * (xs.drop m).length + 30) _ most (HK.out.by_.drop m) (by rw [hdl]; have := HK.out.big; omega) (by omega) (by have := HK.out.mb; omega)).1, hq])
    rwa [hdl] at this)
  rw [hq] at hpl
  obtain ⟨v, d, er⟩ := q
  obtain ⟨dn, hdn⟩ : ∃ dn : Nat, d = (dn : Int) := ⟨d.toNat, by have h1 : 0 ≤ d := hpl.1; omega⟩
  subst hdn
  have HPL := Aside0.mk (show m + dn ≤ n by have h1 : (dn : Int) ≤ ((n - m : Nat) : Int) := hpl.2; have := HK.out.le; omega)
  clear hdl hq hpl
  go_enter Try.func61, Try.ntmps61
  go_upto_region 1 with fail
  refine wp_region_held_drew (S := fun w' => w'.cell? ⟨g, 0, none⟩ = some (.slice A n c) ∧ w'.cell? ⟨g, 1, none⟩ = some (.int .i64 (m : Int)) ∧ w'.cell? ⟨g, 2, none⟩ = some (.int .i64 (most : Int))) (by kernel_rfl) (MKS.out _ (below_drew (Below.refl _ _))) (fun hHeld => ?_)
  refine wpAnyH_take (i := 0) (oi := { dst := some 7, op := Op.move (Operand.tmp 0), type := 101, pos := "read.go:36", after := #[], guard := none }) (v := ?_) rfl (by kernel_rfl) (by kernel_rfl) (by kernel_rfl) (fun _ _ _ h => h) (Or.inl ⟨by rfl, ?_⟩) hHeld ?_
  rotate_left
  · intro w' hS; obtain ⟨hS0, hS1, hS2⟩ := hS; go_simp; all_goals (with_reducible rfl)
  (try simp only [Act.put, List.setIfInBounds_toArray, List.set_cons_zero, List.set_cons_succ])
  refine wpAnyH_take (i := 1) (oi := { dst := some 8, op := Op.nilCheck (Operand.tmp 7), type := 0, pos := "read.go:36", after := #[{ on := 0, ground := Ground.data }], guard := none }) (v := ?_) rfl (by kernel_rfl) (by kernel_rfl) (by kernel_rfl) (fun _ _ _ h => h) (Or.inl ⟨by rfl, ?_⟩) hHeld ?_
  rotate_left
  · intro w' hS; obtain ⟨hS0, hS1, hS2⟩ := hS; go_simp; all_goals (with_reducible rfl)
  (try simp only [Act.put, List.setIfInBounds_toArray, List.set_cons_zero, List.set_cons_succ])
  refine wpAnyH_take (i := 2) (oi := { dst := some 9, op := Op.fieldAddr 158 (Operand.tmp 8) 0, type := 0, pos := "read.go:36", after := #[{ on := 1, ground := Ground.data }], guard := none }) (v := ?_) rfl (by kernel_rfl) (by kernel_rfl) (by kernel_rfl) (fun _ _ _ h => h) (Or.inl ⟨by rfl, ?_⟩) hHeld ?_
  rotate_left
  · intro w' hS; obtain ⟨hS0, hS1, hS2⟩ := hS; go_simp; all_goals (with_reducible rfl)
  (try simp only [Act.put, List.setIfInBounds_toArray, List.set_cons_zero, List.set_cons_succ])
  refine wpAnyH_take (i := 3) (oi := { dst := some 10, op := Op.load 26 (Operand.tmp 9), type := 26, pos := "read.go:36", after := #[{ on := 2, ground := Ground.data }], guard := none }) (v := ?_) rfl (by kernel_rfl) (by kernel_rfl) (by kernel_rfl) (fun _ _ _ h => h) (Or.inl ⟨by rfl, ?_⟩) hHeld ?_
  rotate_left
  · intro w' hS; obtain ⟨hS0, hS1, hS2⟩ := hS; go_simp; all_goals (with_reducible rfl)
  (try simp only [Act.put, List.setIfInBounds_toArray, List.set_cons_zero, List.set_cons_succ])
  refine wpAnyH_take (i := 4) (oi := { dst := some 11, op := Op.move (Operand.tmp 0), type := 101, pos := "read.go:36", after := #[], guard := none }) (v := ?_) rfl (by kernel_rfl) (by kernel_rfl) (by kernel_rfl) (fun _ _ _ h => h) (Or.inl ⟨by rfl, ?_⟩) hHeld ?_
  rotate_left
  · intro w' hS; obtain ⟨hS0, hS1, hS2⟩ := hS; go_simp; all_goals (with_reducible rfl)
  (try simp only [Act.put, List.setIfInBounds_toArray, List.set_cons_zero, List.set_cons_succ])
  refine wpAnyH_take (i := 5) (oi := { dst := some 12, op := Op.nilCheck (Operand.tmp 11), type := 0, pos := "read.go:36", after := #[{ on := 4, ground := Ground.data }], guard := none }) (v := ?_) rfl (by kernel_rfl) (by kernel_rfl) (by kernel_rfl) (fun _ _ _ h => h) (Or.inl ⟨by rfl, ?_⟩) hHeld ?_
  rotate_left
  · intro w' hS; obtain ⟨hS0, hS1, hS2⟩ := hS; go_simp; all_goals (with_reducible rfl)
  (try simp only [Act.put, List.setIfInBounds_toArray, List.set_cons_zero, List.set_cons_succ])
  refine wpAnyH_take (i := 6) (oi := { dst := some 13, op := Op.fieldAddr 158 (Operand.tmp 12) 1, type := 0, pos := "read.go:36", after := #[{ on := 5, ground := Ground.data }], guard := none }) (v := ?_) rfl (by kernel_rfl) (by kernel_rfl) (by kernel_rfl) (fun _ _ _ h => h) (Or.inl ⟨by rfl, ?_⟩) hHeld ?_
  rotate_left
  · intro w' hS; obtain ⟨hS0, hS1, hS2⟩ := hS; go_simp; all_goals (with_reducible rfl)
  (try simp only [Act.put, List.setIfInBounds_toArray, List.set_cons_zero, List.set_cons_succ])
  refine wpAnyH_take (i := 7) (oi := { dst := some 14, op := Op.load 3 (Operand.tmp 13), type := 3, pos := "read.go:36", after := #[{ on := 6, ground := Ground.data }], guard := none }) (v := ?_) rfl (by kernel_rfl) (by kernel_rfl) (by kernel_rfl) (fun _ _ _ h => h) (Or.inl ⟨by rfl, ?_⟩) hHeld ?_
  rotate_left
  · intro w' hS; obtain ⟨hS0, hS1, hS2⟩ := hS; go_simp; all_goals (with_reducible rfl)
  (try simp only [Act.put, List.setIfInBounds_toArray, List.set_cons_zero, List.set_cons_succ])
  refine wpAnyH_take (i := 8) (oi := { dst := some 15, op := Op.slice 26 (Operand.tmp 10) (some (Operand.tmp 14)) none none, type := 26, pos := "read.go:36", after := #[{ on := 3, ground := Ground.data }, { on := 7, ground := Ground.data }], guard := none }) (v := ?_) rfl (by kernel_rfl) (by kernel_rfl) (by kernel_rfl) (fun _ _ _ h => h) (Or.inl ⟨by rfl, ?_⟩) hHeld ?_
  rotate_left
  · intro w' hS; obtain ⟨hS0, hS1, hS2⟩ := hS; go_simp; all_goals (with_reducible rfl)
  (try simp only [Act.put, List.setIfInBounds_toArray, List.set_cons_zero, List.set_cons_succ])
  refine wpAnyH_take (i := 9) (oi := { dst := some 16, op := Op.move (Operand.tmp 0), type := 101, pos := "read.go:36", after := #[], guard := none }) (v := ?_) rfl (by kernel_rfl) (by kernel_rfl) (by kernel_rfl) (fun _ _ _ h => h) (Or.inl ⟨by rfl, ?_⟩) hHeld ?_
  rotate_left
  · intro w' hS; obtain ⟨hS0, hS1, hS2⟩ := hS; go_simp; all_goals (with_reducible rfl)
  (try simp only [Act.put, List.setIfInBounds_toArray, List.set_cons_zero, List.set_cons_succ])
  refine wpAnyH_take (i := 10) (oi := { dst := some 17, op := Op.nilCheck (Operand.tmp 16), type := 0, pos := "read.go:36", after := #[{ on := 9, ground := Ground.data }], guard := none }) (v := ?_) rfl (by kernel_rfl) (by kernel_rfl) (by kernel_rfl) (fun _ _ _ h => h) (Or.inl ⟨by rfl, ?_⟩) hHeld ?_
  rotate_left
  · intro w' hS; obtain ⟨hS0, hS1, hS2⟩ := hS; go_simp; all_goals (with_reducible rfl)
  (try simp only [Act.put, List.setIfInBounds_toArray, List.set_cons_zero, List.set_cons_succ])
  refine wpAnyH_take (i := 11) (oi := { dst := some 18, op := Op.fieldAddr 158 (Operand.tmp 17) 2, type := 0, pos := "read.go:36", after := #[{ on := 10, ground := Ground.data }], guard := none }) (v := ?_) rfl (by kernel_rfl) (by kernel_rfl) (by kernel_rfl) (fun _ _ _ h => h) (Or.inl ⟨by rfl, ?_⟩) hHeld ?_
  rotate_left
  · intro w' hS; obtain ⟨hS0, hS1, hS2⟩ := hS; go_simp; all_goals (with_reducible rfl)
  (try simp only [Act.put, List.setIfInBounds_toArray, List.set_cons_zero, List.set_cons_succ])
  refine wpAnyH_take (i := 12) (oi := { dst := some 19, op := Op.load 3 (Operand.tmp 18), type := 3, pos := "read.go:36", after := #[{ on := 11, ground := Ground.data }], guard := none }) (v := ?_) rfl (by kernel_rfl) (by kernel_rfl) (by kernel_rfl) (fun _ _ _ h => h) (Or.inl ⟨by rfl, ?_⟩) hHeld ?_
  rotate_left
  · intro w' hS; obtain ⟨hS0, hS1, hS2⟩ := hS; go_simp; all_goals (with_reducible rfl)
  (try simp only [Act.put, List.setIfInBounds_toArray, List.set_cons_zero, List.set_cons_succ])
  refine wpAnyH_ready (rs := [13]) (by kernel_rfl) (by simp) ?_
  refine AllReadyH.cons (o := { dst := some 20, op := Op.call { callee := Callee.value (Operand.func 115), args := #[Operand.tmp 15, Operand.tmp 19], argTypes := #[26, 3] }, type := 159, pos := "read.go:36", after := #[{ on := 8, ground := Ground.data }, { on := 12, ground := Ground.data }], guard := none }) rfl (fun K hK => ?_) AllReadyH.nil
  go_simp
  go_at_call 115
  refine (HF.out _ (below_drew (Below.refl _ _))).mono ?_
  rintro e wa ⟨rfl, hd⟩
  have HB1 := Aside0.mk (show Below W.heap.size W wa from (below_drew (Below.refl _ _)).trans hd)
  clear hd
  refine hK.out _ _ (MKS.out _ HB1.out) (fun hHeld => ?_)
  clear hK K
  (try simp only [Act.put, List.setIfInBounds_toArray, List.set_cons_zero, List.set_cons_succ])
  refine wpAnyH_take (i := 14) (oi := { dst := some 6, op := Op.move (Operand.tmp 20), type := 159, pos := "read.go:36", after := #[{ on := 13, ground := Ground.data }], guard := none }) (v := ?_) rfl (by kernel_rfl) (by kernel_rfl) (by kernel_rfl) (fun _ _ _ h => h) (Or.inl ⟨by rfl, ?_⟩) hHeld ?_
  rotate_left
  · intro w' hS; obtain ⟨hS0, hS1, hS2⟩ := hS; go_simp; all_goals (with_reducible rfl)
  (try simp only [Act.put, List.setIfInBounds_toArray, List.set_cons_zero, List.set_cons_succ])
  refine wpAnyH_take (i := 15) (oi := { dst := some 21, op := Op.extract (Operand.tmp 6) 0, type := 9, pos := "read.go:36", after := #[{ on := 14, ground := Ground.data }], guard := none }) (v := ?_) rfl (by kernel_rfl) (by kernel_rfl) (by kernel_rfl) (fun _ _ _ h => h) (Or.inl ⟨by rfl, ?_⟩) hHeld ?_
  rotate_left
  · intro w' hS; obtain ⟨hS0, hS1, hS2⟩ := hS; go_simp; all_goals (with_reducible rfl)
  (try simp only [Act.put, List.setIfInBounds_toArray, List.set_cons_zero, List.set_cons_succ])
  refine wpAnyH_take (i := 16) (oi := { dst := some 22, op := Op.extract (Operand.tmp 6) 1, type := 3, pos := "read.go:36", after := #[{ on := 14, ground := Ground.data }, { on := 18, ground := Ground.gcOnly Departure.lateStores }], guard := none }) (v := ?_) rfl (by kernel_rfl) (by kernel_rfl) (by kernel_rfl) (fun _ _ _ h => h) (Or.inl ⟨by rfl, ?_⟩) hHeld ?_
  rotate_left
  · intro w' hS; obtain ⟨hS0, hS1, hS2⟩ := hS; go_simp; all_goals (with_reducible rfl)
  (try simp only [Act.put, List.setIfInBounds_toArray, List.set_cons_zero, List.set_cons_succ])
  refine wpAnyH_take (i := 17) (oi := { dst := some 23, op := Op.extract (Operand.tmp 6) 2, type := 22, pos := "read.go:36", after := #[{ on := 14, ground := Ground.data }, { on := 19, ground := Ground.gcOnly Departure.lateStores }], guard := none }) (v := ?_) rfl (by kernel_rfl) (by kernel_rfl) (by kernel_rfl) (fun _ _ _ h => h) (Or.inl ⟨by rfl, ?_⟩) hHeld ?_
  rotate_left
  · intro w' hS; obtain ⟨hS0, hS1, hS2⟩ := hS; go_simp; all_goals (with_reducible rfl)
  (try simp only [Act.put, List.setIfInBounds_toArray, List.set_cons_zero, List.set_cons_succ])
  refine wpAnyH_take (i := 18) (oi := { dst := some 3, op := Op.assign (Operand.tmp 21), type := 9, pos := "read.go:36", after := #[{ on := 15, ground := Ground.data }, { on := 13, ground := Ground.chain }, { on := 0, ground := Ground.phase }, { on := 1, ground := Ground.phase }, { on := 2, ground := Ground.phase }, { on := 3, ground := Ground.phase }, { on := 4, ground := Ground.phase }, { on := 5, ground := Ground.phase }, { on := 6, ground := Ground.phase }, { on := 7, ground := Ground.phase }, { on := 8, ground := Ground.phase }, { on := 9, ground := Ground.phase }, { on := 10, ground := Ground.phase }, { on := 11, ground := Ground.phase }, { on := 12, ground := Ground.phase }, { on := 13, ground := Ground.phase }, { on := 14, ground := Ground.phase }, { on := 15, ground := Ground.phase }, { on := 16, ground := Ground.textOnly Departure.lateStores }, { on := 17, ground := Ground.textOnly Departure.lateStores }], guard := none }) (v := ?_) rfl (by kernel_rfl) (by kernel_rfl) (by kernel_rfl) (fun _ _ _ h => h) (Or.inl ⟨by rfl, ?_⟩) hHeld ?_
  rotate_left
  · intro w' hS; obtain ⟨hS0, hS1, hS2⟩ := hS; go_simp; all_goals (with_reducible rfl)
  (try simp only [Act.put, List.setIfInBounds_toArray, List.set_cons_zero, List.set_cons_succ])
  refine wpAnyH_take (i := 19) (oi := { dst := some 4, op := Op.assign (Operand.tmp 22), type := 3, pos := "read.go:36", after := #[{ on := 16, ground := Ground.data }, { on := 18, ground := Ground.chain }, { on := 0, ground := Ground.phase }, { on := 1, ground := Ground.phase }, { on := 2, ground := Ground.phase }, { on := 3, ground := Ground.phase }, { on := 4, ground := Ground.phase }, { on := 5, ground := Ground.phase }, { on := 6, ground := Ground.phase }, { on := 7, ground := Ground.phase }, { on := 8, ground := Ground.phase }, { on := 9, ground := Ground.phase }, { on := 10, ground := Ground.phase }, { on := 11, ground := Ground.phase }, { on := 12, ground := Ground.phase }, { on := 13, ground := Ground.phase }, { on := 14, ground := Ground.phase }, { on := 15, ground := Ground.phase }, { on := 16, ground := Ground.phase }, { on := 17, ground := Ground.textOnly Departure.lateStores }, { on := 18, ground := Ground.phase }], guard := none }) (v := ?_) rfl (by kernel_rfl) (by kernel_rfl) (by kernel_rfl) (fun _ _ _ h => h) (Or.inl ⟨by rfl, ?_⟩) hHeld ?_
  rotate_left
  · intro w' hS; obtain ⟨hS0, hS1, hS2⟩ := hS; go_simp; all_goals (with_reducible rfl)
  (try simp only [Act.put, List.setIfInBounds_toArray, List.set_cons_zero, List.set_cons_succ])
  refine wpAnyH_take (i := 20) (oi := { dst := some 5, op := Op.assign (Operand.tmp 23), type := 22, pos := "read.go:36", after := #[{ on := 17, ground := Ground.data }, { on := 19, ground := Ground.chain }, { on := 0, ground := Ground.phase }, { on := 1, ground := Ground.phase }, { on := 2, ground := Ground.phase }, { on := 3, ground := Ground.phase }, { on := 4, ground := Ground.phase }, { on := 5, ground := Ground.phase }, { on := 6, ground := Ground.phase }, { on := 7, ground := Ground.phase }, { on := 8, ground := Ground.phase }, { on := 9, ground := Ground.phase }, { on := 10, ground := Ground.phase }, { on := 11, ground := Ground.phase }, { on := 12, ground := Ground.phase }, { on := 13, ground := Ground.phase }, { on := 14, ground := Ground.phase }, { on := 15, ground := Ground.phase }, { on := 16, ground := Ground.phase }, { on := 17, ground := Ground.phase }, { on := 18, ground := Ground.phase }, { on := 19, ground := Ground.phase }], guard := none }) (v := ?_) rfl (by kernel_rfl) (by kernel_rfl) (by kernel_rfl) (fun _ _ _ h => h) (Or.inl ⟨by rfl, ?_⟩) hHeld ?_
  rotate_left
  · intro w' hS; obtain ⟨hS0, hS1, hS2⟩ := hS; go_simp; all_goals (with_reducible rfl)
  (try simp only [Act.put, List.setIfInBounds_toArray, List.set_cons_zero, List.set_cons_succ])
  refine wpAnyH_done (by kernel_rfl) ?_ _
  (try simp only [Act.put, List.setIfInBounds_toArray, List.set_cons_zero, List.set_cons_succ])
  clear HF
  generalize (if c = m then A else Option.map (fun x => x.add m) A) = Am at *
  by_cases he : er = 0
  · subst he
    have HP := Aside0.mk (show pT xs most m = Res.ok v (m + dn) from by unfold pT took; rw [HQ.out, if_pos rfl]; rfl)
    go_wp2_with fail
    go_at_call 116
    refine (took_ok (HK.out.below HB1.out) dn HPL.out).mono ?_
    rintro e w2 ⟨rfl, hk, hb, hkp⟩
    have K2 := Aside0.mk hk
    have B2 := Aside0.mk ((HB1.out.mono HK.out.size).trans hb)
    have P2 := Aside0.mk ((Kept.of_below HB1.out (fun j => j = g)).then_ hkp (fun _ h => .inl h))
    clear hk hb hkp
    go_wp2_with fail
    go_ret
    refine ⟨B2.out, P2.out, ?_⟩
    rw [HP.out]
    exact ⟨rfl, K2.out⟩
  · have HP := Aside0.mk (show pT xs most m = Res.fail er ((m : Int) + (dn : Int)) from by unfold pT took; rw [HQ.out, if_neg he])
    have HE := Aside0.mk he
    clear he
    go_wp2_with fail
    go_at_call 116
    refine (took_fail (HK.out.below HB1.out) (dn : Int) er (by have := HPL.out; have := HK.out.big; omega) HE.out).mono ?_
    rintro e w2 ⟨rfl, rfl⟩
    refine ⟨rfl, HB1.out.mono HK.out.size, Kept.of_below HB1.out _, ?_⟩
    rw [HP.out]
    rfl
end Go.Proofs.Ytafmoglaockepaa.Cd
