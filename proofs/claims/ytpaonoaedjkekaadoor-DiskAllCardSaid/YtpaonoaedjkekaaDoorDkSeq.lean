/- An iterator that hands over a fact with each element; a range over it. -/
import Derived.RangeFuncNested
import Derived.RangeFuncBound
import Derived.RangeFuncCalls
import Derived.RangeFuncLeaves
import Derived.Shelf.Abstract
import Derived.OwnWalkIn
namespace Go.Proofs.SeqWith
open Go Go.RowKit
set_option linter.unusedVariables false
variable {α : Type} {F : Fence} {n : Nat} {P : Program}
/-- The contract of an iterator that hands over, with each element, a fact about the world in which it does so. -/
def SeqWith (F : Fence) (n : Nat) (P : Program) (g : Nat) (lb : Array Value) (encs : α → Array Value) (G : List α → α → World → Prop) (Kp : World → World → Prop) (S Sp : List α → Prop) (w : World) : Prop :=
  ∀ (l : Nat) (J Jx : List α → World → Prop) (W : World), Below w.heap.size w W → AbidesFrom W.heap.size J →
    (∀ pre x W1, J pre W1 → G pre x W1 → YieldAt F (n - 1) P l (encs x) W1 fun e W' =>
      (e = .returned (.bool true) ∧ J (pre ++ [x]) W' ∧ Kp W1 W') ∨ (e = .returned (.bool false) ∧ Jx (pre ++ [x]) W')) →
    J [] W →
    CallsIn F n P g (#[.func (.yield l) #[] #[]] ++ lb) W fun e W' => (∃ v, e = .returned v) ∧ ((∃ xs, S xs ∧ J xs W') ∨ (∃ pre, Sp pre ∧ Jx pre W'))

/-- The two blocks that a range over a function lays: the list of its deferred calls at B, its own state behind it. -/
def Marks (rec : LoopState → Option Code → Loop) (B : Nat) (st : LoopState) (pe : Option Code) (W : World) : Prop :=
  W.heap[B + 1]? = some (.loop (rec st pe)) ∧ W.heap[B]? = some (.deferred (some []))
section
variable {rec : LoopState → Option Code → Loop} {B : Nat} {st st' : LoopState} {pe pe' : Option Code} {W W' : World}
theorem Marks.lt (h : Marks rec B st pe W) : B + 1 < W.heap.size := (Array.getElem?_eq_some_iff.1 h.1).1
theorem Marks.turned (h : Marks rec B st pe W) (st' : LoopState) (pe' : Option Code) : Marks rec B st' pe' (W.putObj (B + 1) (.loop (rec st' pe'))) :=
  ⟨World.putObj_heap_same h.lt, (World.putObj_heap_other (by omega)).trans h.2⟩
theorem Marks.kept (h : Marks rec B st pe W) (k : KeepsOthers W W') : Marks rec B st pe W' := ⟨k.same _ _ h.1 rfl, k.same _ _ h.2 rfl⟩
theorem Marks.grown {row : Option Nat} (h : Marks rec B st pe W) (k : W.grownBy W' row) (hr : ∀ r, row = some r → ∃ o : Obj, W.heap[r]? = some o ∧ o.isWalk = true) : Marks rec B st pe W' :=
  ⟨(grownBy_keeps k hr h.1 rfl).trans h.1, (grownBy_keeps k hr h.2 rfl).trans h.2⟩
end

/-- A range over a function, by its iterator's contract: the body may use the fact that comes with the element. -/
theorem range_with {g : Operand} {ps : Array Tmp} {assign body : Code} {Q : Exit → Act → World → Prop} {a : Act} {w w0 : World} {gf : Nat} {lb : Array Value}
    {encs : α → Array Value} {G : List α → α → World → Prop} {Kp : World → World → Prop} {S Sp : List α → Prop}
    (hro : F.round = none) (h1 : 1 ≤ n) (hg : a.eval g = .func (.func gf) #[] lb) (hFg : F.fn gf) (eg : ∀ args w, (callFunc gf args).run P w = .ok (.enter gf args) w)
    (hseq : SeqWith F (n - 1) P gf lb encs G Kp S Sp w0) (hKt : ∀ {A B C : World}, Kp A B → Kp B C → Kp A C)
    (hKb : ∀ (W : World) (l : Nat) (o o' : Obj), w.heap.size ≤ l → W.heap[l]? = some o → o.isCells = false → o.isWalk = false → Kp W (W.putObj l o'))
    (hb0 : Below w0.heap.size w0 w) (hps : ∀ x, (encs x).size = ps.size)
    (I : List α → World → Prop) (Ix : Code → List α → World → Prop) (hI : OwnFrom w.heap.size I) (hIx : ∀ c, OwnFrom w.heap.size (Ix c)) (hG : ∀ pre, OwnFrom w.heap.size (G pre)) (h0 : I [] w) (a₁ : α → Act)
    (hassign : ∀ (l : Nat) (x : α) (W : World) (K : Act → World → Prop), K (a₁ x) W →
      assign.wpIn (F.inRound l) (n - 1 - 1) P (Exit.then K (fun _ _ _ => False)) { tmps := (ps.zip (encs x)).foldl (fun t (p, v) => t.setIfInBounds p v) a.tmps, defers := [] } W)
    (hbody : ∀ (l : Nat) (pre : List α) (x : α) (W : World), I pre W → G pre x W → body.wpIn (F.inRound l) (n - 1 - 1) P (ownPostK Kp I Ix (pre ++ [x]) W) (a₁ x) W)
    (hdone : ∀ (D : Nat) (xs : List α) (W : World), w.heap.size ≤ D → S xs → I xs W → W.heap[D]? = some (.deferred (some [])) → Q .normal { a with defers := { target := .collected D, args := #[] } :: a.defers } W)
    (hstop : ∀ (D : Nat) (c : Code) (pre : List α) (W : World), w.heap.size ≤ D → Sp pre → Ix c pre W → W.heap[D]? = some (.deferred (some [])) → c.wpIn F n P Q { a with defers := { target := .collected D, args := #[] } :: a.defers } W) :
    (Code.rangeFunc g ps assign body).wpIn F n P Q a w := by
  refine wpIn_rangeFunc fun fn hfn => ?_
  rw [hro]
  obtain ⟨rec, hrec⟩ : ∃ rec : LoopState → Option Code → Loop, rec = fun st pe => { state := st, pending := pe, fn, tmps := a.tmps, params := ps, assign, body, defers := w.heap.size } := ⟨_, rfl⟩
  let W1 := (w.alloc (.deferred (some []))).alloc (.loop (rec .ready none))
  have hM : Marks rec w.heap.size .ready none W1 := by
    refine ⟨?_, (Below.heap_alloc _ _ _ (by simp)).trans (World.alloc_heap_new w _)⟩
    have := World.alloc_heap_new (w.alloc (.deferred (some []))) (.loop (rec .ready none))
    rwa [World.size_alloc] at this
  have hW1 : Below w0.heap.size w0 W1 := hb0.trans ((((Below.refl _ w).alloc (Nat.le_refl _) _).alloc (by simp) _).mono hb0.size)
  have hs1 : w.heap.size ≤ W1.heap.size := by simp [W1]; omega
  have turn : ∀ {A : World} {row : Option Nat}, (∀ r, row = some r → W1.heap.size ≤ r ∧ ∃ o : Obj, A.heap[r]? = some o ∧ o.isWalk = true) → ∀ r, row = some r → w.heap.size ≤ r ∧ ∃ o : Obj, A.heap[r]? = some o ∧ o.isCells = false :=
    fun hr r e => let ⟨hB, o, ho, hw⟩ := hr r e; ⟨Nat.le_trans hs1 hB, o, ho, Obj.not_cells_of_walk hw⟩
  refine ⟨w.heap.size + 1, [{ target := .collected w.heap.size, args := #[] }], W1, { target := .fn (.func gf) lb, args := #[.func (.yield (w.heap.size + 1)) #[] #[]] }, W1, gf,
    #[.func (.yield (w.heap.size + 1)) #[] #[]] ++ lb, W1, ?_, by simp only [resolve, hg]; simp [go_sem], fun f' hf' => ?_, by simp [invoke, go_sem, eg], fun _ => h1, ?_⟩
  · show _ = Result.ok _ ((w.alloc (.deferred (some []))).alloc (.loop (rec .ready none)))
    rw [hrec]
    exact run_enterLoop_outer _ _ _ _ _
  · simp [Target.leads] at hf'
    exact hf' ▸ hFg
  refine (hseq (w.heap.size + 1) (fun pre W => I pre W ∧ Marks rec w.heap.size .ready none W) (fun pre W => ∃ c, Ix c pre W ∧ Marks rec w.heap.size .done (some c) W) W1 hW1
    (fun s A B row hs hg' hr => ⟨hI s A B row hs.1 hg' (turn hr), hs.2.grown hg' (fun r e => (hr r e).2)⟩) (fun pre x W hJ hGx => ?_) ⟨hI.alloc _ (hI.alloc _ h0), hM⟩).mono ?_
  · obtain ⟨hi, hm⟩ := hJ
    have hy := run_yield (P := P) (args := encs x) hm.1 (by rw [hrec]; exact hps x)
    have hbg := run_beginRound (P := P) hm.1 (by rw [hrec])
    have hm2 := hm.turned .busy none
    rw [hrec] at hy
    have hb2 := hbody (w.heap.size + 1) pre x _ (hI.putObj (.loop (rec .busy none)) hi (Nat.le_succ _) hm.1 rfl) ((hG pre).putObj (.loop (rec .busy none)) hGx (Nat.le_succ _) hm.1 rfl)
    have hk2 : Kp W (W.putObj (w.heap.size + 1) (.loop (rec .busy none))) := hKb _ _ _ _ (Nat.le_succ _) hm.1 rfl rfl
    refine ⟨fn, _, assign, body, hy, roundIn_of_wpIn hfn (hassign _ x W _ ⟨_, hbg, ?_⟩)⟩
    have hrb : { rec .ready none with state := .busy } = rec .busy none := by rw [hrec]
    rw [hrb]
    refine wpIn_mono hb2 ?_
    have fin : ∀ (jump : Option Code) (W3 : World), KeepsOthers (W.putObj (w.heap.size + 1) (.loop (rec .busy none))) W3 →
        (Instr.endRound (w.heap.size + 1) jump).run P W3 = .ok (.bool jump.isNone) (W3.putObj (w.heap.size + 1) (.loop (rec (if jump.isNone then .ready else .done) jump))) ∧ Marks rec w.heap.size .busy none W3 := fun jump W3 hk3 => by
      have hm3 := hm2.kept hk3
      have := run_endRound (P := P) jump hm3.1
      rw [hrec] at this
      exact ⟨by rw [hrec]; exact this, hm3⟩
    rintro e a3 W3 hp
    cases e with
    | normal =>
      obtain ⟨hk3, hkp3, hi3⟩ := hp
      obtain ⟨hr, hm3⟩ := fin none W3 hk3
      exact ⟨_, _, hr, .inl ⟨rfl, ⟨hI.putObj _ hi3 (Nat.le_succ _) hm3.1 rfl, hm3.turned _ _⟩, hKt (hKt hk2 hkp3) (hKb _ _ _ _ (Nat.le_succ _) hm3.1 rfl rfl)⟩⟩
    | ret =>
      obtain ⟨hk3, hi3⟩ := hp
      obtain ⟨hr, hm3⟩ := fin (some .ret) W3 hk3
      exact ⟨_, _, hr, .inr ⟨rfl, _, (hIx _).putObj _ hi3 (Nat.le_succ _) hm3.1 rfl, hm3.turned _ _⟩⟩
    | exit id =>
      obtain ⟨hk3, hi3⟩ := hp
      obtain ⟨hr, hm3⟩ := fin (some (.exit id)) W3 hk3
      exact ⟨_, _, hr, .inr ⟨rfl, _, (hIx _).putObj _ hi3 (Nat.le_succ _) hm3.1 rfl, hm3.turned _ _⟩⟩
    | goto t =>
      obtain ⟨hk3, hi3⟩ := hp
      obtain ⟨hr, hm3⟩ := fin (some (.goto t)) W3 hk3
      exact ⟨_, _, hr, .inr ⟨rfl, _, (hIx _).putObj _ hi3 (Nat.le_succ _) hm3.1 rfl, hm3.turned _ _⟩⟩
    | panic ch => exact hp.elim
    | outgrown => exact hp.elim
  · rintro e W2 ⟨⟨v, rfl⟩, (⟨xs, hS, hi, hm⟩ | ⟨pre, hSp, c, hi, hm⟩)⟩
    · have hel := run_endLoop (P := P) hm.1 (by rw [hrec]; simp)
      rw [hrec] at hel
      exact ⟨none, _, hel, hdone _ xs _ (Nat.le_refl _) hS (hI.putObj _ hi (Nat.le_succ _) hm.1 rfl) ((World.putObj_heap_other (by omega)).trans hm.2)⟩
    · have hel := run_endLoop (P := P) hm.1 (by rw [hrec]; simp)
      rw [hrec] at hel
      exact ⟨some c, _, hel, hstop _ c pre _ (Nat.le_refl _) hSp ((hIx c).putObj _ hi (Nat.le_succ _) hm.1 rfl) ((World.putObj_heap_other (by omega)).trans hm.2)⟩
theorem grown_of_below' {A B : World} (h : Below A.heap.size A B) : A.grownBy B none := ⟨h.os, h.tape, h.output, h.size, fun i hi _ => h.block i hi⟩
section
variable {rec : LoopState → Option Code → Loop}
/-- The same, where the round begins by making its variables. -/
theorem range_made {g : Operand} {ps : Array Tmp} {assign body : Code} {Q : Exit → Act → World → Prop} {a : Act} {w w0 : World} {gf : Nat} {lb : Array Value}
    {encs : α → Array Value} {G : List α → α → World → Prop} {Kp : World → World → Prop} {S Sp : List α → Prop}
    (hro : F.round = none) (h1 : 1 ≤ n) (hg : a.eval g = .func (.func gf) #[] lb) (hFg : F.fn gf) (eg : ∀ args w, (callFunc gf args).run P w = .ok (.enter gf args) w)
    (hseq : SeqWith F (n - 1) P gf lb encs G Kp S Sp w0) (hKt : ∀ {A B C : World}, Kp A B → Kp B C → Kp A C)
    (hKb : ∀ (W : World) (l : Nat) (o o' : Obj), w.heap.size ≤ l → W.heap[l]? = some o → o.isCells = false → o.isWalk = false → Kp W (W.putObj l o'))
    (hb0 : Below w0.heap.size w0 w) (hps : ∀ x, (encs x).size = ps.size)
    (I : List α → World → Prop) (Ix : Code → List α → World → Prop) (hI : OwnFrom w.heap.size I) (hIx : ∀ c, OwnFrom w.heap.size (Ix c)) (hG : ∀ pre, OwnFrom w.heap.size (G pre)) (h0 : I [] w) (AR : α → Act → World → Prop) (hAR : ∀ x a', OwnFrom w.heap.size (fun (_ : Unit) W => AR x a' W)) (hKa : ∀ W W' : World, w.heap.size ≤ W.heap.size → Below W.heap.size W W' → Kp W W')
    (hassign : ∀ (l : Nat) (pre : List α) (x : α) (W : World) (K : Act → World → Prop), w.heap.size ≤ W.heap.size → G pre x W → (∀ a' W', AR x a' W' → Below W.heap.size W W' → K a' W') →
      assign.wpIn (F.inRound l) (n - 1 - 1) P (Exit.then K (fun _ _ _ => False)) { tmps := (ps.zip (encs x)).foldl (fun t (p, v) => t.setIfInBounds p v) a.tmps, defers := [] } W)
    (hbody : ∀ (l : Nat) (pre : List α) (x : α) (a' : Act) (W : World), I pre W → G pre x W → AR x a' W → body.wpIn (F.inRound l) (n - 1 - 1) P (ownPostK Kp I Ix (pre ++ [x]) W) a' W)
    (hdone : ∀ (D : Nat) (xs : List α) (W : World), w.heap.size ≤ D → S xs → I xs W → W.heap[D]? = some (.deferred (some [])) → Q .normal { a with defers := { target := .collected D, args := #[] } :: a.defers } W)
    (hstop : ∀ (D : Nat) (c : Code) (pre : List α) (W : World), w.heap.size ≤ D → Sp pre → Ix c pre W → W.heap[D]? = some (.deferred (some [])) → c.wpIn F n P Q { a with defers := { target := .collected D, args := #[] } :: a.defers } W) :
    (Code.rangeFunc g ps assign body).wpIn F n P Q a w := by
  refine wpIn_rangeFunc fun fn hfn => ?_
  rw [hro]
  obtain ⟨rec, hrec⟩ : ∃ rec : LoopState → Option Code → Loop, rec = fun st pe => { state := st, pending := pe, fn, tmps := a.tmps, params := ps, assign, body, defers := w.heap.size } := ⟨_, rfl⟩
  let W1 := (w.alloc (.deferred (some []))).alloc (.loop (rec .ready none))
  have hM : Marks rec w.heap.size .ready none W1 := by
    refine ⟨?_, (Below.heap_alloc _ _ _ (by simp)).trans (World.alloc_heap_new w _)⟩
    have := World.alloc_heap_new (w.alloc (.deferred (some []))) (.loop (rec .ready none))
    rwa [World.size_alloc] at this
  have hW1 : Below w0.heap.size w0 W1 := hb0.trans ((((Below.refl _ w).alloc (Nat.le_refl _) _).alloc (by simp) _).mono hb0.size)
  have hs1 : w.heap.size ≤ W1.heap.size := by simp [W1]; omega
  have turn : ∀ {A : World} {row : Option Nat}, (∀ r, row = some r → W1.heap.size ≤ r ∧ ∃ o : Obj, A.heap[r]? = some o ∧ o.isWalk = true) → ∀ r, row = some r → w.heap.size ≤ r ∧ ∃ o : Obj, A.heap[r]? = some o ∧ o.isCells = false :=
    fun hr r e => let ⟨hB, o, ho, hw⟩ := hr r e; ⟨Nat.le_trans hs1 hB, o, ho, Obj.not_cells_of_walk hw⟩
  refine ⟨w.heap.size + 1, [{ target := .collected w.heap.size, args := #[] }], W1, { target := .fn (.func gf) lb, args := #[.func (.yield (w.heap.size + 1)) #[] #[]] }, W1, gf,
    #[.func (.yield (w.heap.size + 1)) #[] #[]] ++ lb, W1, ?_, by simp only [resolve, hg]; simp [go_sem], fun f' hf' => ?_, by simp [invoke, go_sem, eg], fun _ => h1, ?_⟩
  · show _ = Result.ok _ ((w.alloc (.deferred (some []))).alloc (.loop (rec .ready none)))
    rw [hrec]
    exact run_enterLoop_outer _ _ _ _ _
  · simp [Target.leads] at hf'
    exact hf' ▸ hFg
  refine (hseq (w.heap.size + 1) (fun pre W => I pre W ∧ Marks rec w.heap.size .ready none W) (fun pre W => ∃ c, Ix c pre W ∧ Marks rec w.heap.size .done (some c) W) W1 hW1
    (fun s A B row hs hg' hr => ⟨hI s A B row hs.1 hg' (turn hr), hs.2.grown hg' (fun r e => (hr r e).2)⟩) (fun pre x W hJ hGx => ?_) ⟨hI.alloc _ (hI.alloc _ h0), hM⟩).mono ?_
  · obtain ⟨hi, hm⟩ := hJ
    have hy := run_yield (P := P) (args := encs x) hm.1 (by rw [hrec]; exact hps x)
    have hwW : w.heap.size ≤ W.heap.size := by have := hm.lt; omega
    rw [hrec] at hy
    refine ⟨fn, _, assign, body, hy, roundIn_of_wpIn hfn (hassign (w.heap.size + 1) pre x W _ hwW hGx fun a' W' hAR' hbW => ?_)⟩
    have hi1 : I pre W' := hI pre W W' none hi (grown_of_below' hbW) (fun r e => by cases e)
    have hG1 : G pre x W' := (hG pre) x W W' none hGx (grown_of_below' hbW) (fun r e => by cases e)
    have hm1 : Marks rec w.heap.size .ready none W' := hm.grown (grown_of_below' hbW) (fun r e => by cases e)
    have hbg := run_beginRound (P := P) hm1.1 (by rw [hrec])
    have hm2 := hm1.turned .busy none
    have hb2 := hbody (w.heap.size + 1) pre x a' _ (hI.putObj (.loop (rec .busy none)) hi1 (Nat.le_succ _) hm1.1 rfl) ((hG pre).putObj (.loop (rec .busy none)) hG1 (Nat.le_succ _) hm1.1 rfl) ((hAR x a').putObj (s := ()) (.loop (rec .busy none)) hAR' (Nat.le_succ _) hm1.1 rfl)
    have hk2 : Kp W (W'.putObj (w.heap.size + 1) (.loop (rec .busy none))) := hKt (hKa W W' hwW hbW) (hKb _ _ _ _ (Nat.le_succ _) hm1.1 rfl rfl)
    refine ⟨_, hbg, ?_⟩
    have hrb : { rec .ready none with state := .busy } = rec .busy none := by rw [hrec]
    rw [hrb]
    refine wpIn_mono hb2 ?_
    have fin : ∀ (jump : Option Code) (W3 : World), KeepsOthers (W'.putObj (w.heap.size + 1) (.loop (rec .busy none))) W3 →
        (Instr.endRound (w.heap.size + 1) jump).run P W3 = .ok (.bool jump.isNone) (W3.putObj (w.heap.size + 1) (.loop (rec (if jump.isNone then .ready else .done) jump))) ∧ Marks rec w.heap.size .busy none W3 := fun jump W3 hk3 => by
      have hm3 := hm2.kept hk3
      have := run_endRound (P := P) jump hm3.1
      rw [hrec] at this
      exact ⟨by rw [hrec]; exact this, hm3⟩
    rintro e a3 W3 hp
    cases e with
    | normal =>
      obtain ⟨hk3, hkp3, hi3⟩ := hp
      obtain ⟨hr, hm3⟩ := fin none W3 hk3
      exact ⟨_, _, hr, .inl ⟨rfl, ⟨hI.putObj _ hi3 (Nat.le_succ _) hm3.1 rfl, hm3.turned _ _⟩, hKt (hKt hk2 hkp3) (hKb _ _ _ _ (Nat.le_succ _) hm3.1 rfl rfl)⟩⟩
    | ret =>
      obtain ⟨hk3, hi3⟩ := hp
      obtain ⟨hr, hm3⟩ := fin (some .ret) W3 hk3
      exact ⟨_, _, hr, .inr ⟨rfl, _, (hIx _).putObj _ hi3 (Nat.le_succ _) hm3.1 rfl, hm3.turned _ _⟩⟩
    | exit id =>
      obtain ⟨hk3, hi3⟩ := hp
      obtain ⟨hr, hm3⟩ := fin (some (.exit id)) W3 hk3
      exact ⟨_, _, hr, .inr ⟨rfl, _, (hIx _).putObj _ hi3 (Nat.le_succ _) hm3.1 rfl, hm3.turned _ _⟩⟩
    | goto t =>
      obtain ⟨hk3, hi3⟩ := hp
      obtain ⟨hr, hm3⟩ := fin (some (.goto t)) W3 hk3
      exact ⟨_, _, hr, .inr ⟨rfl, _, (hIx _).putObj _ hi3 (Nat.le_succ _) hm3.1 rfl, hm3.turned _ _⟩⟩
    | panic ch => exact hp.elim
    | outgrown => exact hp.elim
  · rintro e W2 ⟨⟨v, rfl⟩, (⟨xs, hS, hi, hm⟩ | ⟨pre, hSp, c, hi, hm⟩)⟩
    · have hel := run_endLoop (P := P) hm.1 (by rw [hrec]; simp)
      rw [hrec] at hel
      exact ⟨none, _, hel, hdone _ xs _ (Nat.le_refl _) hS (hI.putObj _ hi (Nat.le_succ _) hm.1 rfl) ((World.putObj_heap_other (by omega)).trans hm.2)⟩
    · have hel := run_endLoop (P := P) hm.1 (by rw [hrec]; simp)
      rw [hrec] at hel
      exact ⟨some c, _, hel, hstop _ c pre _ (Nat.le_refl _) hSp ((hIx c).putObj _ hi (Nat.le_succ _) hm.1 rfl) ((World.putObj_heap_other (by omega)).trans hm.2)⟩
/-- The same, where what the round makes is one variable. -/
theorem range_var {g : Operand} {ps : Array Tmp} {assign body : Code} {Q : Exit → Act → World → Prop} {a : Act} {w w0 : World} {gf : Nat} {lb : Array Value}
    {encs : α → Array Value} {G : List α → α → World → Prop} {Kp : World → World → Prop} {S Sp : List α → Prop}
    (hro : F.round = none) (h1 : 1 ≤ n) (hg : a.eval g = .func (.func gf) #[] lb) (hFg : F.fn gf) (eg : ∀ args w, (callFunc gf args).run P w = .ok (.enter gf args) w)
    (hseq : SeqWith F (n - 1) P gf lb encs G Kp S Sp w0) (hKt : ∀ {A B C : World}, Kp A B → Kp B C → Kp A C)
    (hKb : ∀ (W : World) (l : Nat) (o o' : Obj), w.heap.size ≤ l → W.heap[l]? = some o → o.isCells = false → o.isWalk = false → Kp W (W.putObj l o'))
    (hb0 : Below w0.heap.size w0 w) (hps : ∀ x, (encs x).size = ps.size)
    (I : List α → World → Prop) (Ix : Code → List α → World → Prop) (hI : OwnFrom w.heap.size I) (hIx : ∀ c, OwnFrom w.heap.size (Ix c)) (hG : ∀ pre, OwnFrom w.heap.size (G pre)) (h0 : I [] w) (q : Tmp) (Pb : Nat → α → World → Prop) (hPb : ∀ b x, OwnFrom w.heap.size (fun (_ : Unit) W => Pb b x W)) (hKa : ∀ W W' : World, w.heap.size ≤ W.heap.size → Below W.heap.size W W' → Kp W W')
    (hassign : ∀ (l : Nat) (pre : List α) (x : α) (W : World) (K : Act → World → Prop), w.heap.size ≤ W.heap.size → G pre x W → (∀ b W', W.heap.size ≤ b → Pb b x W' → Below W.heap.size W W' → K { tmps := ((ps.zip (encs x)).foldl (fun t (p, v) => t.setIfInBounds p v) a.tmps).setIfInBounds q (.pointer (some ⟨b, 0, none⟩)), defers := [] } W') →
      assign.wpIn (F.inRound l) (n - 1 - 1) P (Exit.then K (fun _ _ _ => False)) { tmps := (ps.zip (encs x)).foldl (fun t (p, v) => t.setIfInBounds p v) a.tmps, defers := [] } W)
    (hbody : ∀ (l : Nat) (pre : List α) (x : α) (b : Nat) (W : World), w.heap.size ≤ b → I pre W → G pre x W → Pb b x W → body.wpIn (F.inRound l) (n - 1 - 1) P (ownPostK Kp I Ix (pre ++ [x]) W) { tmps := ((ps.zip (encs x)).foldl (fun t (p, v) => t.setIfInBounds p v) a.tmps).setIfInBounds q (.pointer (some ⟨b, 0, none⟩)), defers := [] } W)
    (hdone : ∀ (D : Nat) (xs : List α) (W : World), w.heap.size ≤ D → S xs → I xs W → W.heap[D]? = some (.deferred (some [])) → Q .normal { a with defers := { target := .collected D, args := #[] } :: a.defers } W)
    (hstop : ∀ (D : Nat) (c : Code) (pre : List α) (W : World), w.heap.size ≤ D → Sp pre → Ix c pre W → W.heap[D]? = some (.deferred (some [])) → c.wpIn F n P Q { a with defers := { target := .collected D, args := #[] } :: a.defers } W) :
    (Code.rangeFunc g ps assign body).wpIn F n P Q a w := by
  refine range_made hro h1 hg hFg eg hseq hKt hKb hb0 hps I Ix hI hIx hG h0
    (fun x a' W => ∃ b, w.heap.size ≤ b ∧ a' = { tmps := ((ps.zip (encs x)).foldl (fun t (p, v) => t.setIfInBounds p v) a.tmps).setIfInBounds q (.pointer (some ⟨b, 0, none⟩)), defers := [] } ∧ Pb b x W)
    (fun x a' s A B row hs hg' hr => ?_) hKa (fun l pre x W K hw hGx hK => ?_) (fun l pre x a' W hi hGx hA => ?_) hdone hstop
  · obtain ⟨b, hb, e, hP⟩ := hs
    exact ⟨b, hb, e, hPb b x () A B row hP hg' hr⟩
  · exact hassign l pre x W K hw hGx (fun b W' hb hP hB => hK _ W' ⟨b, Nat.le_trans hw hb, rfl, hP⟩ hB)
  · obtain ⟨b, hb, rfl, hP⟩ := hA
    exact hbody l pre x b W hb hi hGx hP
/-- The same, for one parameter. -/
theorem range_one {g : Operand} {p0 : Tmp} {enc : α → Value} {assign body : Code} {Q : Exit → Act → World → Prop} {a : Act} {w w0 : World} {gf : Nat} {lb : Array Value}
    {G : List α → α → World → Prop} {Kp : World → World → Prop} {S Sp : List α → Prop}
    (hro : F.round = none) (h1 : 1 ≤ n) (hg : a.eval g = .func (.func gf) #[] lb) (hFg : F.fn gf) (eg : ∀ args w, (callFunc gf args).run P w = .ok (.enter gf args) w)
    (hseq : SeqWith F (n - 1) P gf lb (fun x => #[enc x]) G Kp S Sp w0) (hKt : ∀ {A B C : World}, Kp A B → Kp B C → Kp A C)
    (hKb : ∀ (W : World) (l : Nat) (o o' : Obj), w.heap.size ≤ l → W.heap[l]? = some o → o.isCells = false → o.isWalk = false → Kp W (W.putObj l o'))
    (hb0 : Below w0.heap.size w0 w)
    (I : List α → World → Prop) (Ix : Code → List α → World → Prop) (hI : OwnFrom w.heap.size I) (hIx : ∀ c, OwnFrom w.heap.size (Ix c)) (hG : ∀ pre, OwnFrom w.heap.size (G pre)) (h0 : I [] w) (q : Tmp) (Pb : Nat → α → World → Prop) (hPb : ∀ b x, OwnFrom w.heap.size (fun (_ : Unit) W => Pb b x W)) (hKa : ∀ W W' : World, w.heap.size ≤ W.heap.size → Below W.heap.size W W' → Kp W W')
    (hassign : ∀ (l : Nat) (pre : List α) (x : α) (W : World) (K : Act → World → Prop), w.heap.size ≤ W.heap.size → G pre x W → (∀ b W', W.heap.size ≤ b → Pb b x W' → Below W.heap.size W W' → K { tmps := (a.tmps.setIfInBounds p0 (enc x)).setIfInBounds q (.pointer (some ⟨b, 0, none⟩)), defers := [] } W') →
      assign.wpIn (F.inRound l) (n - 1 - 1) P (Exit.then K (fun _ _ _ => False)) { tmps := a.tmps.setIfInBounds p0 (enc x), defers := [] } W)
    (hbody : ∀ (l : Nat) (pre : List α) (x : α) (b : Nat) (W : World), w.heap.size ≤ b → I pre W → G pre x W → Pb b x W → body.wpIn (F.inRound l) (n - 1 - 1) P (ownPostK Kp I Ix (pre ++ [x]) W) { tmps := (a.tmps.setIfInBounds p0 (enc x)).setIfInBounds q (.pointer (some ⟨b, 0, none⟩)), defers := [] } W)
    (hdone : ∀ (D : Nat) (xs : List α) (W : World), w.heap.size ≤ D → S xs → I xs W → W.heap[D]? = some (.deferred (some [])) → Q .normal { a with defers := { target := .collected D, args := #[] } :: a.defers } W)
    (hstop : ∀ (D : Nat) (c : Code) (pre : List α) (W : World), w.heap.size ≤ D → Sp pre → Ix c pre W → W.heap[D]? = some (.deferred (some [])) → c.wpIn F n P Q { a with defers := { target := .collected D, args := #[] } :: a.defers } W) :
    (Code.rangeFunc g #[p0] assign body).wpIn F n P Q a w := by
  have e : ∀ x : α, (((#[p0] : Array Tmp).zip #[enc x]).foldl (fun t (p, v) => t.setIfInBounds p v) a.tmps) = a.tmps.setIfInBounds p0 (enc x) := fun x => by simp
  refine range_var hro h1 hg hFg eg hseq hKt hKb hb0 (fun _ => rfl) I Ix hI hIx hG h0 q Pb hPb hKa (fun l pre x W K hw hGx hK => ?_) (fun l pre x b W hb hi hGx hP => ?_) hdone hstop
  · rw [e x]
    refine hassign l pre x W K hw hGx (fun b W' hb hP hB => ?_)
    have := hK b W' hb hP hB
    rwa [e x] at this
  · rw [e x]
    exact hbody l pre x b W hb hi hGx hP
end
end Go.Proofs.SeqWith
