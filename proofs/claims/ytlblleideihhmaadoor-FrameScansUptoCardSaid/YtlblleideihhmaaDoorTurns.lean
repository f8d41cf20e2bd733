import Derived.Test.YtlblleideihhmaaDoorScanned
import Derived.Test.YtlblleideihhmaaDoorQuiet
import Derived.RangeFuncLeaves
namespace Go.Proofs.YtlblleideihhmaaDoor.Each
open Go Go.RowKit Go.Proofs.SeqWith Go.Proofs.YtlblleideihhmaaDoor.UnLaw Go.Proofs.YtlblleideihhmaaDoor.Num Go.Proofs.YtlblleideihhmaaDoor.FrMore Go.Proofs.YtlblleideihhmaaDoor.Crc Go.Proofs.YtlblleideihhmaaDoor.CrcLaw Go.Proofs.YtlblleideihhmaaDoor.SealLaw Go.Proofs.YtlblleideihhmaaDoor.PB Go.Proofs.YtlblleideihhmaaDoor.Mine Go.Proofs.YtlblleideihhmaaDoorW.PrintWords Go.Proofs.YtlblleideihhmaaDoorW.PrintLast Go.Proofs.YtlblleideihhmaaDoorW.PrintMore
set_option linter.unusedVariables false
set_option linter.unusedSimpArgs false
set_option maxHeartbeats 4000000
set_option maxRecDepth 100000
/-- A cell that is the function's own: what it holds, and that it may be written. -/
def Box (b : Nat) (v : Value) (W : World) : Prop := W.cell? ⟨b, 0, none⟩ = some v ∧ W.frozen? ⟨b, 0, none⟩ = false ∧ b < W.heap.size
theorem Box.below {b : Nat} {v : Value} {W W' : World} (h : Box b v W) (k : Below W.heap.size W W') : Box b v W' :=
  ⟨Go.cell_kept h.1 (grown_of_below k none) (fun r e => by cases e), (Go.frozen_kept h.1 (grown_of_below k none) (fun r e => by cases e)).trans h.2.1, Nat.lt_of_lt_of_le h.2.2 k.size⟩
theorem Box.new (W : World) (v : Value) (t : TypeId) : Box W.heap.size v (W.alloc (.cells #[v] t)) := ⟨by simp, by simp, by simp⟩
theorem run_eql_func_nil {P : Program} (w : World) {t : TypeId} {a b c} (fn : Fn) (x y : Array Value) (ht : P.underlying t = some (.func a b c)) :
    (binOp .eql t (.func fn x y) .nilFunc).run P w = .ok (.bool false) w := by
  have h : ∀ d : Nat, (Op.equalIn (d + 1) t (.func fn x y) .nilFunc).run P w = .ok false w := fun d => by
    simp [Op.equalIn, run_underlying ht]
  simp only [binOp]
  simp [Op.equal, Op.maxDepth, h 9999]
theorem un_bytes (b : List Int) (hb : IsBytes b) : IsBytes (un b).1 := by
  unfold un
  repeat' split
  all_goals first | (intro x hx; simp at hx; done) | exact (hb.take _).drop _
theorem Box.moved {b : Nat} {v : Value} {W W' : World} (h : Box b v W) (hs : W.heap.size ≤ W'.heap.size) (e : W'.heap[b]? = W.heap[b]?) : Box b v W' :=
  ⟨(World.cell?_of_block e).trans h.1, (World.frozen?_of_block e).trans h.2.1, Nat.lt_of_lt_of_le h.2.2 hs⟩
theorem Box.set {b b' : Nat} {v : Value} {W : World} (h : Box b v W) (u : Value) (hne : b ≠ b') : Box b v (W.setCell ⟨b', 0, none⟩ u) :=
  h.moved (by simp [World.setCell]) (Below.heap_setCell W ⟨b', 0, none⟩ u b hne)
theorem Box.put {b : Nat} {v : Value} {W : World} (h : Box b v W) (u : Value) : Box b u (W.setCell ⟨b, 0, none⟩ u) :=
  ⟨World.cell?_setCell_same' W ⟨b, 0, none⟩ u (by rw [h.1]; rfl), by rw [World.frozen?_setCell]; exact h.2.1, by have := h.2.2; simpa [World.setCell] using this⟩
theorem Box.drewN {b : Nat} {v : Value} {W : World} (h : Box b v W) (n : Nat) : Box b v (W.drewN n) := h.below (pw_below_drewN (Below.refl _ _) n)
theorem Box.alloc {b : Nat} {v : Value} {W : World} (h : Box b v W) (o : Obj) : Box b v (W.alloc o) := h.below (below_alloc (Below.refl _ _) o)
theorem KeepsOthers.of_below {W W' : World} (h : Below W.heap.size W W') : KeepsOthers W W' := ⟨h.size, fun k o hk ho => (h.block k (Array.getElem?_eq_some_iff.1 hk).1).trans hk⟩
theorem Box.own {β : Type} (b : Nat) (f : β → Value) (B : Nat) : OwnFrom B (fun (s : β) W => Box b (f s) W) := Own.from (fun s A W row hs hg hr => ⟨Go.cell_kept hs.1 hg hr, (Go.frozen_kept hs.1 hg hr).trans hs.2.1, Nat.lt_of_lt_of_le hs.2.2 hg.size⟩) _
/-- The entry that a range over a function lays. -/
def ent (D : Nat) : Deferred := { target := .collected D, args := #[] }
def Marked (Ds : List Nat) (W : World) : Prop := Ds.Nodup ∧ ∀ D ∈ Ds, W.heap[D]? = some (.deferred (some []))
theorem Marked.kept {Ds : List Nat} {W W' : World} (h : Marked Ds W) (k : KeepsOthers W W') : Marked Ds W' := ⟨h.1, fun D hD => k.same _ _ (h.2 D hD) rfl⟩
theorem Marked.below {Ds : List Nat} {W W' : World} (h : Marked Ds W) (k : Below W.heap.size W W') : Marked Ds W' :=
  ⟨h.1, fun D hD => (k.block D (Array.getElem?_eq_some_iff.1 (h.2 D hD)).1).trans (h.2 D hD)⟩
theorem Marked.own {β : Type} (Ds : List Nat) (B : Nat) (hB : ∀ D ∈ Ds, D < B) : OwnFrom B (fun (_ : β) W => Marked Ds W) :=
  fun s A W row hs hg hr => ⟨hs.1, fun D hD => (hg.block D (Array.getElem?_eq_some_iff.1 (hs.2 D hD)).1 (fun e => by have := (hr D e.symm).1; have := hB D hD; omega)).trans (hs.2 D hD)⟩
theorem leaves_marks {F : Fence} {n : Nat} {P : Program} {fn : Func} {tmps : Array Value} {R : Ending → World → Prop} (B : Nat) : ∀ (Ds : List Nat) (W : World), Marked Ds W → (∀ D ∈ Ds, B ≤ D) → B ≤ W.heap.size →
    (∀ W', (∀ a v, W.cell? a = some v → W'.cell? a = some v) → Below B W W' → LeavesInM F n P fn tmps R [] .returning W') → LeavesInM F n P fn tmps R (Ds.map ent) .returning W
  | [], W, hM, hB, _, h => h W (fun _ _ h => h) (Below.refl _ _)
  | D :: Ds, W, hM, hB, hs, h => by
    have hD := hM.2 D (List.mem_cons_self ..)
    have hnd := List.nodup_cons.1 hM.1
    refine ⟨by simp, .inl ⟨D, W.putObj D (.deferred none), rfl, run_takeDeferred hD, ?_⟩⟩
    refine leaves_marks B Ds _ ⟨hnd.2, fun E hE => ?_⟩ (fun E hE => hB E (List.mem_cons_of_mem _ hE)) (by simpa [World.putObj] using hs) (fun W' h1 h2 => ?_)
    · rw [World.putObj_heap_other (fun e => hnd.1 (by cases e; exact hE))]
      exact hM.2 E (List.mem_cons_of_mem _ hE)
    · refine h W' (fun a v hv => h1 a v (Go.cell_kept hv (grownBy_putObj' W D (.deferred none)) (fun r e => by cases e; exact ⟨_, hD, rfl⟩))) (Below.trans ?_ h2)
      exact (Below.refl B W).grown (grownBy_putObj' W D (.deferred none)) hs (fun k e => by cases e; exact hB D (List.mem_cons_self ..))
def addrOf : Option Value → Option Addr
  | some (Value.pointer (some p)) => some p
  | _ => none
def leftOf : Option Value → Nat
  | some (Value.int _ n) => (3 - n).toNat
  | _ => 0
def turnOf (a : Act) (W : World) : Nat := leftOf ((addrOf a.tmps[17]?).bind W.cell?)
theorem with_own (fs : List (Int × List Int)) (B : Nat) : ∀ (pre : List El), OwnFrom B (With fs pre) := fun pre => Own.from (fun s A W row hs hg hr => by
  obtain ⟨hp, A', c, e, hc, hC⟩ := hs
  have hq := Kd.reads_of_C (d := (0 : Int)) (h1 := fun _ => rfl) hC
  exact ⟨hp, A', c, e, hc, Kd.C_of_reads (h1 := fun _ => rfl) ⟨hq.1, hq.2.1, fun h => let ⟨ad, h1, h2⟩ := hq.2.2 h; ⟨ad, h1, fun j hj => Go.cell_kept (h2 j hj) hg hr⟩⟩⟩) _
theorem frames_bytes (l : List Int) (hb : IsBytes l) : ∀ (m : Nat) (i : Int), ∀ x ∈ frames m l i, IsBytes x.2
  | 0, i, x, hx => by simp [frames] at hx
  | m + 1, i, x, hx => by
    unfold frames at hx
    split at hx
    · split at hx
      · rcases List.mem_cons.1 hx with rfl | h
        · exact un_bytes _ (hb.drop _)
        · exact frames_bytes l hb m _ x h
      · simp at hx
    · simp at hx
/-- The frame of the law's function, but for what is of no matter. -/
def Fr (v3 v4 v12 v15 v17 : Value) (a : Act) (ds : List Deferred) : Prop := ∃ u : Nat → Value, a = ⟨(List.map u (List.range 129)).toArray, ds⟩ ∧ u 3 = v3 ∧ u 4 = v4 ∧ u 12 = v12 ∧ u 15 = v15 ∧ u 17 = v17
theorem fr_mk {v3 v4 v12 v15 v17 : Value} (ts : List Value) (ds : List Deferred) (h : ts.length = 129) (h3 : ts.getD 3 undef = v3) (h4 : ts.getD 4 undef = v4) (h12 : ts.getD 12 undef = v12) (h15 : ts.getD 15 undef = v15) (h17 : ts.getD 17 undef = v17) : Fr v3 v4 v12 v15 v17 ⟨ts.toArray, ds⟩ ds := by
  refine ⟨fun k => ts.getD k undef, ?_, h3, h4, h12, h15, h17⟩
  congr 2
  apply List.ext_getElem
  · simp [h]
  · intro i h1 h2
    simp [h1]
theorem fr_open {v3 v4 v12 v15 v17 : Value} {a : Act} {ds : List Deferred} (h : Fr v3 v4 v12 v15 v17 a ds) : ∃ u : Nat → Value, a = ⟨(u 0 :: u 1 :: u 2 :: v3 :: v4 :: u 5 :: u 6 :: u 7 :: u 8 :: u 9 :: u 10 :: u 11 :: v12 :: u 13 :: u 14 :: v15 :: u 16 :: v17 :: u 18 :: u 19 :: u 20 :: u 21 :: u 22 :: u 23 :: u 24 :: u 25 :: u 26 :: u 27 :: u 28 :: u 29 :: u 30 :: u 31 :: u 32 :: u 33 :: u 34 :: u 35 :: u 36 :: u 37 :: u 38 :: u 39 :: u 40 :: u 41 :: u 42 :: u 43 :: u 44 :: u 45 :: u 46 :: u 47 :: u 48 :: u 49 :: u 50 :: u 51 :: u 52 :: u 53 :: u 54 :: u 55 :: u 56 :: u 57 :: u 58 :: u 59 :: u 60 :: u 61 :: u 62 :: u 63 :: u 64 :: u 65 :: u 66 :: u 67 :: u 68 :: u 69 :: u 70 :: u 71 :: u 72 :: u 73 :: u 74 :: u 75 :: u 76 :: u 77 :: u 78 :: u 79 :: u 80 :: u 81 :: u 82 :: u 83 :: u 84 :: u 85 :: u 86 :: u 87 :: u 88 :: u 89 :: u 90 :: u 91 :: u 92 :: u 93 :: u 94 :: u 95 :: u 96 :: u 97 :: u 98 :: u 99 :: u 100 :: u 101 :: u 102 :: u 103 :: u 104 :: u 105 :: u 106 :: u 107 :: u 108 :: u 109 :: u 110 :: u 111 :: u 112 :: u 113 :: u 114 :: u 115 :: u 116 :: u 117 :: u 118 :: u 119 :: u 120 :: u 121 :: u 122 :: u 123 :: u 124 :: u 125 :: u 126 :: u 127 :: u 128 :: []).toArray, ds⟩ := by
  obtain ⟨u, rfl, h3, h4, h12, h15, h17⟩ := h
  subst h3 h4 h12 h15 h17
  exact ⟨u, rfl⟩
end Go.Proofs.YtlblleideihhmaaDoor.Each
