/- What a parameter of bytes in pieces reads as, in the second form. -/
import Derived.Test.YtlblleideihhmaaDoorBulk
import Derived.Deep.Matrix
import Derived.Test.YtlblleideihhmaaDoorWMore
namespace Go.Proofs.YtlblleideihhmaaDoor.RowsArg
open Go Go.Deep Go.ChangeShapes Go.WideShapes Go.ChangeAt Go.RowKit Go.Proofs.YtlblleideihhmaaDoorW.PrintWords Go.Proofs.YtlblleideihhmaaDoor.Bulk
set_option linter.unusedVariables false
theorem rows_arg {H : Type} {enc : TypeId × Value → H} {P : Program} {W : World} {base : Nat} {held : Bool} {t e q : TypeId} {k : IntKind} {a : Option Addr} {len cap : Nat} {d : DataW H} {ps : List MemPlace}
    (ht : P.underlying t = some (.slice e)) (he : P.underlying e = some (.slice q)) (hq : P.underlying q = some (.int k)) (ce : P.cellsOf e = 1) (cq : P.cellsOf q = 1)
    (h : DataW.Trod enc P W base (fun _ => true) held t (.slice a len cap) d ps) (hb : Rows.uptoBulk d ≤ 1048576) :
    ∃ rows : List (List Int), rows.length = len ∧ len ≤ cap ∧ len ≤ 1048576 ∧ (Kd.slice q (Kd.int k)).C W a len rows ∧ ∀ x ∈ rows, (∀ n ∈ x, (Lit.int k n).wf = true) ∧ x.length ≤ 1048576 := by
  obtain ⟨fuel, hf⟩ := h
  rcases open_int_rows ht he hq ce cq hf with ⟨hcs, _⟩ | ⟨ad, l, c, A, L, C, Z, hcs, _, hl, hm, hx, hr⟩
  · simp [Value.cells] at hcs
    obtain ⟨rfl, rfl, rfl⟩ := hcs
    exact ⟨[], rfl, Nat.le_refl _, by omega, Kd.C_nil _ _, by simp⟩
  · simp [Value.cells] at hcs
    obtain ⟨rfl, rfl, rfl⟩ := hcs
    obtain ⟨hx, _⟩ := Prod.mk.inj hx
    subst hx
    simp only [Rows.uptoBulk] at hb
    have h1 := length_le (((List.range len).map fun r => intRow (H := H) k (A r) (L r) (Z r)))
    rw [List.length_map, List.length_range] at h1
    have hlen : ∀ r, r < len → ((Z r).take (L r)).length = L r := fun r hlt => by
      obtain ⟨_, h2, _, h3, _⟩ := hr r (by omega)
      rw [List.length_take, h3]
      omega
    have hsmall : ∀ r, r < len → L r ≤ 1048576 := fun r hlt => by
      obtain ⟨_, h2, _, h3, _, h5, _⟩ := hr r (by omega)
      have z := part_le (H := H) (l := (List.range len).map fun r => intRow (H := H) k (A r) (L r) (Z r)) (j := r) (d := intRow (H := H) k (A r) (L r) (Z r)) (by simp [hlt])
      cases hA : A r with
      | none => have := h5 hA; omega
      | some a' =>
        have e8 : intRow (H := H) k (A r) (L r) (Z r) = .slice (lits k ((Z r).take (L r))) (lits k ((Z r).drop (L r))) := by simp only [intRow, hA]
        have e9 : Rows.uptoBulk (intRow (H := H) k (A r) (L r) (Z r)) = Rows.uptoBulkAll (lits (H := H) k ((Z r).take (L r))) + Rows.uptoBulkAll (lits (H := H) k ((Z r).drop (L r))) + 1 := by rw [e8]; simp only [Rows.uptoBulk]
        have h6 := length_le (lits (H := H) k ((Z r).take (L r)))
        have h7 : (lits (H := H) k ((Z r).take (L r))).length = L r := by simp only [lits, List.length_map]; exact hlen r hlt
        omega
    refine ⟨(List.range len).map fun r => (Z r).take (L r), by simp, hl, by omega, ⟨by simp, by simp only [maxLen] at hm; omega, fun _ => ⟨ad, rfl, fun j p hj => ?_⟩⟩, fun x hx => ?_⟩
    · obtain ⟨hj1, hj2⟩ := List.getElem?_eq_some_iff.1 hj
      have hjl : j < len := by simpa using hj1
      simp only [List.getElem_map, List.getElem_range] at hj2
      subst hj2
      obtain ⟨e1, e2, e3, e4, e5, e6, e7⟩ := hr j (by omega)
      refine ⟨[.slice (A j) (L j) (C j)], rfl, ⟨A j, C j, by rw [hlen j hjl], by rw [hlen j hjl]; exact e2, ?_⟩, fun i u hu => ?_⟩
      · refine Kd.C_of_reads (d := (0 : Int)) (h1 := fun _ => rfl) ⟨rfl, by rw [hlen j hjl]; simp only [maxLen] at e3; omega, fun hp => ?_⟩
        rw [hlen j hjl] at hp ⊢
        cases hA : A j with
        | none => have := e6 hA; omega
        | some a' =>
          obtain ⟨_, hc⟩ := e7 a' hA
          refine ⟨a', rfl, fun i hi => ?_⟩
          rw [hc i (by omega)]
          congr 2
          rw [List.getD_eq_getElem?_getD, List.getD_eq_getElem?_getD, List.getElem?_take, if_pos hi]
      · cases i with
        | zero => simp at hu; subst hu; show W.cell? (ad.add (j * 1 + 0)) = _; rw [Nat.mul_one, Nat.add_zero]; exact e1
        | succ i => simp at hu
    · obtain ⟨r, hr1, rfl⟩ := List.mem_map.1 hx
      have hrl := List.mem_range.1 hr1
      obtain ⟨_, _, _, _, e5, _⟩ := hr r (by omega)
      exact ⟨fun n hn => e5 n (List.mem_of_mem_take hn), by rw [hlen r hrl]; exact hsmall r hrl⟩
end Go.Proofs.YtlblleideihhmaaDoor.RowsArg
