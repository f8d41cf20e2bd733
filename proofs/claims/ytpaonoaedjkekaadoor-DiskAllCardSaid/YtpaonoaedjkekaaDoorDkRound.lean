/- A region in a round of a range over a function, walked as outside: where it defers nothing. -/
import Derived.Test.YtpaonoaedjkekaaDoorDkQuiet
import Derived.Test.YtpaonoaedjkekaaDoorDkSeq
import Derived.OrdersHeld
import Derived.Tactics
import Derived.Deep.RegionHeld
import Derived.Deep.RegionHeld3
namespace Go.Proofs.QuietRound
open Go
set_option linter.unusedVariables false
section
variable {n : Nat} {P : Program} {ops : Array Oper} {Q : Exit → Act → World → Prop} {S : World → Prop}
theorem rowsIn_wide {row : String} {args : Array Value} {w : World} {R : Value → World → Prop} (h : Rows P row args w R) : RowsIn Fence.wide n P row args w R :=
  fun c cs _ => let ⟨v, w', r, s⟩ := h c cs; ⟨v, w', r, stepsIn_wide.2 s⟩
theorem upon_wide {o : Oper} {a : Act} {K : Act → World → Prop} {r : Result Next} (h : o.upon P a K Q r) : o.uponIn Fence.wide n P a K Q r := by
  cases r with
  | ok v w' =>
    cases v with
    | value v => exact h
    | skip => exact h
    | defer d => exact h
    | enter f args =>
      rw [Oper.upon_enter] at h
      rw [Oper.uponIn_enter]
      refine ⟨fun hs => by simp [Fence.wide] at hs, (callsIn_wide.2 h).mono ?_⟩
      intro e w' he
      cases e <;> exact he
    | row row args => exact ⟨fun hs => by simp [Fence.wide] at hs, rowsIn_wide h⟩
    | _ => exact (False.elim h)
  | halt x w' =>
    cases x with
    | panic v => exact h
    | _ => exact (False.elim h)
theorem ops_plain_round (r : Nat) (hlo : ¬ LetsOut Q) (hd : ∀ (j : Nat) (o : Oper), ops[j]? = some o → ∀ c, o.op ≠ .defer c) : ∀ (is : List Nat) (a : Act) (w : World), wpOps P ops Q is a w → wpOpsIn (Fence.wide.inRound r) n P ops Q is a w
  | [], a, w, h => h
  | i :: rest, a, w, h => by
    unfold wpOps at h
    unfold wpOpsIn
    split
    · rename_i ho
      simp only [ho] at h
      exact ops_plain_round r hlo hd rest a w h
    · rename_i o ho
      simp only [ho] at h
      split
      · rename_i hw
        simp only [hw, if_true] at h
        have h := h.resolve_right (fun e => hlo e.2)
        refine oper_round r rfl (hd i o ho) (Oper.wpIn_mono (fun a w => ops_plain_round r hlo hd rest a w) ?_)
        unfold Oper.wp at h
        refine ⟨fun _ _ => trivial, ?_⟩
        rw [show (Fence.wide).round = none from rfl, Oper.semAt_none]
        exact upon_wide h
      · rename_i hw
        simp only [hw] at h
        exact ⟨fun _ _ => trivial, ops_plain_round r hlo hd rest _ w h⟩
/-- A region that draws its order, in a round, walked as outside, with a fact S that holds behind every operation. -/
theorem region_held_round {id : Nat} {a : Act} {w : World} (r : Nat) (hm : P.follows .mixedOrders = true) (hlo : ¬ LetsOut Q) (hd : ∀ (j : Nat) (o : Oper), ops[j]? = some o → ∀ c, o.op ≠ .defer c) (hS : S w.drew)
    (h : S w.drew → wpAnyH P .any ops Q S ops.size (Array.replicate ops.size false) a w.drew) : (Code.region id ops true).wpIn (Fence.wide.inRound r) n P Q a w := by
  refine wpIn_region_draw fun t => ?_
  simp only [Region.schedule, hm, Bool.true_or, if_true]
  exact ops_plain_round r hlo hd _ _ _ (wpAny_sound ops.size t _ a _ (wpAny_of_held _ _ _ _ (h hS)))
/-- A region in the order of the text, in a round, walked as outside. -/
theorem region_list_round {id : Nat} {l : List Oper} {a : Act} {w : World} (r : Nat) (hlo : ¬ LetsOut Q) (hd : ∀ (j : Nat) (o : Oper), l.toArray[j]? = some o → ∀ c, o.op ≠ .defer c) (h : wpList P l.toArray Q l a w) : (Code.region id l.toArray false).wpIn (Fence.wide.inRound r) n P Q a w :=
  wpIn_region (ops_plain_round r hlo hd _ _ _ (by rw [List.size_toArray, List.range_eq_range', wpOps_eq_wpList l 0 (by simp)]; exact h))
/-- Q, where what is walked ends as it should. -/
def Calm (Q : Exit → Act → World → Prop) : Exit → Act → World → Prop
  | .normal, a, w => Q .normal a w
  | _, _, _ => False
theorem Calm.normal {a : Act} {w : World} (h : Q .normal a w) : Calm Q .normal a w := h
theorem Calm.imp : ∀ (e : Exit) (a : Act) (w : World), Calm Q e a w → Q e a w := fun e a w h => by cases e <;> first | exact h | exact (h : False).elim
theorem calm_lets : ¬ LetsOut (Calm Q) := fun ⟨_, _, h⟩ => h
theorem region_held_round_np {id : Nat} {a : Act} {w : World} (r : Nat) (hm : P.follows .mixedOrders = true) (hd : ∀ (j : Nat) (o : Oper), ops[j]? = some o → ∀ c, o.op ≠ .defer c) (hS : S w.drew)
    (h : S w.drew → wpAnyH P .any ops (Calm Q) S ops.size (Array.replicate ops.size false) a w.drew) : (Code.region id ops true).wpIn (Fence.wide.inRound r) n P Q a w :=
  wpIn_mono (region_held_round r hm calm_lets hd hS h) Calm.imp
theorem region_list_round_np {id : Nat} {l : List Oper} {a : Act} {w : World} (r : Nat) (hd : ∀ (j : Nat) (o : Oper), l.toArray[j]? = some o → ∀ c, o.op ≠ .defer c) (h : wpList P l.toArray (Calm Q) l a w) : (Code.region id l.toArray false).wpIn (Fence.wide.inRound r) n P Q a w :=
  wpIn_mono (region_list_round r calm_lets hd h) Calm.imp
end
end Go.Proofs.QuietRound
