/-
  No cell of these rows narrows 'for every input' (looked for: loops, veiled, ifaces, maps, wideKeys, modest, calm, conditions, laid).
  DERIVED. THE GIVEN ROWS OF THIS SEAT. 6 by the template 'for every input the law returns true; each argument reads behind the call as it read before'; 0 by the template 'total and deterministic' (their statements: YtlblleideihhmaaTotals.lean).
  GIVEN WITH THE SEED: the statements are not yours to turn. If you find one false, say at which input.
  Laid BY PROGRAM, IN A SANDBOX (cutbox-rows.mjs): the forced cells as the released guide's own fill.sh prints them over the translation 75e7086a7338ea1a… (all of the seat's roots in one cut). By AI agents, Wed Nov 11 2026. No macro, syntax, notation, axiom, sorry.
-/
import Derived.Test.YtlblleideihhmaaChecked
import GoSem.Claim
import GoSem.ClaimJoined
import GoSem.ClaimMapViews
import Derived.JoinedTies
import Derived.KernelRfl
namespace Go.Proofs.Ytlblleideihhmaa
/- THE CELL 'sum', in the pinned program and in every row, IS THE sha256 OF THE DUMP (.gsa) THAT YtlblleideihhmaaProg.lean LOADS. Nothing in Lean hashes anything: it is a label: what it is worth is what the hold of that sum in a sandbox is worth. -/
noncomputable def Try.pinned : Pinned := { name := "ytlblleideihhmaa", sum := "75e7086a7338ea1a986ef3a91ee896098d77bf167960d8d16a93e0e748ebd343", checked := Try.checked }
namespace Rows
def none {H : Type} : Left H := { results := [], args := [] }

/-- 'larderlaw01.FrameJoins': WHATEVER THE INPUT: true; the input reads as it did. -/
def frameJoinsSpec : ChangeSpec := { name := "frameJoins", fn := fun _ => fun
  | [d1, d2, d3] => { results := [.lit (.bool true)], args := [d1, d2, d3] }
  | _ => none }
def frameJoinsRow : OpenClaim := { program := "ytlblleideihhmaa", sum := "75e7086a7338ea1a986ef3a91ee896098d77bf167960d8d16a93e0e748ebd343", func := "larder/larderlaw01.FrameJoins", spec := "frameJoins", apart := false }
def FrameJoinsSaid : Prop := frameJoinsRow.holds Try.pinned (OpenSpec.ofChange frameJoinsSpec)

/-- ITS FALSE NEIGHBOUR: 'it returns false'. Refute it at one input. -/
def frameJoinsWrong : ChangeSpec := { name := "frameJoins", fn := fun _ => fun
  | [d1, d2, d3] => { results := [.lit (.bool false)], args := [d1, d2, d3] }
  | _ => none }
def FrameJoinsWrongFalsely : Prop := frameJoinsRow.holds Try.pinned (OpenSpec.ofChange frameJoinsWrong)

/-- 'larderlaw01.FrameSteps': WHATEVER THE INPUT: true; the input reads as it did. -/
def frameStepsSpec : ChangeSpec := { name := "frameSteps", fn := fun _ => fun
  | [d1, d2, d3, d4, d5] => { results := [.lit (.bool true)], args := [d1, d2, d3, d4, d5] }
  | _ => none }
def frameStepsRow : OpenClaim := { program := "ytlblleideihhmaa", sum := "75e7086a7338ea1a986ef3a91ee896098d77bf167960d8d16a93e0e748ebd343", func := "larder/larderlaw01.FrameSteps", spec := "frameSteps", apart := false }
def FrameStepsSaid : Prop := frameStepsRow.holds Try.pinned (OpenSpec.ofChange frameStepsSpec)

/-- ITS FALSE NEIGHBOUR: 'it returns false'. Refute it at one input. -/
def frameStepsWrong : ChangeSpec := { name := "frameSteps", fn := fun _ => fun
  | [d1, d2, d3, d4, d5] => { results := [.lit (.bool false)], args := [d1, d2, d3, d4, d5] }
  | _ => none }
def FrameStepsWrongFalsely : Prop := frameStepsRow.holds Try.pinned (OpenSpec.ofChange frameStepsWrong)

/-- 'larderlaw01.FrameInts': WHATEVER THE INPUT: true; the input reads as it did. -/
def frameIntsSpec : ChangeSpec := { name := "frameInts", fn := fun _ => fun
  | [d1, d2] => { results := [.lit (.bool true)], args := [d1, d2] }
  | _ => none }
def frameIntsRow : OpenClaim := { program := "ytlblleideihhmaa", sum := "75e7086a7338ea1a986ef3a91ee896098d77bf167960d8d16a93e0e748ebd343", func := "larder/larderlaw01.FrameInts", spec := "frameInts", apart := false }
def FrameIntsSaid : Prop := frameIntsRow.holds Try.pinned (OpenSpec.ofChange frameIntsSpec)

/-- ITS FALSE NEIGHBOUR: 'it returns false'. Refute it at one input. -/
def frameIntsWrong : ChangeSpec := { name := "frameInts", fn := fun _ => fun
  | [d1, d2] => { results := [.lit (.bool false)], args := [d1, d2] }
  | _ => none }
def FrameIntsWrongFalsely : Prop := frameIntsRow.holds Try.pinned (OpenSpec.ofChange frameIntsWrong)

/-- 'larderlaw01.FrameNumbers': WHATEVER THE INPUT: true; the input reads as it did. -/
def frameNumbersSpec : ChangeSpec := { name := "frameNumbers", fn := fun _ => fun
  | [d1, d2] => { results := [.lit (.bool true)], args := [d1, d2] }
  | _ => none }
def frameNumbersRow : OpenClaim := { program := "ytlblleideihhmaa", sum := "75e7086a7338ea1a986ef3a91ee896098d77bf167960d8d16a93e0e748ebd343", func := "larder/larderlaw01.FrameNumbers", spec := "frameNumbers", apart := false }
def FrameNumbersSaid : Prop := frameNumbersRow.holds Try.pinned (OpenSpec.ofChange frameNumbersSpec)

/-- ITS FALSE NEIGHBOUR: 'it returns false'. Refute it at one input. -/
def frameNumbersWrong : ChangeSpec := { name := "frameNumbers", fn := fun _ => fun
  | [d1, d2] => { results := [.lit (.bool false)], args := [d1, d2] }
  | _ => none }
def FrameNumbersWrongFalsely : Prop := frameNumbersRow.holds Try.pinned (OpenSpec.ofChange frameNumbersWrong)

/-- 'larderlaw01.FrameTexts': WHATEVER THE INPUT: true; the input reads as it did. -/
def frameTextsSpec : ChangeSpec := { name := "frameTexts", fn := fun _ => fun
  | [d1, d2, d3] => { results := [.lit (.bool true)], args := [d1, d2, d3] }
  | _ => none }
def frameTextsRow : OpenClaim := { program := "ytlblleideihhmaa", sum := "75e7086a7338ea1a986ef3a91ee896098d77bf167960d8d16a93e0e748ebd343", func := "larder/larderlaw01.FrameTexts", spec := "frameTexts", apart := false }
def FrameTextsSaid : Prop := frameTextsRow.holds Try.pinned (OpenSpec.ofChange frameTextsSpec)

/-- ITS FALSE NEIGHBOUR: 'it returns false'. Refute it at one input. -/
def frameTextsWrong : ChangeSpec := { name := "frameTexts", fn := fun _ => fun
  | [d1, d2, d3] => { results := [.lit (.bool false)], args := [d1, d2, d3] }
  | _ => none }
def FrameTextsWrongFalsely : Prop := frameTextsRow.holds Try.pinned (OpenSpec.ofChange frameTextsWrong)

/-- 'larderlaw10.WalUsed': WHATEVER THE INPUT: true; the input reads as it did. -/
def walUsedSpec : ChangeSpec := { name := "walUsed", fn := fun _ => fun
  | [d1, d2, d3, d4, d5, d6] => { results := [.lit (.bool true)], args := [d1, d2, d3, d4, d5, d6] }
  | _ => none }
def walUsedRow : OpenClaim := { program := "ytlblleideihhmaa", sum := "75e7086a7338ea1a986ef3a91ee896098d77bf167960d8d16a93e0e748ebd343", func := "larder/larderlaw10.WalUsed", spec := "walUsed", apart := false }
def WalUsedSaid : Prop := walUsedRow.holds Try.pinned (OpenSpec.ofChange walUsedSpec)

/-- ITS FALSE NEIGHBOUR: 'it returns false'. Refute it at one input. -/
def walUsedWrong : ChangeSpec := { name := "walUsed", fn := fun _ => fun
  | [d1, d2, d3, d4, d5, d6] => { results := [.lit (.bool false)], args := [d1, d2, d3, d4, d5, d6] }
  | _ => none }
def WalUsedWrongFalsely : Prop := walUsedRow.holds Try.pinned (OpenSpec.ofChange walUsedWrong)

/- THE SECOND FORM. 'bulk': how many values and letters a reading holds, each counted each time it is reached (what is shared counts as often as it is met; a slice's spare places count too). A statement '..UptoSaid' is the law's where the arguments, and the package variables that the reading takes, are together of bulk at most 1048576: NARROWER than '..Said'. Prove '..Said' where nothing that the law and all that it calls make is longer than what came in: it says more and counts as full. Else prove '..UptoSaid'. A law counts once. -/
mutual
def uptoBulk {H : Type} : DataW H → Nat
  | .lit (.string bytes) => bytes.length + 1
  | .lit _ => 1
  | .nil => 1
  | .ptr d => uptoBulk d + 1
  | .slice elems spare => uptoBulkAll elems + uptoBulkAll spare + 1
  | .agg parts => uptoBulkAll parts + 1
  | .iface _ d => uptoBulk d + 1
  | .map entries => uptoBulkEntries entries + 1
  | .held _ => 1
def uptoBulkAll {H : Type} : List (DataW H) → Nat
  | [] => 0
  | d :: r => uptoBulk d + uptoBulkAll r
def uptoBulkEntries {H : Type} : List (Lit × DataW H) → Nat
  | [] => 0
  | x :: r => uptoBulkEntry x + uptoBulkEntries r
def uptoBulkEntry {H : Type} : Lit × DataW H → Nat
  | (.string bytes, d) => bytes.length + uptoBulk d + 1
  | (_, d) => uptoBulk d + 1
 end
def uptoSmall : (H : Type) → List (DataW H) → Bool := fun _ ds => decide (uptoBulkAll ds ≤ 1048576)
def OpenSpec.upto (s : _root_.Go.ChangeSpec) : _root_.Go.OpenSpec := { _root_.Go.OpenSpec.ofChange s with cond := some uptoSmall }

/-- 'larderlaw01.FrameJoins', WHERE WHAT IT READS IS OF BULK AT MOST 1048576: true; the input reads as it did. -/
def frameJoinsUptoRow : OpenClaim := { program := "ytlblleideihhmaa", sum := "75e7086a7338ea1a986ef3a91ee896098d77bf167960d8d16a93e0e748ebd343", func := "larder/larderlaw01.FrameJoins", spec := "frameJoins", apart := false, narrowed := true }
def FrameJoinsUptoSaid : Prop := frameJoinsUptoRow.holds Try.pinned (OpenSpec.upto frameJoinsSpec)

/-- 'larderlaw01.FrameSteps', WHERE WHAT IT READS IS OF BULK AT MOST 1048576: true; the input reads as it did. -/
def frameStepsUptoRow : OpenClaim := { program := "ytlblleideihhmaa", sum := "75e7086a7338ea1a986ef3a91ee896098d77bf167960d8d16a93e0e748ebd343", func := "larder/larderlaw01.FrameSteps", spec := "frameSteps", apart := false, narrowed := true }
def FrameStepsUptoSaid : Prop := frameStepsUptoRow.holds Try.pinned (OpenSpec.upto frameStepsSpec)

/-- 'larderlaw01.FrameInts', WHERE WHAT IT READS IS OF BULK AT MOST 1048576: true; the input reads as it did. -/
def frameIntsUptoRow : OpenClaim := { program := "ytlblleideihhmaa", sum := "75e7086a7338ea1a986ef3a91ee896098d77bf167960d8d16a93e0e748ebd343", func := "larder/larderlaw01.FrameInts", spec := "frameInts", apart := false, narrowed := true }
def FrameIntsUptoSaid : Prop := frameIntsUptoRow.holds Try.pinned (OpenSpec.upto frameIntsSpec)

/-- 'larderlaw01.FrameNumbers', WHERE WHAT IT READS IS OF BULK AT MOST 1048576: true; the input reads as it did. -/
def frameNumbersUptoRow : OpenClaim := { program := "ytlblleideihhmaa", sum := "75e7086a7338ea1a986ef3a91ee896098d77bf167960d8d16a93e0e748ebd343", func := "larder/larderlaw01.FrameNumbers", spec := "frameNumbers", apart := false, narrowed := true }
def FrameNumbersUptoSaid : Prop := frameNumbersUptoRow.holds Try.pinned (OpenSpec.upto frameNumbersSpec)

/-- 'larderlaw01.FrameTexts', WHERE WHAT IT READS IS OF BULK AT MOST 1048576: true; the input reads as it did. -/
def frameTextsUptoRow : OpenClaim := { program := "ytlblleideihhmaa", sum := "75e7086a7338ea1a986ef3a91ee896098d77bf167960d8d16a93e0e748ebd343", func := "larder/larderlaw01.FrameTexts", spec := "frameTexts", apart := false, narrowed := true }
def FrameTextsUptoSaid : Prop := frameTextsUptoRow.holds Try.pinned (OpenSpec.upto frameTextsSpec)

/-- 'larderlaw10.WalUsed', WHERE WHAT IT READS IS OF BULK AT MOST 1048576: true; the input reads as it did. -/
def walUsedUptoRow : OpenClaim := { program := "ytlblleideihhmaa", sum := "75e7086a7338ea1a986ef3a91ee896098d77bf167960d8d16a93e0e748ebd343", func := "larder/larderlaw10.WalUsed", spec := "walUsed", apart := false, narrowed := true }
def WalUsedUptoSaid : Prop := walUsedUptoRow.holds Try.pinned (OpenSpec.upto walUsedSpec)

end Rows
end Go.Proofs.Ytlblleideihhmaa
