/- What the program's numbers answer: Num's own reading and writing. -/
import Derived.Test.YtlblleideihhmabNumSpec
import Derived.Test.YtlblleideihhmabPSx1
namespace Go.Proofs.Ytlblleideihhmab.Num
open Go Go.RowKit Go.Proofs.YtlblleideihhmabW.PrintWords Go.Proofs.YtlblleideihhmabW.PrintLast Go.Proofs.YtlblleideihhmabW.PrintMore Go.Proofs.Ytlblleideihhmab.PS

set_option linter.unusedVariables false
theorem grown_ok (l : List Int) (n : Int) (h0 : 0 ≤ n) (h1 : n ≤ 140737488355328) (hl : l.length < 140737488355328) : frame_grown.f l n = some l := by
  unfold frame_grown.f
  have hw : wrap64 ((l.length : Int) + n) = (l.length : Int) + n := by unfold wrap64; omega
  rw [hw, if_pos (by omega), if_pos (by omega)]
  simp only [Option.bind_some, List.length_nil, List.nil_append]
  rw [if_pos (by omega)]
theorem pow10 : (18446744073709551616 : Nat) ≤ 128 ^ 10 := by decide
end Go.Proofs.Ytlblleideihhmab.Num
