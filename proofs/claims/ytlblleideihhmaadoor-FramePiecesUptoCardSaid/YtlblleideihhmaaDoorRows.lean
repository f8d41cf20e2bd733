/-
  NARROWER THAN 'FOR EVERY INPUT', by the rows' own cells (each row's printed sentence says how): FrameSums: laid · FrameTurns: laid · FrameFinds: laid · FrameSeals: laid · FrameEven: laid · FrameFirst: laid · FrameCuts: laid · FrameUnseals: laid · FrameKnown: laid · FrameFew: laid · FrameNear: laid · FrameScans: laid · FrameReads: laid · FrameStuck: laid · FrameForm: laid · FrameBack: laid · FramePieces: laid · FrameNil: laid · FrameOwn: laid.
  DERIVED. THE GIVEN ROWS OF THIS SEAT. 19 by the template 'for every input the law returns true; each argument reads behind the call as it read before'; 0 by the template 'total and deterministic' (their statements: YtlblleideihhmaaDoorTotals.lean).
  GIVEN WITH THE SEED: the statements are not yours to turn. If you find one false, say at which input.
  Laid BY PROGRAM, IN A SANDBOX (cutbox-rows.mjs): the forced cells as the released guide's own fill.sh prints them over the translation e9edc931512fb27e… (all of the seat's roots in one cut). By AI agents, Wed Nov 11 2026. No macro, syntax, notation, axiom, sorry.
-/
import Derived.Test.YtlblleideihhmaaDoorChecked
import GoSem.Claim
import GoSem.ClaimJoined
import GoSem.ClaimMapViews
import Derived.JoinedTies
import Derived.KernelRfl
namespace Go.Proofs.YtlblleideihhmaaDoor
/- THE CELL 'sum', in the pinned program and in every row, IS THE sha256 OF THE DUMP (.gsa) THAT YtlblleideihhmaaDoorProg.lean LOADS. Nothing in Lean hashes anything: it is a label: what it is worth is what the hold of that sum in a sandbox is worth. -/
noncomputable def Tryd.pinned : Pinned := { name := "ytlblleideihhmaadoor", sum := "e9edc931512fb27e8cce47b940dab0d3b2c7cc077f8c174ff39f48f30ae0179b", checked := Tryd.checked }
namespace Rows
def none {H : Type} : Left H := { results := [], args := [] }

/- WHAT THE LISTED PACKAGE-LEVEL VARIABLES READ AS WHEN THE CALL BEGINS. Each datum BY PROGRAM (the guide's laid-datum.mjs) off the statement by which the dump's own 'gosem.cut.vars' lays the variable. In a bare row this is a premise. The card (YtlblleideihhmaaDoorCards.lean) ties it to the program's text. -/
def laid_larder_frame_table {H : Type} : DataW H := .agg [.lit (.int .u32 0), .lit (.int .u32 274646895), .lit (.int .u32 549293790), .lit (.int .u32 820201905), .lit (.int .u32 1098587580), .lit (.int .u32 1361435347), .lit (.int .u32 1640403810), .lit (.int .u32 1905808397), .lit (.int .u32 2197175160), .lit (.int .u32 2460548119), .lit (.int .u32 2722870694), .lit (.int .u32 2987750089), .lit (.int .u32 3280807620), .lit (.int .u32 3553878443), .lit (.int .u32 3811616794), .lit (.int .u32 4084100981)]

/-- 'larderlaw01.FrameSums': WHATEVER THE INPUT: true; the input reads as it did. -/
def frameSumsSpec : ChangeSpec := { name := "frameSums", fn := fun _ => fun
  | [d1, d2] => { results := [.lit (.bool true)], args := [d1, d2] }
  | _ => none }
def frameSumsRow : OpenClaim := { program := "ytlblleideihhmaadoor", sum := "e9edc931512fb27e8cce47b940dab0d3b2c7cc077f8c174ff39f48f30ae0179b", func := "larder/larderlaw01.FrameSums", spec := "frameSums", named := ["larder/frame.table"], apart := false, laid := [("larder/frame.table", laid_larder_frame_table)] }
def FrameSumsSaid : Prop := frameSumsRow.holds Tryd.pinned (OpenSpec.ofChange frameSumsSpec)

/-- ITS FALSE NEIGHBOUR: 'it returns false'. Refute it at one input. -/
def frameSumsWrong : ChangeSpec := { name := "frameSums", fn := fun _ => fun
  | [d1, d2] => { results := [.lit (.bool false)], args := [d1, d2] }
  | _ => none }
def FrameSumsWrongFalsely : Prop := frameSumsRow.holds Tryd.pinned (OpenSpec.ofChange frameSumsWrong)

/-- 'larderlaw01.FrameTurns': WHATEVER THE INPUT: true; the input reads as it did. -/
def frameTurnsSpec : ChangeSpec := { name := "frameTurns", fn := fun _ => fun
  | [d1, d2, d3] => { results := [.lit (.bool true)], args := [d1, d2, d3] }
  | _ => none }
def frameTurnsRow : OpenClaim := { program := "ytlblleideihhmaadoor", sum := "e9edc931512fb27e8cce47b940dab0d3b2c7cc077f8c174ff39f48f30ae0179b", func := "larder/larderlaw01.FrameTurns", spec := "frameTurns", named := ["larder/frame.table"], apart := false, laid := [("larder/frame.table", laid_larder_frame_table)] }
def FrameTurnsSaid : Prop := frameTurnsRow.holds Tryd.pinned (OpenSpec.ofChange frameTurnsSpec)

/-- ITS FALSE NEIGHBOUR: 'it returns false'. Refute it at one input. -/
def frameTurnsWrong : ChangeSpec := { name := "frameTurns", fn := fun _ => fun
  | [d1, d2, d3] => { results := [.lit (.bool false)], args := [d1, d2, d3] }
  | _ => none }
def FrameTurnsWrongFalsely : Prop := frameTurnsRow.holds Tryd.pinned (OpenSpec.ofChange frameTurnsWrong)

/-- 'larderlaw01.FrameFinds': WHATEVER THE INPUT: true; the input reads as it did. -/
def frameFindsSpec : ChangeSpec := { name := "frameFinds", fn := fun _ => fun
  | [d1, d2] => { results := [.lit (.bool true)], args := [d1, d2] }
  | _ => none }
def frameFindsRow : OpenClaim := { program := "ytlblleideihhmaadoor", sum := "e9edc931512fb27e8cce47b940dab0d3b2c7cc077f8c174ff39f48f30ae0179b", func := "larder/larderlaw01.FrameFinds", spec := "frameFinds", named := ["larder/frame.table"], apart := false, laid := [("larder/frame.table", laid_larder_frame_table)] }
def FrameFindsSaid : Prop := frameFindsRow.holds Tryd.pinned (OpenSpec.ofChange frameFindsSpec)

/-- ITS FALSE NEIGHBOUR: 'it returns false'. Refute it at one input. -/
def frameFindsWrong : ChangeSpec := { name := "frameFinds", fn := fun _ => fun
  | [d1, d2] => { results := [.lit (.bool false)], args := [d1, d2] }
  | _ => none }
def FrameFindsWrongFalsely : Prop := frameFindsRow.holds Tryd.pinned (OpenSpec.ofChange frameFindsWrong)

/-- 'larderlaw01.FrameSeals': WHATEVER THE INPUT: true; the input reads as it did. -/
def frameSealsSpec : ChangeSpec := { name := "frameSeals", fn := fun _ => fun
  | [d] => { results := [.lit (.bool true)], args := [d] }
  | _ => none }
def frameSealsRow : OpenClaim := { program := "ytlblleideihhmaadoor", sum := "e9edc931512fb27e8cce47b940dab0d3b2c7cc077f8c174ff39f48f30ae0179b", func := "larder/larderlaw01.FrameSeals", spec := "frameSeals", named := ["larder/frame.table"], apart := false, laid := [("larder/frame.table", laid_larder_frame_table)] }
def FrameSealsSaid : Prop := frameSealsRow.holds Tryd.pinned (OpenSpec.ofChange frameSealsSpec)

/-- ITS FALSE NEIGHBOUR: 'it returns false'. Refute it at one input. -/
def frameSealsWrong : ChangeSpec := { name := "frameSeals", fn := fun _ => fun
  | [d] => { results := [.lit (.bool false)], args := [d] }
  | _ => none }
def FrameSealsWrongFalsely : Prop := frameSealsRow.holds Tryd.pinned (OpenSpec.ofChange frameSealsWrong)

/-- 'larderlaw01.FrameEven': WHATEVER THE INPUT: true; the input reads as it did. -/
def frameEvenSpec : ChangeSpec := { name := "frameEven", fn := fun _ => fun
  | [d1, d2, d3] => { results := [.lit (.bool true)], args := [d1, d2, d3] }
  | _ => none }
def frameEvenRow : OpenClaim := { program := "ytlblleideihhmaadoor", sum := "e9edc931512fb27e8cce47b940dab0d3b2c7cc077f8c174ff39f48f30ae0179b", func := "larder/larderlaw01.FrameEven", spec := "frameEven", named := ["larder/frame.table"], apart := false, laid := [("larder/frame.table", laid_larder_frame_table)] }
def FrameEvenSaid : Prop := frameEvenRow.holds Tryd.pinned (OpenSpec.ofChange frameEvenSpec)

/-- ITS FALSE NEIGHBOUR: 'it returns false'. Refute it at one input. -/
def frameEvenWrong : ChangeSpec := { name := "frameEven", fn := fun _ => fun
  | [d1, d2, d3] => { results := [.lit (.bool false)], args := [d1, d2, d3] }
  | _ => none }
def FrameEvenWrongFalsely : Prop := frameEvenRow.holds Tryd.pinned (OpenSpec.ofChange frameEvenWrong)

/-- 'larderlaw01.FrameFirst': WHATEVER THE INPUT: true; the input reads as it did. -/
def frameFirstSpec : ChangeSpec := { name := "frameFirst", fn := fun _ => fun
  | [d1, d2] => { results := [.lit (.bool true)], args := [d1, d2] }
  | _ => none }
def frameFirstRow : OpenClaim := { program := "ytlblleideihhmaadoor", sum := "e9edc931512fb27e8cce47b940dab0d3b2c7cc077f8c174ff39f48f30ae0179b", func := "larder/larderlaw01.FrameFirst", spec := "frameFirst", named := ["larder/frame.table"], apart := false, laid := [("larder/frame.table", laid_larder_frame_table)] }
def FrameFirstSaid : Prop := frameFirstRow.holds Tryd.pinned (OpenSpec.ofChange frameFirstSpec)

/-- ITS FALSE NEIGHBOUR: 'it returns false'. Refute it at one input. -/
def frameFirstWrong : ChangeSpec := { name := "frameFirst", fn := fun _ => fun
  | [d1, d2] => { results := [.lit (.bool false)], args := [d1, d2] }
  | _ => none }
def FrameFirstWrongFalsely : Prop := frameFirstRow.holds Tryd.pinned (OpenSpec.ofChange frameFirstWrong)

/-- 'larderlaw01.FrameCuts': WHATEVER THE INPUT: true; the input reads as it did. -/
def frameCutsSpec : ChangeSpec := { name := "frameCuts", fn := fun _ => fun
  | [d1, d2] => { results := [.lit (.bool true)], args := [d1, d2] }
  | _ => none }
def frameCutsRow : OpenClaim := { program := "ytlblleideihhmaadoor", sum := "e9edc931512fb27e8cce47b940dab0d3b2c7cc077f8c174ff39f48f30ae0179b", func := "larder/larderlaw01.FrameCuts", spec := "frameCuts", named := ["larder/frame.table"], apart := false, laid := [("larder/frame.table", laid_larder_frame_table)] }
def FrameCutsSaid : Prop := frameCutsRow.holds Tryd.pinned (OpenSpec.ofChange frameCutsSpec)

/-- ITS FALSE NEIGHBOUR: 'it returns false'. Refute it at one input. -/
def frameCutsWrong : ChangeSpec := { name := "frameCuts", fn := fun _ => fun
  | [d1, d2] => { results := [.lit (.bool false)], args := [d1, d2] }
  | _ => none }
def FrameCutsWrongFalsely : Prop := frameCutsRow.holds Tryd.pinned (OpenSpec.ofChange frameCutsWrong)

/-- 'larderlaw01.FrameUnseals': WHATEVER THE INPUT: true; the input reads as it did. -/
def frameUnsealsSpec : ChangeSpec := { name := "frameUnseals", fn := fun _ => fun
  | [d] => { results := [.lit (.bool true)], args := [d] }
  | _ => none }
def frameUnsealsRow : OpenClaim := { program := "ytlblleideihhmaadoor", sum := "e9edc931512fb27e8cce47b940dab0d3b2c7cc077f8c174ff39f48f30ae0179b", func := "larder/larderlaw01.FrameUnseals", spec := "frameUnseals", named := ["larder/frame.table"], apart := false, laid := [("larder/frame.table", laid_larder_frame_table)] }
def FrameUnsealsSaid : Prop := frameUnsealsRow.holds Tryd.pinned (OpenSpec.ofChange frameUnsealsSpec)

/-- ITS FALSE NEIGHBOUR: 'it returns false'. Refute it at one input. -/
def frameUnsealsWrong : ChangeSpec := { name := "frameUnseals", fn := fun _ => fun
  | [d] => { results := [.lit (.bool false)], args := [d] }
  | _ => none }
def FrameUnsealsWrongFalsely : Prop := frameUnsealsRow.holds Tryd.pinned (OpenSpec.ofChange frameUnsealsWrong)

/-- 'larderlaw01.FrameKnown': WHATEVER THE INPUT: true; the input reads as it did. -/
def frameKnownSpec : ChangeSpec := { name := "frameKnown", fn := fun _ => fun
  | [] => { results := [.lit (.bool true)], args := [] }
  | _ => none }
def frameKnownRow : OpenClaim := { program := "ytlblleideihhmaadoor", sum := "e9edc931512fb27e8cce47b940dab0d3b2c7cc077f8c174ff39f48f30ae0179b", func := "larder/larderlaw01.FrameKnown", spec := "frameKnown", named := ["larder/frame.table"], apart := false, laid := [("larder/frame.table", laid_larder_frame_table)] }
def FrameKnownSaid : Prop := frameKnownRow.holds Tryd.pinned (OpenSpec.ofChange frameKnownSpec)

/-- ITS FALSE NEIGHBOUR: 'it returns false'. Refute it at one input. -/
def frameKnownWrong : ChangeSpec := { name := "frameKnown", fn := fun _ => fun
  | [] => { results := [.lit (.bool false)], args := [] }
  | _ => none }
def FrameKnownWrongFalsely : Prop := frameKnownRow.holds Tryd.pinned (OpenSpec.ofChange frameKnownWrong)

/-- 'larderlaw01.FrameFew': WHATEVER THE INPUT: true; the input reads as it did. -/
def frameFewSpec : ChangeSpec := { name := "frameFew", fn := fun _ => fun
  | [d1, d2] => { results := [.lit (.bool true)], args := [d1, d2] }
  | _ => none }
def frameFewRow : OpenClaim := { program := "ytlblleideihhmaadoor", sum := "e9edc931512fb27e8cce47b940dab0d3b2c7cc077f8c174ff39f48f30ae0179b", func := "larder/larderlaw01.FrameFew", spec := "frameFew", named := ["larder/frame.table"], apart := false, laid := [("larder/frame.table", laid_larder_frame_table)] }
def FrameFewSaid : Prop := frameFewRow.holds Tryd.pinned (OpenSpec.ofChange frameFewSpec)

/-- ITS FALSE NEIGHBOUR: 'it returns false'. Refute it at one input. -/
def frameFewWrong : ChangeSpec := { name := "frameFew", fn := fun _ => fun
  | [d1, d2] => { results := [.lit (.bool false)], args := [d1, d2] }
  | _ => none }
def FrameFewWrongFalsely : Prop := frameFewRow.holds Tryd.pinned (OpenSpec.ofChange frameFewWrong)

/-- 'larderlaw01.FrameNear': WHATEVER THE INPUT: true; the input reads as it did. -/
def frameNearSpec : ChangeSpec := { name := "frameNear", fn := fun _ => fun
  | [d1, d2, d3] => { results := [.lit (.bool true)], args := [d1, d2, d3] }
  | _ => none }
def frameNearRow : OpenClaim := { program := "ytlblleideihhmaadoor", sum := "e9edc931512fb27e8cce47b940dab0d3b2c7cc077f8c174ff39f48f30ae0179b", func := "larder/larderlaw01.FrameNear", spec := "frameNear", named := ["larder/frame.table"], apart := false, laid := [("larder/frame.table", laid_larder_frame_table)] }
def FrameNearSaid : Prop := frameNearRow.holds Tryd.pinned (OpenSpec.ofChange frameNearSpec)

/-- ITS FALSE NEIGHBOUR: 'it returns false'. Refute it at one input. -/
def frameNearWrong : ChangeSpec := { name := "frameNear", fn := fun _ => fun
  | [d1, d2, d3] => { results := [.lit (.bool false)], args := [d1, d2, d3] }
  | _ => none }
def FrameNearWrongFalsely : Prop := frameNearRow.holds Tryd.pinned (OpenSpec.ofChange frameNearWrong)

/-- 'larderlaw01.FrameScans': WHATEVER THE INPUT: true; the input reads as it did. -/
def frameScansSpec : ChangeSpec := { name := "frameScans", fn := fun _ => fun
  | [d1, d2] => { results := [.lit (.bool true)], args := [d1, d2] }
  | _ => none }
def frameScansRow : OpenClaim := { program := "ytlblleideihhmaadoor", sum := "e9edc931512fb27e8cce47b940dab0d3b2c7cc077f8c174ff39f48f30ae0179b", func := "larder/larderlaw01.FrameScans", spec := "frameScans", unfollowed := true, recurses := true, named := ["larder/frame.table"], apart := false, laid := [("larder/frame.table", laid_larder_frame_table)] }
def FrameScansSaid : Prop := frameScansRow.holds Tryd.pinned (OpenSpec.ofChange frameScansSpec)

/-- ITS FALSE NEIGHBOUR: 'it returns false'. Refute it at one input. -/
def frameScansWrong : ChangeSpec := { name := "frameScans", fn := fun _ => fun
  | [d1, d2] => { results := [.lit (.bool false)], args := [d1, d2] }
  | _ => none }
def FrameScansWrongFalsely : Prop := frameScansRow.holds Tryd.pinned (OpenSpec.ofChange frameScansWrong)

/-- 'larderlaw01.FrameReads': WHATEVER THE INPUT: true; the input reads as it did. -/
def frameReadsSpec : ChangeSpec := { name := "frameReads", fn := fun _ => fun
  | [d1, d2] => { results := [.lit (.bool true)], args := [d1, d2] }
  | _ => none }
def frameReadsRow : OpenClaim := { program := "ytlblleideihhmaadoor", sum := "e9edc931512fb27e8cce47b940dab0d3b2c7cc077f8c174ff39f48f30ae0179b", func := "larder/larderlaw01.FrameReads", spec := "frameReads", unfollowed := true, recurses := true, named := ["larder/frame.table"], apart := false, laid := [("larder/frame.table", laid_larder_frame_table)] }
def FrameReadsSaid : Prop := frameReadsRow.holds Tryd.pinned (OpenSpec.ofChange frameReadsSpec)

/-- ITS FALSE NEIGHBOUR: 'it returns false'. Refute it at one input. -/
def frameReadsWrong : ChangeSpec := { name := "frameReads", fn := fun _ => fun
  | [d1, d2] => { results := [.lit (.bool false)], args := [d1, d2] }
  | _ => none }
def FrameReadsWrongFalsely : Prop := frameReadsRow.holds Tryd.pinned (OpenSpec.ofChange frameReadsWrong)

/-- 'larderlaw01.FrameStuck': WHATEVER THE INPUT: true; the input reads as it did. -/
def frameStuckSpec : ChangeSpec := { name := "frameStuck", fn := fun _ => fun
  | [d1, d2] => { results := [.lit (.bool true)], args := [d1, d2] }
  | _ => none }
def frameStuckRow : OpenClaim := { program := "ytlblleideihhmaadoor", sum := "e9edc931512fb27e8cce47b940dab0d3b2c7cc077f8c174ff39f48f30ae0179b", func := "larder/larderlaw01.FrameStuck", spec := "frameStuck", unfollowed := true, recurses := true, named := ["larder/frame.table"], apart := false, laid := [("larder/frame.table", laid_larder_frame_table)] }
def FrameStuckSaid : Prop := frameStuckRow.holds Tryd.pinned (OpenSpec.ofChange frameStuckSpec)

/-- ITS FALSE NEIGHBOUR: 'it returns false'. Refute it at one input. -/
def frameStuckWrong : ChangeSpec := { name := "frameStuck", fn := fun _ => fun
  | [d1, d2] => { results := [.lit (.bool false)], args := [d1, d2] }
  | _ => none }
def FrameStuckWrongFalsely : Prop := frameStuckRow.holds Tryd.pinned (OpenSpec.ofChange frameStuckWrong)

/-- 'larderlaw01.FrameForm': WHATEVER THE INPUT: true; the input reads as it did. -/
def frameFormSpec : ChangeSpec := { name := "frameForm", fn := fun _ => fun
  | [d1, d2] => { results := [.lit (.bool true)], args := [d1, d2] }
  | _ => none }
def frameFormRow : OpenClaim := { program := "ytlblleideihhmaadoor", sum := "e9edc931512fb27e8cce47b940dab0d3b2c7cc077f8c174ff39f48f30ae0179b", func := "larder/larderlaw01.FrameForm", spec := "frameForm", named := ["larder/frame.table"], apart := false, laid := [("larder/frame.table", laid_larder_frame_table)] }
def FrameFormSaid : Prop := frameFormRow.holds Tryd.pinned (OpenSpec.ofChange frameFormSpec)

/-- ITS FALSE NEIGHBOUR: 'it returns false'. Refute it at one input. -/
def frameFormWrong : ChangeSpec := { name := "frameForm", fn := fun _ => fun
  | [d1, d2] => { results := [.lit (.bool false)], args := [d1, d2] }
  | _ => none }
def FrameFormWrongFalsely : Prop := frameFormRow.holds Tryd.pinned (OpenSpec.ofChange frameFormWrong)

/-- 'larderlaw01.FrameBack': WHATEVER THE INPUT: true; the input reads as it did. -/
def frameBackSpec : ChangeSpec := { name := "frameBack", fn := fun _ => fun
  | [d1, d2, d3, d4, d5, d6] => { results := [.lit (.bool true)], args := [d1, d2, d3, d4, d5, d6] }
  | _ => none }
def frameBackRow : OpenClaim := { program := "ytlblleideihhmaadoor", sum := "e9edc931512fb27e8cce47b940dab0d3b2c7cc077f8c174ff39f48f30ae0179b", func := "larder/larderlaw01.FrameBack", spec := "frameBack", named := ["larder/frame.table"], apart := false, laid := [("larder/frame.table", laid_larder_frame_table)] }
def FrameBackSaid : Prop := frameBackRow.holds Tryd.pinned (OpenSpec.ofChange frameBackSpec)

/-- ITS FALSE NEIGHBOUR: 'it returns false'. Refute it at one input. -/
def frameBackWrong : ChangeSpec := { name := "frameBack", fn := fun _ => fun
  | [d1, d2, d3, d4, d5, d6] => { results := [.lit (.bool false)], args := [d1, d2, d3, d4, d5, d6] }
  | _ => none }
def FrameBackWrongFalsely : Prop := frameBackRow.holds Tryd.pinned (OpenSpec.ofChange frameBackWrong)

/-- 'larderlaw01.FramePieces': WHATEVER THE INPUT: true; the input reads as it did. -/
def framePiecesSpec : ChangeSpec := { name := "framePieces", fn := fun _ => fun
  | [d1, d2] => { results := [.lit (.bool true)], args := [d1, d2] }
  | _ => none }
def framePiecesRow : OpenClaim := { program := "ytlblleideihhmaadoor", sum := "e9edc931512fb27e8cce47b940dab0d3b2c7cc077f8c174ff39f48f30ae0179b", func := "larder/larderlaw01.FramePieces", spec := "framePieces", unfollowed := true, recurses := true, named := ["larder/frame.table"], apart := false, laid := [("larder/frame.table", laid_larder_frame_table)] }
def FramePiecesSaid : Prop := framePiecesRow.holds Tryd.pinned (OpenSpec.ofChange framePiecesSpec)

/-- ITS FALSE NEIGHBOUR: 'it returns false'. Refute it at one input. -/
def framePiecesWrong : ChangeSpec := { name := "framePieces", fn := fun _ => fun
  | [d1, d2] => { results := [.lit (.bool false)], args := [d1, d2] }
  | _ => none }
def FramePiecesWrongFalsely : Prop := framePiecesRow.holds Tryd.pinned (OpenSpec.ofChange framePiecesWrong)

/-- 'larderlaw01.FrameNil': WHATEVER THE INPUT: true; the input reads as it did. -/
def frameNilSpec : ChangeSpec := { name := "frameNil", fn := fun _ => fun
  | [] => { results := [.lit (.bool true)], args := [] }
  | _ => none }
def frameNilRow : OpenClaim := { program := "ytlblleideihhmaadoor", sum := "e9edc931512fb27e8cce47b940dab0d3b2c7cc077f8c174ff39f48f30ae0179b", func := "larder/larderlaw01.FrameNil", spec := "frameNil", unfollowed := true, recurses := true, named := ["larder/frame.table"], apart := false, laid := [("larder/frame.table", laid_larder_frame_table)] }
def FrameNilSaid : Prop := frameNilRow.holds Tryd.pinned (OpenSpec.ofChange frameNilSpec)

/-- ITS FALSE NEIGHBOUR: 'it returns false'. Refute it at one input. -/
def frameNilWrong : ChangeSpec := { name := "frameNil", fn := fun _ => fun
  | [] => { results := [.lit (.bool false)], args := [] }
  | _ => none }
def FrameNilWrongFalsely : Prop := frameNilRow.holds Tryd.pinned (OpenSpec.ofChange frameNilWrong)

/-- 'larderlaw01.FrameOwn': WHATEVER THE INPUT: true; the input reads as it did. -/
def frameOwnSpec : ChangeSpec := { name := "frameOwn", fn := fun _ => fun
  | [d1, d2, d3, d4] => { results := [.lit (.bool true)], args := [d1, d2, d3, d4] }
  | _ => none }
def frameOwnRow : OpenClaim := { program := "ytlblleideihhmaadoor", sum := "e9edc931512fb27e8cce47b940dab0d3b2c7cc077f8c174ff39f48f30ae0179b", func := "larder/larderlaw01.FrameOwn", spec := "frameOwn", unfollowed := true, recurses := true, named := ["larder/frame.table"], apart := false, laid := [("larder/frame.table", laid_larder_frame_table)] }
def FrameOwnSaid : Prop := frameOwnRow.holds Tryd.pinned (OpenSpec.ofChange frameOwnSpec)

/-- ITS FALSE NEIGHBOUR: 'it returns false'. Refute it at one input. -/
def frameOwnWrong : ChangeSpec := { name := "frameOwn", fn := fun _ => fun
  | [d1, d2, d3, d4] => { results := [.lit (.bool false)], args := [d1, d2, d3, d4] }
  | _ => none }
def FrameOwnWrongFalsely : Prop := frameOwnRow.holds Tryd.pinned (OpenSpec.ofChange frameOwnWrong)

/- THE SECOND FORM. 'bulk': how many values and letters a reading holds, each counted each time it is reached (what is shared counts as often as it is met; a slice's spare places count too). A statement '..UptoSaid' is the law's where the arguments, and the package variables that the reading takes, are together of bulk at most 1048576: NARROWER than '..Said'. Prove '..Said' where nothing that the law and all that it calls make is longer than what came in: it says more and counts as full. Else prove '..UptoSaid'. A law counts once. -/
mutual
def uptoBulk {H : Type} : DataW H → Nat
  | .lit (.string bytes) => bytes.length + 1
  | .lit _ => 1
  | .nil => 1
  | .ptr d => uptoBulk d + 1
  | .slice elems spare => uptoBulkAll elems + uptoBulkAll spare + 1
  | .agg parts => uptoBulkAll parts + 1
  | .iface _ d => uptoBulk d + 1
  | .map entries => uptoBulkEntries entries + 1
  | .held _ => 1
def uptoBulkAll {H : Type} : List (DataW H) → Nat
  | [] => 0
  | d :: r => uptoBulk d + uptoBulkAll r
def uptoBulkEntries {H : Type} : List (Lit × DataW H) → Nat
  | [] => 0
  | x :: r => uptoBulkEntry x + uptoBulkEntries r
def uptoBulkEntry {H : Type} : Lit × DataW H → Nat
  | (.string bytes, d) => bytes.length + uptoBulk d + 1
  | (_, d) => uptoBulk d + 1
 end
def uptoSmall : (H : Type) → List (DataW H) → Bool := fun _ ds => decide (uptoBulkAll ds ≤ 1048576)
def OpenSpec.upto (s : _root_.Go.ChangeSpec) : _root_.Go.OpenSpec := { _root_.Go.OpenSpec.ofChange s with cond := some uptoSmall }

/-- 'larderlaw01.FrameSums', WHERE WHAT IT READS IS OF BULK AT MOST 1048576: true; the input reads as it did. -/
def frameSumsUptoRow : OpenClaim := { program := "ytlblleideihhmaadoor", sum := "e9edc931512fb27e8cce47b940dab0d3b2c7cc077f8c174ff39f48f30ae0179b", func := "larder/larderlaw01.FrameSums", spec := "frameSums", named := ["larder/frame.table"], apart := false, laid := [("larder/frame.table", laid_larder_frame_table)], narrowed := true }
def FrameSumsUptoSaid : Prop := frameSumsUptoRow.holds Tryd.pinned (OpenSpec.upto frameSumsSpec)

/-- 'larderlaw01.FrameTurns', WHERE WHAT IT READS IS OF BULK AT MOST 1048576: true; the input reads as it did. -/
def frameTurnsUptoRow : OpenClaim := { program := "ytlblleideihhmaadoor", sum := "e9edc931512fb27e8cce47b940dab0d3b2c7cc077f8c174ff39f48f30ae0179b", func := "larder/larderlaw01.FrameTurns", spec := "frameTurns", named := ["larder/frame.table"], apart := false, laid := [("larder/frame.table", laid_larder_frame_table)], narrowed := true }
def FrameTurnsUptoSaid : Prop := frameTurnsUptoRow.holds Tryd.pinned (OpenSpec.upto frameTurnsSpec)

/-- 'larderlaw01.FrameFinds', WHERE WHAT IT READS IS OF BULK AT MOST 1048576: true; the input reads as it did. -/
def frameFindsUptoRow : OpenClaim := { program := "ytlblleideihhmaadoor", sum := "e9edc931512fb27e8cce47b940dab0d3b2c7cc077f8c174ff39f48f30ae0179b", func := "larder/larderlaw01.FrameFinds", spec := "frameFinds", named := ["larder/frame.table"], apart := false, laid := [("larder/frame.table", laid_larder_frame_table)], narrowed := true }
def FrameFindsUptoSaid : Prop := frameFindsUptoRow.holds Tryd.pinned (OpenSpec.upto frameFindsSpec)

/-- 'larderlaw01.FrameSeals', WHERE WHAT IT READS IS OF BULK AT MOST 1048576: true; the input reads as it did. -/
def frameSealsUptoRow : OpenClaim := { program := "ytlblleideihhmaadoor", sum := "e9edc931512fb27e8cce47b940dab0d3b2c7cc077f8c174ff39f48f30ae0179b", func := "larder/larderlaw01.FrameSeals", spec := "frameSeals", named := ["larder/frame.table"], apart := false, laid := [("larder/frame.table", laid_larder_frame_table)], narrowed := true }
def FrameSealsUptoSaid : Prop := frameSealsUptoRow.holds Tryd.pinned (OpenSpec.upto frameSealsSpec)

/-- 'larderlaw01.FrameEven', WHERE WHAT IT READS IS OF BULK AT MOST 1048576: true; the input reads as it did. -/
def frameEvenUptoRow : OpenClaim := { program := "ytlblleideihhmaadoor", sum := "e9edc931512fb27e8cce47b940dab0d3b2c7cc077f8c174ff39f48f30ae0179b", func := "larder/larderlaw01.FrameEven", spec := "frameEven", named := ["larder/frame.table"], apart := false, laid := [("larder/frame.table", laid_larder_frame_table)], narrowed := true }
def FrameEvenUptoSaid : Prop := frameEvenUptoRow.holds Tryd.pinned (OpenSpec.upto frameEvenSpec)

/-- 'larderlaw01.FrameFirst', WHERE WHAT IT READS IS OF BULK AT MOST 1048576: true; the input reads as it did. -/
def frameFirstUptoRow : OpenClaim := { program := "ytlblleideihhmaadoor", sum := "e9edc931512fb27e8cce47b940dab0d3b2c7cc077f8c174ff39f48f30ae0179b", func := "larder/larderlaw01.FrameFirst", spec := "frameFirst", named := ["larder/frame.table"], apart := false, laid := [("larder/frame.table", laid_larder_frame_table)], narrowed := true }
def FrameFirstUptoSaid : Prop := frameFirstUptoRow.holds Tryd.pinned (OpenSpec.upto frameFirstSpec)

/-- 'larderlaw01.FrameCuts', WHERE WHAT IT READS IS OF BULK AT MOST 1048576: true; the input reads as it did. -/
def frameCutsUptoRow : OpenClaim := { program := "ytlblleideihhmaadoor", sum := "e9edc931512fb27e8cce47b940dab0d3b2c7cc077f8c174ff39f48f30ae0179b", func := "larder/larderlaw01.FrameCuts", spec := "frameCuts", named := ["larder/frame.table"], apart := false, laid := [("larder/frame.table", laid_larder_frame_table)], narrowed := true }
def FrameCutsUptoSaid : Prop := frameCutsUptoRow.holds Tryd.pinned (OpenSpec.upto frameCutsSpec)

/-- 'larderlaw01.FrameUnseals', WHERE WHAT IT READS IS OF BULK AT MOST 1048576: true; the input reads as it did. -/
def frameUnsealsUptoRow : OpenClaim := { program := "ytlblleideihhmaadoor", sum := "e9edc931512fb27e8cce47b940dab0d3b2c7cc077f8c174ff39f48f30ae0179b", func := "larder/larderlaw01.FrameUnseals", spec := "frameUnseals", named := ["larder/frame.table"], apart := false, laid := [("larder/frame.table", laid_larder_frame_table)], narrowed := true }
def FrameUnsealsUptoSaid : Prop := frameUnsealsUptoRow.holds Tryd.pinned (OpenSpec.upto frameUnsealsSpec)

/-- 'larderlaw01.FrameKnown', WHERE WHAT IT READS IS OF BULK AT MOST 1048576: true; the input reads as it did. -/
def frameKnownUptoRow : OpenClaim := { program := "ytlblleideihhmaadoor", sum := "e9edc931512fb27e8cce47b940dab0d3b2c7cc077f8c174ff39f48f30ae0179b", func := "larder/larderlaw01.FrameKnown", spec := "frameKnown", named := ["larder/frame.table"], apart := false, laid := [("larder/frame.table", laid_larder_frame_table)], narrowed := true }
def FrameKnownUptoSaid : Prop := frameKnownUptoRow.holds Tryd.pinned (OpenSpec.upto frameKnownSpec)

/-- 'larderlaw01.FrameFew', WHERE WHAT IT READS IS OF BULK AT MOST 1048576: true; the input reads as it did. -/
def frameFewUptoRow : OpenClaim := { program := "ytlblleideihhmaadoor", sum := "e9edc931512fb27e8cce47b940dab0d3b2c7cc077f8c174ff39f48f30ae0179b", func := "larder/larderlaw01.FrameFew", spec := "frameFew", named := ["larder/frame.table"], apart := false, laid := [("larder/frame.table", laid_larder_frame_table)], narrowed := true }
def FrameFewUptoSaid : Prop := frameFewUptoRow.holds Tryd.pinned (OpenSpec.upto frameFewSpec)

/-- 'larderlaw01.FrameNear', WHERE WHAT IT READS IS OF BULK AT MOST 1048576: true; the input reads as it did. -/
def frameNearUptoRow : OpenClaim := { program := "ytlblleideihhmaadoor", sum := "e9edc931512fb27e8cce47b940dab0d3b2c7cc077f8c174ff39f48f30ae0179b", func := "larder/larderlaw01.FrameNear", spec := "frameNear", named := ["larder/frame.table"], apart := false, laid := [("larder/frame.table", laid_larder_frame_table)], narrowed := true }
def FrameNearUptoSaid : Prop := frameNearUptoRow.holds Tryd.pinned (OpenSpec.upto frameNearSpec)

/-- 'larderlaw01.FrameScans', WHERE WHAT IT READS IS OF BULK AT MOST 1048576: true; the input reads as it did. -/
def frameScansUptoRow : OpenClaim := { program := "ytlblleideihhmaadoor", sum := "e9edc931512fb27e8cce47b940dab0d3b2c7cc077f8c174ff39f48f30ae0179b", func := "larder/larderlaw01.FrameScans", spec := "frameScans", unfollowed := true, recurses := true, named := ["larder/frame.table"], apart := false, laid := [("larder/frame.table", laid_larder_frame_table)], narrowed := true }
def FrameScansUptoSaid : Prop := frameScansUptoRow.holds Tryd.pinned (OpenSpec.upto frameScansSpec)

/-- 'larderlaw01.FrameReads', WHERE WHAT IT READS IS OF BULK AT MOST 1048576: true; the input reads as it did. -/
def frameReadsUptoRow : OpenClaim := { program := "ytlblleideihhmaadoor", sum := "e9edc931512fb27e8cce47b940dab0d3b2c7cc077f8c174ff39f48f30ae0179b", func := "larder/larderlaw01.FrameReads", spec := "frameReads", unfollowed := true, recurses := true, named := ["larder/frame.table"], apart := false, laid := [("larder/frame.table", laid_larder_frame_table)], narrowed := true }
def FrameReadsUptoSaid : Prop := frameReadsUptoRow.holds Tryd.pinned (OpenSpec.upto frameReadsSpec)

/-- 'larderlaw01.FrameStuck', WHERE WHAT IT READS IS OF BULK AT MOST 1048576: true; the input reads as it did. -/
def frameStuckUptoRow : OpenClaim := { program := "ytlblleideihhmaadoor", sum := "e9edc931512fb27e8cce47b940dab0d3b2c7cc077f8c174ff39f48f30ae0179b", func := "larder/larderlaw01.FrameStuck", spec := "frameStuck", unfollowed := true, recurses := true, named := ["larder/frame.table"], apart := false, laid := [("larder/frame.table", laid_larder_frame_table)], narrowed := true }
def FrameStuckUptoSaid : Prop := frameStuckUptoRow.holds Tryd.pinned (OpenSpec.upto frameStuckSpec)

/-- 'larderlaw01.FrameForm', WHERE WHAT IT READS IS OF BULK AT MOST 1048576: true; the input reads as it did. -/
def frameFormUptoRow : OpenClaim := { program := "ytlblleideihhmaadoor", sum := "e9edc931512fb27e8cce47b940dab0d3b2c7cc077f8c174ff39f48f30ae0179b", func := "larder/larderlaw01.FrameForm", spec := "frameForm", named := ["larder/frame.table"], apart := false, laid := [("larder/frame.table", laid_larder_frame_table)], narrowed := true }
def FrameFormUptoSaid : Prop := frameFormUptoRow.holds Tryd.pinned (OpenSpec.upto frameFormSpec)

/-- 'larderlaw01.FrameBack', WHERE WHAT IT READS IS OF BULK AT MOST 1048576: true; the input reads as it did. -/
def frameBackUptoRow : OpenClaim := { program := "ytlblleideihhmaadoor", sum := "e9edc931512fb27e8cce47b940dab0d3b2c7cc077f8c174ff39f48f30ae0179b", func := "larder/larderlaw01.FrameBack", spec := "frameBack", named := ["larder/frame.table"], apart := false, laid := [("larder/frame.table", laid_larder_frame_table)], narrowed := true }
def FrameBackUptoSaid : Prop := frameBackUptoRow.holds Tryd.pinned (OpenSpec.upto frameBackSpec)

/-- 'larderlaw01.FramePieces', WHERE WHAT IT READS IS OF BULK AT MOST 1048576: true; the input reads as it did. -/
def framePiecesUptoRow : OpenClaim := { program := "ytlblleideihhmaadoor", sum := "e9edc931512fb27e8cce47b940dab0d3b2c7cc077f8c174ff39f48f30ae0179b", func := "larder/larderlaw01.FramePieces", spec := "framePieces", unfollowed := true, recurses := true, named := ["larder/frame.table"], apart := false, laid := [("larder/frame.table", laid_larder_frame_table)], narrowed := true }
def FramePiecesUptoSaid : Prop := framePiecesUptoRow.holds Tryd.pinned (OpenSpec.upto framePiecesSpec)

/-- 'larderlaw01.FrameNil', WHERE WHAT IT READS IS OF BULK AT MOST 1048576: true; the input reads as it did. -/
def frameNilUptoRow : OpenClaim := { program := "ytlblleideihhmaadoor", sum := "e9edc931512fb27e8cce47b940dab0d3b2c7cc077f8c174ff39f48f30ae0179b", func := "larder/larderlaw01.FrameNil", spec := "frameNil", unfollowed := true, recurses := true, named := ["larder/frame.table"], apart := false, laid := [("larder/frame.table", laid_larder_frame_table)], narrowed := true }
def FrameNilUptoSaid : Prop := frameNilUptoRow.holds Tryd.pinned (OpenSpec.upto frameNilSpec)

/-- 'larderlaw01.FrameOwn', WHERE WHAT IT READS IS OF BULK AT MOST 1048576: true; the input reads as it did. -/
def frameOwnUptoRow : OpenClaim := { program := "ytlblleideihhmaadoor", sum := "e9edc931512fb27e8cce47b940dab0d3b2c7cc077f8c174ff39f48f30ae0179b", func := "larder/larderlaw01.FrameOwn", spec := "frameOwn", unfollowed := true, recurses := true, named := ["larder/frame.table"], apart := false, laid := [("larder/frame.table", laid_larder_frame_table)], narrowed := true }
def FrameOwnUptoSaid : Prop := frameOwnUptoRow.holds Tryd.pinned (OpenSpec.upto frameOwnSpec)

end Rows
end Go.Proofs.YtlblleideihhmaaDoor
