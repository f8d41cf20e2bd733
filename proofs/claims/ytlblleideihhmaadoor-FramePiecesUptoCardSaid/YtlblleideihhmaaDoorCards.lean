/-
  DERIVED. GIVEN WITH THE SEED: THE CARDS: each row of YtlblleideihhmaaDoorRows.lean that lists a variable, with what it lists TIED to the program's text (the seventh form; the later family's looks); each row that meets fmt, with fmt's text TOLD by the authors' own Lean function (tested against real Go, not proved from fmt's source: count such statements apart). THE CARD IS WHAT COUNTS. Prove the row's statement (the work); the ties are given (YtlblleideihhmaaDoorTie.lean); close each card by the builder's one call (the guide's Derived/Test/ToyasCard.lean, 'card_holds'). Laid BY PROGRAM, IN A SANDBOX (cutbox-door.mjs). By AI agents, Wed Nov 11 2026. No macro, syntax, notation, axiom, sorry.
-/
import Derived.Test.YtlblleideihhmaaDoorRows
import GoSem.ClaimSeven
namespace Go.Proofs.YtlblleideihhmaaDoor
namespace Rows

/-- THE TIED CARD OF 'larderlaw01.FrameSums'. -/
def frameSumsCard : Claim7 := { stood := { row := frameSumsRow, standIns := [], harness := (true, "9102559f12a5d83a3996b08915938cd5ba444b798b74ad20f5ad792418e044c9"), looks := false }, kinds := [], alts := [], laidByText := true, laidKinds := [.data], laidTests := true, laidLooks := .later }
def FrameSumsCardSaid : Prop := Claim7.holds Tryd.pinned (.plain (OpenSpec.ofChange frameSumsSpec)) frameSumsCard

/-- THE TIED CARD OF 'larderlaw01.FrameTurns'. -/
def frameTurnsCard : Claim7 := { stood := { row := frameTurnsRow, standIns := [], harness := (true, "9102559f12a5d83a3996b08915938cd5ba444b798b74ad20f5ad792418e044c9"), looks := false }, kinds := [], alts := [], laidByText := true, laidKinds := [.data], laidTests := true, laidLooks := .later }
def FrameTurnsCardSaid : Prop := Claim7.holds Tryd.pinned (.plain (OpenSpec.ofChange frameTurnsSpec)) frameTurnsCard

/-- THE TIED CARD OF 'larderlaw01.FrameFinds'. -/
def frameFindsCard : Claim7 := { stood := { row := frameFindsRow, standIns := [], harness := (true, "9102559f12a5d83a3996b08915938cd5ba444b798b74ad20f5ad792418e044c9"), looks := false }, kinds := [], alts := [], laidByText := true, laidKinds := [.data], laidTests := true, laidLooks := .later }
def FrameFindsCardSaid : Prop := Claim7.holds Tryd.pinned (.plain (OpenSpec.ofChange frameFindsSpec)) frameFindsCard

/-- THE TIED CARD OF 'larderlaw01.FrameSeals'. -/
def frameSealsCard : Claim7 := { stood := { row := frameSealsRow, standIns := [], harness := (true, "9102559f12a5d83a3996b08915938cd5ba444b798b74ad20f5ad792418e044c9"), looks := false }, kinds := [], alts := [], laidByText := true, laidKinds := [.data], laidTests := true, laidLooks := .later }
def FrameSealsCardSaid : Prop := Claim7.holds Tryd.pinned (.plain (OpenSpec.ofChange frameSealsSpec)) frameSealsCard

/-- THE TIED CARD OF 'larderlaw01.FrameEven'. -/
def frameEvenCard : Claim7 := { stood := { row := frameEvenRow, standIns := [], harness := (true, "9102559f12a5d83a3996b08915938cd5ba444b798b74ad20f5ad792418e044c9"), looks := false }, kinds := [], alts := [], laidByText := true, laidKinds := [.data], laidTests := true, laidLooks := .later }
def FrameEvenCardSaid : Prop := Claim7.holds Tryd.pinned (.plain (OpenSpec.ofChange frameEvenSpec)) frameEvenCard

/-- THE TIED CARD OF 'larderlaw01.FrameFirst'. -/
def frameFirstCard : Claim7 := { stood := { row := frameFirstRow, standIns := [], harness := (true, "9102559f12a5d83a3996b08915938cd5ba444b798b74ad20f5ad792418e044c9"), looks := false }, kinds := [], alts := [], laidByText := true, laidKinds := [.data], laidTests := true, laidLooks := .later }
def FrameFirstCardSaid : Prop := Claim7.holds Tryd.pinned (.plain (OpenSpec.ofChange frameFirstSpec)) frameFirstCard

/-- THE TIED CARD OF 'larderlaw01.FrameCuts'. -/
def frameCutsCard : Claim7 := { stood := { row := frameCutsRow, standIns := [], harness := (true, "9102559f12a5d83a3996b08915938cd5ba444b798b74ad20f5ad792418e044c9"), looks := false }, kinds := [], alts := [], laidByText := true, laidKinds := [.data], laidTests := true, laidLooks := .later }
def FrameCutsCardSaid : Prop := Claim7.holds Tryd.pinned (.plain (OpenSpec.ofChange frameCutsSpec)) frameCutsCard

/-- THE TIED CARD OF 'larderlaw01.FrameUnseals'. -/
def frameUnsealsCard : Claim7 := { stood := { row := frameUnsealsRow, standIns := [], harness := (true, "9102559f12a5d83a3996b08915938cd5ba444b798b74ad20f5ad792418e044c9"), looks := false }, kinds := [], alts := [], laidByText := true, laidKinds := [.data], laidTests := true, laidLooks := .later }
def FrameUnsealsCardSaid : Prop := Claim7.holds Tryd.pinned (.plain (OpenSpec.ofChange frameUnsealsSpec)) frameUnsealsCard

/-- THE TIED CARD OF 'larderlaw01.FrameKnown'. -/
def frameKnownCard : Claim7 := { stood := { row := frameKnownRow, standIns := [], harness := (true, "9102559f12a5d83a3996b08915938cd5ba444b798b74ad20f5ad792418e044c9"), looks := false }, kinds := [], alts := [], laidByText := true, laidKinds := [.data], laidTests := true, laidLooks := .later }
def FrameKnownCardSaid : Prop := Claim7.holds Tryd.pinned (.plain (OpenSpec.ofChange frameKnownSpec)) frameKnownCard

/-- THE TIED CARD OF 'larderlaw01.FrameFew'. -/
def frameFewCard : Claim7 := { stood := { row := frameFewRow, standIns := [], harness := (true, "9102559f12a5d83a3996b08915938cd5ba444b798b74ad20f5ad792418e044c9"), looks := false }, kinds := [], alts := [], laidByText := true, laidKinds := [.data], laidTests := true, laidLooks := .later }
def FrameFewCardSaid : Prop := Claim7.holds Tryd.pinned (.plain (OpenSpec.ofChange frameFewSpec)) frameFewCard

/-- THE TIED CARD OF 'larderlaw01.FrameNear'. -/
def frameNearCard : Claim7 := { stood := { row := frameNearRow, standIns := [], harness := (true, "9102559f12a5d83a3996b08915938cd5ba444b798b74ad20f5ad792418e044c9"), looks := false }, kinds := [], alts := [], laidByText := true, laidKinds := [.data], laidTests := true, laidLooks := .later }
def FrameNearCardSaid : Prop := Claim7.holds Tryd.pinned (.plain (OpenSpec.ofChange frameNearSpec)) frameNearCard

/-- THE TIED CARD OF 'larderlaw01.FrameScans'. -/
def frameScansCard : Claim7 := { stood := { row := frameScansRow, standIns := [], harness := (true, "9102559f12a5d83a3996b08915938cd5ba444b798b74ad20f5ad792418e044c9"), looks := false }, kinds := [], alts := [], laidByText := true, laidKinds := [.data], laidTests := true, laidLooks := .later }
def FrameScansCardSaid : Prop := Claim7.holds Tryd.pinned (.plain (OpenSpec.ofChange frameScansSpec)) frameScansCard

/-- THE TIED CARD OF 'larderlaw01.FrameReads'. -/
def frameReadsCard : Claim7 := { stood := { row := frameReadsRow, standIns := [], harness := (true, "9102559f12a5d83a3996b08915938cd5ba444b798b74ad20f5ad792418e044c9"), looks := false }, kinds := [], alts := [], laidByText := true, laidKinds := [.data], laidTests := true, laidLooks := .later }
def FrameReadsCardSaid : Prop := Claim7.holds Tryd.pinned (.plain (OpenSpec.ofChange frameReadsSpec)) frameReadsCard

/-- THE TIED CARD OF 'larderlaw01.FrameStuck'. -/
def frameStuckCard : Claim7 := { stood := { row := frameStuckRow, standIns := [], harness := (true, "9102559f12a5d83a3996b08915938cd5ba444b798b74ad20f5ad792418e044c9"), looks := false }, kinds := [], alts := [], laidByText := true, laidKinds := [.data], laidTests := true, laidLooks := .later }
def FrameStuckCardSaid : Prop := Claim7.holds Tryd.pinned (.plain (OpenSpec.ofChange frameStuckSpec)) frameStuckCard

/-- THE TIED CARD OF 'larderlaw01.FrameForm'. -/
def frameFormCard : Claim7 := { stood := { row := frameFormRow, standIns := [], harness := (true, "9102559f12a5d83a3996b08915938cd5ba444b798b74ad20f5ad792418e044c9"), looks := false }, kinds := [], alts := [], laidByText := true, laidKinds := [.data], laidTests := true, laidLooks := .later }
def FrameFormCardSaid : Prop := Claim7.holds Tryd.pinned (.plain (OpenSpec.ofChange frameFormSpec)) frameFormCard

/-- THE TIED CARD OF 'larderlaw01.FrameBack'. -/
def frameBackCard : Claim7 := { stood := { row := frameBackRow, standIns := [], harness := (true, "9102559f12a5d83a3996b08915938cd5ba444b798b74ad20f5ad792418e044c9"), looks := false }, kinds := [], alts := [], laidByText := true, laidKinds := [.data], laidTests := true, laidLooks := .later }
def FrameBackCardSaid : Prop := Claim7.holds Tryd.pinned (.plain (OpenSpec.ofChange frameBackSpec)) frameBackCard

/-- THE TIED CARD OF 'larderlaw01.FramePieces'. -/
def framePiecesCard : Claim7 := { stood := { row := framePiecesRow, standIns := [], harness := (true, "9102559f12a5d83a3996b08915938cd5ba444b798b74ad20f5ad792418e044c9"), looks := false }, kinds := [], alts := [], laidByText := true, laidKinds := [.data], laidTests := true, laidLooks := .later }
def FramePiecesCardSaid : Prop := Claim7.holds Tryd.pinned (.plain (OpenSpec.ofChange framePiecesSpec)) framePiecesCard

/-- THE TIED CARD OF 'larderlaw01.FrameNil'. -/
def frameNilCard : Claim7 := { stood := { row := frameNilRow, standIns := [], harness := (true, "9102559f12a5d83a3996b08915938cd5ba444b798b74ad20f5ad792418e044c9"), looks := false }, kinds := [], alts := [], laidByText := true, laidKinds := [.data], laidTests := true, laidLooks := .later }
def FrameNilCardSaid : Prop := Claim7.holds Tryd.pinned (.plain (OpenSpec.ofChange frameNilSpec)) frameNilCard

/-- THE TIED CARD OF 'larderlaw01.FrameOwn'. -/
def frameOwnCard : Claim7 := { stood := { row := frameOwnRow, standIns := [], harness := (true, "9102559f12a5d83a3996b08915938cd5ba444b798b74ad20f5ad792418e044c9"), looks := false }, kinds := [], alts := [], laidByText := true, laidKinds := [.data], laidTests := true, laidLooks := .later }
def FrameOwnCardSaid : Prop := Claim7.holds Tryd.pinned (.plain (OpenSpec.ofChange frameOwnSpec)) frameOwnCard

/-- THE SECOND FORM's CARD OF 'larderlaw01.FrameSums'. -/
def frameSumsUptoCard : Claim7 := { stood := { row := frameSumsUptoRow, standIns := [], harness := (true, "9102559f12a5d83a3996b08915938cd5ba444b798b74ad20f5ad792418e044c9"), looks := false }, kinds := [], alts := [], laidByText := true, laidKinds := [.data], laidTests := true, laidLooks := .later }
def FrameSumsUptoCardSaid : Prop := Claim7.holds Tryd.pinned (.plain (OpenSpec.upto frameSumsSpec)) frameSumsUptoCard

/-- THE SECOND FORM's CARD OF 'larderlaw01.FrameTurns'. -/
def frameTurnsUptoCard : Claim7 := { stood := { row := frameTurnsUptoRow, standIns := [], harness := (true, "9102559f12a5d83a3996b08915938cd5ba444b798b74ad20f5ad792418e044c9"), looks := false }, kinds := [], alts := [], laidByText := true, laidKinds := [.data], laidTests := true, laidLooks := .later }
def FrameTurnsUptoCardSaid : Prop := Claim7.holds Tryd.pinned (.plain (OpenSpec.upto frameTurnsSpec)) frameTurnsUptoCard

/-- THE SECOND FORM's CARD OF 'larderlaw01.FrameFinds'. -/
def frameFindsUptoCard : Claim7 := { stood := { row := frameFindsUptoRow, standIns := [], harness := (true, "9102559f12a5d83a3996b08915938cd5ba444b798b74ad20f5ad792418e044c9"), looks := false }, kinds := [], alts := [], laidByText := true, laidKinds := [.data], laidTests := true, laidLooks := .later }
def FrameFindsUptoCardSaid : Prop := Claim7.holds Tryd.pinned (.plain (OpenSpec.upto frameFindsSpec)) frameFindsUptoCard

/-- THE SECOND FORM's CARD OF 'larderlaw01.FrameSeals'. -/
def frameSealsUptoCard : Claim7 := { stood := { row := frameSealsUptoRow, standIns := [], harness := (true, "9102559f12a5d83a3996b08915938cd5ba444b798b74ad20f5ad792418e044c9"), looks := false }, kinds := [], alts := [], laidByText := true, laidKinds := [.data], laidTests := true, laidLooks := .later }
def FrameSealsUptoCardSaid : Prop := Claim7.holds Tryd.pinned (.plain (OpenSpec.upto frameSealsSpec)) frameSealsUptoCard

/-- THE SECOND FORM's CARD OF 'larderlaw01.FrameEven'. -/
def frameEvenUptoCard : Claim7 := { stood := { row := frameEvenUptoRow, standIns := [], harness := (true, "9102559f12a5d83a3996b08915938cd5ba444b798b74ad20f5ad792418e044c9"), looks := false }, kinds := [], alts := [], laidByText := true, laidKinds := [.data], laidTests := true, laidLooks := .later }
def FrameEvenUptoCardSaid : Prop := Claim7.holds Tryd.pinned (.plain (OpenSpec.upto frameEvenSpec)) frameEvenUptoCard

/-- THE SECOND FORM's CARD OF 'larderlaw01.FrameFirst'. -/
def frameFirstUptoCard : Claim7 := { stood := { row := frameFirstUptoRow, standIns := [], harness := (true, "9102559f12a5d83a3996b08915938cd5ba444b798b74ad20f5ad792418e044c9"), looks := false }, kinds := [], alts := [], laidByText := true, laidKinds := [.data], laidTests := true, laidLooks := .later }
def FrameFirstUptoCardSaid : Prop := Claim7.holds Tryd.pinned (.plain (OpenSpec.upto frameFirstSpec)) frameFirstUptoCard

/-- THE SECOND FORM's CARD OF 'larderlaw01.FrameCuts'. -/
def frameCutsUptoCard : Claim7 := { stood := { row := frameCutsUptoRow, standIns := [], harness := (true, "9102559f12a5d83a3996b08915938cd5ba444b798b74ad20f5ad792418e044c9"), looks := false }, kinds := [], alts := [], laidByText := true, laidKinds := [.data], laidTests := true, laidLooks := .later }
def FrameCutsUptoCardSaid : Prop := Claim7.holds Tryd.pinned (.plain (OpenSpec.upto frameCutsSpec)) frameCutsUptoCard

/-- THE SECOND FORM's CARD OF 'larderlaw01.FrameUnseals'. -/
def frameUnsealsUptoCard : Claim7 := { stood := { row := frameUnsealsUptoRow, standIns := [], harness := (true, "9102559f12a5d83a3996b08915938cd5ba444b798b74ad20f5ad792418e044c9"), looks := false }, kinds := [], alts := [], laidByText := true, laidKinds := [.data], laidTests := true, laidLooks := .later }
def FrameUnsealsUptoCardSaid : Prop := Claim7.holds Tryd.pinned (.plain (OpenSpec.upto frameUnsealsSpec)) frameUnsealsUptoCard

/-- THE SECOND FORM's CARD OF 'larderlaw01.FrameKnown'. -/
def frameKnownUptoCard : Claim7 := { stood := { row := frameKnownUptoRow, standIns := [], harness := (true, "9102559f12a5d83a3996b08915938cd5ba444b798b74ad20f5ad792418e044c9"), looks := false }, kinds := [], alts := [], laidByText := true, laidKinds := [.data], laidTests := true, laidLooks := .later }
def FrameKnownUptoCardSaid : Prop := Claim7.holds Tryd.pinned (.plain (OpenSpec.upto frameKnownSpec)) frameKnownUptoCard

/-- THE SECOND FORM's CARD OF 'larderlaw01.FrameFew'. -/
def frameFewUptoCard : Claim7 := { stood := { row := frameFewUptoRow, standIns := [], harness := (true, "9102559f12a5d83a3996b08915938cd5ba444b798b74ad20f5ad792418e044c9"), looks := false }, kinds := [], alts := [], laidByText := true, laidKinds := [.data], laidTests := true, laidLooks := .later }
def FrameFewUptoCardSaid : Prop := Claim7.holds Tryd.pinned (.plain (OpenSpec.upto frameFewSpec)) frameFewUptoCard

/-- THE SECOND FORM's CARD OF 'larderlaw01.FrameNear'. -/
def frameNearUptoCard : Claim7 := { stood := { row := frameNearUptoRow, standIns := [], harness := (true, "9102559f12a5d83a3996b08915938cd5ba444b798b74ad20f5ad792418e044c9"), looks := false }, kinds := [], alts := [], laidByText := true, laidKinds := [.data], laidTests := true, laidLooks := .later }
def FrameNearUptoCardSaid : Prop := Claim7.holds Tryd.pinned (.plain (OpenSpec.upto frameNearSpec)) frameNearUptoCard

/-- THE SECOND FORM's CARD OF 'larderlaw01.FrameScans'. -/
def frameScansUptoCard : Claim7 := { stood := { row := frameScansUptoRow, standIns := [], harness := (true, "9102559f12a5d83a3996b08915938cd5ba444b798b74ad20f5ad792418e044c9"), looks := false }, kinds := [], alts := [], laidByText := true, laidKinds := [.data], laidTests := true, laidLooks := .later }
def FrameScansUptoCardSaid : Prop := Claim7.holds Tryd.pinned (.plain (OpenSpec.upto frameScansSpec)) frameScansUptoCard

/-- THE SECOND FORM's CARD OF 'larderlaw01.FrameReads'. -/
def frameReadsUptoCard : Claim7 := { stood := { row := frameReadsUptoRow, standIns := [], harness := (true, "9102559f12a5d83a3996b08915938cd5ba444b798b74ad20f5ad792418e044c9"), looks := false }, kinds := [], alts := [], laidByText := true, laidKinds := [.data], laidTests := true, laidLooks := .later }
def FrameReadsUptoCardSaid : Prop := Claim7.holds Tryd.pinned (.plain (OpenSpec.upto frameReadsSpec)) frameReadsUptoCard

/-- THE SECOND FORM's CARD OF 'larderlaw01.FrameStuck'. -/
def frameStuckUptoCard : Claim7 := { stood := { row := frameStuckUptoRow, standIns := [], harness := (true, "9102559f12a5d83a3996b08915938cd5ba444b798b74ad20f5ad792418e044c9"), looks := false }, kinds := [], alts := [], laidByText := true, laidKinds := [.data], laidTests := true, laidLooks := .later }
def FrameStuckUptoCardSaid : Prop := Claim7.holds Tryd.pinned (.plain (OpenSpec.upto frameStuckSpec)) frameStuckUptoCard

/-- THE SECOND FORM's CARD OF 'larderlaw01.FrameForm'. -/
def frameFormUptoCard : Claim7 := { stood := { row := frameFormUptoRow, standIns := [], harness := (true, "9102559f12a5d83a3996b08915938cd5ba444b798b74ad20f5ad792418e044c9"), looks := false }, kinds := [], alts := [], laidByText := true, laidKinds := [.data], laidTests := true, laidLooks := .later }
def FrameFormUptoCardSaid : Prop := Claim7.holds Tryd.pinned (.plain (OpenSpec.upto frameFormSpec)) frameFormUptoCard

/-- THE SECOND FORM's CARD OF 'larderlaw01.FrameBack'. -/
def frameBackUptoCard : Claim7 := { stood := { row := frameBackUptoRow, standIns := [], harness := (true, "9102559f12a5d83a3996b08915938cd5ba444b798b74ad20f5ad792418e044c9"), looks := false }, kinds := [], alts := [], laidByText := true, laidKinds := [.data], laidTests := true, laidLooks := .later }
def FrameBackUptoCardSaid : Prop := Claim7.holds Tryd.pinned (.plain (OpenSpec.upto frameBackSpec)) frameBackUptoCard

/-- THE SECOND FORM's CARD OF 'larderlaw01.FramePieces'. -/
def framePiecesUptoCard : Claim7 := { stood := { row := framePiecesUptoRow, standIns := [], harness := (true, "9102559f12a5d83a3996b08915938cd5ba444b798b74ad20f5ad792418e044c9"), looks := false }, kinds := [], alts := [], laidByText := true, laidKinds := [.data], laidTests := true, laidLooks := .later }
def FramePiecesUptoCardSaid : Prop := Claim7.holds Tryd.pinned (.plain (OpenSpec.upto framePiecesSpec)) framePiecesUptoCard

/-- THE SECOND FORM's CARD OF 'larderlaw01.FrameNil'. -/
def frameNilUptoCard : Claim7 := { stood := { row := frameNilUptoRow, standIns := [], harness := (true, "9102559f12a5d83a3996b08915938cd5ba444b798b74ad20f5ad792418e044c9"), looks := false }, kinds := [], alts := [], laidByText := true, laidKinds := [.data], laidTests := true, laidLooks := .later }
def FrameNilUptoCardSaid : Prop := Claim7.holds Tryd.pinned (.plain (OpenSpec.upto frameNilSpec)) frameNilUptoCard

/-- THE SECOND FORM's CARD OF 'larderlaw01.FrameOwn'. -/
def frameOwnUptoCard : Claim7 := { stood := { row := frameOwnUptoRow, standIns := [], harness := (true, "9102559f12a5d83a3996b08915938cd5ba444b798b74ad20f5ad792418e044c9"), looks := false }, kinds := [], alts := [], laidByText := true, laidKinds := [.data], laidTests := true, laidLooks := .later }
def FrameOwnUptoCardSaid : Prop := Claim7.holds Tryd.pinned (.plain (OpenSpec.upto frameOwnSpec)) frameOwnUptoCard
end Rows
end Go.Proofs.YtlblleideihhmaaDoor
