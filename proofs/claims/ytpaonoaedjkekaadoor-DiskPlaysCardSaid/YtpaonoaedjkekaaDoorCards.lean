/-
  DERIVED. GIVEN WITH THE SEED: THE CARDS: each row of YtpaonoaedjkekaaDoorRows.lean that lists a variable, with what it lists TIED to the program's text (the seventh form; the later family's looks); each row that meets fmt, with fmt's text TOLD by the authors' own Lean function (tested against real Go, not proved from fmt's source: count such statements apart). THE CARD IS WHAT COUNTS. Prove the row's statement (the work); the ties are given (YtpaonoaedjkekaaDoorTie.lean); close each card by the builder's one call (the guide's Derived/Test/ToyasCard.lean, 'card_holds'). Laid BY PROGRAM, IN A SANDBOX (cutbox-door.mjs). By AI agents, Wed Nov 11 2026. No macro, syntax, notation, axiom, sorry.
-/
import Derived.Test.YtpaonoaedjkekaaDoorRows
import GoSem.ClaimSeven
namespace Go.Proofs.YtpaonoaedjkekaaDoor
namespace Rows

/-- THE TIED CARD OF 'larderlaw06.DiskSubset'. -/
def diskSubsetCard : Claim7 := { stood := { row := diskSubsetRow, standIns := [], harness := (true, "b4594eea967ce7f637a9808074aa97497010d4b720d6b0684063b00d176b371f"), looks := false }, kinds := [], alts := [], laidByText := true, laidKinds := [.data], laidTests := true, laidLooks := .later }
def DiskSubsetCardSaid : Prop := Claim7.holds Tryd.pinned (.plain (OpenSpec.ofChange diskSubsetSpec)) diskSubsetCard

/-- THE TIED CARD OF 'larderlaw06.DiskSeen'. -/
def diskSeenCard : Claim7 := { stood := { row := diskSeenRow, standIns := [], harness := (true, "b4594eea967ce7f637a9808074aa97497010d4b720d6b0684063b00d176b371f"), looks := false }, kinds := [], alts := [], laidByText := true, laidKinds := [.data], laidTests := true, laidLooks := .later }
def DiskSeenCardSaid : Prop := Claim7.holds Tryd.pinned (.plain (OpenSpec.ofChange diskSeenSpec)) diskSeenCard

/-- THE TIED CARD OF 'larderlaw06.DiskBack'. -/
def diskBackCard : Claim7 := { stood := { row := diskBackRow, standIns := [], harness := (true, "b4594eea967ce7f637a9808074aa97497010d4b720d6b0684063b00d176b371f"), looks := false }, kinds := [], alts := [], laidByText := true, laidKinds := [.data], laidTests := true, laidLooks := .later }
def DiskBackCardSaid : Prop := Claim7.holds Tryd.pinned (.plain (OpenSpec.ofChange diskBackSpec)) diskBackCard

/-- THE TIED CARD OF 'larderlaw06.DiskStays'. -/
def diskStaysCard : Claim7 := { stood := { row := diskStaysRow, standIns := [], harness := (true, "b4594eea967ce7f637a9808074aa97497010d4b720d6b0684063b00d176b371f"), looks := false }, kinds := [], alts := [], laidByText := true, laidKinds := [.data], laidTests := true, laidLooks := .later }
def DiskStaysCardSaid : Prop := Claim7.holds Tryd.pinned (.plain (OpenSpec.ofChange diskStaysSpec)) diskStaysCard

/-- THE TIED CARD OF 'larderlaw06.DiskAll'. -/
def diskAllCard : Claim7 := { stood := { row := diskAllRow, standIns := [], harness := (true, "b4594eea967ce7f637a9808074aa97497010d4b720d6b0684063b00d176b371f"), looks := false }, kinds := [], alts := [], laidByText := true, laidKinds := [.data], laidTests := true, laidLooks := .later }
def DiskAllCardSaid : Prop := Claim7.holds Tryd.pinned (.plain (OpenSpec.ofChange diskAllSpec)) diskAllCard

/-- THE TIED CARD OF 'larderlaw06.DiskPlays'. -/
def diskPlaysCard : Claim7 := { stood := { row := diskPlaysRow, standIns := [], harness := (true, "b4594eea967ce7f637a9808074aa97497010d4b720d6b0684063b00d176b371f"), looks := false }, kinds := [], alts := [], laidByText := true, laidKinds := [.data], laidTests := true, laidLooks := .later }
def DiskPlaysCardSaid : Prop := Claim7.holds Tryd.pinned (.plain (OpenSpec.ofChange diskPlaysSpec)) diskPlaysCard

/-- THE TIED CARD OF 'larderlaw06.DiskOwn'. -/
def diskOwnCard : Claim7 := { stood := { row := diskOwnRow, standIns := [], harness := (true, "b4594eea967ce7f637a9808074aa97497010d4b720d6b0684063b00d176b371f"), looks := false }, kinds := [], alts := [], laidByText := true, laidKinds := [.data], laidTests := true, laidLooks := .later }
def DiskOwnCardSaid : Prop := Claim7.holds Tryd.pinned (.plain (OpenSpec.ofChange diskOwnSpec)) diskOwnCard

/-- THE TIED CARD OF 'larderlaw06.DiskNil'. -/
def diskNilCard : Claim7 := { stood := { row := diskNilRow, standIns := [], harness := (true, "b4594eea967ce7f637a9808074aa97497010d4b720d6b0684063b00d176b371f"), looks := false }, kinds := [], alts := [], laidByText := true, laidKinds := [.data], laidTests := true, laidLooks := .later }
def DiskNilCardSaid : Prop := Claim7.holds Tryd.pinned (.plain (OpenSpec.ofChange diskNilSpec)) diskNilCard

/-- THE SECOND FORM's CARD OF 'larderlaw06.DiskSubset'. -/
def diskSubsetUptoCard : Claim7 := { stood := { row := diskSubsetUptoRow, standIns := [], harness := (true, "b4594eea967ce7f637a9808074aa97497010d4b720d6b0684063b00d176b371f"), looks := false }, kinds := [], alts := [], laidByText := true, laidKinds := [.data], laidTests := true, laidLooks := .later }
def DiskSubsetUptoCardSaid : Prop := Claim7.holds Tryd.pinned (.plain (OpenSpec.upto diskSubsetSpec)) diskSubsetUptoCard

/-- THE SECOND FORM's CARD OF 'larderlaw06.DiskSeen'. -/
def diskSeenUptoCard : Claim7 := { stood := { row := diskSeenUptoRow, standIns := [], harness := (true, "b4594eea967ce7f637a9808074aa97497010d4b720d6b0684063b00d176b371f"), looks := false }, kinds := [], alts := [], laidByText := true, laidKinds := [.data], laidTests := true, laidLooks := .later }
def DiskSeenUptoCardSaid : Prop := Claim7.holds Tryd.pinned (.plain (OpenSpec.upto diskSeenSpec)) diskSeenUptoCard

/-- THE SECOND FORM's CARD OF 'larderlaw06.DiskBack'. -/
def diskBackUptoCard : Claim7 := { stood := { row := diskBackUptoRow, standIns := [], harness := (true, "b4594eea967ce7f637a9808074aa97497010d4b720d6b0684063b00d176b371f"), looks := false }, kinds := [], alts := [], laidByText := true, laidKinds := [.data], laidTests := true, laidLooks := .later }
def DiskBackUptoCardSaid : Prop := Claim7.holds Tryd.pinned (.plain (OpenSpec.upto diskBackSpec)) diskBackUptoCard

/-- THE SECOND FORM's CARD OF 'larderlaw06.DiskStays'. -/
def diskStaysUptoCard : Claim7 := { stood := { row := diskStaysUptoRow, standIns := [], harness := (true, "b4594eea967ce7f637a9808074aa97497010d4b720d6b0684063b00d176b371f"), looks := false }, kinds := [], alts := [], laidByText := true, laidKinds := [.data], laidTests := true, laidLooks := .later }
def DiskStaysUptoCardSaid : Prop := Claim7.holds Tryd.pinned (.plain (OpenSpec.upto diskStaysSpec)) diskStaysUptoCard

/-- THE SECOND FORM's CARD OF 'larderlaw06.DiskAll'. -/
def diskAllUptoCard : Claim7 := { stood := { row := diskAllUptoRow, standIns := [], harness := (true, "b4594eea967ce7f637a9808074aa97497010d4b720d6b0684063b00d176b371f"), looks := false }, kinds := [], alts := [], laidByText := true, laidKinds := [.data], laidTests := true, laidLooks := .later }
def DiskAllUptoCardSaid : Prop := Claim7.holds Tryd.pinned (.plain (OpenSpec.upto diskAllSpec)) diskAllUptoCard

/-- THE SECOND FORM's CARD OF 'larderlaw06.DiskPlays'. -/
def diskPlaysUptoCard : Claim7 := { stood := { row := diskPlaysUptoRow, standIns := [], harness := (true, "b4594eea967ce7f637a9808074aa97497010d4b720d6b0684063b00d176b371f"), looks := false }, kinds := [], alts := [], laidByText := true, laidKinds := [.data], laidTests := true, laidLooks := .later }
def DiskPlaysUptoCardSaid : Prop := Claim7.holds Tryd.pinned (.plain (OpenSpec.upto diskPlaysSpec)) diskPlaysUptoCard

/-- THE SECOND FORM's CARD OF 'larderlaw06.DiskOwn'. -/
def diskOwnUptoCard : Claim7 := { stood := { row := diskOwnUptoRow, standIns := [], harness := (true, "b4594eea967ce7f637a9808074aa97497010d4b720d6b0684063b00d176b371f"), looks := false }, kinds := [], alts := [], laidByText := true, laidKinds := [.data], laidTests := true, laidLooks := .later }
def DiskOwnUptoCardSaid : Prop := Claim7.holds Tryd.pinned (.plain (OpenSpec.upto diskOwnSpec)) diskOwnUptoCard

/-- THE SECOND FORM's CARD OF 'larderlaw06.DiskNil'. -/
def diskNilUptoCard : Claim7 := { stood := { row := diskNilUptoRow, standIns := [], harness := (true, "b4594eea967ce7f637a9808074aa97497010d4b720d6b0684063b00d176b371f"), looks := false }, kinds := [], alts := [], laidByText := true, laidKinds := [.data], laidTests := true, laidLooks := .later }
def DiskNilUptoCardSaid : Prop := Claim7.holds Tryd.pinned (.plain (OpenSpec.upto diskNilSpec)) diskNilUptoCard
end Rows
end Go.Proofs.YtpaonoaedjkekaaDoor
