/-
  DERIVED. GIVEN WITH THE SEED: THE CARDS: each row of YtbjhpjgneanphaaDoorRows.lean that lists a variable, with what it lists TIED to the program's text (the seventh form; the later family's looks); each row that meets fmt, with fmt's text TOLD by the authors' own Lean function (tested against real Go, not proved from fmt's source: count such statements apart). THE CARD IS WHAT COUNTS. Prove the row's statement (the work); the ties are given (YtbjhpjgneanphaaDoorTie.lean); close each card by the builder's one call (the guide's Derived/Test/ToyasCard.lean, 'card_holds'). Laid BY PROGRAM, IN A SANDBOX (cutbox-door.mjs). By AI agents, Wed Nov 11 2026. No macro, syntax, notation, axiom, sorry.
-/
import Derived.Test.YtbjhpjgneanphaaDoorRows
import GoSem.ClaimSeven
namespace Go.Proofs.YtbjhpjgneanphaaDoor
namespace Rows

/-- THE TIED CARD OF 'larderlaw06.DiskNil'. -/
def diskNilCard : Claim7 := { stood := { row := diskNilRow, standIns := [], harness := (true, "93bf0accdbffb86d2fdd4749cd70f68bc87857e7192045275180124780f3dfe1"), looks := true }, kinds := [], alts := [], laidByText := true, laidKinds := [.data], laidTests := true, laidLooks := .later }
def DiskNilCardSaid : Prop := Claim7.holds Tryd.pinned (.plain (OpenSpec.ofChange diskNilSpec)) diskNilCard

/-- THE TIED CARD OF 'larderlaw10.WalNil'. -/
def walNilCard : Claim7 := { stood := { row := walNilRow, standIns := [], harness := (true, "93bf0accdbffb86d2fdd4749cd70f68bc87857e7192045275180124780f3dfe1"), looks := true }, kinds := [], alts := [], laidByText := true, laidKinds := [.data], laidTests := true, laidLooks := .later }
def WalNilCardSaid : Prop := Claim7.holds Tryd.pinned (.plain (OpenSpec.ofChange walNilSpec)) walNilCard

/-- THE TIED CARD OF 'larderlaw10.WalKnown'. -/
def walKnownCard : Claim7 := { stood := { row := walKnownRow, standIns := [], harness := (true, "93bf0accdbffb86d2fdd4749cd70f68bc87857e7192045275180124780f3dfe1"), looks := true }, kinds := [], alts := [], laidByText := true, laidKinds := [.data], laidTests := true, laidLooks := .later }
def WalKnownCardSaid : Prop := Claim7.holds Tryd.pinned (.plain (OpenSpec.ofChange walKnownSpec)) walKnownCard

/-- THE SECOND FORM's CARD OF 'larderlaw06.DiskNil'. -/
def diskNilUptoCard : Claim7 := { stood := { row := diskNilUptoRow, standIns := [], harness := (true, "93bf0accdbffb86d2fdd4749cd70f68bc87857e7192045275180124780f3dfe1"), looks := true }, kinds := [], alts := [], laidByText := true, laidKinds := [.data], laidTests := true, laidLooks := .later }
def DiskNilUptoCardSaid : Prop := Claim7.holds Tryd.pinned (.plain (OpenSpec.upto diskNilSpec)) diskNilUptoCard

/-- THE SECOND FORM's CARD OF 'larderlaw10.WalNil'. -/
def walNilUptoCard : Claim7 := { stood := { row := walNilUptoRow, standIns := [], harness := (true, "93bf0accdbffb86d2fdd4749cd70f68bc87857e7192045275180124780f3dfe1"), looks := true }, kinds := [], alts := [], laidByText := true, laidKinds := [.data], laidTests := true, laidLooks := .later }
def WalNilUptoCardSaid : Prop := Claim7.holds Tryd.pinned (.plain (OpenSpec.upto walNilSpec)) walNilUptoCard

/-- THE SECOND FORM's CARD OF 'larderlaw10.WalKnown'. -/
def walKnownUptoCard : Claim7 := { stood := { row := walKnownUptoRow, standIns := [], harness := (true, "93bf0accdbffb86d2fdd4749cd70f68bc87857e7192045275180124780f3dfe1"), looks := true }, kinds := [], alts := [], laidByText := true, laidKinds := [.data], laidTests := true, laidLooks := .later }
def WalKnownUptoCardSaid : Prop := Claim7.holds Tryd.pinned (.plain (OpenSpec.upto walKnownSpec)) walKnownUptoCard
end Rows
end Go.Proofs.YtbjhpjgneanphaaDoor
