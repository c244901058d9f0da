/-
  DERIVED. GIVEN WITH THE SEED: THE CARDS: each row of YtgalbiokebghkaaDoorRows.lean that lists a variable, with what it lists TIED to the program's text (the seventh form; the later family's looks); each row that meets fmt, with fmt's text TOLD by the authors' own Lean function (tested against real Go, not proved from fmt's source: count such statements apart). THE CARD IS WHAT COUNTS. Prove the row's statement (the work); the ties are given (YtgalbiokebghkaaDoorTie.lean); close each card by the builder's one call (the guide's Derived/Test/ToyasCard.lean, 'card_holds'). Laid BY PROGRAM, IN A SANDBOX (cutbox-door.mjs). By AI agents, Wed Nov 11 2026. No macro, syntax, notation, axiom, sorry.
-/
import Derived.Test.YtgalbiokebghkaaDoorRows
import GoSem.ClaimSeven
namespace Go.Proofs.YtgalbiokebghkaaDoor
namespace Rows

/-- THE TIED CARD OF 'joustlaw36.PuzzleTells'. -/
def puzzleTellsCard : Claim7 := { stood := { row := puzzleTellsRow, standIns := [], harness := (true, "aac4ddc08b9b65a57c79824e954169e22f70be15740db0a035f28cd90c2b0eef"), looks := true }, kinds := [], alts := [], laidByText := true, laidKinds := [.data, .data, .data, .sentinel, .sentinel, .listed, .data], laidTests := true, laidLooks := .later }
def PuzzleTellsCardSaid : Prop := Claim7.holds Tryd.pinned (.plain (OpenSpec.ofChange puzzleTellsSpec)) puzzleTellsCard

/-- THE TIED CARD OF 'joustlaw01.ScanTells'. -/
def scanTellsCard : Claim7 := { stood := { row := scanTellsRow, standIns := [], harness := (true, "aac4ddc08b9b65a57c79824e954169e22f70be15740db0a035f28cd90c2b0eef"), looks := true }, kinds := [], alts := [], laidByText := true, laidKinds := [.data, .data, .data, .data, .sentinel, .sentinel, .data, .pinned, .pinned], laidTests := true, laidLooks := .later }
def ScanTellsCardSaid : Prop := Claim7.holds Tryd.pinned (.plain (OpenSpec.ofChange scanTellsSpec)) scanTellsCard

/-- THE TIED CARD OF 'joustlaw01.ScanAgain'. -/
def scanAgainCard : Claim7 := { stood := { row := scanAgainRow, standIns := [], harness := (true, "aac4ddc08b9b65a57c79824e954169e22f70be15740db0a035f28cd90c2b0eef"), looks := true }, kinds := [], alts := [], laidByText := true, laidKinds := [.data, .data, .data, .data, .sentinel, .sentinel, .data, .pinned, .pinned], laidTests := true, laidLooks := .later }
def ScanAgainCardSaid : Prop := Claim7.holds Tryd.pinned (.plain (OpenSpec.ofChange scanAgainSpec)) scanAgainCard

/-- THE TIED CARD OF 'joustlaw01.ScanSpots'. -/
def scanSpotsCard : Claim7 := { stood := { row := scanSpotsRow, standIns := [], harness := (true, "aac4ddc08b9b65a57c79824e954169e22f70be15740db0a035f28cd90c2b0eef"), looks := true }, kinds := [], alts := [], laidByText := true, laidKinds := [.data, .data, .data, .data, .sentinel, .sentinel, .data, .pinned, .pinned], laidTests := true, laidLooks := .later }
def ScanSpotsCardSaid : Prop := Claim7.holds Tryd.pinned (.plain (OpenSpec.ofChange scanSpotsSpec)) scanSpotsCard

/-- THE SECOND FORM's CARD OF 'joustlaw36.PuzzleTells'. -/
def puzzleTellsUptoCard : Claim7 := { stood := { row := puzzleTellsUptoRow, standIns := [], harness := (true, "aac4ddc08b9b65a57c79824e954169e22f70be15740db0a035f28cd90c2b0eef"), looks := true }, kinds := [], alts := [], laidByText := true, laidKinds := [.data, .data, .data, .sentinel, .sentinel, .listed, .data], laidTests := true, laidLooks := .later }
def PuzzleTellsUptoCardSaid : Prop := Claim7.holds Tryd.pinned (.plain (OpenSpec.upto puzzleTellsSpec)) puzzleTellsUptoCard

/-- THE SECOND FORM's CARD OF 'joustlaw01.ScanTells'. -/
def scanTellsUptoCard : Claim7 := { stood := { row := scanTellsUptoRow, standIns := [], harness := (true, "aac4ddc08b9b65a57c79824e954169e22f70be15740db0a035f28cd90c2b0eef"), looks := true }, kinds := [], alts := [], laidByText := true, laidKinds := [.data, .data, .data, .data, .sentinel, .sentinel, .data, .pinned, .pinned], laidTests := true, laidLooks := .later }
def ScanTellsUptoCardSaid : Prop := Claim7.holds Tryd.pinned (.plain (OpenSpec.upto scanTellsSpec)) scanTellsUptoCard

/-- THE SECOND FORM's CARD OF 'joustlaw01.ScanAgain'. -/
def scanAgainUptoCard : Claim7 := { stood := { row := scanAgainUptoRow, standIns := [], harness := (true, "aac4ddc08b9b65a57c79824e954169e22f70be15740db0a035f28cd90c2b0eef"), looks := true }, kinds := [], alts := [], laidByText := true, laidKinds := [.data, .data, .data, .data, .sentinel, .sentinel, .data, .pinned, .pinned], laidTests := true, laidLooks := .later }
def ScanAgainUptoCardSaid : Prop := Claim7.holds Tryd.pinned (.plain (OpenSpec.upto scanAgainSpec)) scanAgainUptoCard

/-- THE SECOND FORM's CARD OF 'joustlaw01.ScanSpots'. -/
def scanSpotsUptoCard : Claim7 := { stood := { row := scanSpotsUptoRow, standIns := [], harness := (true, "aac4ddc08b9b65a57c79824e954169e22f70be15740db0a035f28cd90c2b0eef"), looks := true }, kinds := [], alts := [], laidByText := true, laidKinds := [.data, .data, .data, .data, .sentinel, .sentinel, .data, .pinned, .pinned], laidTests := true, laidLooks := .later }
def ScanSpotsUptoCardSaid : Prop := Claim7.holds Tryd.pinned (.plain (OpenSpec.upto scanSpotsSpec)) scanSpotsUptoCard
end Rows
end Go.Proofs.YtgalbiokebghkaaDoor
