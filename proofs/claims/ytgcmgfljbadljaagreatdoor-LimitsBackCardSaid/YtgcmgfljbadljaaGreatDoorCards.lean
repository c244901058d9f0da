/-
  DERIVED. GIVEN WITH THE SEED: THE CARDS: each row of YtgcmgfljbadljaaGreatDoorRows.lean that lists a variable, with what it lists TIED to the program's text (the seventh form; the later family's looks); each row that meets fmt, with fmt's text TOLD by the authors' own Lean function (tested against real Go, not proved from fmt's source: count such statements apart). THE CARD IS WHAT COUNTS. Prove the row's statement (the work); the ties are given (YtgcmgfljbadljaaGreatDoorTie.lean); close each card by the builder's one call (the guide's Derived/Test/ToyasCard.lean, 'card_holds'). Laid BY PROGRAM, IN A SANDBOX (cutbox-door.mjs). By AI agents, Wed Nov 11 2026. No macro, syntax, notation, axiom, sorry.
-/
import Derived.Test.YtgcmgfljbadljaaGreatDoorRows
import GoSem.ClaimSeven
namespace Go.Proofs.YtgcmgfljbadljaaGreatDoor
namespace Rows

/-- THE TIED CARD OF 'joustlaw30.LimitsFewer'. -/
def limitsFewerCard : Claim7 := { stood := { row := limitsFewerRow, standIns := [], harness := (true, "3347b23be6594bc4c98c007b0809a76d25438dacf31a6abae8c5066528a18d55"), looks := true }, kinds := [], alts := [], laidByText := true, laidKinds := [.data, .data, .data, .data, .sentinel, .sentinel, .data, .pinned, .pinned], laidTests := true, laidLooks := .later }
def LimitsFewerCardSaid : Prop := Claim7.holds Tryz.pinned (.plain (OpenSpec.ofChange limitsFewerSpec)) limitsFewerCard

/-- THE TIED CARD OF 'joustlaw30.LimitsWider'. -/
def limitsWiderCard : Claim7 := { stood := { row := limitsWiderRow, standIns := [], harness := (true, "3347b23be6594bc4c98c007b0809a76d25438dacf31a6abae8c5066528a18d55"), looks := true }, kinds := [], alts := [], laidByText := true, laidKinds := [.data, .data, .data, .data, .sentinel, .sentinel, .data, .pinned, .pinned], laidTests := true, laidLooks := .later }
def LimitsWiderCardSaid : Prop := Claim7.holds Tryz.pinned (.plain (OpenSpec.ofChange limitsWiderSpec)) limitsWiderCard

/-- THE TIED CARD OF 'joustlaw30.LimitsBest'. -/
def limitsBestCard : Claim7 := { stood := { row := limitsBestRow, standIns := [], harness := (true, "3347b23be6594bc4c98c007b0809a76d25438dacf31a6abae8c5066528a18d55"), looks := true }, kinds := [], alts := [], laidByText := true, laidKinds := [.data, .data, .data, .data, .sentinel, .sentinel, .data, .pinned, .pinned], laidTests := true, laidLooks := .later }
def LimitsBestCardSaid : Prop := Claim7.holds Tryz.pinned (.plain (OpenSpec.ofChange limitsBestSpec)) limitsBestCard

/-- THE TIED CARD OF 'joustlaw30.LimitsTells'. -/
def limitsTellsCard : Claim7 := { stood := { row := limitsTellsRow, standIns := [], harness := (true, "3347b23be6594bc4c98c007b0809a76d25438dacf31a6abae8c5066528a18d55"), looks := true }, kinds := [], alts := [], laidByText := true, laidKinds := [.data, .data, .data, .data, .sentinel, .sentinel, .data, .pinned, .pinned], laidTests := true, laidLooks := .later }
def LimitsTellsCardSaid : Prop := Claim7.holds Tryz.pinned (.plain (OpenSpec.ofChange limitsTellsSpec)) limitsTellsCard

/-- THE TIED CARD OF 'joustlaw30.LimitsBack'. -/
def limitsBackCard : Claim7 := { stood := { row := limitsBackRow, standIns := [], harness := (true, "3347b23be6594bc4c98c007b0809a76d25438dacf31a6abae8c5066528a18d55"), looks := true }, kinds := [], alts := [], laidByText := true, laidKinds := [.data, .data, .data, .data, .sentinel, .sentinel, .data, .pinned, .pinned], laidTests := true, laidLooks := .later }
def LimitsBackCardSaid : Prop := Claim7.holds Tryz.pinned (.plain (OpenSpec.ofChange limitsBackSpec)) limitsBackCard

/-- THE SECOND FORM's CARD OF 'joustlaw30.LimitsFewer'. -/
def limitsFewerUptoCard : Claim7 := { stood := { row := limitsFewerUptoRow, standIns := [], harness := (true, "3347b23be6594bc4c98c007b0809a76d25438dacf31a6abae8c5066528a18d55"), looks := true }, kinds := [], alts := [], laidByText := true, laidKinds := [.data, .data, .data, .data, .sentinel, .sentinel, .data, .pinned, .pinned], laidTests := true, laidLooks := .later }
def LimitsFewerUptoCardSaid : Prop := Claim7.holds Tryz.pinned (.plain (OpenSpec.upto limitsFewerSpec)) limitsFewerUptoCard

/-- THE SECOND FORM's CARD OF 'joustlaw30.LimitsWider'. -/
def limitsWiderUptoCard : Claim7 := { stood := { row := limitsWiderUptoRow, standIns := [], harness := (true, "3347b23be6594bc4c98c007b0809a76d25438dacf31a6abae8c5066528a18d55"), looks := true }, kinds := [], alts := [], laidByText := true, laidKinds := [.data, .data, .data, .data, .sentinel, .sentinel, .data, .pinned, .pinned], laidTests := true, laidLooks := .later }
def LimitsWiderUptoCardSaid : Prop := Claim7.holds Tryz.pinned (.plain (OpenSpec.upto limitsWiderSpec)) limitsWiderUptoCard

/-- THE SECOND FORM's CARD OF 'joustlaw30.LimitsBest'. -/
def limitsBestUptoCard : Claim7 := { stood := { row := limitsBestUptoRow, standIns := [], harness := (true, "3347b23be6594bc4c98c007b0809a76d25438dacf31a6abae8c5066528a18d55"), looks := true }, kinds := [], alts := [], laidByText := true, laidKinds := [.data, .data, .data, .data, .sentinel, .sentinel, .data, .pinned, .pinned], laidTests := true, laidLooks := .later }
def LimitsBestUptoCardSaid : Prop := Claim7.holds Tryz.pinned (.plain (OpenSpec.upto limitsBestSpec)) limitsBestUptoCard

/-- THE SECOND FORM's CARD OF 'joustlaw30.LimitsTells'. -/
def limitsTellsUptoCard : Claim7 := { stood := { row := limitsTellsUptoRow, standIns := [], harness := (true, "3347b23be6594bc4c98c007b0809a76d25438dacf31a6abae8c5066528a18d55"), looks := true }, kinds := [], alts := [], laidByText := true, laidKinds := [.data, .data, .data, .data, .sentinel, .sentinel, .data, .pinned, .pinned], laidTests := true, laidLooks := .later }
def LimitsTellsUptoCardSaid : Prop := Claim7.holds Tryz.pinned (.plain (OpenSpec.upto limitsTellsSpec)) limitsTellsUptoCard

/-- THE SECOND FORM's CARD OF 'joustlaw30.LimitsBack'. -/
def limitsBackUptoCard : Claim7 := { stood := { row := limitsBackUptoRow, standIns := [], harness := (true, "3347b23be6594bc4c98c007b0809a76d25438dacf31a6abae8c5066528a18d55"), looks := true }, kinds := [], alts := [], laidByText := true, laidKinds := [.data, .data, .data, .data, .sentinel, .sentinel, .data, .pinned, .pinned], laidTests := true, laidLooks := .later }
def LimitsBackUptoCardSaid : Prop := Claim7.holds Tryz.pinned (.plain (OpenSpec.upto limitsBackSpec)) limitsBackUptoCard
end Rows
end Go.Proofs.YtgcmgfljbadljaaGreatDoor
