/-
  DERIVED. GIVEN WITH THE SEED: THE CARDS: each row of YtegalamdbbjfoaaDoorRows.lean that lists a variable, with what it lists TIED to the program's text (the seventh form; the later family's looks); each row that meets fmt, with fmt's text TOLD by the authors' own Lean function (tested against real Go, not proved from fmt's source: count such statements apart). THE CARD IS WHAT COUNTS. Prove the row's statement (the work); the ties are given (YtegalamdbbjfoaaDoorTie.lean); close each card by the builder's one call (the guide's Derived/Test/ToyasCard.lean, 'card_holds'). Laid BY PROGRAM, IN A SANDBOX (cutbox-door.mjs). By AI agents, Wed Nov 11 2026. No macro, syntax, notation, axiom, sorry.
-/
import Derived.Test.YtegalamdbbjfoaaDoorRows
import GoSem.ClaimSeven
namespace Go.Proofs.YtegalamdbbjfoaaDoor
namespace Rows

/-- THE TIED CARD OF 'groatlaw21.ConsoleReads'. -/
def consoleReadsCard : Claim7 := { stood := { row := consoleReadsRow, standIns := [], harness := (true, "43a9dbea621af2cfe0ea0e3c5109f3224150c73be3799cd60af6595f4ad3cc77"), looks := true }, kinds := [], alts := [], laidByText := true, laidKinds := [.data, .data, .data, .data, .pinned], laidTests := true, laidLooks := .later }
def ConsoleReadsCardSaid : Prop := Claim7.holds Tryd.pinned (.plain (OpenSpec.ofChange consoleReadsSpec)) consoleReadsCard

/-- THE TIED CARD OF 'groatlaw21.ConsoleWrites'. -/
def consoleWritesCard : Claim7 := { stood := { row := consoleWritesRow, standIns := [], harness := (true, "43a9dbea621af2cfe0ea0e3c5109f3224150c73be3799cd60af6595f4ad3cc77"), looks := true }, kinds := [], alts := [], laidByText := true, laidKinds := [.data, .data, .data, .data, .pinned], laidTests := true, laidLooks := .later }
def ConsoleWritesCardSaid : Prop := Claim7.holds Tryd.pinned (.plain (OpenSpec.ofChange consoleWritesSpec)) consoleWritesCard

/-- THE TIED CARD OF 'groatlaw21.ConsoleSays'. -/
def consoleSaysCard : Claim7 := { stood := { row := consoleSaysRow, standIns := [], harness := (true, "43a9dbea621af2cfe0ea0e3c5109f3224150c73be3799cd60af6595f4ad3cc77"), looks := true }, kinds := [], alts := [], laidByText := true, laidKinds := [.data, .data, .data, .data, .pinned], laidTests := true, laidLooks := .later }
def ConsoleSaysCardSaid : Prop := Claim7.holds Tryd.pinned (.plain (OpenSpec.ofChange consoleSaysSpec)) consoleSaysCard

/-- THE TIED CARD OF 'groatlaw21.ConsoleOne'. -/
def consoleOneCard : Claim7 := { stood := { row := consoleOneRow, standIns := [], harness := (true, "43a9dbea621af2cfe0ea0e3c5109f3224150c73be3799cd60af6595f4ad3cc77"), looks := true }, kinds := [], alts := [], laidByText := true, laidKinds := [.data, .data, .data, .data, .pinned], laidTests := true, laidLooks := .later }
def ConsoleOneCardSaid : Prop := Claim7.holds Tryd.pinned (.plain (OpenSpec.ofChange consoleOneSpec)) consoleOneCard

/-- THE SECOND FORM's CARD OF 'groatlaw21.ConsoleReads'. -/
def consoleReadsUptoCard : Claim7 := { stood := { row := consoleReadsUptoRow, standIns := [], harness := (true, "43a9dbea621af2cfe0ea0e3c5109f3224150c73be3799cd60af6595f4ad3cc77"), looks := true }, kinds := [], alts := [], laidByText := true, laidKinds := [.data, .data, .data, .data, .pinned], laidTests := true, laidLooks := .later }
def ConsoleReadsUptoCardSaid : Prop := Claim7.holds Tryd.pinned (.plain (OpenSpec.upto consoleReadsSpec)) consoleReadsUptoCard

/-- THE SECOND FORM's CARD OF 'groatlaw21.ConsoleWrites'. -/
def consoleWritesUptoCard : Claim7 := { stood := { row := consoleWritesUptoRow, standIns := [], harness := (true, "43a9dbea621af2cfe0ea0e3c5109f3224150c73be3799cd60af6595f4ad3cc77"), looks := true }, kinds := [], alts := [], laidByText := true, laidKinds := [.data, .data, .data, .data, .pinned], laidTests := true, laidLooks := .later }
def ConsoleWritesUptoCardSaid : Prop := Claim7.holds Tryd.pinned (.plain (OpenSpec.upto consoleWritesSpec)) consoleWritesUptoCard

/-- THE SECOND FORM's CARD OF 'groatlaw21.ConsoleSays'. -/
def consoleSaysUptoCard : Claim7 := { stood := { row := consoleSaysUptoRow, standIns := [], harness := (true, "43a9dbea621af2cfe0ea0e3c5109f3224150c73be3799cd60af6595f4ad3cc77"), looks := true }, kinds := [], alts := [], laidByText := true, laidKinds := [.data, .data, .data, .data, .pinned], laidTests := true, laidLooks := .later }
def ConsoleSaysUptoCardSaid : Prop := Claim7.holds Tryd.pinned (.plain (OpenSpec.upto consoleSaysSpec)) consoleSaysUptoCard

/-- THE SECOND FORM's CARD OF 'groatlaw21.ConsoleOne'. -/
def consoleOneUptoCard : Claim7 := { stood := { row := consoleOneUptoRow, standIns := [], harness := (true, "43a9dbea621af2cfe0ea0e3c5109f3224150c73be3799cd60af6595f4ad3cc77"), looks := true }, kinds := [], alts := [], laidByText := true, laidKinds := [.data, .data, .data, .data, .pinned], laidTests := true, laidLooks := .later }
def ConsoleOneUptoCardSaid : Prop := Claim7.holds Tryd.pinned (.plain (OpenSpec.upto consoleOneSpec)) consoleOneUptoCard
end Rows
end Go.Proofs.YtegalamdbbjfoaaDoor
