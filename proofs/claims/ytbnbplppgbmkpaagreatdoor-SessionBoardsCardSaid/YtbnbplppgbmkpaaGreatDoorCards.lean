/-
  DERIVED. GIVEN WITH THE SEED: THE CARDS: each row of YtbnbplppgbmkpaaGreatDoorRows.lean that lists a variable, with what it lists TIED to the program's text (the seventh form; the later family's looks); each row that meets fmt, with fmt's text TOLD by the authors' own Lean function (tested against real Go, not proved from fmt's source: count such statements apart). THE CARD IS WHAT COUNTS. Prove the row's statement (the work); the ties are given (YtbnbplppgbmkpaaGreatDoorTie.lean); close each card by the builder's one call (the guide's Derived/Test/ToyasCard.lean, 'card_holds'). Laid BY PROGRAM, IN A SANDBOX (cutbox-door.mjs). By AI agents, Wed Nov 11 2026. No macro, syntax, notation, axiom, sorry.
-/
import Derived.Test.YtbnbplppgbmkpaaGreatDoorRows
import GoSem.ClaimSeven
namespace Go.Proofs.YtbnbplppgbmkpaaGreatDoor
namespace Rows

/-- THE TIED CARD OF 'groatlaw13.SessionSeals'. -/
def sessionSealsCard : Claim7 := { stood := { row := sessionSealsRow, standIns := [], harness := (true, "f12f996de4b76843c4166bea8106565126582eca7a8f798ababf69aebcce40f7"), looks := true }, kinds := [], alts := [], laidByText := true, laidKinds := [.data, .data, .data, .data, .handle, .widerDeep, .widerDeep, .wider], laidTests := true, laidLooks := .later }
def SessionSealsCardSaid : Prop := Claim7.holds Tryz.pinned (.plain (OpenSpec.ofChange sessionSealsSpec)) sessionSealsCard

/-- THE TIED CARD OF 'groatlaw13.SessionHolds'. -/
def sessionHoldsCard : Claim7 := { stood := { row := sessionHoldsRow, standIns := [], harness := (true, "f12f996de4b76843c4166bea8106565126582eca7a8f798ababf69aebcce40f7"), looks := true }, kinds := [], alts := [], laidByText := true, laidKinds := [.data, .data, .data, .data, .handle, .widerDeep, .widerDeep, .wider], laidTests := true, laidLooks := .later }
def SessionHoldsCardSaid : Prop := Claim7.holds Tryz.pinned (.plain (OpenSpec.ofChange sessionHoldsSpec)) sessionHoldsCard

/-- THE TIED CARD OF 'groatlaw13.SessionAgain'. -/
def sessionAgainCard : Claim7 := { stood := { row := sessionAgainRow, standIns := [], harness := (true, "f12f996de4b76843c4166bea8106565126582eca7a8f798ababf69aebcce40f7"), looks := true }, kinds := [], alts := [], laidByText := true, laidKinds := [.data, .data, .data, .data, .handle, .widerDeep, .widerDeep, .wider], laidTests := true, laidLooks := .later }
def SessionAgainCardSaid : Prop := Claim7.holds Tryz.pinned (.plain (OpenSpec.ofChange sessionAgainSpec)) sessionAgainCard

/-- THE TIED CARD OF 'groatlaw13.SessionBoards'. -/
def sessionBoardsCard : Claim7 := { stood := { row := sessionBoardsRow, standIns := [], harness := (true, "f12f996de4b76843c4166bea8106565126582eca7a8f798ababf69aebcce40f7"), looks := true }, kinds := [], alts := [], laidByText := true, laidKinds := [.data, .data, .data, .data, .handle, .widerDeep, .widerDeep, .wider], laidTests := true, laidLooks := .later }
def SessionBoardsCardSaid : Prop := Claim7.holds Tryz.pinned (.plain (OpenSpec.ofChange sessionBoardsSpec)) sessionBoardsCard

/-- THE SECOND FORM's CARD OF 'groatlaw13.SessionSeals'. -/
def sessionSealsUptoCard : Claim7 := { stood := { row := sessionSealsUptoRow, standIns := [], harness := (true, "f12f996de4b76843c4166bea8106565126582eca7a8f798ababf69aebcce40f7"), looks := true }, kinds := [], alts := [], laidByText := true, laidKinds := [.data, .data, .data, .data, .handle, .widerDeep, .widerDeep, .wider], laidTests := true, laidLooks := .later }
def SessionSealsUptoCardSaid : Prop := Claim7.holds Tryz.pinned (.plain (OpenSpec.upto sessionSealsSpec)) sessionSealsUptoCard

/-- THE SECOND FORM's CARD OF 'groatlaw13.SessionHolds'. -/
def sessionHoldsUptoCard : Claim7 := { stood := { row := sessionHoldsUptoRow, standIns := [], harness := (true, "f12f996de4b76843c4166bea8106565126582eca7a8f798ababf69aebcce40f7"), looks := true }, kinds := [], alts := [], laidByText := true, laidKinds := [.data, .data, .data, .data, .handle, .widerDeep, .widerDeep, .wider], laidTests := true, laidLooks := .later }
def SessionHoldsUptoCardSaid : Prop := Claim7.holds Tryz.pinned (.plain (OpenSpec.upto sessionHoldsSpec)) sessionHoldsUptoCard

/-- THE SECOND FORM's CARD OF 'groatlaw13.SessionAgain'. -/
def sessionAgainUptoCard : Claim7 := { stood := { row := sessionAgainUptoRow, standIns := [], harness := (true, "f12f996de4b76843c4166bea8106565126582eca7a8f798ababf69aebcce40f7"), looks := true }, kinds := [], alts := [], laidByText := true, laidKinds := [.data, .data, .data, .data, .handle, .widerDeep, .widerDeep, .wider], laidTests := true, laidLooks := .later }
def SessionAgainUptoCardSaid : Prop := Claim7.holds Tryz.pinned (.plain (OpenSpec.upto sessionAgainSpec)) sessionAgainUptoCard

/-- THE SECOND FORM's CARD OF 'groatlaw13.SessionBoards'. -/
def sessionBoardsUptoCard : Claim7 := { stood := { row := sessionBoardsUptoRow, standIns := [], harness := (true, "f12f996de4b76843c4166bea8106565126582eca7a8f798ababf69aebcce40f7"), looks := true }, kinds := [], alts := [], laidByText := true, laidKinds := [.data, .data, .data, .data, .handle, .widerDeep, .widerDeep, .wider], laidTests := true, laidLooks := .later }
def SessionBoardsUptoCardSaid : Prop := Claim7.holds Tryz.pinned (.plain (OpenSpec.upto sessionBoardsSpec)) sessionBoardsUptoCard
end Rows
end Go.Proofs.YtbnbplppgbmkpaaGreatDoor
