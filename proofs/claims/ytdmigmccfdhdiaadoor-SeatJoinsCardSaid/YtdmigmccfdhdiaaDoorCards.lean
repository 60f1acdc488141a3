/-
  DERIVED. GIVEN WITH THE SEED: THE CARDS: each row of YtdmigmccfdhdiaaDoorRows.lean that lists a variable, with what it lists TIED to the program's text (the seventh form; the later family's looks); each row that meets fmt, with fmt's text TOLD by the authors' own Lean function (tested against real Go, not proved from fmt's source: count such statements apart). THE CARD IS WHAT COUNTS. Prove the row's statement (the work); the ties are given (YtdmigmccfdhdiaaDoorTie.lean); close each card by the builder's one call (the guide's Derived/Test/ToyasCard.lean, 'card_holds'). Laid BY PROGRAM, IN A SANDBOX (cutbox-door.mjs). By AI agents, Wed Nov 11 2026. No macro, syntax, notation, axiom, sorry.
-/
import Derived.Test.YtdmigmccfdhdiaaDoorRows
import GoSem.ClaimSeven
namespace Go.Proofs.YtdmigmccfdhdiaaDoor
namespace Rows

/-- THE TIED CARD OF 'monikerlaw21.SeatOne'. -/
def seatOneCard : Claim7 := { stood := { row := seatOneRow, standIns := [], harness := (true, "4e3fcdb1dc8d1eb2dcc59c03dbf4b85962b1dd9e5bdcac0a2c13bc1bfed34126"), looks := false }, kinds := [], alts := [], laidByText := true, laidKinds := [.data, .pinned], laidTests := true, laidLooks := .later }
def SeatOneCardSaid : Prop := Claim7.holds Tryd.pinned (.plain (OpenSpec.ofChange seatOneSpec)) seatOneCard

/-- THE TIED CARD OF 'monikerlaw21.SeatJoins'. -/
def seatJoinsCard : Claim7 := { stood := { row := seatJoinsRow, standIns := [], harness := (true, "4e3fcdb1dc8d1eb2dcc59c03dbf4b85962b1dd9e5bdcac0a2c13bc1bfed34126"), looks := false }, kinds := [], alts := [], laidByText := true, laidKinds := [.data, .pinned], laidTests := true, laidLooks := .later }
def SeatJoinsCardSaid : Prop := Claim7.holds Tryd.pinned (.plain (OpenSpec.ofChange seatJoinsSpec)) seatJoinsCard

/-- THE SECOND FORM's CARD OF 'monikerlaw21.SeatOne'. -/
def seatOneUptoCard : Claim7 := { stood := { row := seatOneUptoRow, standIns := [], harness := (true, "4e3fcdb1dc8d1eb2dcc59c03dbf4b85962b1dd9e5bdcac0a2c13bc1bfed34126"), looks := false }, kinds := [], alts := [], laidByText := true, laidKinds := [.data, .pinned], laidTests := true, laidLooks := .later }
def SeatOneUptoCardSaid : Prop := Claim7.holds Tryd.pinned (.plain (OpenSpec.upto seatOneSpec)) seatOneUptoCard

/-- THE SECOND FORM's CARD OF 'monikerlaw21.SeatJoins'. -/
def seatJoinsUptoCard : Claim7 := { stood := { row := seatJoinsUptoRow, standIns := [], harness := (true, "4e3fcdb1dc8d1eb2dcc59c03dbf4b85962b1dd9e5bdcac0a2c13bc1bfed34126"), looks := false }, kinds := [], alts := [], laidByText := true, laidKinds := [.data, .pinned], laidTests := true, laidLooks := .later }
def SeatJoinsUptoCardSaid : Prop := Claim7.holds Tryd.pinned (.plain (OpenSpec.upto seatJoinsSpec)) seatJoinsUptoCard
end Rows
end Go.Proofs.YtdmigmccfdhdiaaDoor
