/-
  DERIVED. GIVEN WITH THE SEED: THE CARDS: each row of YtpmflpeckoeooaaGreatDoorRows.lean that lists a variable, with what it lists TIED to the program's text (the seventh form; the later family's looks); each row that meets fmt, with fmt's text TOLD by the authors' own Lean function (tested against real Go, not proved from fmt's source: count such statements apart). THE CARD IS WHAT COUNTS. Prove the row's statement (the work); the ties are given (YtpmflpeckoeooaaGreatDoorTie.lean); close each card by the builder's one call (the guide's Derived/Test/ToyasCard.lean, 'card_holds'). Laid BY PROGRAM, IN A SANDBOX (cutbox-door.mjs). By AI agents, Wed Nov 11 2026. No macro, syntax, notation, axiom, sorry.
-/
import Derived.Test.YtpmflpeckoeooaaGreatDoorRows
import GoSem.ClaimSeven
namespace Go.Proofs.YtpmflpeckoeooaaGreatDoor
namespace Rows

/-- THE TIED CARD OF 'monikerlaw22.SyntaxOne'. -/
def syntaxOneCard : Claim7 := { stood := { row := syntaxOneRow, standIns := [], harness := (true, "c13274d8940e972cc02224f3116da0ec1b9fcd00f4f98abdcf1d21ac7a9ec652"), looks := false }, kinds := [], alts := [], laidByText := true, laidKinds := [.data, .pinned], laidTests := true, laidLooks := .later }
def SyntaxOneCardSaid : Prop := Claim7.holds Tryz.pinned (.plain (OpenSpec.ofChange syntaxOneSpec)) syntaxOneCard

/-- THE TIED CARD OF 'monikerlaw22.SyntaxKinds'. -/
def syntaxKindsCard : Claim7 := { stood := { row := syntaxKindsRow, standIns := [], harness := (true, "c13274d8940e972cc02224f3116da0ec1b9fcd00f4f98abdcf1d21ac7a9ec652"), looks := false }, kinds := [], alts := [], laidByText := true, laidKinds := [.data, .pinned], laidTests := true, laidLooks := .later }
def SyntaxKindsCardSaid : Prop := Claim7.holds Tryz.pinned (.plain (OpenSpec.ofChange syntaxKindsSpec)) syntaxKindsCard

/-- THE TIED CARD OF 'monikerlaw22.SyntaxParses'. -/
def syntaxParsesCard : Claim7 := { stood := { row := syntaxParsesRow, standIns := [], harness := (true, "c13274d8940e972cc02224f3116da0ec1b9fcd00f4f98abdcf1d21ac7a9ec652"), looks := false }, kinds := [], alts := [], laidByText := true, laidKinds := [.data, .pinned], laidTests := true, laidLooks := .later }
def SyntaxParsesCardSaid : Prop := Claim7.holds Tryz.pinned (.plain (OpenSpec.ofChange syntaxParsesSpec)) syntaxParsesCard

/-- THE SECOND FORM's CARD OF 'monikerlaw22.SyntaxOne'. -/
def syntaxOneUptoCard : Claim7 := { stood := { row := syntaxOneUptoRow, standIns := [], harness := (true, "c13274d8940e972cc02224f3116da0ec1b9fcd00f4f98abdcf1d21ac7a9ec652"), looks := false }, kinds := [], alts := [], laidByText := true, laidKinds := [.data, .pinned], laidTests := true, laidLooks := .later }
def SyntaxOneUptoCardSaid : Prop := Claim7.holds Tryz.pinned (.plain (OpenSpec.upto syntaxOneSpec)) syntaxOneUptoCard

/-- THE SECOND FORM's CARD OF 'monikerlaw22.SyntaxKinds'. -/
def syntaxKindsUptoCard : Claim7 := { stood := { row := syntaxKindsUptoRow, standIns := [], harness := (true, "c13274d8940e972cc02224f3116da0ec1b9fcd00f4f98abdcf1d21ac7a9ec652"), looks := false }, kinds := [], alts := [], laidByText := true, laidKinds := [.data, .pinned], laidTests := true, laidLooks := .later }
def SyntaxKindsUptoCardSaid : Prop := Claim7.holds Tryz.pinned (.plain (OpenSpec.upto syntaxKindsSpec)) syntaxKindsUptoCard

/-- THE SECOND FORM's CARD OF 'monikerlaw22.SyntaxParses'. -/
def syntaxParsesUptoCard : Claim7 := { stood := { row := syntaxParsesUptoRow, standIns := [], harness := (true, "c13274d8940e972cc02224f3116da0ec1b9fcd00f4f98abdcf1d21ac7a9ec652"), looks := false }, kinds := [], alts := [], laidByText := true, laidKinds := [.data, .pinned], laidTests := true, laidLooks := .later }
def SyntaxParsesUptoCardSaid : Prop := Claim7.holds Tryz.pinned (.plain (OpenSpec.upto syntaxParsesSpec)) syntaxParsesUptoCard
end Rows
end Go.Proofs.YtpmflpeckoeooaaGreatDoor
