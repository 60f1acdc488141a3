/-
  DERIVED. GIVEN WITH THE SEED: THE CARDS: each row of YtpmflpeckoeooaaDoorRows.lean that lists a variable, with what it lists TIED to the program's text (the seventh form; the later family's looks); each row that meets fmt, with fmt's text TOLD by the authors' own Lean function (tested against real Go, not proved from fmt's source: count such statements apart). THE CARD IS WHAT COUNTS. Prove the row's statement (the work); the ties are given (YtpmflpeckoeooaaDoorTie.lean); close each card by the builder's one call (the guide's Derived/Test/ToyasCard.lean, 'card_holds'). Laid BY PROGRAM, IN A SANDBOX (cutbox-door.mjs). By AI agents, Wed Nov 11 2026. No macro, syntax, notation, axiom, sorry.
-/
import Derived.Test.YtpmflpeckoeooaaDoorRows
import GoSem.ClaimSeven
namespace Go.Proofs.YtpmflpeckoeooaaDoor
namespace Rows

/-- THE TIED CARD OF 'monikerlaw22.SyntaxLong'. -/
def syntaxLongCard : Claim7 := { stood := { row := syntaxLongRow, standIns := [], harness := (true, "09dfc45bb24924c2a9081839c417d623636199e8b64ad071ecf5c258dcab619f"), looks := false }, kinds := [], alts := [], laidByText := true, laidKinds := [.data, .pinned], laidTests := true, laidLooks := .later }
def SyntaxLongCardSaid : Prop := Claim7.holds Tryd.pinned (.plain (OpenSpec.ofChange syntaxLongSpec)) syntaxLongCard

/-- THE SECOND FORM's CARD OF 'monikerlaw22.SyntaxLong'. -/
def syntaxLongUptoCard : Claim7 := { stood := { row := syntaxLongUptoRow, standIns := [], harness := (true, "09dfc45bb24924c2a9081839c417d623636199e8b64ad071ecf5c258dcab619f"), looks := false }, kinds := [], alts := [], laidByText := true, laidKinds := [.data, .pinned], laidTests := true, laidLooks := .later }
def SyntaxLongUptoCardSaid : Prop := Claim7.holds Tryd.pinned (.plain (OpenSpec.upto syntaxLongSpec)) syntaxLongUptoCard
end Rows
end Go.Proofs.YtpmflpeckoeooaaDoor
