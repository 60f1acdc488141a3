/-
  DERIVED. GIVEN WITH THE SEED: THE CARDS: each row of YtojdiklegmhakaaDoorRows.lean that lists a variable, with what it lists TIED to the program's text (the seventh form; the later family's looks); each row that meets fmt, with fmt's text TOLD by the authors' own Lean function (tested against real Go, not proved from fmt's source: count such statements apart). THE CARD IS WHAT COUNTS. Prove the row's statement (the work); the ties are given (YtojdiklegmhakaaDoorTie.lean); close each card by the builder's one call (the guide's Derived/Test/ToyasCard.lean, 'card_holds'). Laid BY PROGRAM, IN A SANDBOX (cutbox-door.mjs). By AI agents, Wed Nov 11 2026. No macro, syntax, notation, axiom, sorry.
-/
import Derived.Test.YtojdiklegmhakaaDoorRows
import GoSem.ClaimSeven
namespace Go.Proofs.YtojdiklegmhakaaDoor
namespace Rows

/-- THE TIED CARD OF 'monikerlaw36.UrnTexts'. -/
def urnTextsCard : Claim7 := { stood := { row := urnTextsRow, standIns := [], harness := (true, "86a76368d88a34b31695fb64ba551564edfd03f32ddd667126740b71d22d155f"), looks := false }, kinds := [], alts := [], laidByText := true, laidKinds := [.data, .pinned], laidTests := true, laidLooks := .later }
def UrnTextsCardSaid : Prop := Claim7.holds Tryd.pinned (.plain (OpenSpec.ofChange urnTextsSpec)) urnTextsCard

/-- THE SECOND FORM's CARD OF 'monikerlaw36.UrnTexts'. -/
def urnTextsUptoCard : Claim7 := { stood := { row := urnTextsUptoRow, standIns := [], harness := (true, "86a76368d88a34b31695fb64ba551564edfd03f32ddd667126740b71d22d155f"), looks := false }, kinds := [], alts := [], laidByText := true, laidKinds := [.data, .pinned], laidTests := true, laidLooks := .later }
def UrnTextsUptoCardSaid : Prop := Claim7.holds Tryd.pinned (.plain (OpenSpec.upto urnTextsSpec)) urnTextsUptoCard
end Rows
end Go.Proofs.YtojdiklegmhakaaDoor
