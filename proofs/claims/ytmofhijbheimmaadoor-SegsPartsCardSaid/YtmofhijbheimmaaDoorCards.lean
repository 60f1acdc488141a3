/-
  DERIVED. GIVEN WITH THE SEED: THE CARDS: each row of YtmofhijbheimmaaDoorRows.lean that lists a variable, with what it lists TIED to the program's text (the seventh form; the later family's looks); each row that meets fmt, with fmt's text TOLD by the authors' own Lean function (tested against real Go, not proved from fmt's source: count such statements apart). THE CARD IS WHAT COUNTS. Prove the row's statement (the work); the ties are given (YtmofhijbheimmaaDoorTie.lean); close each card by the builder's one call (the guide's Derived/Test/ToyasCard.lean, 'card_holds'). Laid BY PROGRAM, IN A SANDBOX (cutbox-door.mjs). By AI agents, Wed Nov 11 2026. No macro, syntax, notation, axiom, sorry.
-/
import Derived.Test.YtmofhijbheimmaaDoorRows
import GoSem.ClaimSeven
namespace Go.Proofs.YtmofhijbheimmaaDoor
namespace Rows

/-- THE TIED CARD OF 'monikerlaw31.SegsParse'. -/
def segsParseCard : Claim7 := { stood := { row := segsParseRow, standIns := [], harness := (true, "3f7d39a5ab926ca1b619745b1dc4cce3b833bc6afe0484300482d0b0087e52b6"), looks := false }, kinds := [], alts := [], laidByText := true, laidKinds := [.data, .pinned], laidTests := true, laidLooks := .later }
def SegsParseCardSaid : Prop := Claim7.holds Tryd.pinned (.plain (OpenSpec.ofChange segsParseSpec)) segsParseCard

/-- THE TIED CARD OF 'monikerlaw31.SegsTexts'. -/
def segsTextsCard : Claim7 := { stood := { row := segsTextsRow, standIns := [], harness := (true, "3f7d39a5ab926ca1b619745b1dc4cce3b833bc6afe0484300482d0b0087e52b6"), looks := false }, kinds := [], alts := [], laidByText := true, laidKinds := [.data, .pinned], laidTests := true, laidLooks := .later }
def SegsTextsCardSaid : Prop := Claim7.holds Tryd.pinned (.plain (OpenSpec.ofChange segsTextsSpec)) segsTextsCard

/-- THE TIED CARD OF 'monikerlaw31.SegsParts'. -/
def segsPartsCard : Claim7 := { stood := { row := segsPartsRow, standIns := [], harness := (true, "3f7d39a5ab926ca1b619745b1dc4cce3b833bc6afe0484300482d0b0087e52b6"), looks := false }, kinds := [], alts := [], laidByText := true, laidKinds := [.data, .pinned], laidTests := true, laidLooks := .later }
def SegsPartsCardSaid : Prop := Claim7.holds Tryd.pinned (.plain (OpenSpec.ofChange segsPartsSpec)) segsPartsCard

/-- THE TIED CARD OF 'monikerlaw31.SegsJoins'. -/
def segsJoinsCard : Claim7 := { stood := { row := segsJoinsRow, standIns := [], harness := (true, "3f7d39a5ab926ca1b619745b1dc4cce3b833bc6afe0484300482d0b0087e52b6"), looks := false }, kinds := [], alts := [], laidByText := true, laidKinds := [.data, .pinned], laidTests := true, laidLooks := .later }
def SegsJoinsCardSaid : Prop := Claim7.holds Tryd.pinned (.plain (OpenSpec.ofChange segsJoinsSpec)) segsJoinsCard

/-- THE SECOND FORM's CARD OF 'monikerlaw31.SegsParse'. -/
def segsParseUptoCard : Claim7 := { stood := { row := segsParseUptoRow, standIns := [], harness := (true, "3f7d39a5ab926ca1b619745b1dc4cce3b833bc6afe0484300482d0b0087e52b6"), looks := false }, kinds := [], alts := [], laidByText := true, laidKinds := [.data, .pinned], laidTests := true, laidLooks := .later }
def SegsParseUptoCardSaid : Prop := Claim7.holds Tryd.pinned (.plain (OpenSpec.upto segsParseSpec)) segsParseUptoCard

/-- THE SECOND FORM's CARD OF 'monikerlaw31.SegsTexts'. -/
def segsTextsUptoCard : Claim7 := { stood := { row := segsTextsUptoRow, standIns := [], harness := (true, "3f7d39a5ab926ca1b619745b1dc4cce3b833bc6afe0484300482d0b0087e52b6"), looks := false }, kinds := [], alts := [], laidByText := true, laidKinds := [.data, .pinned], laidTests := true, laidLooks := .later }
def SegsTextsUptoCardSaid : Prop := Claim7.holds Tryd.pinned (.plain (OpenSpec.upto segsTextsSpec)) segsTextsUptoCard

/-- THE SECOND FORM's CARD OF 'monikerlaw31.SegsParts'. -/
def segsPartsUptoCard : Claim7 := { stood := { row := segsPartsUptoRow, standIns := [], harness := (true, "3f7d39a5ab926ca1b619745b1dc4cce3b833bc6afe0484300482d0b0087e52b6"), looks := false }, kinds := [], alts := [], laidByText := true, laidKinds := [.data, .pinned], laidTests := true, laidLooks := .later }
def SegsPartsUptoCardSaid : Prop := Claim7.holds Tryd.pinned (.plain (OpenSpec.upto segsPartsSpec)) segsPartsUptoCard

/-- THE SECOND FORM's CARD OF 'monikerlaw31.SegsJoins'. -/
def segsJoinsUptoCard : Claim7 := { stood := { row := segsJoinsUptoRow, standIns := [], harness := (true, "3f7d39a5ab926ca1b619745b1dc4cce3b833bc6afe0484300482d0b0087e52b6"), looks := false }, kinds := [], alts := [], laidByText := true, laidKinds := [.data, .pinned], laidTests := true, laidLooks := .later }
def SegsJoinsUptoCardSaid : Prop := Claim7.holds Tryd.pinned (.plain (OpenSpec.upto segsJoinsSpec)) segsJoinsUptoCard
end Rows
end Go.Proofs.YtmofhijbheimmaaDoor
