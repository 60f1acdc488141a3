/-
  DERIVED. GIVEN WITH THE SEED: THE CARDS: each row of YticohlbfolnmpaaDoorRows.lean that lists a variable, with what it lists TIED to the program's text (the seventh form; the later family's looks); each row that meets fmt, with fmt's text TOLD by the authors' own Lean function (tested against real Go, not proved from fmt's source: count such statements apart). THE CARD IS WHAT COUNTS. Prove the row's statement (the work); the ties are given (YticohlbfolnmpaaDoorTie.lean); close each card by the builder's one call (the guide's Derived/Test/ToyasCard.lean, 'card_holds'). Laid BY PROGRAM, IN A SANDBOX (cutbox-door.mjs). By AI agents, Wed Nov 11 2026. No macro, syntax, notation, axiom, sorry.
-/
import Derived.Test.YticohlbfolnmpaaDoorRows
import GoSem.ClaimSeven
namespace Go.Proofs.YticohlbfolnmpaaDoor
namespace Rows

/-- THE TIED CARD OF 'monikerlaw19.IpReads'. -/
def ipReadsCard : Claim7 := { stood := { row := ipReadsRow, standIns := [], harness := (true, "d8c0b0d6a78c50291bd48a03975c373a9a7412b4837cfa4a57f86de6d8b0f942"), looks := false }, kinds := [], alts := [], laidByText := true, laidKinds := [.data, .data, .data, .data, .pinned], laidTests := true, laidLooks := .later }
def IpReadsCardSaid : Prop := Claim7.holds Tryd.pinned (.plain (OpenSpec.ofChange ipReadsSpec)) ipReadsCard

/-- THE TIED CARD OF 'monikerlaw19.IpHosts'. -/
def ipHostsCard : Claim7 := { stood := { row := ipHostsRow, standIns := [], harness := (true, "d8c0b0d6a78c50291bd48a03975c373a9a7412b4837cfa4a57f86de6d8b0f942"), looks := false }, kinds := [], alts := [], laidByText := true, laidKinds := [.data, .data, .data, .data, .pinned], laidTests := true, laidLooks := .later }
def IpHostsCardSaid : Prop := Claim7.holds Tryd.pinned (.plain (OpenSpec.ofChange ipHostsSpec)) ipHostsCard

/-- THE TIED CARD OF 'monikerlaw19.IpShort'. -/
def ipShortCard : Claim7 := { stood := { row := ipShortRow, standIns := [], harness := (true, "d8c0b0d6a78c50291bd48a03975c373a9a7412b4837cfa4a57f86de6d8b0f942"), looks := false }, kinds := [], alts := [], laidByText := true, laidKinds := [.data, .data, .data, .data, .pinned], laidTests := true, laidLooks := .later }
def IpShortCardSaid : Prop := Claim7.holds Tryd.pinned (.plain (OpenSpec.ofChange ipShortSpec)) ipShortCard

/-- THE TIED CARD OF 'monikerlaw19.IpWrites'. -/
def ipWritesCard : Claim7 := { stood := { row := ipWritesRow, standIns := [], harness := (true, "d8c0b0d6a78c50291bd48a03975c373a9a7412b4837cfa4a57f86de6d8b0f942"), looks := false }, kinds := [], alts := [], laidByText := true, laidKinds := [.data, .data, .data, .data, .pinned], laidTests := true, laidLooks := .later }
def IpWritesCardSaid : Prop := Claim7.holds Tryd.pinned (.plain (OpenSpec.ofChange ipWritesSpec)) ipWritesCard

/-- THE SECOND FORM's CARD OF 'monikerlaw19.IpReads'. -/
def ipReadsUptoCard : Claim7 := { stood := { row := ipReadsUptoRow, standIns := [], harness := (true, "d8c0b0d6a78c50291bd48a03975c373a9a7412b4837cfa4a57f86de6d8b0f942"), looks := false }, kinds := [], alts := [], laidByText := true, laidKinds := [.data, .data, .data, .data, .pinned], laidTests := true, laidLooks := .later }
def IpReadsUptoCardSaid : Prop := Claim7.holds Tryd.pinned (.plain (OpenSpec.upto ipReadsSpec)) ipReadsUptoCard

/-- THE SECOND FORM's CARD OF 'monikerlaw19.IpHosts'. -/
def ipHostsUptoCard : Claim7 := { stood := { row := ipHostsUptoRow, standIns := [], harness := (true, "d8c0b0d6a78c50291bd48a03975c373a9a7412b4837cfa4a57f86de6d8b0f942"), looks := false }, kinds := [], alts := [], laidByText := true, laidKinds := [.data, .data, .data, .data, .pinned], laidTests := true, laidLooks := .later }
def IpHostsUptoCardSaid : Prop := Claim7.holds Tryd.pinned (.plain (OpenSpec.upto ipHostsSpec)) ipHostsUptoCard

/-- THE SECOND FORM's CARD OF 'monikerlaw19.IpShort'. -/
def ipShortUptoCard : Claim7 := { stood := { row := ipShortUptoRow, standIns := [], harness := (true, "d8c0b0d6a78c50291bd48a03975c373a9a7412b4837cfa4a57f86de6d8b0f942"), looks := false }, kinds := [], alts := [], laidByText := true, laidKinds := [.data, .data, .data, .data, .pinned], laidTests := true, laidLooks := .later }
def IpShortUptoCardSaid : Prop := Claim7.holds Tryd.pinned (.plain (OpenSpec.upto ipShortSpec)) ipShortUptoCard

/-- THE SECOND FORM's CARD OF 'monikerlaw19.IpWrites'. -/
def ipWritesUptoCard : Claim7 := { stood := { row := ipWritesUptoRow, standIns := [], harness := (true, "d8c0b0d6a78c50291bd48a03975c373a9a7412b4837cfa4a57f86de6d8b0f942"), looks := false }, kinds := [], alts := [], laidByText := true, laidKinds := [.data, .data, .data, .data, .pinned], laidTests := true, laidLooks := .later }
def IpWritesUptoCardSaid : Prop := Claim7.holds Tryd.pinned (.plain (OpenSpec.upto ipWritesSpec)) ipWritesUptoCard
end Rows
end Go.Proofs.YticohlbfolnmpaaDoor
