/-
  DERIVED. GIVEN WITH THE SEED: THE CARDS: each row of YtfofhpkafhpicaaGreatDoorRows.lean that lists a variable, with what it lists TIED to the program's text (the seventh form; the later family's looks); each row that meets fmt, with fmt's text TOLD by the authors' own Lean function (tested against real Go, not proved from fmt's source: count such statements apart). THE CARD IS WHAT COUNTS. Prove the row's statement (the work); the ties are given (YtfofhpkafhpicaaGreatDoorTie.lean); close each card by the builder's one call (the guide's Derived/Test/ToyasCard.lean, 'card_holds'). Laid BY PROGRAM, IN A SANDBOX (cutbox-door.mjs). By AI agents, Wed Nov 11 2026. No macro, syntax, notation, axiom, sorry.
-/
import Derived.Test.YtfofhpkafhpicaaGreatDoorRows
import GoSem.ClaimSeven
namespace Go.Proofs.YtfofhpkafhpicaaGreatDoor
namespace Rows

/-- THE TIED CARD OF 'gatehousetop.TopMaps'. -/
def topMapsCard : Claim7 := { stood := { row := topMapsRow, standIns := [], harness := (true, "1bdd895862cc6d4e4cdce9bd1951f01deccbc9bbc4ab38f4e3d2031c742c9f23"), looks := true }, kinds := [], alts := [], laidByText := true, laidKinds := [.pinned, .data, .sentinel, .sentinel, .data, .data, .data], laidTests := true, laidLooks := .later }
def TopMapsCardSaid : Prop := Claim7.holds Tryz.pinned (.plain (OpenSpec.ofChange topMapsSpec)) topMapsCard

/-- THE TIED CARD OF 'gatehousetop.TopPorts'. -/
def topPortsCard : Claim7 := { stood := { row := topPortsRow, standIns := [], harness := (true, "1bdd895862cc6d4e4cdce9bd1951f01deccbc9bbc4ab38f4e3d2031c742c9f23"), looks := true }, kinds := [], alts := [], laidByText := true, laidKinds := [.pinned, .data, .sentinel, .sentinel, .data, .data, .data], laidTests := true, laidLooks := .later }
def TopPortsCardSaid : Prop := Claim7.holds Tryz.pinned (.plain (OpenSpec.ofChange topPortsSpec)) topPortsCard

/-- THE TIED CARD OF 'gatehousetop.TopShort'. -/
def topShortCard : Claim7 := { stood := { row := topShortRow, standIns := [], harness := (true, "1bdd895862cc6d4e4cdce9bd1951f01deccbc9bbc4ab38f4e3d2031c742c9f23"), looks := true }, kinds := [], alts := [], laidByText := true, laidKinds := [.pinned, .data, .sentinel, .sentinel, .data, .data, .data], laidTests := true, laidLooks := .later }
def TopShortCardSaid : Prop := Claim7.holds Tryz.pinned (.plain (OpenSpec.ofChange topShortSpec)) topShortCard

/-- THE SECOND FORM's CARD OF 'gatehousetop.TopMaps'. -/
def topMapsUptoCard : Claim7 := { stood := { row := topMapsUptoRow, standIns := [], harness := (true, "1bdd895862cc6d4e4cdce9bd1951f01deccbc9bbc4ab38f4e3d2031c742c9f23"), looks := true }, kinds := [], alts := [], laidByText := true, laidKinds := [.pinned, .data, .sentinel, .sentinel, .data, .data, .data], laidTests := true, laidLooks := .later }
def TopMapsUptoCardSaid : Prop := Claim7.holds Tryz.pinned (.plain (OpenSpec.upto topMapsSpec)) topMapsUptoCard

/-- THE SECOND FORM's CARD OF 'gatehousetop.TopPorts'. -/
def topPortsUptoCard : Claim7 := { stood := { row := topPortsUptoRow, standIns := [], harness := (true, "1bdd895862cc6d4e4cdce9bd1951f01deccbc9bbc4ab38f4e3d2031c742c9f23"), looks := true }, kinds := [], alts := [], laidByText := true, laidKinds := [.pinned, .data, .sentinel, .sentinel, .data, .data, .data], laidTests := true, laidLooks := .later }
def TopPortsUptoCardSaid : Prop := Claim7.holds Tryz.pinned (.plain (OpenSpec.upto topPortsSpec)) topPortsUptoCard

/-- THE SECOND FORM's CARD OF 'gatehousetop.TopShort'. -/
def topShortUptoCard : Claim7 := { stood := { row := topShortUptoRow, standIns := [], harness := (true, "1bdd895862cc6d4e4cdce9bd1951f01deccbc9bbc4ab38f4e3d2031c742c9f23"), looks := true }, kinds := [], alts := [], laidByText := true, laidKinds := [.pinned, .data, .sentinel, .sentinel, .data, .data, .data], laidTests := true, laidLooks := .later }
def TopShortUptoCardSaid : Prop := Claim7.holds Tryz.pinned (.plain (OpenSpec.upto topShortSpec)) topShortUptoCard
end Rows
end Go.Proofs.YtfofhpkafhpicaaGreatDoor
