/-
  DERIVED. GIVEN WITH THE SEED: THE CARDS: each row of YtbimdjciacnioaaDoorRows.lean that lists a variable, with what it lists TIED to the program's text (the seventh form; the later family's looks); each row that meets fmt, with fmt's text TOLD by the authors' own Lean function (tested against real Go, not proved from fmt's source: count such statements apart). THE CARD IS WHAT COUNTS. Prove the row's statement (the work); the ties are given (YtbimdjciacnioaaDoorTie.lean); close each card by the builder's one call (the guide's Derived/Test/ToyasCard.lean, 'card_holds'). Laid BY PROGRAM, IN A SANDBOX (cutbox-door.mjs). By AI agents, Wed Nov 11 2026. No macro, syntax, notation, axiom, sorry.
-/
import Derived.Test.YtbimdjciacnioaaDoorRows
import GoSem.ClaimSeven
namespace Go.Proofs.YtbimdjciacnioaaDoor
namespace Rows

/-- THE TIED CARD OF 'intrusionlaw08.PortsetParses'. -/
def portsetParsesCard : Claim7 := { stood := { row := portsetParsesRow, standIns := [], harness := (true, "9aa0131f247035a0e78f96f5864c7c2e57b9ec42f65bc66587a77ae73f0f15cc"), looks := false }, kinds := [], alts := [], laidByText := true, laidKinds := [.data, .data, .data, .data, .pinned], laidTests := true, laidLooks := .later }
def PortsetParsesCardSaid : Prop := Claim7.holds Tryd.pinned (.plain (OpenSpec.ofChange portsetParsesSpec)) portsetParsesCard

/-- THE TIED CARD OF 'intrusionlaw08.PortsetFormats'. -/
def portsetFormatsCard : Claim7 := { stood := { row := portsetFormatsRow, standIns := [], harness := (true, "9aa0131f247035a0e78f96f5864c7c2e57b9ec42f65bc66587a77ae73f0f15cc"), looks := false }, kinds := [], alts := [], laidByText := true, laidKinds := [.data, .data, .data, .data, .pinned], laidTests := true, laidLooks := .later }
def PortsetFormatsCardSaid : Prop := Claim7.holds Tryd.pinned (.plain (OpenSpec.ofChange portsetFormatsSpec)) portsetFormatsCard

/-- THE TIED CARD OF 'intrusionlaw08.PortsetEvals'. -/
def portsetEvalsCard : Claim7 := { stood := { row := portsetEvalsRow, standIns := [], harness := (true, "9aa0131f247035a0e78f96f5864c7c2e57b9ec42f65bc66587a77ae73f0f15cc"), looks := false }, kinds := [], alts := [], laidByText := true, laidKinds := [.data, .data, .data, .data, .pinned], laidTests := true, laidLooks := .later }
def PortsetEvalsCardSaid : Prop := Claim7.holds Tryd.pinned (.plain (OpenSpec.ofChange portsetEvalsSpec)) portsetEvalsCard

/-- THE TIED CARD OF 'intrusionlaw08.PortsetCanonical'. -/
def portsetCanonicalCard : Claim7 := { stood := { row := portsetCanonicalRow, standIns := [], harness := (true, "9aa0131f247035a0e78f96f5864c7c2e57b9ec42f65bc66587a77ae73f0f15cc"), looks := false }, kinds := [], alts := [], laidByText := true, laidKinds := [.data, .data, .data, .data, .pinned], laidTests := true, laidLooks := .later }
def PortsetCanonicalCardSaid : Prop := Claim7.holds Tryd.pinned (.plain (OpenSpec.ofChange portsetCanonicalSpec)) portsetCanonicalCard

/-- THE TIED CARD OF 'intrusionlaw08.PortsetRoundTrip'. -/
def portsetRoundTripCard : Claim7 := { stood := { row := portsetRoundTripRow, standIns := [], harness := (true, "9aa0131f247035a0e78f96f5864c7c2e57b9ec42f65bc66587a77ae73f0f15cc"), looks := false }, kinds := [], alts := [], laidByText := true, laidKinds := [.data, .data, .data, .data, .pinned], laidTests := true, laidLooks := .later }
def PortsetRoundTripCardSaid : Prop := Claim7.holds Tryd.pinned (.plain (OpenSpec.ofChange portsetRoundTripSpec)) portsetRoundTripCard

/-- THE TIED CARD OF 'intrusionlaw08.PortsetMembers'. -/
def portsetMembersCard : Claim7 := { stood := { row := portsetMembersRow, standIns := [], harness := (true, "9aa0131f247035a0e78f96f5864c7c2e57b9ec42f65bc66587a77ae73f0f15cc"), looks := false }, kinds := [], alts := [], laidByText := true, laidKinds := [.data, .data, .data, .data, .pinned], laidTests := true, laidLooks := .later }
def PortsetMembersCardSaid : Prop := Claim7.holds Tryd.pinned (.plain (OpenSpec.ofChange portsetMembersSpec)) portsetMembersCard

/-- THE SECOND FORM's CARD OF 'intrusionlaw08.PortsetParses'. -/
def portsetParsesUptoCard : Claim7 := { stood := { row := portsetParsesUptoRow, standIns := [], harness := (true, "9aa0131f247035a0e78f96f5864c7c2e57b9ec42f65bc66587a77ae73f0f15cc"), looks := false }, kinds := [], alts := [], laidByText := true, laidKinds := [.data, .data, .data, .data, .pinned], laidTests := true, laidLooks := .later }
def PortsetParsesUptoCardSaid : Prop := Claim7.holds Tryd.pinned (.plain (OpenSpec.upto portsetParsesSpec)) portsetParsesUptoCard

/-- THE SECOND FORM's CARD OF 'intrusionlaw08.PortsetFormats'. -/
def portsetFormatsUptoCard : Claim7 := { stood := { row := portsetFormatsUptoRow, standIns := [], harness := (true, "9aa0131f247035a0e78f96f5864c7c2e57b9ec42f65bc66587a77ae73f0f15cc"), looks := false }, kinds := [], alts := [], laidByText := true, laidKinds := [.data, .data, .data, .data, .pinned], laidTests := true, laidLooks := .later }
def PortsetFormatsUptoCardSaid : Prop := Claim7.holds Tryd.pinned (.plain (OpenSpec.upto portsetFormatsSpec)) portsetFormatsUptoCard

/-- THE SECOND FORM's CARD OF 'intrusionlaw08.PortsetEvals'. -/
def portsetEvalsUptoCard : Claim7 := { stood := { row := portsetEvalsUptoRow, standIns := [], harness := (true, "9aa0131f247035a0e78f96f5864c7c2e57b9ec42f65bc66587a77ae73f0f15cc"), looks := false }, kinds := [], alts := [], laidByText := true, laidKinds := [.data, .data, .data, .data, .pinned], laidTests := true, laidLooks := .later }
def PortsetEvalsUptoCardSaid : Prop := Claim7.holds Tryd.pinned (.plain (OpenSpec.upto portsetEvalsSpec)) portsetEvalsUptoCard

/-- THE SECOND FORM's CARD OF 'intrusionlaw08.PortsetCanonical'. -/
def portsetCanonicalUptoCard : Claim7 := { stood := { row := portsetCanonicalUptoRow, standIns := [], harness := (true, "9aa0131f247035a0e78f96f5864c7c2e57b9ec42f65bc66587a77ae73f0f15cc"), looks := false }, kinds := [], alts := [], laidByText := true, laidKinds := [.data, .data, .data, .data, .pinned], laidTests := true, laidLooks := .later }
def PortsetCanonicalUptoCardSaid : Prop := Claim7.holds Tryd.pinned (.plain (OpenSpec.upto portsetCanonicalSpec)) portsetCanonicalUptoCard

/-- THE SECOND FORM's CARD OF 'intrusionlaw08.PortsetRoundTrip'. -/
def portsetRoundTripUptoCard : Claim7 := { stood := { row := portsetRoundTripUptoRow, standIns := [], harness := (true, "9aa0131f247035a0e78f96f5864c7c2e57b9ec42f65bc66587a77ae73f0f15cc"), looks := false }, kinds := [], alts := [], laidByText := true, laidKinds := [.data, .data, .data, .data, .pinned], laidTests := true, laidLooks := .later }
def PortsetRoundTripUptoCardSaid : Prop := Claim7.holds Tryd.pinned (.plain (OpenSpec.upto portsetRoundTripSpec)) portsetRoundTripUptoCard

/-- THE SECOND FORM's CARD OF 'intrusionlaw08.PortsetMembers'. -/
def portsetMembersUptoCard : Claim7 := { stood := { row := portsetMembersUptoRow, standIns := [], harness := (true, "9aa0131f247035a0e78f96f5864c7c2e57b9ec42f65bc66587a77ae73f0f15cc"), looks := false }, kinds := [], alts := [], laidByText := true, laidKinds := [.data, .data, .data, .data, .pinned], laidTests := true, laidLooks := .later }
def PortsetMembersUptoCardSaid : Prop := Claim7.holds Tryd.pinned (.plain (OpenSpec.upto portsetMembersSpec)) portsetMembersUptoCard
end Rows
end Go.Proofs.YtbimdjciacnioaaDoor
