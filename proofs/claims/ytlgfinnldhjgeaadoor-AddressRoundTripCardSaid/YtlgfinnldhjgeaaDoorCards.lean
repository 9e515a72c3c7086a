/-
  DERIVED. GIVEN WITH THE SEED: THE CARDS: each row of YtlgfinnldhjgeaaDoorRows.lean that lists a variable, with what it lists TIED to the program's text (the seventh form; the later family's looks); each row that meets fmt, with fmt's text TOLD by the authors' own Lean function (tested against real Go, not proved from fmt's source: count such statements apart). THE CARD IS WHAT COUNTS. Prove the row's statement (the work); the ties are given (YtlgfinnldhjgeaaDoorTie.lean); close each card by the builder's one call (the guide's Derived/Test/ToyasCard.lean, 'card_holds'). Laid BY PROGRAM, IN A SANDBOX (cutbox-door.mjs). By AI agents, Wed Nov 11 2026. No macro, syntax, notation, axiom, sorry.
-/
import Derived.Test.YtlgfinnldhjgeaaDoorRows
import GoSem.ClaimSeven
namespace Go.Proofs.YtlgfinnldhjgeaaDoor
namespace Rows

/-- THE TIED CARD OF 'intrusionlaw06.AddressParses'. -/
def addressParsesCard : Claim7 := { stood := { row := addressParsesRow, standIns := [], harness := (true, "a4caf97771cecc6370fff57cddc3aa8f525d50a87a13146298f7be9fbc5a6ea2"), looks := false }, kinds := [], alts := [], laidByText := true, laidKinds := [.data, .data, .data, .data, .pinned], laidTests := true, laidLooks := .later }
def AddressParsesCardSaid : Prop := Claim7.holds Tryd.pinned (.plain (OpenSpec.ofChange addressParsesSpec)) addressParsesCard

/-- THE TIED CARD OF 'intrusionlaw06.AddressOrders'. -/
def addressOrdersCard : Claim7 := { stood := { row := addressOrdersRow, standIns := [], harness := (true, "a4caf97771cecc6370fff57cddc3aa8f525d50a87a13146298f7be9fbc5a6ea2"), looks := false }, kinds := [], alts := [], laidByText := true, laidKinds := [.data, .data, .data, .data, .pinned], laidTests := true, laidLooks := .later }
def AddressOrdersCardSaid : Prop := Claim7.holds Tryd.pinned (.plain (OpenSpec.ofChange addressOrdersSpec)) addressOrdersCard

/-- THE TIED CARD OF 'intrusionlaw06.AddressSteps'. -/
def addressStepsCard : Claim7 := { stood := { row := addressStepsRow, standIns := [], harness := (true, "a4caf97771cecc6370fff57cddc3aa8f525d50a87a13146298f7be9fbc5a6ea2"), looks := false }, kinds := [], alts := [], laidByText := true, laidKinds := [.data, .data, .data, .data, .pinned], laidTests := true, laidLooks := .later }
def AddressStepsCardSaid : Prop := Claim7.holds Tryd.pinned (.plain (OpenSpec.ofChange addressStepsSpec)) addressStepsCard

/-- THE TIED CARD OF 'intrusionlaw06.AddressContains'. -/
def addressContainsCard : Claim7 := { stood := { row := addressContainsRow, standIns := [], harness := (true, "a4caf97771cecc6370fff57cddc3aa8f525d50a87a13146298f7be9fbc5a6ea2"), looks := false }, kinds := [], alts := [], laidByText := true, laidKinds := [.data, .data, .data, .data, .pinned], laidTests := true, laidLooks := .later }
def AddressContainsCardSaid : Prop := Claim7.holds Tryd.pinned (.plain (OpenSpec.ofChange addressContainsSpec)) addressContainsCard

/-- THE TIED CARD OF 'intrusionlaw06.AddressBytes'. -/
def addressBytesCard : Claim7 := { stood := { row := addressBytesRow, standIns := [], harness := (true, "a4caf97771cecc6370fff57cddc3aa8f525d50a87a13146298f7be9fbc5a6ea2"), looks := false }, kinds := [], alts := [], laidByText := true, laidKinds := [.data, .data, .data, .data, .pinned], laidTests := true, laidLooks := .later }
def AddressBytesCardSaid : Prop := Claim7.holds Tryd.pinned (.plain (OpenSpec.ofChange addressBytesSpec)) addressBytesCard

/-- THE TIED CARD OF 'intrusionlaw06.AddressFormats'. -/
def addressFormatsCard : Claim7 := { stood := { row := addressFormatsRow, standIns := [], harness := (true, "a4caf97771cecc6370fff57cddc3aa8f525d50a87a13146298f7be9fbc5a6ea2"), looks := false }, kinds := [], alts := [], laidByText := true, laidKinds := [.data, .data, .data, .data, .pinned], laidTests := true, laidLooks := .later }
def AddressFormatsCardSaid : Prop := Claim7.holds Tryd.pinned (.plain (OpenSpec.ofChange addressFormatsSpec)) addressFormatsCard

/-- THE TIED CARD OF 'intrusionlaw06.AddressRoundTrip'. -/
def addressRoundTripCard : Claim7 := { stood := { row := addressRoundTripRow, standIns := [], harness := (true, "a4caf97771cecc6370fff57cddc3aa8f525d50a87a13146298f7be9fbc5a6ea2"), looks := false }, kinds := [], alts := [], laidByText := true, laidKinds := [.data, .data, .data, .data, .pinned], laidTests := true, laidLooks := .later }
def AddressRoundTripCardSaid : Prop := Claim7.holds Tryd.pinned (.plain (OpenSpec.ofChange addressRoundTripSpec)) addressRoundTripCard

/-- THE SECOND FORM's CARD OF 'intrusionlaw06.AddressParses'. -/
def addressParsesUptoCard : Claim7 := { stood := { row := addressParsesUptoRow, standIns := [], harness := (true, "a4caf97771cecc6370fff57cddc3aa8f525d50a87a13146298f7be9fbc5a6ea2"), looks := false }, kinds := [], alts := [], laidByText := true, laidKinds := [.data, .data, .data, .data, .pinned], laidTests := true, laidLooks := .later }
def AddressParsesUptoCardSaid : Prop := Claim7.holds Tryd.pinned (.plain (OpenSpec.upto addressParsesSpec)) addressParsesUptoCard

/-- THE SECOND FORM's CARD OF 'intrusionlaw06.AddressOrders'. -/
def addressOrdersUptoCard : Claim7 := { stood := { row := addressOrdersUptoRow, standIns := [], harness := (true, "a4caf97771cecc6370fff57cddc3aa8f525d50a87a13146298f7be9fbc5a6ea2"), looks := false }, kinds := [], alts := [], laidByText := true, laidKinds := [.data, .data, .data, .data, .pinned], laidTests := true, laidLooks := .later }
def AddressOrdersUptoCardSaid : Prop := Claim7.holds Tryd.pinned (.plain (OpenSpec.upto addressOrdersSpec)) addressOrdersUptoCard

/-- THE SECOND FORM's CARD OF 'intrusionlaw06.AddressSteps'. -/
def addressStepsUptoCard : Claim7 := { stood := { row := addressStepsUptoRow, standIns := [], harness := (true, "a4caf97771cecc6370fff57cddc3aa8f525d50a87a13146298f7be9fbc5a6ea2"), looks := false }, kinds := [], alts := [], laidByText := true, laidKinds := [.data, .data, .data, .data, .pinned], laidTests := true, laidLooks := .later }
def AddressStepsUptoCardSaid : Prop := Claim7.holds Tryd.pinned (.plain (OpenSpec.upto addressStepsSpec)) addressStepsUptoCard

/-- THE SECOND FORM's CARD OF 'intrusionlaw06.AddressContains'. -/
def addressContainsUptoCard : Claim7 := { stood := { row := addressContainsUptoRow, standIns := [], harness := (true, "a4caf97771cecc6370fff57cddc3aa8f525d50a87a13146298f7be9fbc5a6ea2"), looks := false }, kinds := [], alts := [], laidByText := true, laidKinds := [.data, .data, .data, .data, .pinned], laidTests := true, laidLooks := .later }
def AddressContainsUptoCardSaid : Prop := Claim7.holds Tryd.pinned (.plain (OpenSpec.upto addressContainsSpec)) addressContainsUptoCard

/-- THE SECOND FORM's CARD OF 'intrusionlaw06.AddressBytes'. -/
def addressBytesUptoCard : Claim7 := { stood := { row := addressBytesUptoRow, standIns := [], harness := (true, "a4caf97771cecc6370fff57cddc3aa8f525d50a87a13146298f7be9fbc5a6ea2"), looks := false }, kinds := [], alts := [], laidByText := true, laidKinds := [.data, .data, .data, .data, .pinned], laidTests := true, laidLooks := .later }
def AddressBytesUptoCardSaid : Prop := Claim7.holds Tryd.pinned (.plain (OpenSpec.upto addressBytesSpec)) addressBytesUptoCard

/-- THE SECOND FORM's CARD OF 'intrusionlaw06.AddressFormats'. -/
def addressFormatsUptoCard : Claim7 := { stood := { row := addressFormatsUptoRow, standIns := [], harness := (true, "a4caf97771cecc6370fff57cddc3aa8f525d50a87a13146298f7be9fbc5a6ea2"), looks := false }, kinds := [], alts := [], laidByText := true, laidKinds := [.data, .data, .data, .data, .pinned], laidTests := true, laidLooks := .later }
def AddressFormatsUptoCardSaid : Prop := Claim7.holds Tryd.pinned (.plain (OpenSpec.upto addressFormatsSpec)) addressFormatsUptoCard

/-- THE SECOND FORM's CARD OF 'intrusionlaw06.AddressRoundTrip'. -/
def addressRoundTripUptoCard : Claim7 := { stood := { row := addressRoundTripUptoRow, standIns := [], harness := (true, "a4caf97771cecc6370fff57cddc3aa8f525d50a87a13146298f7be9fbc5a6ea2"), looks := false }, kinds := [], alts := [], laidByText := true, laidKinds := [.data, .data, .data, .data, .pinned], laidTests := true, laidLooks := .later }
def AddressRoundTripUptoCardSaid : Prop := Claim7.holds Tryd.pinned (.plain (OpenSpec.upto addressRoundTripSpec)) addressRoundTripUptoCard
end Rows
end Go.Proofs.YtlgfinnldhjgeaaDoor
