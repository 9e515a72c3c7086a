/-
  DERIVED. GIVEN WITH THE SEED: THE CARDS: each row of YtnphnhkinjppjaaGreatDoorRows.lean that lists a variable, with what it lists TIED to the program's text (the seventh form; the later family's looks); each row that meets fmt, with fmt's text TOLD by the authors' own Lean function (tested against real Go, not proved from fmt's source: count such statements apart). THE CARD IS WHAT COUNTS. Prove the row's statement (the work); the ties are given (YtnphnhkinjppjaaGreatDoorTie.lean); close each card by the builder's one call (the guide's Derived/Test/ToyasCard.lean, 'card_holds'). Laid BY PROGRAM, IN A SANDBOX (cutbox-door.mjs). By AI agents, Wed Nov 11 2026. No macro, syntax, notation, axiom, sorry.
-/
import Derived.Test.YtnphnhkinjppjaaGreatDoorRows
import GoSem.ClaimSeven
namespace Go.Proofs.YtnphnhkinjppjaaGreatDoor
namespace Rows

/-- THE TIED CARD OF 'intrusionlaw18.AssetChecks'. -/
def assetChecksCard : Claim7 := { stood := { row := assetChecksRow, standIns := [], harness := (true, "e2fb7f09b75ce55e686a17d0d7ee68673f5cc2846f6649169a4a74c75a4abc06"), looks := false }, kinds := [], alts := [], laidByText := true, laidKinds := [.data, .data, .data, .data, .pinned], laidTests := true, laidLooks := .later }
def AssetChecksCardSaid : Prop := Claim7.holds Tryz.pinned (.plain (OpenSpec.ofChange assetChecksSpec)) assetChecksCard

/-- THE TIED CARD OF 'intrusionlaw18.AssetApps'. -/
def assetAppsCard : Claim7 := { stood := { row := assetAppsRow, standIns := [], harness := (true, "e2fb7f09b75ce55e686a17d0d7ee68673f5cc2846f6649169a4a74c75a4abc06"), looks := false }, kinds := [], alts := [], laidByText := true, laidKinds := [.data, .data, .data, .data, .pinned], laidTests := true, laidLooks := .later }
def AssetAppsCardSaid : Prop := Claim7.holds Tryz.pinned (.plain (OpenSpec.ofChange assetAppsSpec)) assetAppsCard

/-- THE TIED CARD OF 'intrusionlaw18.AssetParses'. -/
def assetParsesCard : Claim7 := { stood := { row := assetParsesRow, standIns := [], harness := (true, "e2fb7f09b75ce55e686a17d0d7ee68673f5cc2846f6649169a4a74c75a4abc06"), looks := false }, kinds := [], alts := [], laidByText := true, laidKinds := [.data, .data, .data, .data, .pinned], laidTests := true, laidLooks := .later }
def AssetParsesCardSaid : Prop := Claim7.holds Tryz.pinned (.plain (OpenSpec.ofChange assetParsesSpec)) assetParsesCard

/-- THE TIED CARD OF 'intrusionlaw18.AssetFinds'. -/
def assetFindsCard : Claim7 := { stood := { row := assetFindsRow, standIns := [], harness := (true, "e2fb7f09b75ce55e686a17d0d7ee68673f5cc2846f6649169a4a74c75a4abc06"), looks := false }, kinds := [], alts := [], laidByText := true, laidKinds := [.data, .data, .data, .data, .pinned], laidTests := true, laidLooks := .later }
def AssetFindsCardSaid : Prop := Claim7.holds Tryz.pinned (.plain (OpenSpec.ofChange assetFindsSpec)) assetFindsCard

/-- THE TIED CARD OF 'intrusionlaw18.AssetRoundTrip'. -/
def assetRoundTripCard : Claim7 := { stood := { row := assetRoundTripRow, standIns := [], harness := (true, "e2fb7f09b75ce55e686a17d0d7ee68673f5cc2846f6649169a4a74c75a4abc06"), looks := false }, kinds := [], alts := [], laidByText := true, laidKinds := [.data, .data, .data, .data, .pinned], laidTests := true, laidLooks := .later }
def AssetRoundTripCardSaid : Prop := Claim7.holds Tryz.pinned (.plain (OpenSpec.ofChange assetRoundTripSpec)) assetRoundTripCard

/-- THE TIED CARD OF 'intrusionlaw18.AssetReads'. -/
def assetReadsCard : Claim7 := { stood := { row := assetReadsRow, standIns := [], harness := (true, "e2fb7f09b75ce55e686a17d0d7ee68673f5cc2846f6649169a4a74c75a4abc06"), looks := false }, kinds := [], alts := [], laidByText := true, laidKinds := [.data, .data, .data, .data, .pinned], laidTests := true, laidLooks := .later }
def AssetReadsCardSaid : Prop := Claim7.holds Tryz.pinned (.plain (OpenSpec.ofChange assetReadsSpec)) assetReadsCard

/-- THE TIED CARD OF 'intrusionlaw18.AssetLongest'. -/
def assetLongestCard : Claim7 := { stood := { row := assetLongestRow, standIns := [], harness := (true, "e2fb7f09b75ce55e686a17d0d7ee68673f5cc2846f6649169a4a74c75a4abc06"), looks := false }, kinds := [], alts := [], laidByText := true, laidKinds := [.data, .data, .data, .data, .pinned], laidTests := true, laidLooks := .later }
def AssetLongestCardSaid : Prop := Claim7.holds Tryz.pinned (.plain (OpenSpec.ofChange assetLongestSpec)) assetLongestCard

/-- THE SECOND FORM's CARD OF 'intrusionlaw18.AssetChecks'. -/
def assetChecksUptoCard : Claim7 := { stood := { row := assetChecksUptoRow, standIns := [], harness := (true, "e2fb7f09b75ce55e686a17d0d7ee68673f5cc2846f6649169a4a74c75a4abc06"), looks := false }, kinds := [], alts := [], laidByText := true, laidKinds := [.data, .data, .data, .data, .pinned], laidTests := true, laidLooks := .later }
def AssetChecksUptoCardSaid : Prop := Claim7.holds Tryz.pinned (.plain (OpenSpec.upto assetChecksSpec)) assetChecksUptoCard

/-- THE SECOND FORM's CARD OF 'intrusionlaw18.AssetApps'. -/
def assetAppsUptoCard : Claim7 := { stood := { row := assetAppsUptoRow, standIns := [], harness := (true, "e2fb7f09b75ce55e686a17d0d7ee68673f5cc2846f6649169a4a74c75a4abc06"), looks := false }, kinds := [], alts := [], laidByText := true, laidKinds := [.data, .data, .data, .data, .pinned], laidTests := true, laidLooks := .later }
def AssetAppsUptoCardSaid : Prop := Claim7.holds Tryz.pinned (.plain (OpenSpec.upto assetAppsSpec)) assetAppsUptoCard

/-- THE SECOND FORM's CARD OF 'intrusionlaw18.AssetParses'. -/
def assetParsesUptoCard : Claim7 := { stood := { row := assetParsesUptoRow, standIns := [], harness := (true, "e2fb7f09b75ce55e686a17d0d7ee68673f5cc2846f6649169a4a74c75a4abc06"), looks := false }, kinds := [], alts := [], laidByText := true, laidKinds := [.data, .data, .data, .data, .pinned], laidTests := true, laidLooks := .later }
def AssetParsesUptoCardSaid : Prop := Claim7.holds Tryz.pinned (.plain (OpenSpec.upto assetParsesSpec)) assetParsesUptoCard

/-- THE SECOND FORM's CARD OF 'intrusionlaw18.AssetFinds'. -/
def assetFindsUptoCard : Claim7 := { stood := { row := assetFindsUptoRow, standIns := [], harness := (true, "e2fb7f09b75ce55e686a17d0d7ee68673f5cc2846f6649169a4a74c75a4abc06"), looks := false }, kinds := [], alts := [], laidByText := true, laidKinds := [.data, .data, .data, .data, .pinned], laidTests := true, laidLooks := .later }
def AssetFindsUptoCardSaid : Prop := Claim7.holds Tryz.pinned (.plain (OpenSpec.upto assetFindsSpec)) assetFindsUptoCard

/-- THE SECOND FORM's CARD OF 'intrusionlaw18.AssetRoundTrip'. -/
def assetRoundTripUptoCard : Claim7 := { stood := { row := assetRoundTripUptoRow, standIns := [], harness := (true, "e2fb7f09b75ce55e686a17d0d7ee68673f5cc2846f6649169a4a74c75a4abc06"), looks := false }, kinds := [], alts := [], laidByText := true, laidKinds := [.data, .data, .data, .data, .pinned], laidTests := true, laidLooks := .later }
def AssetRoundTripUptoCardSaid : Prop := Claim7.holds Tryz.pinned (.plain (OpenSpec.upto assetRoundTripSpec)) assetRoundTripUptoCard

/-- THE SECOND FORM's CARD OF 'intrusionlaw18.AssetReads'. -/
def assetReadsUptoCard : Claim7 := { stood := { row := assetReadsUptoRow, standIns := [], harness := (true, "e2fb7f09b75ce55e686a17d0d7ee68673f5cc2846f6649169a4a74c75a4abc06"), looks := false }, kinds := [], alts := [], laidByText := true, laidKinds := [.data, .data, .data, .data, .pinned], laidTests := true, laidLooks := .later }
def AssetReadsUptoCardSaid : Prop := Claim7.holds Tryz.pinned (.plain (OpenSpec.upto assetReadsSpec)) assetReadsUptoCard

/-- THE SECOND FORM's CARD OF 'intrusionlaw18.AssetLongest'. -/
def assetLongestUptoCard : Claim7 := { stood := { row := assetLongestUptoRow, standIns := [], harness := (true, "e2fb7f09b75ce55e686a17d0d7ee68673f5cc2846f6649169a4a74c75a4abc06"), looks := false }, kinds := [], alts := [], laidByText := true, laidKinds := [.data, .data, .data, .data, .pinned], laidTests := true, laidLooks := .later }
def AssetLongestUptoCardSaid : Prop := Claim7.holds Tryz.pinned (.plain (OpenSpec.upto assetLongestSpec)) assetLongestUptoCard
end Rows
end Go.Proofs.YtnphnhkinjppjaaGreatDoor
