/-
  DERIVED. GIVEN WITH THE SEED: THE CARDS: each row of YtfebcokmnhdbmaaGreatDoorRows.lean that lists a variable, with what it lists TIED to the program's text (the seventh form; the later family's looks); each row that meets fmt, with fmt's text TOLD by the authors' own Lean function (tested against real Go, not proved from fmt's source: count such statements apart). THE CARD IS WHAT COUNTS. Prove the row's statement (the work); the ties are given (YtfebcokmnhdbmaaGreatDoorTie.lean); close each card by the builder's one call (the guide's Derived/Test/ToyasCard.lean, 'card_holds'). Laid BY PROGRAM, IN A SANDBOX (cutbox-door.mjs). By AI agents, Wed Nov 11 2026. No macro, syntax, notation, axiom, sorry.
-/
import Derived.Test.YtfebcokmnhdbmaaGreatDoorRows
import GoSem.ClaimSeven
namespace Go.Proofs.YtfebcokmnhdbmaaGreatDoor
namespace Rows

/-- THE TIED CARD OF 'dialtonelaw37.TariffMatchesReference'. -/
def tariffMatchesReferenceCard : Claim7 := { stood := { row := tariffMatchesReferenceRow, standIns := [], harness := (true, "09b9cf9ec83d568a90889e337be1a4ef4548a4ff8b4bd28741094428511f1792"), looks := true }, kinds := [], alts := [], laidByText := true, laidKinds := [.data, .data, .data, .data, .sentinel, .sentinel, .pinned], laidTests := true, laidLooks := .later }
def TariffMatchesReferenceCardSaid : Prop := Claim7.holds Tryz.pinned (.plain (OpenSpec.ofChange tariffMatchesReferenceSpec)) tariffMatchesReferenceCard

/-- THE TIED CARD OF 'dialtonelaw37.TariffCheapestMatchesReference'. -/
def tariffCheapestMatchesReferenceCard : Claim7 := { stood := { row := tariffCheapestMatchesReferenceRow, standIns := [], harness := (true, "09b9cf9ec83d568a90889e337be1a4ef4548a4ff8b4bd28741094428511f1792"), looks := true }, kinds := [], alts := [], laidByText := true, laidKinds := [.data, .data, .data, .data, .sentinel, .sentinel, .pinned], laidTests := true, laidLooks := .later }
def TariffCheapestMatchesReferenceCardSaid : Prop := Claim7.holds Tryz.pinned (.plain (OpenSpec.ofChange tariffCheapestMatchesReferenceSpec)) tariffCheapestMatchesReferenceCard

/-- THE TIED CARD OF 'dialtonelaw37.TariffAdds'. -/
def tariffAddsCard : Claim7 := { stood := { row := tariffAddsRow, standIns := [], harness := (true, "09b9cf9ec83d568a90889e337be1a4ef4548a4ff8b4bd28741094428511f1792"), looks := true }, kinds := [], alts := [], laidByText := true, laidKinds := [.data, .data, .data, .data, .sentinel, .sentinel, .pinned], laidTests := true, laidLooks := .later }
def TariffAddsCardSaid : Prop := Claim7.holds Tryz.pinned (.plain (OpenSpec.ofChange tariffAddsSpec)) tariffAddsCard

/-- THE TIED CARD OF 'dialtonelaw37.TariffRounds'. -/
def tariffRoundsCard : Claim7 := { stood := { row := tariffRoundsRow, standIns := [], harness := (true, "09b9cf9ec83d568a90889e337be1a4ef4548a4ff8b4bd28741094428511f1792"), looks := true }, kinds := [], alts := [], laidByText := true, laidKinds := [.data, .data, .data, .data, .sentinel, .sentinel, .pinned], laidTests := true, laidLooks := .later }
def TariffRoundsCardSaid : Prop := Claim7.holds Tryz.pinned (.plain (OpenSpec.ofChange tariffRoundsSpec)) tariffRoundsCard

/-- THE TIED CARD OF 'dialtonelaw37.TariffSplits'. -/
def tariffSplitsCard : Claim7 := { stood := { row := tariffSplitsRow, standIns := [], harness := (true, "09b9cf9ec83d568a90889e337be1a4ef4548a4ff8b4bd28741094428511f1792"), looks := true }, kinds := [], alts := [], laidByText := true, laidKinds := [.data, .data, .data, .data, .sentinel, .sentinel, .pinned], laidTests := true, laidLooks := .later }
def TariffSplitsCardSaid : Prop := Claim7.holds Tryz.pinned (.plain (OpenSpec.ofChange tariffSplitsSpec)) tariffSplitsCard

/-- THE TIED CARD OF 'dialtonelaw37.TariffZones'. -/
def tariffZonesCard : Claim7 := { stood := { row := tariffZonesRow, standIns := [], harness := (true, "09b9cf9ec83d568a90889e337be1a4ef4548a4ff8b4bd28741094428511f1792"), looks := true }, kinds := [], alts := [], laidByText := true, laidKinds := [.data, .data, .data, .data, .sentinel, .sentinel, .pinned], laidTests := true, laidLooks := .later }
def TariffZonesCardSaid : Prop := Claim7.holds Tryz.pinned (.plain (OpenSpec.ofChange tariffZonesSpec)) tariffZonesCard

/-- THE TIED CARD OF 'dialtonelaw37.TariffWeeks'. -/
def tariffWeeksCard : Claim7 := { stood := { row := tariffWeeksRow, standIns := [], harness := (true, "09b9cf9ec83d568a90889e337be1a4ef4548a4ff8b4bd28741094428511f1792"), looks := true }, kinds := [], alts := [], laidByText := true, laidKinds := [.data, .data, .data, .data, .sentinel, .sentinel, .pinned], laidTests := true, laidLooks := .later }
def TariffWeeksCardSaid : Prop := Claim7.holds Tryz.pinned (.plain (OpenSpec.ofChange tariffWeeksSpec)) tariffWeeksCard

/-- THE TIED CARD OF 'dialtonelaw37.TariffPrices'. -/
def tariffPricesCard : Claim7 := { stood := { row := tariffPricesRow, standIns := [], harness := (true, "09b9cf9ec83d568a90889e337be1a4ef4548a4ff8b4bd28741094428511f1792"), looks := true }, kinds := [], alts := [], laidByText := true, laidKinds := [.data, .data, .data, .data, .sentinel, .sentinel, .pinned], laidTests := true, laidLooks := .later }
def TariffPricesCardSaid : Prop := Claim7.holds Tryz.pinned (.plain (OpenSpec.ofChange tariffPricesSpec)) tariffPricesCard

/-- THE TIED CARD OF 'dialtonelaw37.TariffCheapest'. -/
def tariffCheapestCard : Claim7 := { stood := { row := tariffCheapestRow, standIns := [], harness := (true, "09b9cf9ec83d568a90889e337be1a4ef4548a4ff8b4bd28741094428511f1792"), looks := true }, kinds := [], alts := [], laidByText := true, laidKinds := [.data, .data, .data, .data, .sentinel, .sentinel, .pinned], laidTests := true, laidLooks := .later }
def TariffCheapestCardSaid : Prop := Claim7.holds Tryz.pinned (.plain (OpenSpec.ofChange tariffCheapestSpec)) tariffCheapestCard

/-- THE TIED CARD OF 'dialtonelaw37.TariffMidnights'. -/
def tariffMidnightsCard : Claim7 := { stood := { row := tariffMidnightsRow, standIns := [], harness := (true, "09b9cf9ec83d568a90889e337be1a4ef4548a4ff8b4bd28741094428511f1792"), looks := true }, kinds := [], alts := [], laidByText := true, laidKinds := [.data, .data, .data, .data, .sentinel, .sentinel, .pinned], laidTests := true, laidLooks := .later }
def TariffMidnightsCardSaid : Prop := Claim7.holds Tryz.pinned (.plain (OpenSpec.ofChange tariffMidnightsSpec)) tariffMidnightsCard

/-- THE TIED CARD OF 'dialtonelaw37.TariffExact'. -/
def tariffExactCard : Claim7 := { stood := { row := tariffExactRow, standIns := [], harness := (true, "09b9cf9ec83d568a90889e337be1a4ef4548a4ff8b4bd28741094428511f1792"), looks := true }, kinds := [], alts := [], laidByText := true, laidKinds := [.data, .data, .data, .data, .sentinel, .sentinel, .pinned], laidTests := true, laidLooks := .later }
def TariffExactCardSaid : Prop := Claim7.holds Tryz.pinned (.plain (OpenSpec.ofChange tariffExactSpec)) tariffExactCard

/-- THE SECOND FORM's CARD OF 'dialtonelaw37.TariffMatchesReference'. -/
def tariffMatchesReferenceUptoCard : Claim7 := { stood := { row := tariffMatchesReferenceUptoRow, standIns := [], harness := (true, "09b9cf9ec83d568a90889e337be1a4ef4548a4ff8b4bd28741094428511f1792"), looks := true }, kinds := [], alts := [], laidByText := true, laidKinds := [.data, .data, .data, .data, .sentinel, .sentinel, .pinned], laidTests := true, laidLooks := .later }
def TariffMatchesReferenceUptoCardSaid : Prop := Claim7.holds Tryz.pinned (.plain (OpenSpec.upto tariffMatchesReferenceSpec)) tariffMatchesReferenceUptoCard

/-- THE SECOND FORM's CARD OF 'dialtonelaw37.TariffCheapestMatchesReference'. -/
def tariffCheapestMatchesReferenceUptoCard : Claim7 := { stood := { row := tariffCheapestMatchesReferenceUptoRow, standIns := [], harness := (true, "09b9cf9ec83d568a90889e337be1a4ef4548a4ff8b4bd28741094428511f1792"), looks := true }, kinds := [], alts := [], laidByText := true, laidKinds := [.data, .data, .data, .data, .sentinel, .sentinel, .pinned], laidTests := true, laidLooks := .later }
def TariffCheapestMatchesReferenceUptoCardSaid : Prop := Claim7.holds Tryz.pinned (.plain (OpenSpec.upto tariffCheapestMatchesReferenceSpec)) tariffCheapestMatchesReferenceUptoCard

/-- THE SECOND FORM's CARD OF 'dialtonelaw37.TariffAdds'. -/
def tariffAddsUptoCard : Claim7 := { stood := { row := tariffAddsUptoRow, standIns := [], harness := (true, "09b9cf9ec83d568a90889e337be1a4ef4548a4ff8b4bd28741094428511f1792"), looks := true }, kinds := [], alts := [], laidByText := true, laidKinds := [.data, .data, .data, .data, .sentinel, .sentinel, .pinned], laidTests := true, laidLooks := .later }
def TariffAddsUptoCardSaid : Prop := Claim7.holds Tryz.pinned (.plain (OpenSpec.upto tariffAddsSpec)) tariffAddsUptoCard

/-- THE SECOND FORM's CARD OF 'dialtonelaw37.TariffRounds'. -/
def tariffRoundsUptoCard : Claim7 := { stood := { row := tariffRoundsUptoRow, standIns := [], harness := (true, "09b9cf9ec83d568a90889e337be1a4ef4548a4ff8b4bd28741094428511f1792"), looks := true }, kinds := [], alts := [], laidByText := true, laidKinds := [.data, .data, .data, .data, .sentinel, .sentinel, .pinned], laidTests := true, laidLooks := .later }
def TariffRoundsUptoCardSaid : Prop := Claim7.holds Tryz.pinned (.plain (OpenSpec.upto tariffRoundsSpec)) tariffRoundsUptoCard

/-- THE SECOND FORM's CARD OF 'dialtonelaw37.TariffSplits'. -/
def tariffSplitsUptoCard : Claim7 := { stood := { row := tariffSplitsUptoRow, standIns := [], harness := (true, "09b9cf9ec83d568a90889e337be1a4ef4548a4ff8b4bd28741094428511f1792"), looks := true }, kinds := [], alts := [], laidByText := true, laidKinds := [.data, .data, .data, .data, .sentinel, .sentinel, .pinned], laidTests := true, laidLooks := .later }
def TariffSplitsUptoCardSaid : Prop := Claim7.holds Tryz.pinned (.plain (OpenSpec.upto tariffSplitsSpec)) tariffSplitsUptoCard

/-- THE SECOND FORM's CARD OF 'dialtonelaw37.TariffZones'. -/
def tariffZonesUptoCard : Claim7 := { stood := { row := tariffZonesUptoRow, standIns := [], harness := (true, "09b9cf9ec83d568a90889e337be1a4ef4548a4ff8b4bd28741094428511f1792"), looks := true }, kinds := [], alts := [], laidByText := true, laidKinds := [.data, .data, .data, .data, .sentinel, .sentinel, .pinned], laidTests := true, laidLooks := .later }
def TariffZonesUptoCardSaid : Prop := Claim7.holds Tryz.pinned (.plain (OpenSpec.upto tariffZonesSpec)) tariffZonesUptoCard

/-- THE SECOND FORM's CARD OF 'dialtonelaw37.TariffWeeks'. -/
def tariffWeeksUptoCard : Claim7 := { stood := { row := tariffWeeksUptoRow, standIns := [], harness := (true, "09b9cf9ec83d568a90889e337be1a4ef4548a4ff8b4bd28741094428511f1792"), looks := true }, kinds := [], alts := [], laidByText := true, laidKinds := [.data, .data, .data, .data, .sentinel, .sentinel, .pinned], laidTests := true, laidLooks := .later }
def TariffWeeksUptoCardSaid : Prop := Claim7.holds Tryz.pinned (.plain (OpenSpec.upto tariffWeeksSpec)) tariffWeeksUptoCard

/-- THE SECOND FORM's CARD OF 'dialtonelaw37.TariffPrices'. -/
def tariffPricesUptoCard : Claim7 := { stood := { row := tariffPricesUptoRow, standIns := [], harness := (true, "09b9cf9ec83d568a90889e337be1a4ef4548a4ff8b4bd28741094428511f1792"), looks := true }, kinds := [], alts := [], laidByText := true, laidKinds := [.data, .data, .data, .data, .sentinel, .sentinel, .pinned], laidTests := true, laidLooks := .later }
def TariffPricesUptoCardSaid : Prop := Claim7.holds Tryz.pinned (.plain (OpenSpec.upto tariffPricesSpec)) tariffPricesUptoCard

/-- THE SECOND FORM's CARD OF 'dialtonelaw37.TariffCheapest'. -/
def tariffCheapestUptoCard : Claim7 := { stood := { row := tariffCheapestUptoRow, standIns := [], harness := (true, "09b9cf9ec83d568a90889e337be1a4ef4548a4ff8b4bd28741094428511f1792"), looks := true }, kinds := [], alts := [], laidByText := true, laidKinds := [.data, .data, .data, .data, .sentinel, .sentinel, .pinned], laidTests := true, laidLooks := .later }
def TariffCheapestUptoCardSaid : Prop := Claim7.holds Tryz.pinned (.plain (OpenSpec.upto tariffCheapestSpec)) tariffCheapestUptoCard

/-- THE SECOND FORM's CARD OF 'dialtonelaw37.TariffMidnights'. -/
def tariffMidnightsUptoCard : Claim7 := { stood := { row := tariffMidnightsUptoRow, standIns := [], harness := (true, "09b9cf9ec83d568a90889e337be1a4ef4548a4ff8b4bd28741094428511f1792"), looks := true }, kinds := [], alts := [], laidByText := true, laidKinds := [.data, .data, .data, .data, .sentinel, .sentinel, .pinned], laidTests := true, laidLooks := .later }
def TariffMidnightsUptoCardSaid : Prop := Claim7.holds Tryz.pinned (.plain (OpenSpec.upto tariffMidnightsSpec)) tariffMidnightsUptoCard

/-- THE SECOND FORM's CARD OF 'dialtonelaw37.TariffExact'. -/
def tariffExactUptoCard : Claim7 := { stood := { row := tariffExactUptoRow, standIns := [], harness := (true, "09b9cf9ec83d568a90889e337be1a4ef4548a4ff8b4bd28741094428511f1792"), looks := true }, kinds := [], alts := [], laidByText := true, laidKinds := [.data, .data, .data, .data, .sentinel, .sentinel, .pinned], laidTests := true, laidLooks := .later }
def TariffExactUptoCardSaid : Prop := Claim7.holds Tryz.pinned (.plain (OpenSpec.upto tariffExactSpec)) tariffExactUptoCard
end Rows
end Go.Proofs.YtfebcokmnhdbmaaGreatDoor
