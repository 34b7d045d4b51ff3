/-
  DERIVED. GIVEN WITH THE SEED: THE CARDS: each row of YtklelhkcbdajpaaGreatDoorRows.lean that lists a variable, with what it lists TIED to the program's text (the seventh form; the later family's looks); each row that meets fmt, with fmt's text TOLD by the authors' own Lean function (tested against real Go, not proved from fmt's source: count such statements apart). THE CARD IS WHAT COUNTS. Prove the row's statement (the work); the ties are given (YtklelhkcbdajpaaGreatDoorTie.lean); close each card by the builder's one call (the guide's Derived/Test/ToyasCard.lean, 'card_holds'). Laid BY PROGRAM, IN A SANDBOX (cutbox-door.mjs). By AI agents, Wed Nov 11 2026. No macro, syntax, notation, axiom, sorry.
-/
import Derived.Test.YtklelhkcbdajpaaGreatDoorRows
import GoSem.ClaimSeven
namespace Go.Proofs.YtklelhkcbdajpaaGreatDoor
namespace Rows

/-- THE TIED CARD OF 'dialtonelaw35.TailMatchesReference'. -/
def tailMatchesReferenceCard : Claim7 := { stood := { row := tailMatchesReferenceRow, standIns := [], harness := (true, "47868a6bff8a7333194bca4f27d77db2ddc15fe4ff23e16d393e5a3d1f620785"), looks := true }, kinds := [], alts := [], laidByText := true, laidKinds := [.data, .data, .data, .data, .sentinel, .sentinel, .pinned], laidTests := true, laidLooks := .later }
def TailMatchesReferenceCardSaid : Prop := Claim7.holds Tryz.pinned (.plain (OpenSpec.ofChange tailMatchesReferenceSpec)) tailMatchesReferenceCard

/-- THE TIED CARD OF 'dialtonelaw35.TailCounts'. -/
def tailCountsCard : Claim7 := { stood := { row := tailCountsRow, standIns := [], harness := (true, "47868a6bff8a7333194bca4f27d77db2ddc15fe4ff23e16d393e5a3d1f620785"), looks := true }, kinds := [], alts := [], laidByText := true, laidKinds := [.data, .data, .data, .data, .sentinel, .sentinel, .pinned], laidTests := true, laidLooks := .later }
def TailCountsCardSaid : Prop := Claim7.holds Tryz.pinned (.plain (OpenSpec.ofChange tailCountsSpec)) tailCountsCard

/-- THE TIED CARD OF 'dialtonelaw35.TailMirrors'. -/
def tailMirrorsCard : Claim7 := { stood := { row := tailMirrorsRow, standIns := [], harness := (true, "47868a6bff8a7333194bca4f27d77db2ddc15fe4ff23e16d393e5a3d1f620785"), looks := true }, kinds := [], alts := [], laidByText := true, laidKinds := [.data, .data, .data, .data, .sentinel, .sentinel, .pinned], laidTests := true, laidLooks := .later }
def TailMirrorsCardSaid : Prop := Claim7.holds Tryz.pinned (.plain (OpenSpec.ofChange tailMirrorsSpec)) tailMirrorsCard

/-- THE TIED CARD OF 'dialtonelaw35.TailMonotone'. -/
def tailMonotoneCard : Claim7 := { stood := { row := tailMonotoneRow, standIns := [], harness := (true, "47868a6bff8a7333194bca4f27d77db2ddc15fe4ff23e16d393e5a3d1f620785"), looks := true }, kinds := [], alts := [], laidByText := true, laidKinds := [.data, .data, .data, .data, .sentinel, .sentinel, .pinned], laidTests := true, laidLooks := .later }
def TailMonotoneCardSaid : Prop := Claim7.holds Tryz.pinned (.plain (OpenSpec.ofChange tailMonotoneSpec)) tailMonotoneCard

/-- THE TIED CARD OF 'dialtonelaw35.TailScans'. -/
def tailScansCard : Claim7 := { stood := { row := tailScansRow, standIns := [], harness := (true, "47868a6bff8a7333194bca4f27d77db2ddc15fe4ff23e16d393e5a3d1f620785"), looks := true }, kinds := [], alts := [], laidByText := true, laidKinds := [.data, .data, .data, .data, .sentinel, .sentinel, .pinned], laidTests := true, laidLooks := .later }
def TailScansCardSaid : Prop := Claim7.holds Tryz.pinned (.plain (OpenSpec.ofChange tailScansSpec)) tailScansCard

/-- THE TIED CARD OF 'dialtonelaw35.TailCombines'. -/
def tailCombinesCard : Claim7 := { stood := { row := tailCombinesRow, standIns := [], harness := (true, "47868a6bff8a7333194bca4f27d77db2ddc15fe4ff23e16d393e5a3d1f620785"), looks := true }, kinds := [], alts := [], laidByText := true, laidKinds := [.data, .data, .data, .data, .sentinel, .sentinel, .pinned], laidTests := true, laidLooks := .later }
def TailCombinesCardSaid : Prop := Claim7.holds Tryz.pinned (.plain (OpenSpec.ofChange tailCombinesSpec)) tailCombinesCard

/-- THE TIED CARD OF 'dialtonelaw35.TailExact'. -/
def tailExactCard : Claim7 := { stood := { row := tailExactRow, standIns := [], harness := (true, "47868a6bff8a7333194bca4f27d77db2ddc15fe4ff23e16d393e5a3d1f620785"), looks := true }, kinds := [], alts := [], laidByText := true, laidKinds := [.data, .data, .data, .data, .sentinel, .sentinel, .pinned], laidTests := true, laidLooks := .later }
def TailExactCardSaid : Prop := Claim7.holds Tryz.pinned (.plain (OpenSpec.ofChange tailExactSpec)) tailExactCard

/-- THE SECOND FORM's CARD OF 'dialtonelaw35.TailMatchesReference'. -/
def tailMatchesReferenceUptoCard : Claim7 := { stood := { row := tailMatchesReferenceUptoRow, standIns := [], harness := (true, "47868a6bff8a7333194bca4f27d77db2ddc15fe4ff23e16d393e5a3d1f620785"), looks := true }, kinds := [], alts := [], laidByText := true, laidKinds := [.data, .data, .data, .data, .sentinel, .sentinel, .pinned], laidTests := true, laidLooks := .later }
def TailMatchesReferenceUptoCardSaid : Prop := Claim7.holds Tryz.pinned (.plain (OpenSpec.upto tailMatchesReferenceSpec)) tailMatchesReferenceUptoCard

/-- THE SECOND FORM's CARD OF 'dialtonelaw35.TailCounts'. -/
def tailCountsUptoCard : Claim7 := { stood := { row := tailCountsUptoRow, standIns := [], harness := (true, "47868a6bff8a7333194bca4f27d77db2ddc15fe4ff23e16d393e5a3d1f620785"), looks := true }, kinds := [], alts := [], laidByText := true, laidKinds := [.data, .data, .data, .data, .sentinel, .sentinel, .pinned], laidTests := true, laidLooks := .later }
def TailCountsUptoCardSaid : Prop := Claim7.holds Tryz.pinned (.plain (OpenSpec.upto tailCountsSpec)) tailCountsUptoCard

/-- THE SECOND FORM's CARD OF 'dialtonelaw35.TailMirrors'. -/
def tailMirrorsUptoCard : Claim7 := { stood := { row := tailMirrorsUptoRow, standIns := [], harness := (true, "47868a6bff8a7333194bca4f27d77db2ddc15fe4ff23e16d393e5a3d1f620785"), looks := true }, kinds := [], alts := [], laidByText := true, laidKinds := [.data, .data, .data, .data, .sentinel, .sentinel, .pinned], laidTests := true, laidLooks := .later }
def TailMirrorsUptoCardSaid : Prop := Claim7.holds Tryz.pinned (.plain (OpenSpec.upto tailMirrorsSpec)) tailMirrorsUptoCard

/-- THE SECOND FORM's CARD OF 'dialtonelaw35.TailMonotone'. -/
def tailMonotoneUptoCard : Claim7 := { stood := { row := tailMonotoneUptoRow, standIns := [], harness := (true, "47868a6bff8a7333194bca4f27d77db2ddc15fe4ff23e16d393e5a3d1f620785"), looks := true }, kinds := [], alts := [], laidByText := true, laidKinds := [.data, .data, .data, .data, .sentinel, .sentinel, .pinned], laidTests := true, laidLooks := .later }
def TailMonotoneUptoCardSaid : Prop := Claim7.holds Tryz.pinned (.plain (OpenSpec.upto tailMonotoneSpec)) tailMonotoneUptoCard

/-- THE SECOND FORM's CARD OF 'dialtonelaw35.TailScans'. -/
def tailScansUptoCard : Claim7 := { stood := { row := tailScansUptoRow, standIns := [], harness := (true, "47868a6bff8a7333194bca4f27d77db2ddc15fe4ff23e16d393e5a3d1f620785"), looks := true }, kinds := [], alts := [], laidByText := true, laidKinds := [.data, .data, .data, .data, .sentinel, .sentinel, .pinned], laidTests := true, laidLooks := .later }
def TailScansUptoCardSaid : Prop := Claim7.holds Tryz.pinned (.plain (OpenSpec.upto tailScansSpec)) tailScansUptoCard

/-- THE SECOND FORM's CARD OF 'dialtonelaw35.TailCombines'. -/
def tailCombinesUptoCard : Claim7 := { stood := { row := tailCombinesUptoRow, standIns := [], harness := (true, "47868a6bff8a7333194bca4f27d77db2ddc15fe4ff23e16d393e5a3d1f620785"), looks := true }, kinds := [], alts := [], laidByText := true, laidKinds := [.data, .data, .data, .data, .sentinel, .sentinel, .pinned], laidTests := true, laidLooks := .later }
def TailCombinesUptoCardSaid : Prop := Claim7.holds Tryz.pinned (.plain (OpenSpec.upto tailCombinesSpec)) tailCombinesUptoCard

/-- THE SECOND FORM's CARD OF 'dialtonelaw35.TailExact'. -/
def tailExactUptoCard : Claim7 := { stood := { row := tailExactUptoRow, standIns := [], harness := (true, "47868a6bff8a7333194bca4f27d77db2ddc15fe4ff23e16d393e5a3d1f620785"), looks := true }, kinds := [], alts := [], laidByText := true, laidKinds := [.data, .data, .data, .data, .sentinel, .sentinel, .pinned], laidTests := true, laidLooks := .later }
def TailExactUptoCardSaid : Prop := Claim7.holds Tryz.pinned (.plain (OpenSpec.upto tailExactSpec)) tailExactUptoCard
end Rows
end Go.Proofs.YtklelhkcbdajpaaGreatDoor
