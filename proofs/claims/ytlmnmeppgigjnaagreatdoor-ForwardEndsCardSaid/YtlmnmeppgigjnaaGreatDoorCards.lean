/-
  DERIVED. GIVEN WITH THE SEED: THE CARDS: each row of YtlmnmeppgigjnaaGreatDoorRows.lean that lists a variable, with what it lists TIED to the program's text (the seventh form; the later family's looks); each row that meets fmt, with fmt's text TOLD by the authors' own Lean function (tested against real Go, not proved from fmt's source: count such statements apart). THE CARD IS WHAT COUNTS. Prove the row's statement (the work); the ties are given (YtlmnmeppgigjnaaGreatDoorTie.lean); close each card by the builder's one call (the guide's Derived/Test/ToyasCard.lean, 'card_holds'). Laid BY PROGRAM, IN A SANDBOX (cutbox-door.mjs). By AI agents, Wed Nov 11 2026. No macro, syntax, notation, axiom, sorry.
-/
import Derived.Test.YtlmnmeppgigjnaaGreatDoorRows
import GoSem.ClaimSeven
namespace Go.Proofs.YtlmnmeppgigjnaaGreatDoor
namespace Rows

/-- THE TIED CARD OF 'dialtonelaw22.ForwardEnds'. -/
def forwardEndsCard : Claim7 := { stood := { row := forwardEndsRow, standIns := [], harness := (true, "93fc72bc3ca701473747a3c6227358f8c6281710aa2964a24f86140c162b6884"), looks := true }, kinds := [], alts := [], laidByText := true, laidKinds := [.data, .data, .data, .data, .sentinel, .sentinel, .pinned], laidTests := true, laidLooks := .later }
def ForwardEndsCardSaid : Prop := Claim7.holds Tryz.pinned (.plain (OpenSpec.ofChange forwardEndsSpec)) forwardEndsCard

/-- THE TIED CARD OF 'dialtonelaw22.ForwardLoops'. -/
def forwardLoopsCard : Claim7 := { stood := { row := forwardLoopsRow, standIns := [], harness := (true, "93fc72bc3ca701473747a3c6227358f8c6281710aa2964a24f86140c162b6884"), looks := true }, kinds := [], alts := [], laidByText := true, laidKinds := [.data, .data, .data, .data, .sentinel, .sentinel, .pinned], laidTests := true, laidLooks := .later }
def ForwardLoopsCardSaid : Prop := Claim7.holds Tryz.pinned (.plain (OpenSpec.ofChange forwardLoopsSpec)) forwardLoopsCard

/-- THE TIED CARD OF 'dialtonelaw22.ForwardCreates'. -/
def forwardCreatesCard : Claim7 := { stood := { row := forwardCreatesRow, standIns := [], harness := (true, "93fc72bc3ca701473747a3c6227358f8c6281710aa2964a24f86140c162b6884"), looks := true }, kinds := [], alts := [], laidByText := true, laidKinds := [.data, .data, .data, .data, .sentinel, .sentinel, .pinned], laidTests := true, laidLooks := .later }
def ForwardCreatesCardSaid : Prop := Claim7.holds Tryz.pinned (.plain (OpenSpec.ofChange forwardCreatesSpec)) forwardCreatesCard

/-- THE TIED CARD OF 'dialtonelaw22.ForwardLocal'. -/
def forwardLocalCard : Claim7 := { stood := { row := forwardLocalRow, standIns := [], harness := (true, "93fc72bc3ca701473747a3c6227358f8c6281710aa2964a24f86140c162b6884"), looks := true }, kinds := [], alts := [], laidByText := true, laidKinds := [.data, .data, .data, .data, .sentinel, .sentinel, .pinned], laidTests := true, laidLooks := .later }
def ForwardLocalCardSaid : Prop := Claim7.holds Tryz.pinned (.plain (OpenSpec.ofChange forwardLocalSpec)) forwardLocalCard

/-- THE TIED CARD OF 'dialtonelaw22.ForwardHides'. -/
def forwardHidesCard : Claim7 := { stood := { row := forwardHidesRow, standIns := [], harness := (true, "93fc72bc3ca701473747a3c6227358f8c6281710aa2964a24f86140c162b6884"), looks := true }, kinds := [], alts := [], laidByText := true, laidKinds := [.data, .data, .data, .data, .sentinel, .sentinel, .pinned], laidTests := true, laidLooks := .later }
def ForwardHidesCardSaid : Prop := Claim7.holds Tryz.pinned (.plain (OpenSpec.ofChange forwardHidesSpec)) forwardHidesCard

/-- THE TIED CARD OF 'dialtonelaw22.ForwardPays'. -/
def forwardPaysCard : Claim7 := { stood := { row := forwardPaysRow, standIns := [], harness := (true, "93fc72bc3ca701473747a3c6227358f8c6281710aa2964a24f86140c162b6884"), looks := true }, kinds := [], alts := [], laidByText := true, laidKinds := [.data, .data, .data, .data, .sentinel, .sentinel, .pinned], laidTests := true, laidLooks := .later }
def ForwardPaysCardSaid : Prop := Claim7.holds Tryz.pinned (.plain (OpenSpec.ofChange forwardPaysSpec)) forwardPaysCard

/-- THE SECOND FORM's CARD OF 'dialtonelaw22.ForwardEnds'. -/
def forwardEndsUptoCard : Claim7 := { stood := { row := forwardEndsUptoRow, standIns := [], harness := (true, "93fc72bc3ca701473747a3c6227358f8c6281710aa2964a24f86140c162b6884"), looks := true }, kinds := [], alts := [], laidByText := true, laidKinds := [.data, .data, .data, .data, .sentinel, .sentinel, .pinned], laidTests := true, laidLooks := .later }
def ForwardEndsUptoCardSaid : Prop := Claim7.holds Tryz.pinned (.plain (OpenSpec.upto forwardEndsSpec)) forwardEndsUptoCard

/-- THE SECOND FORM's CARD OF 'dialtonelaw22.ForwardLoops'. -/
def forwardLoopsUptoCard : Claim7 := { stood := { row := forwardLoopsUptoRow, standIns := [], harness := (true, "93fc72bc3ca701473747a3c6227358f8c6281710aa2964a24f86140c162b6884"), looks := true }, kinds := [], alts := [], laidByText := true, laidKinds := [.data, .data, .data, .data, .sentinel, .sentinel, .pinned], laidTests := true, laidLooks := .later }
def ForwardLoopsUptoCardSaid : Prop := Claim7.holds Tryz.pinned (.plain (OpenSpec.upto forwardLoopsSpec)) forwardLoopsUptoCard

/-- THE SECOND FORM's CARD OF 'dialtonelaw22.ForwardCreates'. -/
def forwardCreatesUptoCard : Claim7 := { stood := { row := forwardCreatesUptoRow, standIns := [], harness := (true, "93fc72bc3ca701473747a3c6227358f8c6281710aa2964a24f86140c162b6884"), looks := true }, kinds := [], alts := [], laidByText := true, laidKinds := [.data, .data, .data, .data, .sentinel, .sentinel, .pinned], laidTests := true, laidLooks := .later }
def ForwardCreatesUptoCardSaid : Prop := Claim7.holds Tryz.pinned (.plain (OpenSpec.upto forwardCreatesSpec)) forwardCreatesUptoCard

/-- THE SECOND FORM's CARD OF 'dialtonelaw22.ForwardLocal'. -/
def forwardLocalUptoCard : Claim7 := { stood := { row := forwardLocalUptoRow, standIns := [], harness := (true, "93fc72bc3ca701473747a3c6227358f8c6281710aa2964a24f86140c162b6884"), looks := true }, kinds := [], alts := [], laidByText := true, laidKinds := [.data, .data, .data, .data, .sentinel, .sentinel, .pinned], laidTests := true, laidLooks := .later }
def ForwardLocalUptoCardSaid : Prop := Claim7.holds Tryz.pinned (.plain (OpenSpec.upto forwardLocalSpec)) forwardLocalUptoCard

/-- THE SECOND FORM's CARD OF 'dialtonelaw22.ForwardHides'. -/
def forwardHidesUptoCard : Claim7 := { stood := { row := forwardHidesUptoRow, standIns := [], harness := (true, "93fc72bc3ca701473747a3c6227358f8c6281710aa2964a24f86140c162b6884"), looks := true }, kinds := [], alts := [], laidByText := true, laidKinds := [.data, .data, .data, .data, .sentinel, .sentinel, .pinned], laidTests := true, laidLooks := .later }
def ForwardHidesUptoCardSaid : Prop := Claim7.holds Tryz.pinned (.plain (OpenSpec.upto forwardHidesSpec)) forwardHidesUptoCard

/-- THE SECOND FORM's CARD OF 'dialtonelaw22.ForwardPays'. -/
def forwardPaysUptoCard : Claim7 := { stood := { row := forwardPaysUptoRow, standIns := [], harness := (true, "93fc72bc3ca701473747a3c6227358f8c6281710aa2964a24f86140c162b6884"), looks := true }, kinds := [], alts := [], laidByText := true, laidKinds := [.data, .data, .data, .data, .sentinel, .sentinel, .pinned], laidTests := true, laidLooks := .later }
def ForwardPaysUptoCardSaid : Prop := Claim7.holds Tryz.pinned (.plain (OpenSpec.upto forwardPaysSpec)) forwardPaysUptoCard
end Rows
end Go.Proofs.YtlmnmeppgigjnaaGreatDoor
