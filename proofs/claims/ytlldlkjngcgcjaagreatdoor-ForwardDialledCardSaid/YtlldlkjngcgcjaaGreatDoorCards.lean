/-
  DERIVED. GIVEN WITH THE SEED: THE CARDS: each row of YtlldlkjngcgcjaaGreatDoorRows.lean that lists a variable, with what it lists TIED to the program's text (the seventh form; the later family's looks); each row that meets fmt, with fmt's text TOLD by the authors' own Lean function (tested against real Go, not proved from fmt's source: count such statements apart). THE CARD IS WHAT COUNTS. Prove the row's statement (the work); the ties are given (YtlldlkjngcgcjaaGreatDoorTie.lean); close each card by the builder's one call (the guide's Derived/Test/ToyasCard.lean, 'card_holds'). Laid BY PROGRAM, IN A SANDBOX (cutbox-door.mjs). By AI agents, Wed Nov 11 2026. No macro, syntax, notation, axiom, sorry.
-/
import Derived.Test.YtlldlkjngcgcjaaGreatDoorRows
import GoSem.ClaimSeven
namespace Go.Proofs.YtlldlkjngcgcjaaGreatDoor
namespace Rows

/-- THE TIED CARD OF 'dialtonelaw22.ForwardDialled'. -/
def forwardDialledCard : Claim7 := { stood := { row := forwardDialledRow, standIns := [], harness := (true, "12e4959a8d07878a4cc5569c9a2b3cb7fd5039646166681659fe761fce6dbaff"), looks := true }, kinds := [], alts := [], laidByText := true, laidKinds := [.data, .data, .data, .data, .sentinel, .sentinel, .pinned], laidTests := true, laidLooks := .later }
def ForwardDialledCardSaid : Prop := Claim7.holds Tryz.pinned (.plain (OpenSpec.ofChange forwardDialledSpec)) forwardDialledCard

/-- THE SECOND FORM's CARD OF 'dialtonelaw22.ForwardDialled'. -/
def forwardDialledUptoCard : Claim7 := { stood := { row := forwardDialledUptoRow, standIns := [], harness := (true, "12e4959a8d07878a4cc5569c9a2b3cb7fd5039646166681659fe761fce6dbaff"), looks := true }, kinds := [], alts := [], laidByText := true, laidKinds := [.data, .data, .data, .data, .sentinel, .sentinel, .pinned], laidTests := true, laidLooks := .later }
def ForwardDialledUptoCardSaid : Prop := Claim7.holds Tryz.pinned (.plain (OpenSpec.upto forwardDialledSpec)) forwardDialledUptoCard
end Rows
end Go.Proofs.YtlldlkjngcgcjaaGreatDoor
