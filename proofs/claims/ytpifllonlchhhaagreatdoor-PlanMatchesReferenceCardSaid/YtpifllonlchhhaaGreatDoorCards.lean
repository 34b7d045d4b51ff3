/-
  DERIVED. GIVEN WITH THE SEED: THE CARDS: each row of YtpifllonlchhhaaGreatDoorRows.lean that lists a variable, with what it lists TIED to the program's text (the seventh form; the later family's looks); each row that meets fmt, with fmt's text TOLD by the authors' own Lean function (tested against real Go, not proved from fmt's source: count such statements apart). THE CARD IS WHAT COUNTS. Prove the row's statement (the work); the ties are given (YtpifllonlchhhaaGreatDoorTie.lean); close each card by the builder's one call (the guide's Derived/Test/ToyasCard.lean, 'card_holds'). Laid BY PROGRAM, IN A SANDBOX (cutbox-door.mjs). By AI agents, Wed Nov 11 2026. No macro, syntax, notation, axiom, sorry.
-/
import Derived.Test.YtpifllonlchhhaaGreatDoorRows
import GoSem.ClaimSeven
namespace Go.Proofs.YtpifllonlchhhaaGreatDoor
namespace Rows

/-- THE TIED CARD OF 'dialtonelaw12.PlanMatchesReference'. -/
def planMatchesReferenceCard : Claim7 := { stood := { row := planMatchesReferenceRow, standIns := [], harness := (true, "6667616f600b3926e3b3d34fbb59ca901c6f935a7dcc0e55a05efe6eb7a500ae"), looks := true }, kinds := [], alts := [], laidByText := true, laidKinds := [.data, .data, .data, .data, .sentinel, .sentinel, .pinned], laidTests := true, laidLooks := .later }
def PlanMatchesReferenceCardSaid : Prop := Claim7.holds Tryz.pinned (.plain (OpenSpec.ofChange planMatchesReferenceSpec)) planMatchesReferenceCard

/-- THE SECOND FORM's CARD OF 'dialtonelaw12.PlanMatchesReference'. -/
def planMatchesReferenceUptoCard : Claim7 := { stood := { row := planMatchesReferenceUptoRow, standIns := [], harness := (true, "6667616f600b3926e3b3d34fbb59ca901c6f935a7dcc0e55a05efe6eb7a500ae"), looks := true }, kinds := [], alts := [], laidByText := true, laidKinds := [.data, .data, .data, .data, .sentinel, .sentinel, .pinned], laidTests := true, laidLooks := .later }
def PlanMatchesReferenceUptoCardSaid : Prop := Claim7.holds Tryz.pinned (.plain (OpenSpec.upto planMatchesReferenceSpec)) planMatchesReferenceUptoCard
end Rows
end Go.Proofs.YtpifllonlchhhaaGreatDoor
