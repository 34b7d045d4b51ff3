/-
  DERIVED. GIVEN WITH THE SEED: THE CARDS: each row of YthnikbladjaifaaGreatDoorRows.lean that lists a variable, with what it lists TIED to the program's text (the seventh form; the later family's looks); each row that meets fmt, with fmt's text TOLD by the authors' own Lean function (tested against real Go, not proved from fmt's source: count such statements apart). THE CARD IS WHAT COUNTS. Prove the row's statement (the work); the ties are given (YthnikbladjaifaaGreatDoorTie.lean); close each card by the builder's one call (the guide's Derived/Test/ToyasCard.lean, 'card_holds'). Laid BY PROGRAM, IN A SANDBOX (cutbox-door.mjs). By AI agents, Wed Nov 11 2026. No macro, syntax, notation, axiom, sorry.
-/
import Derived.Test.YthnikbladjaifaaGreatDoorRows
import GoSem.ClaimSeven
namespace Go.Proofs.YthnikbladjaifaaGreatDoor
namespace Rows

/-- THE TIED CARD OF 'dialtonelaw04.RationalMatchesReference'. -/
def rationalMatchesReferenceCard : Claim7 := { stood := { row := rationalMatchesReferenceRow, standIns := [], harness := (true, "dd83a70805b60b026292cf1dc14fe15255122eb26ee27a808ccd846e5dacedd7"), looks := true }, kinds := [], alts := [], laidByText := true, laidKinds := [.data, .data, .data, .data, .sentinel, .sentinel, .pinned], laidTests := true, laidLooks := .later }
def RationalMatchesReferenceCardSaid : Prop := Claim7.holds Tryz.pinned (.plain (OpenSpec.ofChange rationalMatchesReferenceSpec)) rationalMatchesReferenceCard

/-- THE SECOND FORM's CARD OF 'dialtonelaw04.RationalMatchesReference'. -/
def rationalMatchesReferenceUptoCard : Claim7 := { stood := { row := rationalMatchesReferenceUptoRow, standIns := [], harness := (true, "dd83a70805b60b026292cf1dc14fe15255122eb26ee27a808ccd846e5dacedd7"), looks := true }, kinds := [], alts := [], laidByText := true, laidKinds := [.data, .data, .data, .data, .sentinel, .sentinel, .pinned], laidTests := true, laidLooks := .later }
def RationalMatchesReferenceUptoCardSaid : Prop := Claim7.holds Tryz.pinned (.plain (OpenSpec.upto rationalMatchesReferenceSpec)) rationalMatchesReferenceUptoCard
end Rows
end Go.Proofs.YthnikbladjaifaaGreatDoor
