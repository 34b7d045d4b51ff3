/-
  DERIVED. GIVEN WITH THE SEED: THE CARDS: each row of YtohgjenaclfegaaGreatDoorRows.lean that lists a variable, with what it lists TIED to the program's text (the seventh form; the later family's looks); each row that meets fmt, with fmt's text TOLD by the authors' own Lean function (tested against real Go, not proved from fmt's source: count such statements apart). THE CARD IS WHAT COUNTS. Prove the row's statement (the work); the ties are given (YtohgjenaclfegaaGreatDoorTie.lean); close each card by the builder's one call (the guide's Derived/Test/ToyasCard.lean, 'card_holds'). Laid BY PROGRAM, IN A SANDBOX (cutbox-door.mjs). By AI agents, Wed Nov 11 2026. No macro, syntax, notation, axiom, sorry.
-/
import Derived.Test.YtohgjenaclfegaaGreatDoorRows
import GoSem.ClaimSeven
namespace Go.Proofs.YtohgjenaclfegaaGreatDoor
namespace Rows

/-- THE TIED CARD OF 'dialtonetop.TopTrusted'. -/
def topTrustedCard : Claim7 := { stood := { row := topTrustedRow, standIns := [], harness := (true, "ea4f32d568291a9a1fc3cc11290ecd78aac7f8ec54638a350ce75c54672f4722"), looks := true }, kinds := [], alts := [], laidByText := true, laidKinds := [.data, .data, .data, .data, .sentinel, .sentinel, .data, .pinned], laidTests := true, laidLooks := .later }
def TopTrustedCardSaid : Prop := Claim7.holds Tryz.pinned (.plain (OpenSpec.ofChange topTrustedSpec)) topTrustedCard

/-- THE TIED CARD OF 'dialtonelaw36.FraudCalls'. -/
def fraudCallsCard : Claim7 := { stood := { row := fraudCallsRow, standIns := [], harness := (true, "ea4f32d568291a9a1fc3cc11290ecd78aac7f8ec54638a350ce75c54672f4722"), looks := true }, kinds := [], alts := [], laidByText := true, laidKinds := [.data, .data, .data, .data, .sentinel, .sentinel, .data, .pinned], laidTests := true, laidLooks := .later }
def FraudCallsCardSaid : Prop := Claim7.holds Tryz.pinned (.plain (OpenSpec.ofChange fraudCallsSpec)) fraudCallsCard

/-- THE SECOND FORM's CARD OF 'dialtonetop.TopTrusted'. -/
def topTrustedUptoCard : Claim7 := { stood := { row := topTrustedUptoRow, standIns := [], harness := (true, "ea4f32d568291a9a1fc3cc11290ecd78aac7f8ec54638a350ce75c54672f4722"), looks := true }, kinds := [], alts := [], laidByText := true, laidKinds := [.data, .data, .data, .data, .sentinel, .sentinel, .data, .pinned], laidTests := true, laidLooks := .later }
def TopTrustedUptoCardSaid : Prop := Claim7.holds Tryz.pinned (.plain (OpenSpec.upto topTrustedSpec)) topTrustedUptoCard

/-- THE SECOND FORM's CARD OF 'dialtonelaw36.FraudCalls'. -/
def fraudCallsUptoCard : Claim7 := { stood := { row := fraudCallsUptoRow, standIns := [], harness := (true, "ea4f32d568291a9a1fc3cc11290ecd78aac7f8ec54638a350ce75c54672f4722"), looks := true }, kinds := [], alts := [], laidByText := true, laidKinds := [.data, .data, .data, .data, .sentinel, .sentinel, .data, .pinned], laidTests := true, laidLooks := .later }
def FraudCallsUptoCardSaid : Prop := Claim7.holds Tryz.pinned (.plain (OpenSpec.upto fraudCallsSpec)) fraudCallsUptoCard
end Rows
end Go.Proofs.YtohgjenaclfegaaGreatDoor
