/-
  DERIVED. GIVEN WITH THE SEED: THE CARDS: each row of YtelljijajgiabaaGreatDoorRows.lean that lists a variable, with what it lists TIED to the program's text (the seventh form; the later family's looks); each row that meets fmt, with fmt's text TOLD by the authors' own Lean function (tested against real Go, not proved from fmt's source: count such statements apart). THE CARD IS WHAT COUNTS. Prove the row's statement (the work); the ties are given (YtelljijajgiabaaGreatDoorTie.lean); close each card by the builder's one call (the guide's Derived/Test/ToyasCard.lean, 'card_holds'). Laid BY PROGRAM, IN A SANDBOX (cutbox-door.mjs). By AI agents, Wed Nov 11 2026. No macro, syntax, notation, axiom, sorry.
-/
import Derived.Test.YtelljijajgiabaaGreatDoorRows
import GoSem.ClaimSeven
namespace Go.Proofs.YtelljijajgiabaaGreatDoor
namespace Rows

/-- THE TIED CARD OF 'dialtonelaw36.FraudMatchesReference'. -/
def fraudMatchesReferenceCard : Claim7 := { stood := { row := fraudMatchesReferenceRow, standIns := [], harness := (true, "186676b7eb8bca3d1ef6aa84845d13fed9a88d9d6523ce50b010cc41aa99fb18"), looks := true }, kinds := [], alts := [], laidByText := true, laidKinds := [.data, .data, .data, .data, .sentinel, .sentinel, .pinned], laidTests := true, laidLooks := .later }
def FraudMatchesReferenceCardSaid : Prop := Claim7.holds Tryz.pinned (.plain (OpenSpec.ofChange fraudMatchesReferenceSpec)) fraudMatchesReferenceCard

/-- THE TIED CARD OF 'dialtonelaw36.FraudProved'. -/
def fraudProvedCard : Claim7 := { stood := { row := fraudProvedRow, standIns := [], harness := (true, "186676b7eb8bca3d1ef6aa84845d13fed9a88d9d6523ce50b010cc41aa99fb18"), looks := true }, kinds := [], alts := [], laidByText := true, laidKinds := [.data, .data, .data, .data, .sentinel, .sentinel, .pinned], laidTests := true, laidLooks := .later }
def FraudProvedCardSaid : Prop := Claim7.holds Tryz.pinned (.plain (OpenSpec.ofChange fraudProvedSpec)) fraudProvedCard

/-- THE TIED CARD OF 'dialtonelaw36.FraudBounded'. -/
def fraudBoundedCard : Claim7 := { stood := { row := fraudBoundedRow, standIns := [], harness := (true, "186676b7eb8bca3d1ef6aa84845d13fed9a88d9d6523ce50b010cc41aa99fb18"), looks := true }, kinds := [], alts := [], laidByText := true, laidKinds := [.data, .data, .data, .data, .sentinel, .sentinel, .pinned], laidTests := true, laidLooks := .later }
def FraudBoundedCardSaid : Prop := Claim7.holds Tryz.pinned (.plain (OpenSpec.ofChange fraudBoundedSpec)) fraudBoundedCard

/-- THE TIED CARD OF 'dialtonelaw36.FraudPaid'. -/
def fraudPaidCard : Claim7 := { stood := { row := fraudPaidRow, standIns := [], harness := (true, "186676b7eb8bca3d1ef6aa84845d13fed9a88d9d6523ce50b010cc41aa99fb18"), looks := true }, kinds := [], alts := [], laidByText := true, laidKinds := [.data, .data, .data, .data, .sentinel, .sentinel, .pinned], laidTests := true, laidLooks := .later }
def FraudPaidCardSaid : Prop := Claim7.holds Tryz.pinned (.plain (OpenSpec.ofChange fraudPaidSpec)) fraudPaidCard

/-- THE TIED CARD OF 'dialtonelaw36.FraudFree'. -/
def fraudFreeCard : Claim7 := { stood := { row := fraudFreeRow, standIns := [], harness := (true, "186676b7eb8bca3d1ef6aa84845d13fed9a88d9d6523ce50b010cc41aa99fb18"), looks := true }, kinds := [], alts := [], laidByText := true, laidKinds := [.data, .data, .data, .data, .sentinel, .sentinel, .pinned], laidTests := true, laidLooks := .later }
def FraudFreeCardSaid : Prop := Claim7.holds Tryz.pinned (.plain (OpenSpec.ofChange fraudFreeSpec)) fraudFreeCard

/-- THE TIED CARD OF 'dialtonelaw36.FraudMore'. -/
def fraudMoreCard : Claim7 := { stood := { row := fraudMoreRow, standIns := [], harness := (true, "186676b7eb8bca3d1ef6aa84845d13fed9a88d9d6523ce50b010cc41aa99fb18"), looks := true }, kinds := [], alts := [], laidByText := true, laidKinds := [.data, .data, .data, .data, .sentinel, .sentinel, .pinned], laidTests := true, laidLooks := .later }
def FraudMoreCardSaid : Prop := Claim7.holds Tryz.pinned (.plain (OpenSpec.ofChange fraudMoreSpec)) fraudMoreCard

/-- THE TIED CARD OF 'dialtonelaw36.FraudVerdicts'. -/
def fraudVerdictsCard : Claim7 := { stood := { row := fraudVerdictsRow, standIns := [], harness := (true, "186676b7eb8bca3d1ef6aa84845d13fed9a88d9d6523ce50b010cc41aa99fb18"), looks := true }, kinds := [], alts := [], laidByText := true, laidKinds := [.data, .data, .data, .data, .sentinel, .sentinel, .pinned], laidTests := true, laidLooks := .later }
def FraudVerdictsCardSaid : Prop := Claim7.holds Tryz.pinned (.plain (OpenSpec.ofChange fraudVerdictsSpec)) fraudVerdictsCard

/-- THE TIED CARD OF 'dialtonelaw36.FraudMoves'. -/
def fraudMovesCard : Claim7 := { stood := { row := fraudMovesRow, standIns := [], harness := (true, "186676b7eb8bca3d1ef6aa84845d13fed9a88d9d6523ce50b010cc41aa99fb18"), looks := true }, kinds := [], alts := [], laidByText := true, laidKinds := [.data, .data, .data, .data, .sentinel, .sentinel, .pinned], laidTests := true, laidLooks := .later }
def FraudMovesCardSaid : Prop := Claim7.holds Tryz.pinned (.plain (OpenSpec.ofChange fraudMovesSpec)) fraudMovesCard

/-- THE SECOND FORM's CARD OF 'dialtonelaw36.FraudMatchesReference'. -/
def fraudMatchesReferenceUptoCard : Claim7 := { stood := { row := fraudMatchesReferenceUptoRow, standIns := [], harness := (true, "186676b7eb8bca3d1ef6aa84845d13fed9a88d9d6523ce50b010cc41aa99fb18"), looks := true }, kinds := [], alts := [], laidByText := true, laidKinds := [.data, .data, .data, .data, .sentinel, .sentinel, .pinned], laidTests := true, laidLooks := .later }
def FraudMatchesReferenceUptoCardSaid : Prop := Claim7.holds Tryz.pinned (.plain (OpenSpec.upto fraudMatchesReferenceSpec)) fraudMatchesReferenceUptoCard

/-- THE SECOND FORM's CARD OF 'dialtonelaw36.FraudProved'. -/
def fraudProvedUptoCard : Claim7 := { stood := { row := fraudProvedUptoRow, standIns := [], harness := (true, "186676b7eb8bca3d1ef6aa84845d13fed9a88d9d6523ce50b010cc41aa99fb18"), looks := true }, kinds := [], alts := [], laidByText := true, laidKinds := [.data, .data, .data, .data, .sentinel, .sentinel, .pinned], laidTests := true, laidLooks := .later }
def FraudProvedUptoCardSaid : Prop := Claim7.holds Tryz.pinned (.plain (OpenSpec.upto fraudProvedSpec)) fraudProvedUptoCard

/-- THE SECOND FORM's CARD OF 'dialtonelaw36.FraudBounded'. -/
def fraudBoundedUptoCard : Claim7 := { stood := { row := fraudBoundedUptoRow, standIns := [], harness := (true, "186676b7eb8bca3d1ef6aa84845d13fed9a88d9d6523ce50b010cc41aa99fb18"), looks := true }, kinds := [], alts := [], laidByText := true, laidKinds := [.data, .data, .data, .data, .sentinel, .sentinel, .pinned], laidTests := true, laidLooks := .later }
def FraudBoundedUptoCardSaid : Prop := Claim7.holds Tryz.pinned (.plain (OpenSpec.upto fraudBoundedSpec)) fraudBoundedUptoCard

/-- THE SECOND FORM's CARD OF 'dialtonelaw36.FraudPaid'. -/
def fraudPaidUptoCard : Claim7 := { stood := { row := fraudPaidUptoRow, standIns := [], harness := (true, "186676b7eb8bca3d1ef6aa84845d13fed9a88d9d6523ce50b010cc41aa99fb18"), looks := true }, kinds := [], alts := [], laidByText := true, laidKinds := [.data, .data, .data, .data, .sentinel, .sentinel, .pinned], laidTests := true, laidLooks := .later }
def FraudPaidUptoCardSaid : Prop := Claim7.holds Tryz.pinned (.plain (OpenSpec.upto fraudPaidSpec)) fraudPaidUptoCard

/-- THE SECOND FORM's CARD OF 'dialtonelaw36.FraudFree'. -/
def fraudFreeUptoCard : Claim7 := { stood := { row := fraudFreeUptoRow, standIns := [], harness := (true, "186676b7eb8bca3d1ef6aa84845d13fed9a88d9d6523ce50b010cc41aa99fb18"), looks := true }, kinds := [], alts := [], laidByText := true, laidKinds := [.data, .data, .data, .data, .sentinel, .sentinel, .pinned], laidTests := true, laidLooks := .later }
def FraudFreeUptoCardSaid : Prop := Claim7.holds Tryz.pinned (.plain (OpenSpec.upto fraudFreeSpec)) fraudFreeUptoCard

/-- THE SECOND FORM's CARD OF 'dialtonelaw36.FraudMore'. -/
def fraudMoreUptoCard : Claim7 := { stood := { row := fraudMoreUptoRow, standIns := [], harness := (true, "186676b7eb8bca3d1ef6aa84845d13fed9a88d9d6523ce50b010cc41aa99fb18"), looks := true }, kinds := [], alts := [], laidByText := true, laidKinds := [.data, .data, .data, .data, .sentinel, .sentinel, .pinned], laidTests := true, laidLooks := .later }
def FraudMoreUptoCardSaid : Prop := Claim7.holds Tryz.pinned (.plain (OpenSpec.upto fraudMoreSpec)) fraudMoreUptoCard

/-- THE SECOND FORM's CARD OF 'dialtonelaw36.FraudVerdicts'. -/
def fraudVerdictsUptoCard : Claim7 := { stood := { row := fraudVerdictsUptoRow, standIns := [], harness := (true, "186676b7eb8bca3d1ef6aa84845d13fed9a88d9d6523ce50b010cc41aa99fb18"), looks := true }, kinds := [], alts := [], laidByText := true, laidKinds := [.data, .data, .data, .data, .sentinel, .sentinel, .pinned], laidTests := true, laidLooks := .later }
def FraudVerdictsUptoCardSaid : Prop := Claim7.holds Tryz.pinned (.plain (OpenSpec.upto fraudVerdictsSpec)) fraudVerdictsUptoCard

/-- THE SECOND FORM's CARD OF 'dialtonelaw36.FraudMoves'. -/
def fraudMovesUptoCard : Claim7 := { stood := { row := fraudMovesUptoRow, standIns := [], harness := (true, "186676b7eb8bca3d1ef6aa84845d13fed9a88d9d6523ce50b010cc41aa99fb18"), looks := true }, kinds := [], alts := [], laidByText := true, laidKinds := [.data, .data, .data, .data, .sentinel, .sentinel, .pinned], laidTests := true, laidLooks := .later }
def FraudMovesUptoCardSaid : Prop := Claim7.holds Tryz.pinned (.plain (OpenSpec.upto fraudMovesSpec)) fraudMovesUptoCard
end Rows
end Go.Proofs.YtelljijajgiabaaGreatDoor
