/-
  DERIVED. GIVEN WITH THE SEED: THE CARDS: each row of YtomgilkchlediaaGreatDoorRows.lean that lists a variable, with what it lists TIED to the program's text (the seventh form; the later family's looks); each row that meets fmt, with fmt's text TOLD by the authors' own Lean function (tested against real Go, not proved from fmt's source: count such statements apart). THE CARD IS WHAT COUNTS. Prove the row's statement (the work); the ties are given (YtomgilkchlediaaGreatDoorTie.lean); close each card by the builder's one call (the guide's Derived/Test/ToyasCard.lean, 'card_holds'). Laid BY PROGRAM, IN A SANDBOX (cutbox-door.mjs). By AI agents, Wed Nov 11 2026. No macro, syntax, notation, axiom, sorry.
-/
import Derived.Test.YtomgilkchlediaaGreatDoorRows
import GoSem.ClaimSeven
namespace Go.Proofs.YtomgilkchlediaaGreatDoor
namespace Rows

/-- THE TIED CARD OF 'sparrowlaw08.ChanceBack'. -/
def chanceBackCard : Claim7 := { stood := { row := chanceBackRow, standIns := [], harness := (true, "751e8563c56b741ae2e028ad140870b0e5b1a365a18e60ff52a4daad75b93256"), looks := true }, kinds := [], alts := [], laidByText := true, laidKinds := [.data, .data, .data, .data, .sentinel, .sentinel, .pinned], laidTests := true, laidLooks := .later }
def ChanceBackCardSaid : Prop := Claim7.holds Tryz.pinned (.plain (OpenSpec.ofChange chanceBackSpec)) chanceBackCard

/-- THE TIED CARD OF 'sparrowlaw08.ChanceNats'. -/
def chanceNatsCard : Claim7 := { stood := { row := chanceNatsRow, standIns := [], harness := (true, "751e8563c56b741ae2e028ad140870b0e5b1a365a18e60ff52a4daad75b93256"), looks := true }, kinds := [], alts := [], laidByText := true, laidKinds := [.data, .data, .data, .data, .sentinel, .sentinel, .pinned], laidTests := true, laidLooks := .later }
def ChanceNatsCardSaid : Prop := Claim7.holds Tryz.pinned (.plain (OpenSpec.ofChange chanceNatsSpec)) chanceNatsCard

/-- THE SECOND FORM's CARD OF 'sparrowlaw08.ChanceBack'. -/
def chanceBackUptoCard : Claim7 := { stood := { row := chanceBackUptoRow, standIns := [], harness := (true, "751e8563c56b741ae2e028ad140870b0e5b1a365a18e60ff52a4daad75b93256"), looks := true }, kinds := [], alts := [], laidByText := true, laidKinds := [.data, .data, .data, .data, .sentinel, .sentinel, .pinned], laidTests := true, laidLooks := .later }
def ChanceBackUptoCardSaid : Prop := Claim7.holds Tryz.pinned (.plain (OpenSpec.upto chanceBackSpec)) chanceBackUptoCard

/-- THE SECOND FORM's CARD OF 'sparrowlaw08.ChanceNats'. -/
def chanceNatsUptoCard : Claim7 := { stood := { row := chanceNatsUptoRow, standIns := [], harness := (true, "751e8563c56b741ae2e028ad140870b0e5b1a365a18e60ff52a4daad75b93256"), looks := true }, kinds := [], alts := [], laidByText := true, laidKinds := [.data, .data, .data, .data, .sentinel, .sentinel, .pinned], laidTests := true, laidLooks := .later }
def ChanceNatsUptoCardSaid : Prop := Claim7.holds Tryz.pinned (.plain (OpenSpec.upto chanceNatsSpec)) chanceNatsUptoCard
end Rows
end Go.Proofs.YtomgilkchlediaaGreatDoor
